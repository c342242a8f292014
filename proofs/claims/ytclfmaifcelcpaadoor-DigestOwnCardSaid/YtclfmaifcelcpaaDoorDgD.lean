/- What the functions compute, and that they do: walked by a printed text. -/
import Derived.Test.YtclfmaifcelcpaaDoorDgC
set_option linter.unusedVariables false
set_option linter.unusedSimpArgs false
set_option maxRecDepth 4000
namespace Go.Vm
open Go

noncomputable def F37l0 (p0 : List Int) (p1 : List Int) (k0 : Nat) (z0 : Int) : Int :=
  (iOr .i64 z0 (IntKind.wrap .i64 (iXor .u8 (p0.getD k0 0) (p1.getD k0 0))))

noncomputable def F37 (p0 : List Int) (p1 : List Int) : Bool :=
  (((itr (F37l0 p0 p1) (min p0.length p1.length) (iXor .i64 ((p0.length : Nat) : Int) ((p1.length : Nat) : Int))) : Int) == 0)

noncomputable def S37 : List AV → Option (Prop × Ret)
  | [.sc (.ro .u8 p0), .sc (.ro .u8 p1)] => some (p0.length ≤ 100000, ⟨.sc (.b (F37 p0 p1)), []⟩)
  | _ => none

noncomputable def B37 : Bs := { P := Go.Proofs.Tryd.prog, G := gD, tab := tabOf [], n := 35 }

theorem B37.ok : B37.Ok := ⟨tabOk (P := Go.Proofs.Tryd.prog) (G := gD) (l := []) True.intro, mixed⟩

theorem K37 : Known Go.Proofs.Tryd.prog gD 37 ⟨[.ro .u8, .ro .u8], 0, S37⟩ := by
  refine Known.walk (B := B37) (fn := Go.Proofs.Tryd.f37) B37.ok (by kernel_rfl) rfl (by kernel_rfl) (by kernel_rfl) (by decide) ?_ ?_
  · intro vs C r h
    simp only at h
    unfold S37 at h
    split at h
    · cases h; rfl
    · cases h
  · intro E args C r h hC hlen
    simp only at h
    unfold S37 at h
    split at h
    rotate_left
    · cases h
    rename_i p0 p1
    cases h
    simp only [lens] at hlen
    refine ⟨show 2 ≤ 35 from by decide, ?_⟩
    refine Tri.sub (Sub.of_eq (show _ = ([(0, .sc (.ro .u8 p0)), (1, .sc (.ro .u8 p1))], []) from rfl)) ?_
    refine Tri.seq_region [] none [0, 1] [] ((True ∧ True) ∧ True)
        ([(0, .sc (.ro .u8 p0)), (1, .sc (.ro .u8 p1))], [])
        16 (by kernel_rfl) rfl (by kernel_rfl) (⟨⟨trivial, trivial⟩, trivial⟩) ?_
    refine Tri.seq_region [] none [5, 0, 1] [] ((True ∧ True) ∧ ((True ∧ True) ∧ ((True ∧ True) ∧ ((True ∧ True) ∧ ((True ∧ True) ∧ ((True ∧ True) ∧ True))))))
        ([(5, .sc (.i .i64 (iXor .i64 ((p0.length : Nat) : Int) ((p1.length : Nat) : Int)))), (0, .sc (.ro .u8 p0)), (1, .sc (.ro .u8 p1))], [])
        112 (by kernel_rfl) rfl (by kernel_rfl) (⟨⟨trivial, trivial⟩, ⟨⟨trivial, trivial⟩, ⟨⟨trivial, trivial⟩, ⟨⟨trivial, trivial⟩, ⟨⟨trivial, trivial⟩, ⟨⟨trivial, trivial⟩, trivial⟩⟩⟩⟩⟩⟩) ?_
    refine Tri.seq ?_
    refine Tri.seq_region [(16, .i .i64 ((min p0.length p1.length : Nat) : Int))] none [17, 16, 5, 0, 1] [] ((True ∧ True) ∧ ((True ∧ True) ∧ ((True ∧ True) ∧ ((True ∧ True) ∧ ((True ∧ ((minI ((p0.length : Nat) : Int) ((p1.length : Nat) : Int)) = ((min p0.length p1.length : Nat) : Int))) ∧ ((True ∧ True) ∧ True))))))
        ([(17, .sc (.i .i64 0)), (16, .sc (.i .i64 ((min p0.length p1.length : Nat) : Int))), (5, .sc (.i .i64 (iXor .i64 ((p0.length : Nat) : Int) ((p1.length : Nat) : Int)))), (0, .sc (.ro .u8 p0)), (1, .sc (.ro .u8 p1))], [])
        208 (by kernel_rfl) rfl (by kernel_rfl) (⟨⟨trivial, trivial⟩, ⟨⟨trivial, trivial⟩, ⟨⟨trivial, trivial⟩, ⟨⟨trivial, trivial⟩, ⟨⟨trivial, (minI_nat p0.length p1.length)⟩, ⟨⟨trivial, trivial⟩, trivial⟩⟩⟩⟩⟩⟩) ?_
    refine Tri.block ?_
    refine Tri.count 208 (min p0.length p1.length) (F37l0 p0 p1) (iXor .i64 ((p0.length : Nat) : Int) ((p1.length : Nat) : Int)) (fun k0 z0 => True) (fun k0 z0 => ([(17, .sc (.i .i64 ((k0 : Nat) : Int))), (16, .sc (.i .i64 ((min p0.length p1.length : Nat) : Int))), (5, .sc (.i .i64 z0)), (0, .sc (.ro .u8 p0)), (1, .sc (.ro .u8 p1))], [])) trivial (Sub.of_eq (by kernel_rfl)) ?_
    intro k0 z0 hk0 hz0 hJ0
    refine Tri.seq_region [] none [18, 17, 16, 5, 0, 1] [] ((True ∧ True) ∧ True)
        ([(18, .sc (.b (decide ((((k0 : Nat) : Int) : Int) < ((min p0.length p1.length : Nat) : Int))))), (17, .sc (.i .i64 ((k0 : Nat) : Int))), (16, .sc (.i .i64 ((min p0.length p1.length : Nat) : Int))), (5, .sc (.i .i64 z0)), (0, .sc (.ro .u8 p0)), (1, .sc (.ro .u8 p1))], [])
        224 (by kernel_rfl) rfl (by kernel_rfl) (⟨⟨trivial, trivial⟩, trivial⟩) ?_
    refine Tri.seq ?_
    refine Tri.cond (x := (decide ((((k0 : Nat) : Int) : Int) < ((min p0.length p1.length : Nat) : Int)))) (by kernel_rfl) (fun h1 => ?_) (fun h1 => ?_)
    ·
      have h1' := of_decide_eq_true h1
      refine Tri.skip ?_
      change Tri _ _ _ _ _ _
      refine Tri.seq ?_
      refine Tri.block ?_
      refine Tri.seq_region [] none [6, 17, 16, 5, 0, 1] [] ((True ∧ True) ∧ ((True ∧ True) ∧ True))
          ([(6, .sc (.i .i64 ((k0 : Nat) : Int))), (17, .sc (.i .i64 ((k0 : Nat) : Int))), (16, .sc (.i .i64 ((min p0.length p1.length : Nat) : Int))), (5, .sc (.i .i64 z0)), (0, .sc (.ro .u8 p0)), (1, .sc (.ro .u8 p1))], [])
          256 (by kernel_rfl) rfl (by kernel_rfl) (⟨⟨trivial, trivial⟩, ⟨⟨trivial, trivial⟩, trivial⟩⟩) ?_
      refine Tri.region' [] (some [0, 0, 0, 6, 14, 0, 0, 96, 224, 510, 1022, 2047, 4095]) [5, 17, 16, 0, 1] [] ((True ∧ True) ∧ ((True ∧ True) ∧ ((True ∧ True) ∧ ((((0 : Int) ≤ ((k0 : Nat) : Int) ∧ ((k0 : Nat) : Int) < (p0.length : Int)) ∧ True) ∧ (((k0 < p0.length) ∧ True) ∧ ((True ∧ True) ∧ ((True ∧ True) ∧ ((((0 : Int) ≤ ((k0 : Nat) : Int) ∧ ((k0 : Nat) : Int) < (p1.length : Int)) ∧ True) ∧ (((k0 < p1.length) ∧ True) ∧ ((True ∧ True) ∧ ((True ∧ True) ∧ ((True ∧ True) ∧ ((True ∧ True) ∧ True)))))))))))))
          ([(5, .sc (.i .i64 (iOr .i64 z0 (IntKind.wrap .i64 (iXor .u8 (p0.getD k0 0) (p1.getD k0 0)))))), (17, .sc (.i .i64 ((k0 : Nat) : Int))), (16, .sc (.i .i64 ((min p0.length p1.length : Nat) : Int))), (0, .sc (.ro .u8 p0)), (1, .sc (.ro .u8 p1))], [])
          464 (by kernel_rfl) rfl (by kernel_rfl) (⟨⟨trivial, trivial⟩, ⟨⟨trivial, trivial⟩, ⟨⟨trivial, trivial⟩, ⟨⟨(by first | omega | (rw [adr_eq]; omega) | exact iAnd_nn _ _ | exact iSub_nn _ _ | exact part1_le (by omega) (by first | omega | (simp only [List.length_append]; omega)) | (rw [iMul_i64 (by omega) (by omega)]; omega) | decide), trivial⟩, ⟨⟨(by first | omega | (rw [adr_eq]; omega) | exact iAnd_nn _ _ | exact iSub_nn _ _ | exact part1_le (by omega) (by first | omega | (simp only [List.length_append]; omega)) | (rw [iMul_i64 (by omega) (by omega)]; omega) | decide), trivial⟩, ⟨⟨trivial, trivial⟩, ⟨⟨trivial, trivial⟩, ⟨⟨(by first | omega | (rw [adr_eq]; omega) | exact iAnd_nn _ _ | exact iSub_nn _ _ | exact part1_le (by omega) (by first | omega | (simp only [List.length_append]; omega)) | (rw [iMul_i64 (by omega) (by omega)]; omega) | decide), trivial⟩, ⟨⟨(by first | omega | (rw [adr_eq]; omega) | exact iAnd_nn _ _ | exact iSub_nn _ _ | exact part1_le (by omega) (by first | omega | (simp only [List.length_append]; omega)) | (rw [iMul_i64 (by omega) (by omega)]; omega) | decide), trivial⟩, ⟨⟨trivial, trivial⟩, ⟨⟨trivial, trivial⟩, ⟨⟨trivial, trivial⟩, ⟨⟨trivial, trivial⟩, trivial⟩⟩⟩⟩⟩⟩⟩⟩⟩⟩⟩⟩⟩) ?_
      change Tri _ _ _ _ _ _
      refine Tri.region' [(32, .i .i64 ((k0 + 1 : Nat) : Int))] none [17, 5, 16, 0, 1] [] ((True ∧ ((iAdd .i64 ((k0 : Nat) : Int) 1) = ((k0 + 1 : Nat) : Int))) ∧ ((True ∧ True) ∧ True))
          ([(17, .sc (.i .i64 ((k0 + 1 : Nat) : Int))), (5, .sc (.i .i64 (iOr .i64 z0 (IntKind.wrap .i64 (iXor .u8 (p0.getD k0 0) (p1.getD k0 0)))))), (16, .sc (.i .i64 ((min p0.length p1.length : Nat) : Int))), (0, .sc (.ro .u8 p0)), (1, .sc (.ro .u8 p1))], [])
          496 (by kernel_rfl) rfl (by kernel_rfl) (⟨⟨trivial, (iAdd_nat (a := k0) (b := 1) (by omega))⟩, ⟨⟨trivial, trivial⟩, trivial⟩⟩) ?_
      repeat (refine blkP_normal ?_)
      refine countP_normal (by omega) trivial ?_
      exact Sub.ren (ns := []) (kf := [17, 16, 5, 0, 1]) (by kernel_rfl) (by kernel_rfl)
    ·
      have h1' := of_decide_eq_false h1
      refine Tri.exit ?_
      have hend0 : k0 = (min p0.length p1.length) := by (have := of_decide_eq_false h1; omega)
      subst hend0; subst hz0
      change Tri _ _ _ _ _ _
      refine Tri.seq_region [] none [4] [] ((True ∧ True) ∧ ((True ∧ True) ∧ ((True ∧ True) ∧ True)))
          ([(4, .sc (.b (((itr (F37l0 p0 p1) (min p0.length p1.length) (iXor .i64 ((p0.length : Nat) : Int) ((p1.length : Nat) : Int))) : Int) == 0)))], [])
          272 (by kernel_rfl) rfl (by kernel_rfl) (⟨⟨trivial, trivial⟩, ⟨⟨trivial, trivial⟩, ⟨⟨trivial, trivial⟩, trivial⟩⟩⟩) ?_
      refine Tri.ret ?_
      exact endP.ret [] (True ∧ True) (by kernel_rfl) (by kernel_rfl) (by kernel_rfl) ⟨trivial, trivial⟩


noncomputable def F38l0 (p1 : Int) (k0 : Nat) (z0 : Nat × List Int) : Nat × List Int :=
  (z0.1 + 1, z0.2 ++ [(IntKind.wrap .u8 (iShr .u64 p1 ((8 * (8 - 1 - k0) : Nat) : Int)))])

noncomputable def F38 (p0 : ByteArray) (p1 : Int) : List Int :=
  (F34 (part1 ((itr (F38l0 p1) 8 (p0.size, bytesI p0)).2) ((itr (F38l0 p1) 8 (p0.size, bytesI p0)).1) 0 ((itr (F38l0 p1) 8 (p0.size, bytesI p0)).1)))

noncomputable def S38 : List AV → Option (Prop × Ret)
  | [.sc (.s p0), .sc (.i .u64 p1)] => some (p0.size ≤ 100000, ⟨.ints .u8 32 (F38 p0 p1), []⟩)
  | _ => none

noncomputable def B38 : Bs := { P := Go.Proofs.Tryd.prog, G := gD, tab := tabOf [(34, ⟨[.ro .u8], 0, S34⟩)], n := 23 }

theorem B38.ok : B38.Ok := ⟨tabOk (P := Go.Proofs.Tryd.prog) (G := gD) (l := [(34, ⟨[.ro .u8], 0, S34⟩)]) (And.intro K34 True.intro), mixed⟩

theorem K38 : Known Go.Proofs.Tryd.prog gD 38 ⟨[.val, .val], 0, S38⟩ := by
  refine Known.walk (B := B38) (fn := Go.Proofs.Tryd.f38) B38.ok (by kernel_rfl) rfl (by kernel_rfl) (by kernel_rfl) (by decide) ?_ ?_
  · intro vs C r h
    simp only at h
    unfold S38 at h
    split at h
    · cases h; rfl
    · cases h
  · intro E args C r h hC hlen
    simp only at h
    unfold S38 at h
    split at h
    rotate_left
    · cases h
    rename_i p0 p1
    cases h
    simp only [lens] at hlen
    refine ⟨show 2 ≤ 23 from by decide, ?_⟩
    refine Tri.sub (Sub.of_eq (show _ = ([(0, .sc (.s p0)), (1, .sc (.i .u64 p1))], []) from rfl)) ?_
    refine Tri.seq_region [] none [4, 0, 1] [0] ((True ∧ True) ∧ True)
        ([(4, .sc (.p 0 0)), (0, .sc (.s p0)), (1, .sc (.i .u64 p1))], [(0, .ints .u8 32 [0, 0, 0, 0, 0, 0, 0, 0, 0, 0, 0, 0, 0, 0, 0, 0, 0, 0, 0, 0, 0, 0, 0, 0, 0, 0, 0, 0, 0, 0, 0, 0])])
        16 (by kernel_rfl) rfl (by kernel_rfl) (⟨⟨trivial, trivial⟩, trivial⟩) ?_
    refine Tri.seq_region [] none [5, 4, 1] [32, 0] ((True ∧ True) ∧ ((True ∧ True) ∧ ((True ∧ True) ∧ True)))
        ([(5, .sc (.sl 32 0 p0.size 1 none)), (4, .sc (.p 0 0)), (1, .sc (.i .u64 p1))], [(32, .ints .u8 p0.size (bytesI p0)), (0, .ints .u8 32 [0, 0, 0, 0, 0, 0, 0, 0, 0, 0, 0, 0, 0, 0, 0, 0, 0, 0, 0, 0, 0, 0, 0, 0, 0, 0, 0, 0, 0, 0, 0, 0])])
        64 (by kernel_rfl) rfl (by kernel_rfl) (⟨⟨trivial, trivial⟩, ⟨⟨trivial, trivial⟩, ⟨⟨trivial, trivial⟩, trivial⟩⟩⟩) ?_
    refine Tri.seq ?_
    refine Tri.seq_region [] none [6, 5, 4, 1] [32, 0] ((True ∧ True) ∧ True)
        ([(6, .sc (.i .i64 7)), (5, .sc (.sl 32 0 p0.size 1 none)), (4, .sc (.p 0 0)), (1, .sc (.i .u64 p1))], [(32, .ints .u8 p0.size (bytesI p0)), (0, .ints .u8 32 [0, 0, 0, 0, 0, 0, 0, 0, 0, 0, 0, 0, 0, 0, 0, 0, 0, 0, 0, 0, 0, 0, 0, 0, 0, 0, 0, 0, 0, 0, 0, 0])])
        80 (by kernel_rfl) rfl (by kernel_rfl) (⟨⟨trivial, trivial⟩, trivial⟩) ?_
    refine Tri.block ?_
    refine Tri.count 80 8 (F38l0 p1) (p0.size, bytesI p0) (fun k0 z0 => z0.1 = p0.size + 1 * k0) (fun k0 z0 => ([(6, .sc (.i .i64 (((8 : Nat) : Int) - 1 - ((k0 : Nat) : Int)))), (5, .sc (.sl 32 0 z0.1 1 none)), (4, .sc (.p 0 0)), (1, .sc (.i .u64 p1))], [(32, .ints .u8 z0.1 z0.2), (0, .ints .u8 32 [0, 0, 0, 0, 0, 0, 0, 0, 0, 0, 0, 0, 0, 0, 0, 0, 0, 0, 0, 0, 0, 0, 0, 0, 0, 0, 0, 0, 0, 0, 0, 0])])) (by simp) (Sub.of_eq (by kernel_rfl)) ?_
    intro k0 z0 hk0 hz0 hJ0
    refine Tri.seq ?_
    refine Tri.seq_region [] none [10, 6, 5, 4, 1] [32, 0] ((True ∧ True) ∧ ((True ∧ True) ∧ True))
        ([(10, .sc (.b (decide (((((8 : Nat) : Int) - 1 - ((k0 : Nat) : Int)) : Int) ≥ 0)))), (6, .sc (.i .i64 (((8 : Nat) : Int) - 1 - ((k0 : Nat) : Int)))), (5, .sc (.sl 32 0 z0.1 1 none)), (4, .sc (.p 0 0)), (1, .sc (.i .u64 p1))], [(32, .ints .u8 z0.1 z0.2), (0, .ints .u8 32 [0, 0, 0, 0, 0, 0, 0, 0, 0, 0, 0, 0, 0, 0, 0, 0, 0, 0, 0, 0, 0, 0, 0, 0, 0, 0, 0, 0, 0, 0, 0, 0])])
        112 (by kernel_rfl) rfl (by kernel_rfl) (⟨⟨trivial, trivial⟩, ⟨⟨trivial, trivial⟩, trivial⟩⟩) ?_
    refine Tri.cond (x := (decide (((((8 : Nat) : Int) - 1 - ((k0 : Nat) : Int)) : Int) ≥ 0))) (by kernel_rfl) (fun h1 => ?_) (fun h1 => ?_)
    ·
      have h1' := of_decide_eq_true h1
      refine Tri.skip ?_
      change Tri _ _ _ _ _ _
      refine Tri.seq ?_
      refine Tri.block ?_
      refine Tri.len 32 rfl (fun hl2 => ?_)
      refine Tri.region' [(16, .i .i64 ((8 * (8 - 1 - k0) : Nat) : Int))] none [5, 6, 4, 1] [224, 0] ((True ∧ True) ∧ ((True ∧ True) ∧ ((True ∧ True) ∧ ((True ∧ ((iMul .i64 8 (((8 : Nat) : Int) - 1 - ((k0 : Nat) : Int))) = ((8 * (8 - 1 - k0) : Nat) : Int))) ∧ ((((0 : Int) ≤ ((8 * (8 - 1 - k0) : Nat) : Int)) ∧ True) ∧ ((True ∧ True) ∧ ((((((0 < 1) ∧ (1 = 1)) ∧ True) ∧ ((1 * 1 ≤ 16777216) ∧ (1 = 1))) ∧ True) ∧ ((((((True ∧ (1 = 1)) ∧ ((0 < 1) ∧ (((z0.1 + 1) * 1 ≤ 140737488355328) ∧ (z0.1 + 1 ≤ 140737488355328)))) ∧ (1 = 1 * 1)) ∧ ((1 = 1) ∧ (0 + z0.1 * 1 = z0.1))) ∧ True) ∧ ((True ∧ True) ∧ True)))))))))
          ([(5, .sc (.sl 224 0 (z0.1 + 1) 1 none)), (6, .sc (.i .i64 (((8 : Nat) : Int) - 1 - ((k0 : Nat) : Int)))), (4, .sc (.p 0 0)), (1, .sc (.i .u64 p1))], [(224, .ints .u8 (z0.1 + 1) (z0.2 ++ [(IntKind.wrap .u8 (iShr .u64 p1 ((8 * (8 - 1 - k0) : Nat) : Int)))])), (0, .ints .u8 32 [0, 0, 0, 0, 0, 0, 0, 0, 0, 0, 0, 0, 0, 0, 0, 0, 0, 0, 0, 0, 0, 0, 0, 0, 0, 0, 0, 0, 0, 0, 0, 0])])
          256 (by kernel_rfl) rfl (by kernel_rfl) (⟨⟨trivial, trivial⟩, ⟨⟨trivial, trivial⟩, ⟨⟨trivial, trivial⟩, ⟨⟨trivial, (by rw [dn_nat (by omega)]; exact iMul_nat (a := 8) (b := 8 - 1 - k0) (by omega))⟩, ⟨⟨(by first | omega | (rw [adr_eq]; omega) | exact iAnd_nn _ _ | exact iSub_nn _ _ | exact part1_le (by omega) (by first | omega | (simp only [List.length_append]; omega)) | (rw [iMul_i64 (by omega) (by omega)]; omega) | decide), trivial⟩, ⟨⟨trivial, trivial⟩, ⟨⟨⟨⟨⟨(by first | omega | (rw [adr_eq]; omega) | exact iAnd_nn _ _ | exact iSub_nn _ _ | exact part1_le (by omega) (by first | omega | (simp only [List.length_append]; omega)) | (rw [iMul_i64 (by omega) (by omega)]; omega) | decide), (rfl)⟩, trivial⟩, ⟨(by first | omega | (rw [adr_eq]; omega) | exact iAnd_nn _ _ | exact iSub_nn _ _ | exact part1_le (by omega) (by first | omega | (simp only [List.length_append]; omega)) | (rw [iMul_i64 (by omega) (by omega)]; omega) | decide), (rfl)⟩⟩, trivial⟩, ⟨⟨⟨⟨⟨⟨trivial, (rfl)⟩, ⟨(by first | omega | (rw [adr_eq]; omega) | exact iAnd_nn _ _ | exact iSub_nn _ _ | exact part1_le (by omega) (by first | omega | (simp only [List.length_append]; omega)) | (rw [iMul_i64 (by omega) (by omega)]; omega) | decide), ⟨(by first | omega | (rw [adr_eq]; omega) | exact iAnd_nn _ _ | exact iSub_nn _ _ | exact part1_le (by omega) (by first | omega | (simp only [List.length_append]; omega)) | (rw [iMul_i64 (by omega) (by omega)]; omega) | decide), (by first | omega | (rw [adr_eq]; omega) | exact iAnd_nn _ _ | exact iSub_nn _ _ | exact part1_le (by omega) (by first | omega | (simp only [List.length_append]; omega)) | (rw [iMul_i64 (by omega) (by omega)]; omega) | decide)⟩⟩⟩, (by first | omega | (rw [adr_eq]; omega) | exact iAnd_nn _ _ | exact iSub_nn _ _ | exact part1_le (by omega) (by first | omega | (simp only [List.length_append]; omega)) | (rw [iMul_i64 (by omega) (by omega)]; omega) | decide)⟩, ⟨(rfl), (by first | omega | (rw [adr_eq]; omega) | exact iAnd_nn _ _ | exact iSub_nn _ _ | exact part1_le (by omega) (by first | omega | (simp only [List.length_append]; omega)) | (rw [iMul_i64 (by omega) (by omega)]; omega) | decide)⟩⟩, trivial⟩, ⟨⟨trivial, trivial⟩, trivial⟩⟩⟩⟩⟩⟩⟩⟩⟩) ?_
      change Tri _ _ _ _ _ _
      refine Tri.region' [(12, .i .i64 (((8 : Nat) : Int) - 1 - ((k0 + 1 : Nat) : Int)))] none [6, 5, 4, 1] [224, 0] ((True ∧ True) ∧ ((True ∧ ((iSub .i64 (((8 : Nat) : Int) - 1 - ((k0 : Nat) : Int)) 1) = (((8 : Nat) : Int) - 1 - ((k0 + 1 : Nat) : Int)))) ∧ ((True ∧ True) ∧ True)))
          ([(6, .sc (.i .i64 (((8 : Nat) : Int) - 1 - ((k0 + 1 : Nat) : Int)))), (5, .sc (.sl 224 0 (z0.1 + 1) 1 none)), (4, .sc (.p 0 0)), (1, .sc (.i .u64 p1))], [(224, .ints .u8 (z0.1 + 1) (z0.2 ++ [(IntKind.wrap .u8 (iShr .u64 p1 ((8 * (8 - 1 - k0) : Nat) : Int)))])), (0, .ints .u8 32 [0, 0, 0, 0, 0, 0, 0, 0, 0, 0, 0, 0, 0, 0, 0, 0, 0, 0, 0, 0, 0, 0, 0, 0, 0, 0, 0, 0, 0, 0, 0, 0])])
          304 (by kernel_rfl) rfl (by kernel_rfl) (⟨⟨trivial, trivial⟩, ⟨⟨trivial, (iSub_dn (by omega) (by omega))⟩, ⟨⟨trivial, trivial⟩, trivial⟩⟩⟩) ?_
      repeat (refine blkP_normal ?_)
      refine countP_normal (by omega) (show z0.1 + 1 = p0.size + 1 * (k0 + 1) by omega) ?_
      exact Sub.ren (ns := [(224, 32), (0, 0)]) (kf := [6, 5, 4, 1]) (by kernel_rfl) (by kernel_rfl)
    ·
      have h1' := of_decide_eq_false h1
      refine Tri.exit ?_
      have hend0 : k0 = 8 := by (have := of_decide_eq_false h1; omega)
      subst hend0; subst hz0
      change Tri _ _ _ _ _ _
      refine Tri.len 32 rfl (fun hl3 => ?_)
      refine Tri.seq_region [] none [4] [0] ((True ∧ True) ∧ (((((0 + ((itr (F38l0 p1) 8 (p0.size, bytesI p0)).1) ≤ (itr (F38l0 p1) 8 (p0.size, bytesI p0)).1) ∧ True) ∧ ((part1 ((itr (F38l0 p1) 8 (p0.size, bytesI p0)).2) ((itr (F38l0 p1) 8 (p0.size, bytesI p0)).1) 0 ((itr (F38l0 p1) 8 (p0.size, bytesI p0)).1)).length ≤ 100000000)) ∧ True) ∧ (((True ∧ (32 = 32)) ∧ True) ∧ True)))
          ([(4, .sc (.p 0 0))], [(0, .ints .u8 32 (F34 (part1 ((itr (F38l0 p1) 8 (p0.size, bytesI p0)).2) ((itr (F38l0 p1) 8 (p0.size, bytesI p0)).1) 0 ((itr (F38l0 p1) 8 (p0.size, bytesI p0)).1))))])
          160 (by kernel_rfl) rfl (by kernel_rfl) (⟨⟨trivial, trivial⟩, ⟨⟨⟨⟨(by first | omega | (rw [adr_eq]; omega) | exact iAnd_nn _ _ | exact iSub_nn _ _ | exact part1_le (by omega) (by first | omega | (simp only [List.length_append]; omega)) | (rw [iMul_i64 (by omega) (by omega)]; omega) | decide), trivial⟩, (by first | omega | (rw [adr_eq]; omega) | exact iAnd_nn _ _ | exact iSub_nn _ _ | exact part1_le (by omega) (by first | omega | (simp only [List.length_append]; omega)) | (rw [iMul_i64 (by omega) (by omega)]; omega) | decide)⟩, trivial⟩, ⟨⟨⟨trivial, (rfl)⟩, trivial⟩, trivial⟩⟩⟩) ?_
      refine Tri.ret ?_
      exact endP.ret [] (True ∧ True) (by kernel_rfl) (by kernel_rfl) (by kernel_rfl) ⟨trivial, trivial⟩


noncomputable def F39l0 (p1 : Int) (k0 : Nat) (z0 : Nat × List Int) : Nat × List Int :=
  (z0.1 + 1, z0.2 ++ [(IntKind.wrap .u8 (iShr .u64 p1 ((56 - (8 * k0) : Nat) : Int)))])

noncomputable def F39 (p0 : ByteArray) (p1 : Int) : List Int :=
  (F36w32 (part1 ((itr (F39l0 p1) 8 (p0.size, bytesI p0)).2) ((itr (F39l0 p1) 8 (p0.size, bytesI p0)).1) 0 ((itr (F39l0 p1) 8 (p0.size, bytesI p0)).1)))

noncomputable def S39 : List AV → Option (Prop × Ret)
  | [.sc (.s p0), .sc (.i .u64 p1)] => some (p0.size ≤ 100000, ⟨.sc (.sl 0 0 32 1 none), [.ints .u8 32 (F39 p0 p1)]⟩)
  | _ => none

noncomputable def B39 : Bs := { P := Go.Proofs.Tryd.prog, G := gD, tab := tabOf [(36, ⟨[.ro .u8, .val], 1, (orS S36w32 S36w64)⟩)], n := 24 }

theorem B39.ok : B39.Ok := ⟨tabOk (P := Go.Proofs.Tryd.prog) (G := gD) (l := [(36, ⟨[.ro .u8, .val], 1, (orS S36w32 S36w64)⟩)]) (And.intro K36o0 True.intro), mixed⟩

theorem K39 : Known Go.Proofs.Tryd.prog gD 39 ⟨[.val, .val], 1, S39⟩ := by
  refine Known.walk (B := B39) (fn := Go.Proofs.Tryd.f39) B39.ok (by kernel_rfl) rfl (by kernel_rfl) (by kernel_rfl) (by decide) ?_ ?_
  · intro vs C r h
    simp only at h
    unfold S39 at h
    split at h
    · cases h; rfl
    · cases h
  · intro E args C r h hC hlen
    simp only at h
    unfold S39 at h
    split at h
    rotate_left
    · cases h
    rename_i p0 p1
    cases h
    simp only [lens] at hlen
    refine ⟨show 2 ≤ 24 from by decide, ?_⟩
    refine Tri.sub (Sub.of_eq (show _ = ([(0, .sc (.s p0)), (1, .sc (.i .u64 p1))], []) from rfl)) ?_
    refine Tri.seq_region [] none [0, 1] [] ((True ∧ True) ∧ True)
        ([(0, .sc (.s p0)), (1, .sc (.i .u64 p1))], [])
        16 (by kernel_rfl) rfl (by kernel_rfl) (⟨⟨trivial, trivial⟩, trivial⟩) ?_
    refine Tri.seq_region [] none [5, 1] [32] ((True ∧ True) ∧ ((True ∧ True) ∧ ((True ∧ True) ∧ True)))
        ([(5, .sc (.sl 32 0 p0.size 1 none)), (1, .sc (.i .u64 p1))], [(32, .ints .u8 p0.size (bytesI p0))])
        64 (by kernel_rfl) rfl (by kernel_rfl) (⟨⟨trivial, trivial⟩, ⟨⟨trivial, trivial⟩, ⟨⟨trivial, trivial⟩, trivial⟩⟩⟩) ?_
    refine Tri.seq ?_
    refine Tri.seq_region [] none [6, 5, 1] [32] ((True ∧ True) ∧ True)
        ([(6, .sc (.i .i64 0)), (5, .sc (.sl 32 0 p0.size 1 none)), (1, .sc (.i .u64 p1))], [(32, .ints .u8 p0.size (bytesI p0))])
        80 (by kernel_rfl) rfl (by kernel_rfl) (⟨⟨trivial, trivial⟩, trivial⟩) ?_
    refine Tri.block ?_
    refine Tri.count 80 8 (F39l0 p1) (p0.size, bytesI p0) (fun k0 z0 => z0.1 = p0.size + 1 * k0) (fun k0 z0 => ([(6, .sc (.i .i64 ((k0 : Nat) : Int))), (5, .sc (.sl 32 0 z0.1 1 none)), (1, .sc (.i .u64 p1))], [(32, .ints .u8 z0.1 z0.2)])) (by simp) (Sub.of_eq (by kernel_rfl)) ?_
    intro k0 z0 hk0 hz0 hJ0
    refine Tri.seq ?_
    refine Tri.seq_region [] none [10, 6, 5, 1] [32] ((True ∧ True) ∧ ((True ∧ True) ∧ True))
        ([(10, .sc (.b (decide ((((k0 : Nat) : Int) : Int) < 8)))), (6, .sc (.i .i64 ((k0 : Nat) : Int))), (5, .sc (.sl 32 0 z0.1 1 none)), (1, .sc (.i .u64 p1))], [(32, .ints .u8 z0.1 z0.2)])
        112 (by kernel_rfl) rfl (by kernel_rfl) (⟨⟨trivial, trivial⟩, ⟨⟨trivial, trivial⟩, trivial⟩⟩) ?_
    refine Tri.cond (x := (decide ((((k0 : Nat) : Int) : Int) < 8))) (by kernel_rfl) (fun h1 => ?_) (fun h1 => ?_)
    ·
      have h1' := of_decide_eq_true h1
      refine Tri.skip ?_
      change Tri _ _ _ _ _ _
      refine Tri.seq ?_
      refine Tri.block ?_
      refine Tri.len 32 rfl (fun hl2 => ?_)
      refine Tri.region' [(16, .i .i64 ((8 * k0 : Nat) : Int)), (17, .i .i64 ((56 - (8 * k0) : Nat) : Int))] none [5, 6, 1] [240] ((True ∧ True) ∧ ((True ∧ True) ∧ ((True ∧ True) ∧ ((True ∧ ((iMul .i64 8 ((k0 : Nat) : Int)) = ((8 * k0 : Nat) : Int))) ∧ ((True ∧ ((iSub .i64 56 ((8 * k0 : Nat) : Int)) = ((56 - (8 * k0) : Nat) : Int))) ∧ ((((0 : Int) ≤ ((56 - (8 * k0) : Nat) : Int)) ∧ True) ∧ ((True ∧ True) ∧ ((((((0 < 1) ∧ (1 = 1)) ∧ True) ∧ ((1 * 1 ≤ 16777216) ∧ (1 = 1))) ∧ True) ∧ ((((((True ∧ (1 = 1)) ∧ ((0 < 1) ∧ (((z0.1 + 1) * 1 ≤ 140737488355328) ∧ (z0.1 + 1 ≤ 140737488355328)))) ∧ (1 = 1 * 1)) ∧ ((1 = 1) ∧ (0 + z0.1 * 1 = z0.1))) ∧ True) ∧ ((True ∧ True) ∧ True))))))))))
          ([(5, .sc (.sl 240 0 (z0.1 + 1) 1 none)), (6, .sc (.i .i64 ((k0 : Nat) : Int))), (1, .sc (.i .u64 p1))], [(240, .ints .u8 (z0.1 + 1) (z0.2 ++ [(IntKind.wrap .u8 (iShr .u64 p1 ((56 - (8 * k0) : Nat) : Int)))]))])
          272 (by kernel_rfl) rfl (by kernel_rfl) (⟨⟨trivial, trivial⟩, ⟨⟨trivial, trivial⟩, ⟨⟨trivial, trivial⟩, ⟨⟨trivial, (iMul_nat (a := 8) (b := k0) (by omega))⟩, ⟨⟨trivial, (iSub_nat (a := 56) (b := 8 * k0) (by omega) (by omega))⟩, ⟨⟨(by first | omega | (rw [adr_eq]; omega) | exact iAnd_nn _ _ | exact iSub_nn _ _ | exact part1_le (by omega) (by first | omega | (simp only [List.length_append]; omega)) | (rw [iMul_i64 (by omega) (by omega)]; omega) | decide), trivial⟩, ⟨⟨trivial, trivial⟩, ⟨⟨⟨⟨⟨(by first | omega | (rw [adr_eq]; omega) | exact iAnd_nn _ _ | exact iSub_nn _ _ | exact part1_le (by omega) (by first | omega | (simp only [List.length_append]; omega)) | (rw [iMul_i64 (by omega) (by omega)]; omega) | decide), (rfl)⟩, trivial⟩, ⟨(by first | omega | (rw [adr_eq]; omega) | exact iAnd_nn _ _ | exact iSub_nn _ _ | exact part1_le (by omega) (by first | omega | (simp only [List.length_append]; omega)) | (rw [iMul_i64 (by omega) (by omega)]; omega) | decide), (rfl)⟩⟩, trivial⟩, ⟨⟨⟨⟨⟨⟨trivial, (rfl)⟩, ⟨(by first | omega | (rw [adr_eq]; omega) | exact iAnd_nn _ _ | exact iSub_nn _ _ | exact part1_le (by omega) (by first | omega | (simp only [List.length_append]; omega)) | (rw [iMul_i64 (by omega) (by omega)]; omega) | decide), ⟨(by first | omega | (rw [adr_eq]; omega) | exact iAnd_nn _ _ | exact iSub_nn _ _ | exact part1_le (by omega) (by first | omega | (simp only [List.length_append]; omega)) | (rw [iMul_i64 (by omega) (by omega)]; omega) | decide), (by first | omega | (rw [adr_eq]; omega) | exact iAnd_nn _ _ | exact iSub_nn _ _ | exact part1_le (by omega) (by first | omega | (simp only [List.length_append]; omega)) | (rw [iMul_i64 (by omega) (by omega)]; omega) | decide)⟩⟩⟩, (by first | omega | (rw [adr_eq]; omega) | exact iAnd_nn _ _ | exact iSub_nn _ _ | exact part1_le (by omega) (by first | omega | (simp only [List.length_append]; omega)) | (rw [iMul_i64 (by omega) (by omega)]; omega) | decide)⟩, ⟨(rfl), (by first | omega | (rw [adr_eq]; omega) | exact iAnd_nn _ _ | exact iSub_nn _ _ | exact part1_le (by omega) (by first | omega | (simp only [List.length_append]; omega)) | (rw [iMul_i64 (by omega) (by omega)]; omega) | decide)⟩⟩, trivial⟩, ⟨⟨trivial, trivial⟩, trivial⟩⟩⟩⟩⟩⟩⟩⟩⟩⟩) ?_
      change Tri _ _ _ _ _ _
      refine Tri.region' [(12, .i .i64 ((k0 + 1 : Nat) : Int))] none [6, 5, 1] [240] ((True ∧ True) ∧ ((True ∧ ((iAdd .i64 ((k0 : Nat) : Int) 1) = ((k0 + 1 : Nat) : Int))) ∧ ((True ∧ True) ∧ True)))
          ([(6, .sc (.i .i64 ((k0 + 1 : Nat) : Int))), (5, .sc (.sl 240 0 (z0.1 + 1) 1 none)), (1, .sc (.i .u64 p1))], [(240, .ints .u8 (z0.1 + 1) (z0.2 ++ [(IntKind.wrap .u8 (iShr .u64 p1 ((56 - (8 * k0) : Nat) : Int)))]))])
          320 (by kernel_rfl) rfl (by kernel_rfl) (⟨⟨trivial, trivial⟩, ⟨⟨trivial, (iAdd_nat (a := k0) (b := 1) (by omega))⟩, ⟨⟨trivial, trivial⟩, trivial⟩⟩⟩) ?_
      repeat (refine blkP_normal ?_)
      refine countP_normal (by omega) (show z0.1 + 1 = p0.size + 1 * (k0 + 1) by omega) ?_
      exact Sub.ren (ns := [(240, 32)]) (kf := [6, 5, 1]) (by kernel_rfl) (by kernel_rfl)
    ·
      have h1' := of_decide_eq_false h1
      refine Tri.exit ?_
      have hend0 : k0 = 8 := by (have := of_decide_eq_false h1; omega)
      subst hend0; subst hz0
      change Tri _ _ _ _ _ _
      refine Tri.len 32 rfl (fun hl3 => ?_)
      refine Tri.seq_region [] none [4] [128] ((True ∧ True) ∧ (((((0 + ((itr (F39l0 p1) 8 (p0.size, bytesI p0)).1) ≤ (itr (F39l0 p1) 8 (p0.size, bytesI p0)).1) ∧ True) ∧ ((part1 ((itr (F39l0 p1) 8 (p0.size, bytesI p0)).2) ((itr (F39l0 p1) 8 (p0.size, bytesI p0)).1) 0 ((itr (F39l0 p1) 8 (p0.size, bytesI p0)).1)).length ≤ 100000000)) ∧ True) ∧ ((True ∧ True) ∧ True)))
          ([(4, .sc (.sl 128 0 32 1 none))], [(128, .ints .u8 32 (F36w32 (part1 ((itr (F39l0 p1) 8 (p0.size, bytesI p0)).2) ((itr (F39l0 p1) 8 (p0.size, bytesI p0)).1) 0 ((itr (F39l0 p1) 8 (p0.size, bytesI p0)).1))))])
          160 (by kernel_rfl) rfl (by kernel_rfl) (⟨⟨trivial, trivial⟩, ⟨⟨⟨⟨(by first | omega | (rw [adr_eq]; omega) | exact iAnd_nn _ _ | exact iSub_nn _ _ | exact part1_le (by omega) (by first | omega | (simp only [List.length_append]; omega)) | (rw [iMul_i64 (by omega) (by omega)]; omega) | decide), trivial⟩, (by first | omega | (rw [adr_eq]; omega) | exact iAnd_nn _ _ | exact iSub_nn _ _ | exact part1_le (by omega) (by first | omega | (simp only [List.length_append]; omega)) | (rw [iMul_i64 (by omega) (by omega)]; omega) | decide)⟩, trivial⟩, ⟨⟨trivial, trivial⟩, trivial⟩⟩⟩) ?_
      refine Tri.ret ?_
      exact endP.ret [(128, 0)] (True ∧ True) (by kernel_rfl) (by kernel_rfl) (by kernel_rfl) ⟨trivial, trivial⟩


noncomputable def F41l0 (p0 : List Int) (k0 : Nat) (z0 : Nat × Nat × List Int × List Int) : Nat × Nat × List Int × List Int :=
  (z0.1 + 1, z0.2.1 + 1, z0.2.2.1 ++ [(iXor .u8 (sel (decide ((((k0 : Nat) : Int) : Int) < 32)) ((F36w32 p0).getD k0 0) 0) 54)], z0.2.2.2 ++ [(iXor .u8 (sel (decide ((((k0 : Nat) : Int) : Int) < 32)) ((F36w32 p0).getD k0 0) 0) 92)])

noncomputable def F41l1 (p0 : List Int) (k1 : Nat) (z1 : Nat × Nat × List Int × List Int) : Nat × Nat × List Int × List Int :=
  (z1.1 + 1, z1.2.1 + 1, z1.2.2.1 ++ [(iXor .u8 (sel (decide ((((k1 : Nat) : Int) : Int) < ((p0.length : Nat) : Int))) (p0.getD k1 0) 0) 54)], z1.2.2.2 ++ [(iXor .u8 (sel (decide ((((k1 : Nat) : Int) : Int) < ((p0.length : Nat) : Int))) (p0.getD k1 0) 0) 92)])

noncomputable def F41 (p0 : List Int) (p1 : List Int) : List Int :=
  (sel (decide ((((p0.length : Nat) : Int) : Int) > 64)) (F36w32 (part1 (((itr (F41l0 p0) 64 (0, 0, [], [])).2.2.2) ++ (F36w32 (part1 (((itr (F41l0 p0) 64 (0, 0, [], [])).2.2.1) ++ p1) (((itr (F41l0 p0) 64 (0, 0, [], [])).1) + p1.length) 0 (((itr (F41l0 p0) 64 (0, 0, [], [])).1) + p1.length)))) (((itr (F41l0 p0) 64 (0, 0, [], [])).2.1) + 32) 0 (((itr (F41l0 p0) 64 (0, 0, [], [])).2.1) + 32))) (F36w32 (part1 (((itr (F41l1 p0) 64 (0, 0, [], [])).2.2.2) ++ (F36w32 (part1 (((itr (F41l1 p0) 64 (0, 0, [], [])).2.2.1) ++ p1) (((itr (F41l1 p0) 64 (0, 0, [], [])).1) + p1.length) 0 (((itr (F41l1 p0) 64 (0, 0, [], [])).1) + p1.length)))) (((itr (F41l1 p0) 64 (0, 0, [], [])).2.1) + 32) 0 (((itr (F41l1 p0) 64 (0, 0, [], [])).2.1) + 32))))

noncomputable def S41 : List AV → Option (Prop × Ret)
  | [.sc (.ro .u8 p0), .sc (.ro .u8 p1)] => some (p0.length ≤ 100000 ∧ p1.length ≤ 100000, ⟨.sc (.sl 0 0 32 1 none), [.ints .u8 32 (F41 p0 p1)]⟩)
  | _ => none

noncomputable def B41 : Bs := { P := Go.Proofs.Tryd.prog, G := gD, tab := tabOf [(36, ⟨[.ro .u8, .val], 1, (orS S36w32 S36w64)⟩)], n := 43 }

theorem B41.ok : B41.Ok := ⟨tabOk (P := Go.Proofs.Tryd.prog) (G := gD) (l := [(36, ⟨[.ro .u8, .val], 1, (orS S36w32 S36w64)⟩)]) (And.intro K36o0 True.intro), mixed⟩

theorem K41 : Known Go.Proofs.Tryd.prog gD 41 ⟨[.ro .u8, .ro .u8], 1, S41⟩ := by
  refine Known.walk (B := B41) (fn := Go.Proofs.Tryd.f41) B41.ok (by kernel_rfl) rfl (by kernel_rfl) (by kernel_rfl) (by decide) ?_ ?_
  · intro vs C r h
    simp only at h
    unfold S41 at h
    split at h
    · cases h; rfl
    · cases h
  · intro E args C r h hC hlen
    simp only at h
    unfold S41 at h
    split at h
    rotate_left
    · cases h
    rename_i p0 p1
    cases h
    simp only [lens] at hlen
    refine ⟨show 2 ≤ 43 from by decide, ?_⟩
    refine Tri.sub (Sub.of_eq (show _ = ([(0, .sc (.ro .u8 p0)), (1, .sc (.ro .u8 p1))], []) from rfl)) ?_
    refine Tri.seq_region [] none [0, 1] [] ((True ∧ True) ∧ True)
        ([(0, .sc (.ro .u8 p0)), (1, .sc (.ro .u8 p1))], [])
        16 (by kernel_rfl) rfl (by kernel_rfl) (⟨⟨trivial, trivial⟩, trivial⟩) ?_
    refine Tri.seq ?_
    refine Tri.seq_region [] none [11, 0, 1] [] ((True ∧ True) ∧ ((True ∧ True) ∧ ((True ∧ True) ∧ True)))
        ([(11, .sc (.b (decide ((((p0.length : Nat) : Int) : Int) > 64)))), (0, .sc (.ro .u8 p0)), (1, .sc (.ro .u8 p1))], [])
        64 (by kernel_rfl) rfl (by kernel_rfl) (⟨⟨trivial, trivial⟩, ⟨⟨trivial, trivial⟩, ⟨⟨trivial, trivial⟩, trivial⟩⟩⟩) ?_
    refine Tri.cond (x := (decide ((((p0.length : Nat) : Int) : Int) > 64))) (by kernel_rfl) (fun h1 => ?_) (fun h1 => ?_)
    ·
      have h1' := of_decide_eq_true h1
      refine Tri.region' [] none [0, 1] [80] ((True ∧ True) ∧ (((True ∧ (p0.length ≤ 100000000)) ∧ True) ∧ ((True ∧ True) ∧ True)))
          ([(0, .sc (.sl 80 0 32 1 none)), (1, .sc (.ro .u8 p1))], [(80, .ints .u8 32 (F36w32 p0))])
          112 (by kernel_rfl) rfl (by kernel_rfl) (⟨⟨trivial, trivial⟩, ⟨⟨⟨trivial, (by first | omega | exact part1_le (by omega) (by first | omega | (simp only [List.length_append, len36w32]; omega)))⟩, trivial⟩, ⟨⟨trivial, trivial⟩, trivial⟩⟩⟩) ?_
      change Tri _ _ _ _ _ _
      refine Tri.seq_region [] none [6, 5, 0, 1] [80] ((True ∧ True) ∧ ((True ∧ True) ∧ True))
          ([(6, .sc (.nils)), (5, .sc (.nils)), (0, .sc (.sl 80 0 32 1 none)), (1, .sc (.ro .u8 p1))], [(80, .ints .u8 32 (F36w32 p0))])
          144 (by kernel_rfl) rfl (by kernel_rfl) (⟨⟨trivial, trivial⟩, ⟨⟨trivial, trivial⟩, trivial⟩⟩) ?_
      refine Tri.seq ?_
      refine Tri.seq_region [] none [7, 6, 5, 0, 1] [80] ((True ∧ True) ∧ True)
          ([(7, .sc (.i .i64 0)), (6, .sc (.nils)), (5, .sc (.nils)), (0, .sc (.sl 80 0 32 1 none)), (1, .sc (.ro .u8 p1))], [(80, .ints .u8 32 (F36w32 p0))])
          160 (by kernel_rfl) rfl (by kernel_rfl) (⟨⟨trivial, trivial⟩, trivial⟩) ?_
      refine Tri.block ?_
      refine Tri.sub (Sub.openNil (U := 160) (U' := 176) 6 160 1 .u8 none (.inl rfl) (by decide) (by decide) (by kernel_rfl) (by kernel_rfl)) ?_
      refine Tri.sub (Sub.openNil (U := 176) (U' := 192) 5 176 1 .u8 none (.inl rfl) (by decide) (by decide) (by kernel_rfl) (by kernel_rfl)) ?_
      refine Tri.count 192 64 (F41l0 p0) (0, 0, [], []) (fun k0 z0 => z0.1 = 1 * k0 ∧ z0.2.1 = 1 * k0) (fun k0 z0 => ([(5, .sc (.sl 176 0 z0.1 1 none)), (6, .sc (.sl 160 0 z0.2.1 1 none)), (7, .sc (.i .i64 ((k0 : Nat) : Int))), (0, .sc (.sl 80 0 32 1 none)), (1, .sc (.ro .u8 p1))], [(176, .ints .u8 z0.1 z0.2.2.1), (160, .ints .u8 z0.2.1 z0.2.2.2), (80, .ints .u8 32 (F36w32 p0))])) (⟨rfl, rfl⟩) (Sub.of_eq (by kernel_rfl)) ?_
      intro k0 z0 hk0 hz0 hJ0
      refine Tri.seq ?_
      refine Tri.seq_region [] none [15, 5, 6, 7, 0, 1] [176, 160, 80] ((True ∧ True) ∧ ((True ∧ True) ∧ True))
          ([(15, .sc (.b (decide ((((k0 : Nat) : Int) : Int) < 64)))), (5, .sc (.sl 176 0 z0.1 1 none)), (6, .sc (.sl 160 0 z0.2.1 1 none)), (7, .sc (.i .i64 ((k0 : Nat) : Int))), (0, .sc (.sl 80 0 32 1 none)), (1, .sc (.ro .u8 p1))], [(176, .ints .u8 z0.1 z0.2.2.1), (160, .ints .u8 z0.2.1 z0.2.2.2), (80, .ints .u8 32 (F36w32 p0))])
          224 (by kernel_rfl) rfl (by kernel_rfl) (⟨⟨trivial, trivial⟩, ⟨⟨trivial, trivial⟩, trivial⟩⟩) ?_
      refine Tri.cond (x := (decide ((((k0 : Nat) : Int) : Int) < 64))) (by kernel_rfl) (fun h2 => ?_) (fun h2 => ?_)
      ·
        have h2' := of_decide_eq_true h2
        refine Tri.skip ?_
        change Tri _ _ _ _ _ _
        refine Tri.seq ?_
        refine Tri.block ?_
        refine Tri.seq_region [] none [8, 5, 6, 7, 0, 1] [176, 160, 80] ((True ∧ True) ∧ True)
            ([(8, .sc (.i .u8 0)), (5, .sc (.sl 176 0 z0.1 1 none)), (6, .sc (.sl 160 0 z0.2.1 1 none)), (7, .sc (.i .i64 ((k0 : Nat) : Int))), (0, .sc (.sl 80 0 32 1 none)), (1, .sc (.ro .u8 p1))], [(176, .ints .u8 z0.1 z0.2.2.1), (160, .ints .u8 z0.2.1 z0.2.2.2), (80, .ints .u8 32 (F36w32 p0))])
            240 (by kernel_rfl) rfl (by kernel_rfl) (⟨⟨trivial, trivial⟩, trivial⟩) ?_
        refine Tri.seq ?_
        refine Tri.seq_region [] none [21, 8, 5, 6, 7, 0, 1] [176, 160, 80] ((True ∧ True) ∧ ((True ∧ True) ∧ ((True ∧ True) ∧ ((True ∧ True) ∧ True))))
            ([(21, .sc (.b (decide ((((k0 : Nat) : Int) : Int) < 32)))), (8, .sc (.i .u8 0)), (5, .sc (.sl 176 0 z0.1 1 none)), (6, .sc (.sl 160 0 z0.2.1 1 none)), (7, .sc (.i .i64 ((k0 : Nat) : Int))), (0, .sc (.sl 80 0 32 1 none)), (1, .sc (.ro .u8 p1))], [(176, .ints .u8 z0.1 z0.2.2.1), (160, .ints .u8 z0.2.1 z0.2.2.2), (80, .ints .u8 32 (F36w32 p0))])
            304 (by kernel_rfl) rfl (by kernel_rfl) (⟨⟨trivial, trivial⟩, ⟨⟨trivial, trivial⟩, ⟨⟨trivial, trivial⟩, ⟨⟨trivial, trivial⟩, trivial⟩⟩⟩⟩) ?_
        refine Tri.join (x := (decide ((((k0 : Nat) : Int) : Int) < 32))) (fun bb => ([(8, .sc (.i .u8 (sel bb ((F36w32 p0).getD k0 0) 0))), (5, .sc (.sl 176 0 z0.1 1 none)), (6, .sc (.sl 160 0 z0.2.1 1 none)), (7, .sc (.i .i64 ((k0 : Nat) : Int))), (0, .sc (.sl 80 0 32 1 none)), (1, .sc (.ro .u8 p1))], [(176, .ints .u8 z0.1 z0.2.2.1), (160, .ints .u8 z0.2.1 z0.2.2.2), (80, .ints .u8 32 (F36w32 p0))])) 384 (by kernel_rfl) (fun h3 => ?_) (fun h3 => ?_) ?_
        ·
          have h3' := of_decide_eq_true h3
          refine Tri.len 176 rfl (fun hl4 => ?_)
          refine Tri.len 160 rfl (fun hl5 => ?_)
          refine Tri.len 80 rfl (fun hl6 => ?_)
          refine Tri.region' [] none [8, 5, 6, 7, 0, 1] [176, 160, 80] ((True ∧ True) ∧ ((True ∧ True) ∧ ((((0 : Int) ≤ ((k0 : Nat) : Int) ∧ ((k0 : Nat) : Int) < ((32 : Nat) : Int)) ∧ True) ∧ (((k0 < 32) ∧ True) ∧ ((True ∧ True) ∧ True)))))
              ([(8, .sc (.i .u8 ((F36w32 p0).getD k0 0))), (5, .sc (.sl 176 0 z0.1 1 none)), (6, .sc (.sl 160 0 z0.2.1 1 none)), (7, .sc (.i .i64 ((k0 : Nat) : Int))), (0, .sc (.sl 80 0 32 1 none)), (1, .sc (.ro .u8 p1))], [(176, .ints .u8 z0.1 z0.2.2.1), (160, .ints .u8 z0.2.1 z0.2.2.2), (80, .ints .u8 32 (F36w32 p0))])
              384 (by kernel_rfl) rfl (by kernel_rfl) (⟨⟨trivial, trivial⟩, ⟨⟨trivial, trivial⟩, ⟨⟨(by first | omega | (rw [adr_eq]; omega) | exact iAnd_nn _ _ | exact iSub_nn _ _ | exact part1_le (by omega) (by first | omega | (simp only [List.length_append]; omega)) | (rw [iMul_i64 (by omega) (by omega)]; omega) | decide), trivial⟩, ⟨⟨(by first | omega | (rw [adr_eq]; omega) | exact iAnd_nn _ _ | exact iSub_nn _ _ | exact part1_le (by omega) (by first | omega | (simp only [List.length_append]; omega)) | (rw [iMul_i64 (by omega) (by omega)]; omega) | decide), trivial⟩, ⟨⟨trivial, trivial⟩, trivial⟩⟩⟩⟩⟩) ?_
          exact (Sub.ren (ns := [(176, 176), (160, 160), (80, 80)]) (kf := [8, 5, 6, 7, 0, 1]) (s' := ([(8, .sc (.i .u8 ((F36w32 p0).getD k0 0))), (5, .sc (.sl 176 0 z0.1 1 none)), (6, .sc (.sl 160 0 z0.2.1 1 none)), (7, .sc (.i .i64 ((k0 : Nat) : Int))), (0, .sc (.sl 80 0 32 1 none)), (1, .sc (.ro .u8 p1))], [(176, .ints .u8 z0.1 z0.2.2.1), (160, .ints .u8 z0.2.1 z0.2.2.2), (80, .ints .u8 32 (F36w32 p0))])) (by kernel_rfl) (by kernel_rfl)).trans (Sub.of_eq (by simp only [sel_true, sel_false]))
        ·
          have h3' := of_decide_eq_false h3
          refine Tri.skip ?_
          exact (Sub.ren (ns := [(176, 176), (160, 160), (80, 80)]) (kf := [8, 5, 6, 7, 0, 1]) (s' := ([(8, .sc (.i .u8 0)), (5, .sc (.sl 176 0 z0.1 1 none)), (6, .sc (.sl 160 0 z0.2.1 1 none)), (7, .sc (.i .i64 ((k0 : Nat) : Int))), (0, .sc (.sl 80 0 32 1 none)), (1, .sc (.ro .u8 p1))], [(176, .ints .u8 z0.1 z0.2.2.1), (160, .ints .u8 z0.2.1 z0.2.2.2), (80, .ints .u8 32 (F36w32 p0))])) (by kernel_rfl) (by kernel_rfl)).trans (Sub.of_eq (by simp only [sel_true, sel_false]))
        ·
          change Tri _ _ _ _ _ _
          refine Tri.len 176 rfl (fun hl7 => ?_)
          refine Tri.len 160 rfl (fun hl8 => ?_)
          refine Tri.len 80 rfl (fun hl9 => ?_)
          refine Tri.seq_region [] none [5, 8, 6, 7, 0, 1] [448, 160, 80] ((True ∧ True) ∧ ((True ∧ True) ∧ ((True ∧ True) ∧ ((((((0 < 1) ∧ (1 = 1)) ∧ True) ∧ ((1 * 1 ≤ 16777216) ∧ (1 = 1))) ∧ True) ∧ ((((((True ∧ (1 = 1)) ∧ ((0 < 1) ∧ (((z0.1 + 1) * 1 ≤ 140737488355328) ∧ (z0.1 + 1 ≤ 140737488355328)))) ∧ (1 = 1 * 1)) ∧ ((1 = 1) ∧ (0 + z0.1 * 1 = z0.1))) ∧ True) ∧ ((True ∧ True) ∧ True))))))
              ([(5, .sc (.sl 448 0 (z0.1 + 1) 1 none)), (8, .sc (.i .u8 (sel (decide ((((k0 : Nat) : Int) : Int) < 32)) ((F36w32 p0).getD k0 0) 0))), (6, .sc (.sl 160 0 z0.2.1 1 none)), (7, .sc (.i .i64 ((k0 : Nat) : Int))), (0, .sc (.sl 80 0 32 1 none)), (1, .sc (.ro .u8 p1))], [(448, .ints .u8 (z0.1 + 1) (z0.2.2.1 ++ [(iXor .u8 (sel (decide ((((k0 : Nat) : Int) : Int) < 32)) ((F36w32 p0).getD k0 0) 0) 54)])), (160, .ints .u8 z0.2.1 z0.2.2.2), (80, .ints .u8 32 (F36w32 p0))])
              480 (by kernel_rfl) rfl (by kernel_rfl) (⟨⟨trivial, trivial⟩, ⟨⟨trivial, trivial⟩, ⟨⟨trivial, trivial⟩, ⟨⟨⟨⟨⟨(by first | omega | (rw [adr_eq]; omega) | exact iAnd_nn _ _ | exact iSub_nn _ _ | exact part1_le (by omega) (by first | omega | (simp only [List.length_append]; omega)) | (rw [iMul_i64 (by omega) (by omega)]; omega) | decide), (rfl)⟩, trivial⟩, ⟨(by first | omega | (rw [adr_eq]; omega) | exact iAnd_nn _ _ | exact iSub_nn _ _ | exact part1_le (by omega) (by first | omega | (simp only [List.length_append]; omega)) | (rw [iMul_i64 (by omega) (by omega)]; omega) | decide), (rfl)⟩⟩, trivial⟩, ⟨⟨⟨⟨⟨⟨trivial, (rfl)⟩, ⟨(by first | omega | (rw [adr_eq]; omega) | exact iAnd_nn _ _ | exact iSub_nn _ _ | exact part1_le (by omega) (by first | omega | (simp only [List.length_append]; omega)) | (rw [iMul_i64 (by omega) (by omega)]; omega) | decide), ⟨(by first | omega | (rw [adr_eq]; omega) | exact iAnd_nn _ _ | exact iSub_nn _ _ | exact part1_le (by omega) (by first | omega | (simp only [List.length_append]; omega)) | (rw [iMul_i64 (by omega) (by omega)]; omega) | decide), (by first | omega | (rw [adr_eq]; omega) | exact iAnd_nn _ _ | exact iSub_nn _ _ | exact part1_le (by omega) (by first | omega | (simp only [List.length_append]; omega)) | (rw [iMul_i64 (by omega) (by omega)]; omega) | decide)⟩⟩⟩, (by first | omega | (rw [adr_eq]; omega) | exact iAnd_nn _ _ | exact iSub_nn _ _ | exact part1_le (by omega) (by first | omega | (simp only [List.length_append]; omega)) | (rw [iMul_i64 (by omega) (by omega)]; omega) | decide)⟩, ⟨(rfl), (by first | omega | (rw [adr_eq]; omega) | exact iAnd_nn _ _ | exact iSub_nn _ _ | exact part1_le (by omega) (by first | omega | (simp only [List.length_append]; omega)) | (rw [iMul_i64 (by omega) (by omega)]; omega) | decide)⟩⟩, trivial⟩, ⟨⟨trivial, trivial⟩, trivial⟩⟩⟩⟩⟩⟩) ?_
          refine Tri.len 448 rfl (fun hl10 => ?_)
          refine Tri.len 160 rfl (fun hl11 => ?_)
          refine Tri.len 80 rfl (fun hl12 => ?_)
          refine Tri.region' [] none [6, 5, 7, 0, 1] [544, 448, 80] ((True ∧ True) ∧ ((True ∧ True) ∧ ((True ∧ True) ∧ ((((((0 < 1) ∧ (1 = 1)) ∧ True) ∧ ((1 * 1 ≤ 16777216) ∧ (1 = 1))) ∧ True) ∧ ((((((True ∧ (1 = 1)) ∧ ((0 < 1) ∧ (((z0.2.1 + 1) * 1 ≤ 140737488355328) ∧ (z0.2.1 + 1 ≤ 140737488355328)))) ∧ (1 = 1 * 1)) ∧ ((1 = 1) ∧ (0 + z0.2.1 * 1 = z0.2.1))) ∧ True) ∧ ((True ∧ True) ∧ True))))))
              ([(6, .sc (.sl 544 0 (z0.2.1 + 1) 1 none)), (5, .sc (.sl 448 0 (z0.1 + 1) 1 none)), (7, .sc (.i .i64 ((k0 : Nat) : Int))), (0, .sc (.sl 80 0 32 1 none)), (1, .sc (.ro .u8 p1))], [(544, .ints .u8 (z0.2.1 + 1) (z0.2.2.2 ++ [(iXor .u8 (sel (decide ((((k0 : Nat) : Int) : Int) < 32)) ((F36w32 p0).getD k0 0) 0) 92)])), (448, .ints .u8 (z0.1 + 1) (z0.2.2.1 ++ [(iXor .u8 (sel (decide ((((k0 : Nat) : Int) : Int) < 32)) ((F36w32 p0).getD k0 0) 0) 54)])), (80, .ints .u8 32 (F36w32 p0))])
              576 (by kernel_rfl) rfl (by kernel_rfl) (⟨⟨trivial, trivial⟩, ⟨⟨trivial, trivial⟩, ⟨⟨trivial, trivial⟩, ⟨⟨⟨⟨⟨(by first | omega | (rw [adr_eq]; omega) | exact iAnd_nn _ _ | exact iSub_nn _ _ | exact part1_le (by omega) (by first | omega | (simp only [List.length_append]; omega)) | (rw [iMul_i64 (by omega) (by omega)]; omega) | decide), (rfl)⟩, trivial⟩, ⟨(by first | omega | (rw [adr_eq]; omega) | exact iAnd_nn _ _ | exact iSub_nn _ _ | exact part1_le (by omega) (by first | omega | (simp only [List.length_append]; omega)) | (rw [iMul_i64 (by omega) (by omega)]; omega) | decide), (rfl)⟩⟩, trivial⟩, ⟨⟨⟨⟨⟨⟨trivial, (rfl)⟩, ⟨(by first | omega | (rw [adr_eq]; omega) | exact iAnd_nn _ _ | exact iSub_nn _ _ | exact part1_le (by omega) (by first | omega | (simp only [List.length_append]; omega)) | (rw [iMul_i64 (by omega) (by omega)]; omega) | decide), ⟨(by first | omega | (rw [adr_eq]; omega) | exact iAnd_nn _ _ | exact iSub_nn _ _ | exact part1_le (by omega) (by first | omega | (simp only [List.length_append]; omega)) | (rw [iMul_i64 (by omega) (by omega)]; omega) | decide), (by first | omega | (rw [adr_eq]; omega) | exact iAnd_nn _ _ | exact iSub_nn _ _ | exact part1_le (by omega) (by first | omega | (simp only [List.length_append]; omega)) | (rw [iMul_i64 (by omega) (by omega)]; omega) | decide)⟩⟩⟩, (by first | omega | (rw [adr_eq]; omega) | exact iAnd_nn _ _ | exact iSub_nn _ _ | exact part1_le (by omega) (by first | omega | (simp only [List.length_append]; omega)) | (rw [iMul_i64 (by omega) (by omega)]; omega) | decide)⟩, ⟨(rfl), (by first | omega | (rw [adr_eq]; omega) | exact iAnd_nn _ _ | exact iSub_nn _ _ | exact part1_le (by omega) (by first | omega | (simp only [List.length_append]; omega)) | (rw [iMul_i64 (by omega) (by omega)]; omega) | decide)⟩⟩, trivial⟩, ⟨⟨trivial, trivial⟩, trivial⟩⟩⟩⟩⟩⟩) ?_
          change Tri _ _ _ _ _ _
          refine Tri.region' [(17, .i .i64 ((k0 + 1 : Nat) : Int))] none [7, 6, 5, 0, 1] [544, 448, 80] ((True ∧ True) ∧ ((True ∧ ((iAdd .i64 ((k0 : Nat) : Int) 1) = ((k0 + 1 : Nat) : Int))) ∧ ((True ∧ True) ∧ True)))
              ([(7, .sc (.i .i64 ((k0 + 1 : Nat) : Int))), (6, .sc (.sl 544 0 (z0.2.1 + 1) 1 none)), (5, .sc (.sl 448 0 (z0.1 + 1) 1 none)), (0, .sc (.sl 80 0 32 1 none)), (1, .sc (.ro .u8 p1))], [(544, .ints .u8 (z0.2.1 + 1) (z0.2.2.2 ++ [(iXor .u8 (sel (decide ((((k0 : Nat) : Int) : Int) < 32)) ((F36w32 p0).getD k0 0) 0) 92)])), (448, .ints .u8 (z0.1 + 1) (z0.2.2.1 ++ [(iXor .u8 (sel (decide ((((k0 : Nat) : Int) : Int) < 32)) ((F36w32 p0).getD k0 0) 0) 54)])), (80, .ints .u8 32 (F36w32 p0))])
              624 (by kernel_rfl) rfl (by kernel_rfl) (⟨⟨trivial, trivial⟩, ⟨⟨trivial, (iAdd_nat (a := k0) (b := 1) (by omega))⟩, ⟨⟨trivial, trivial⟩, trivial⟩⟩⟩) ?_
          repeat (refine blkP_normal ?_)
          refine countP_normal (by omega) (⟨(show z0.1 + 1 = 1 * (k0 + 1) by omega), (show z0.2.1 + 1 = 1 * (k0 + 1) by omega)⟩) ?_
          exact Sub.ren (ns := [(448, 176), (544, 160), (80, 80)]) (kf := [5, 6, 7, 0, 1]) (by kernel_rfl) (by kernel_rfl)
      ·
        have h2' := of_decide_eq_false h2
        refine Tri.exit ?_
        have hend0 : k0 = 64 := by (have := of_decide_eq_false h2; omega)
        subst hend0; subst hz0
        change Tri _ _ _ _ _ _
        refine Tri.len 176 rfl (fun hl13 => ?_)
        refine Tri.len 160 rfl (fun hl14 => ?_)
        refine Tri.len 80 rfl (fun hl15 => ?_)
        refine Tri.seq_region [] none [4] [320] ((True ∧ True) ∧ ((True ∧ True) ∧ ((True ∧ True) ∧ ((((((True ∧ (1 = 1)) ∧ ((0 < 1) ∧ (((((itr (F41l0 p0) 64 (0, 0, [], [])).1) + p1.length) * 1 ≤ 140737488355328) ∧ (((itr (F41l0 p0) 64 (0, 0, [], [])).1) + p1.length ≤ 140737488355328)))) ∧ (p1.length = p1.length * 1)) ∧ ((1 = 1) ∧ (0 + ((itr (F41l0 p0) 64 (0, 0, [], [])).1) * 1 = (itr (F41l0 p0) 64 (0, 0, [], [])).1))) ∧ True) ∧ (((((0 + (((itr (F41l0 p0) 64 (0, 0, [], [])).1) + p1.length) ≤ ((itr (F41l0 p0) 64 (0, 0, [], [])).1) + p1.length) ∧ True) ∧ ((part1 (((itr (F41l0 p0) 64 (0, 0, [], [])).2.2.1) ++ p1) (((itr (F41l0 p0) 64 (0, 0, [], [])).1) + p1.length) 0 (((itr (F41l0 p0) 64 (0, 0, [], [])).1) + p1.length)).length ≤ 100000000)) ∧ True) ∧ ((((((True ∧ (1 = 1)) ∧ ((0 < 1) ∧ (((((itr (F41l0 p0) 64 (0, 0, [], [])).2.1) + 32) * 1 ≤ 140737488355328) ∧ (((itr (F41l0 p0) 64 (0, 0, [], [])).2.1) + 32 ≤ 140737488355328)))) ∧ (32 = 32 * 1)) ∧ ((1 = 1) ∧ (0 + ((itr (F41l0 p0) 64 (0, 0, [], [])).2.1) * 1 = (itr (F41l0 p0) 64 (0, 0, [], [])).2.1))) ∧ True) ∧ (((((0 + (((itr (F41l0 p0) 64 (0, 0, [], [])).2.1) + 32) ≤ ((itr (F41l0 p0) 64 (0, 0, [], [])).2.1) + 32) ∧ True) ∧ ((part1 (((itr (F41l0 p0) 64 (0, 0, [], [])).2.2.2) ++ (F36w32 (part1 (((itr (F41l0 p0) 64 (0, 0, [], [])).2.2.1) ++ p1) (((itr (F41l0 p0) 64 (0, 0, [], [])).1) + p1.length) 0 (((itr (F41l0 p0) 64 (0, 0, [], [])).1) + p1.length)))) (((itr (F41l0 p0) 64 (0, 0, [], [])).2.1) + 32) 0 (((itr (F41l0 p0) 64 (0, 0, [], [])).2.1) + 32)).length ≤ 100000000)) ∧ True) ∧ ((True ∧ True) ∧ True))))))))
            ([(4, .sc (.sl 320 0 32 1 none))], [(320, .ints .u8 32 (F36w32 (part1 (((itr (F41l0 p0) 64 (0, 0, [], [])).2.2.2) ++ (F36w32 (part1 (((itr (F41l0 p0) 64 (0, 0, [], [])).2.2.1) ++ p1) (((itr (F41l0 p0) 64 (0, 0, [], [])).1) + p1.length) 0 (((itr (F41l0 p0) 64 (0, 0, [], [])).1) + p1.length)))) (((itr (F41l0 p0) 64 (0, 0, [], [])).2.1) + 32) 0 (((itr (F41l0 p0) 64 (0, 0, [], [])).2.1) + 32))))])
            352 (by kernel_rfl) rfl (by kernel_rfl) (⟨⟨trivial, trivial⟩, ⟨⟨trivial, trivial⟩, ⟨⟨trivial, trivial⟩, ⟨⟨⟨⟨⟨⟨trivial, (rfl)⟩, ⟨(by first | omega | (rw [adr_eq]; omega) | exact iAnd_nn _ _ | exact iSub_nn _ _ | exact part1_le (by omega) (by first | omega | (simp only [List.length_append]; omega)) | (rw [iMul_i64 (by omega) (by omega)]; omega) | decide), ⟨(by first | omega | (rw [adr_eq]; omega) | exact iAnd_nn _ _ | exact iSub_nn _ _ | exact part1_le (by omega) (by first | omega | (simp only [List.length_append]; omega)) | (rw [iMul_i64 (by omega) (by omega)]; omega) | decide), (by first | omega | (rw [adr_eq]; omega) | exact iAnd_nn _ _ | exact iSub_nn _ _ | exact part1_le (by omega) (by first | omega | (simp only [List.length_append]; omega)) | (rw [iMul_i64 (by omega) (by omega)]; omega) | decide)⟩⟩⟩, (by first | omega | (rw [adr_eq]; omega) | exact iAnd_nn _ _ | exact iSub_nn _ _ | exact part1_le (by omega) (by first | omega | (simp only [List.length_append]; omega)) | (rw [iMul_i64 (by omega) (by omega)]; omega) | decide)⟩, ⟨(rfl), (by first | omega | (rw [adr_eq]; omega) | exact iAnd_nn _ _ | exact iSub_nn _ _ | exact part1_le (by omega) (by first | omega | (simp only [List.length_append]; omega)) | (rw [iMul_i64 (by omega) (by omega)]; omega) | decide)⟩⟩, trivial⟩, ⟨⟨⟨⟨(by first | omega | (rw [adr_eq]; omega) | exact iAnd_nn _ _ | exact iSub_nn _ _ | exact part1_le (by omega) (by first | omega | (simp only [List.length_append]; omega)) | (rw [iMul_i64 (by omega) (by omega)]; omega) | decide), trivial⟩, (by first | omega | exact part1_le (by omega) (by first | omega | (simp only [List.length_append, len36w32]; omega)))⟩, trivial⟩, ⟨⟨⟨⟨⟨⟨trivial, (rfl)⟩, ⟨(by first | omega | (rw [adr_eq]; omega) | exact iAnd_nn _ _ | exact iSub_nn _ _ | exact part1_le (by omega) (by first | omega | (simp only [List.length_append]; omega)) | (rw [iMul_i64 (by omega) (by omega)]; omega) | decide), ⟨(by first | omega | (rw [adr_eq]; omega) | exact iAnd_nn _ _ | exact iSub_nn _ _ | exact part1_le (by omega) (by first | omega | (simp only [List.length_append]; omega)) | (rw [iMul_i64 (by omega) (by omega)]; omega) | decide), (by first | omega | (rw [adr_eq]; omega) | exact iAnd_nn _ _ | exact iSub_nn _ _ | exact part1_le (by omega) (by first | omega | (simp only [List.length_append]; omega)) | (rw [iMul_i64 (by omega) (by omega)]; omega) | decide)⟩⟩⟩, (by first | omega | (rw [adr_eq]; omega) | exact iAnd_nn _ _ | exact iSub_nn _ _ | exact part1_le (by omega) (by first | omega | (simp only [List.length_append]; omega)) | (rw [iMul_i64 (by omega) (by omega)]; omega) | decide)⟩, ⟨(rfl), (by first | omega | (rw [adr_eq]; omega) | exact iAnd_nn _ _ | exact iSub_nn _ _ | exact part1_le (by omega) (by first | omega | (simp only [List.length_append]; omega)) | (rw [iMul_i64 (by omega) (by omega)]; omega) | decide)⟩⟩, trivial⟩, ⟨⟨⟨⟨(by first | omega | (rw [adr_eq]; omega) | exact iAnd_nn _ _ | exact iSub_nn _ _ | exact part1_le (by omega) (by first | omega | (simp only [List.length_append]; omega)) | (rw [iMul_i64 (by omega) (by omega)]; omega) | decide), trivial⟩, (by first | omega | exact part1_le (by omega) (by first | omega | (simp only [List.length_append, len36w32]; omega)))⟩, trivial⟩, ⟨⟨trivial, trivial⟩, trivial⟩⟩⟩⟩⟩⟩⟩⟩) ?_
        refine Tri.ret ?_
        repeat (first | refine thenP_ret ?_ | refine blkP_ret ?_ | refine countP_ret ?_ | refine joinP_ret ?_)
        refine endP.conv (r' := ⟨.sc (.sl 0 0 32 1 none), [.ints .u8 32 (F36w32 (part1 (((itr (F41l0 p0) 64 (0, 0, [], [])).2.2.2) ++ (F36w32 (part1 (((itr (F41l0 p0) 64 (0, 0, [], [])).2.2.1) ++ p1) (((itr (F41l0 p0) 64 (0, 0, [], [])).1) + p1.length) 0 (((itr (F41l0 p0) 64 (0, 0, [], [])).1) + p1.length)))) (((itr (F41l0 p0) 64 (0, 0, [], [])).2.1) + 32) 0 (((itr (F41l0 p0) 64 (0, 0, [], [])).2.1) + 32)))]⟩) (by simp only [F41, h1, sel_true, sel_false]) ?_
        exact endP.ret [(320, 0)] (True ∧ True) (by kernel_rfl) (by kernel_rfl) (by kernel_rfl) ⟨trivial, trivial⟩
    ·
      have h1' := of_decide_eq_false h1
      refine Tri.skip ?_
      change Tri _ _ _ _ _ _
      refine Tri.seq_region [] none [6, 5, 0, 1] [] ((True ∧ True) ∧ ((True ∧ True) ∧ True))
          ([(6, .sc (.nils)), (5, .sc (.nils)), (0, .sc (.ro .u8 p0)), (1, .sc (.ro .u8 p1))], [])
          96 (by kernel_rfl) rfl (by kernel_rfl) (⟨⟨trivial, trivial⟩, ⟨⟨trivial, trivial⟩, trivial⟩⟩) ?_
      refine Tri.seq ?_
      refine Tri.seq_region [] none [7, 6, 5, 0, 1] [] ((True ∧ True) ∧ True)
          ([(7, .sc (.i .i64 0)), (6, .sc (.nils)), (5, .sc (.nils)), (0, .sc (.ro .u8 p0)), (1, .sc (.ro .u8 p1))], [])
          112 (by kernel_rfl) rfl (by kernel_rfl) (⟨⟨trivial, trivial⟩, trivial⟩) ?_
      refine Tri.block ?_
      refine Tri.sub (Sub.openNil (U := 112) (U' := 128) 6 112 1 .u8 none (.inl rfl) (by decide) (by decide) (by kernel_rfl) (by kernel_rfl)) ?_
      refine Tri.sub (Sub.openNil (U := 128) (U' := 144) 5 128 1 .u8 none (.inl rfl) (by decide) (by decide) (by kernel_rfl) (by kernel_rfl)) ?_
      refine Tri.count 144 64 (F41l1 p0) (0, 0, [], []) (fun k1 z1 => z1.1 = 1 * k1 ∧ z1.2.1 = 1 * k1) (fun k1 z1 => ([(5, .sc (.sl 128 0 z1.1 1 none)), (6, .sc (.sl 112 0 z1.2.1 1 none)), (7, .sc (.i .i64 ((k1 : Nat) : Int))), (0, .sc (.ro .u8 p0)), (1, .sc (.ro .u8 p1))], [(128, .ints .u8 z1.1 z1.2.2.1), (112, .ints .u8 z1.2.1 z1.2.2.2)])) (⟨rfl, rfl⟩) (Sub.of_eq (by kernel_rfl)) ?_
      intro k1 z1 hk1 hz1 hJ1
      refine Tri.seq ?_
      refine Tri.seq_region [] none [15, 5, 6, 7, 0, 1] [128, 112] ((True ∧ True) ∧ ((True ∧ True) ∧ True))
          ([(15, .sc (.b (decide ((((k1 : Nat) : Int) : Int) < 64)))), (5, .sc (.sl 128 0 z1.1 1 none)), (6, .sc (.sl 112 0 z1.2.1 1 none)), (7, .sc (.i .i64 ((k1 : Nat) : Int))), (0, .sc (.ro .u8 p0)), (1, .sc (.ro .u8 p1))], [(128, .ints .u8 z1.1 z1.2.2.1), (112, .ints .u8 z1.2.1 z1.2.2.2)])
          176 (by kernel_rfl) rfl (by kernel_rfl) (⟨⟨trivial, trivial⟩, ⟨⟨trivial, trivial⟩, trivial⟩⟩) ?_
      refine Tri.cond (x := (decide ((((k1 : Nat) : Int) : Int) < 64))) (by kernel_rfl) (fun h16 => ?_) (fun h16 => ?_)
      ·
        have h16' := of_decide_eq_true h16
        refine Tri.skip ?_
        change Tri _ _ _ _ _ _
        refine Tri.seq ?_
        refine Tri.block ?_
        refine Tri.seq_region [] none [8, 5, 6, 7, 0, 1] [128, 112] ((True ∧ True) ∧ True)
            ([(8, .sc (.i .u8 0)), (5, .sc (.sl 128 0 z1.1 1 none)), (6, .sc (.sl 112 0 z1.2.1 1 none)), (7, .sc (.i .i64 ((k1 : Nat) : Int))), (0, .sc (.ro .u8 p0)), (1, .sc (.ro .u8 p1))], [(128, .ints .u8 z1.1 z1.2.2.1), (112, .ints .u8 z1.2.1 z1.2.2.2)])
            192 (by kernel_rfl) rfl (by kernel_rfl) (⟨⟨trivial, trivial⟩, trivial⟩) ?_
        refine Tri.seq ?_
        refine Tri.seq_region [] none [21, 8, 5, 6, 7, 0, 1] [128, 112] ((True ∧ True) ∧ ((True ∧ True) ∧ ((True ∧ True) ∧ ((True ∧ True) ∧ True))))
            ([(21, .sc (.b (decide ((((k1 : Nat) : Int) : Int) < ((p0.length : Nat) : Int))))), (8, .sc (.i .u8 0)), (5, .sc (.sl 128 0 z1.1 1 none)), (6, .sc (.sl 112 0 z1.2.1 1 none)), (7, .sc (.i .i64 ((k1 : Nat) : Int))), (0, .sc (.ro .u8 p0)), (1, .sc (.ro .u8 p1))], [(128, .ints .u8 z1.1 z1.2.2.1), (112, .ints .u8 z1.2.1 z1.2.2.2)])
            256 (by kernel_rfl) rfl (by kernel_rfl) (⟨⟨trivial, trivial⟩, ⟨⟨trivial, trivial⟩, ⟨⟨trivial, trivial⟩, ⟨⟨trivial, trivial⟩, trivial⟩⟩⟩⟩) ?_
        refine Tri.join (x := (decide ((((k1 : Nat) : Int) : Int) < ((p0.length : Nat) : Int)))) (fun bb => ([(8, .sc (.i .u8 (sel bb (p0.getD k1 0) 0))), (5, .sc (.sl 128 0 z1.1 1 none)), (6, .sc (.sl 112 0 z1.2.1 1 none)), (7, .sc (.i .i64 ((k1 : Nat) : Int))), (0, .sc (.ro .u8 p0)), (1, .sc (.ro .u8 p1))], [(128, .ints .u8 z1.1 z1.2.2.1), (112, .ints .u8 z1.2.1 z1.2.2.2)])) 336 (by kernel_rfl) (fun h17 => ?_) (fun h17 => ?_) ?_
        ·
          have h17' := of_decide_eq_true h17
          refine Tri.len 128 rfl (fun hl18 => ?_)
          refine Tri.len 112 rfl (fun hl19 => ?_)
          refine Tri.region' [] none [8, 5, 6, 7, 0, 1] [128, 112] ((True ∧ True) ∧ ((True ∧ True) ∧ ((((0 : Int) ≤ ((k1 : Nat) : Int) ∧ ((k1 : Nat) : Int) < (p0.length : Int)) ∧ True) ∧ (((k1 < p0.length) ∧ True) ∧ ((True ∧ True) ∧ True)))))
              ([(8, .sc (.i .u8 (p0.getD k1 0))), (5, .sc (.sl 128 0 z1.1 1 none)), (6, .sc (.sl 112 0 z1.2.1 1 none)), (7, .sc (.i .i64 ((k1 : Nat) : Int))), (0, .sc (.ro .u8 p0)), (1, .sc (.ro .u8 p1))], [(128, .ints .u8 z1.1 z1.2.2.1), (112, .ints .u8 z1.2.1 z1.2.2.2)])
              336 (by kernel_rfl) rfl (by kernel_rfl) (⟨⟨trivial, trivial⟩, ⟨⟨trivial, trivial⟩, ⟨⟨(by first | omega | (rw [adr_eq]; omega) | exact iAnd_nn _ _ | exact iSub_nn _ _ | exact part1_le (by omega) (by first | omega | (simp only [List.length_append]; omega)) | (rw [iMul_i64 (by omega) (by omega)]; omega) | decide), trivial⟩, ⟨⟨(by first | omega | (rw [adr_eq]; omega) | exact iAnd_nn _ _ | exact iSub_nn _ _ | exact part1_le (by omega) (by first | omega | (simp only [List.length_append]; omega)) | (rw [iMul_i64 (by omega) (by omega)]; omega) | decide), trivial⟩, ⟨⟨trivial, trivial⟩, trivial⟩⟩⟩⟩⟩) ?_
          exact (Sub.ren (ns := [(128, 128), (112, 112)]) (kf := [8, 5, 6, 7, 0, 1]) (s' := ([(8, .sc (.i .u8 (p0.getD k1 0))), (5, .sc (.sl 128 0 z1.1 1 none)), (6, .sc (.sl 112 0 z1.2.1 1 none)), (7, .sc (.i .i64 ((k1 : Nat) : Int))), (0, .sc (.ro .u8 p0)), (1, .sc (.ro .u8 p1))], [(128, .ints .u8 z1.1 z1.2.2.1), (112, .ints .u8 z1.2.1 z1.2.2.2)])) (by kernel_rfl) (by kernel_rfl)).trans (Sub.of_eq (by simp only [sel_true, sel_false]))
        ·
          have h17' := of_decide_eq_false h17
          refine Tri.skip ?_
          exact (Sub.ren (ns := [(128, 128), (112, 112)]) (kf := [8, 5, 6, 7, 0, 1]) (s' := ([(8, .sc (.i .u8 0)), (5, .sc (.sl 128 0 z1.1 1 none)), (6, .sc (.sl 112 0 z1.2.1 1 none)), (7, .sc (.i .i64 ((k1 : Nat) : Int))), (0, .sc (.ro .u8 p0)), (1, .sc (.ro .u8 p1))], [(128, .ints .u8 z1.1 z1.2.2.1), (112, .ints .u8 z1.2.1 z1.2.2.2)])) (by kernel_rfl) (by kernel_rfl)).trans (Sub.of_eq (by simp only [sel_true, sel_false]))
        ·
          change Tri _ _ _ _ _ _
          refine Tri.len 128 rfl (fun hl20 => ?_)
          refine Tri.len 112 rfl (fun hl21 => ?_)
          refine Tri.seq_region [] none [5, 8, 6, 7, 0, 1] [400, 112] ((True ∧ True) ∧ ((True ∧ True) ∧ ((True ∧ True) ∧ ((((((0 < 1) ∧ (1 = 1)) ∧ True) ∧ ((1 * 1 ≤ 16777216) ∧ (1 = 1))) ∧ True) ∧ ((((((True ∧ (1 = 1)) ∧ ((0 < 1) ∧ (((z1.1 + 1) * 1 ≤ 140737488355328) ∧ (z1.1 + 1 ≤ 140737488355328)))) ∧ (1 = 1 * 1)) ∧ ((1 = 1) ∧ (0 + z1.1 * 1 = z1.1))) ∧ True) ∧ ((True ∧ True) ∧ True))))))
              ([(5, .sc (.sl 400 0 (z1.1 + 1) 1 none)), (8, .sc (.i .u8 (sel (decide ((((k1 : Nat) : Int) : Int) < ((p0.length : Nat) : Int))) (p0.getD k1 0) 0))), (6, .sc (.sl 112 0 z1.2.1 1 none)), (7, .sc (.i .i64 ((k1 : Nat) : Int))), (0, .sc (.ro .u8 p0)), (1, .sc (.ro .u8 p1))], [(400, .ints .u8 (z1.1 + 1) (z1.2.2.1 ++ [(iXor .u8 (sel (decide ((((k1 : Nat) : Int) : Int) < ((p0.length : Nat) : Int))) (p0.getD k1 0) 0) 54)])), (112, .ints .u8 z1.2.1 z1.2.2.2)])
              432 (by kernel_rfl) rfl (by kernel_rfl) (⟨⟨trivial, trivial⟩, ⟨⟨trivial, trivial⟩, ⟨⟨trivial, trivial⟩, ⟨⟨⟨⟨⟨(by first | omega | (rw [adr_eq]; omega) | exact iAnd_nn _ _ | exact iSub_nn _ _ | exact part1_le (by omega) (by first | omega | (simp only [List.length_append]; omega)) | (rw [iMul_i64 (by omega) (by omega)]; omega) | decide), (rfl)⟩, trivial⟩, ⟨(by first | omega | (rw [adr_eq]; omega) | exact iAnd_nn _ _ | exact iSub_nn _ _ | exact part1_le (by omega) (by first | omega | (simp only [List.length_append]; omega)) | (rw [iMul_i64 (by omega) (by omega)]; omega) | decide), (rfl)⟩⟩, trivial⟩, ⟨⟨⟨⟨⟨⟨trivial, (rfl)⟩, ⟨(by first | omega | (rw [adr_eq]; omega) | exact iAnd_nn _ _ | exact iSub_nn _ _ | exact part1_le (by omega) (by first | omega | (simp only [List.length_append]; omega)) | (rw [iMul_i64 (by omega) (by omega)]; omega) | decide), ⟨(by first | omega | (rw [adr_eq]; omega) | exact iAnd_nn _ _ | exact iSub_nn _ _ | exact part1_le (by omega) (by first | omega | (simp only [List.length_append]; omega)) | (rw [iMul_i64 (by omega) (by omega)]; omega) | decide), (by first | omega | (rw [adr_eq]; omega) | exact iAnd_nn _ _ | exact iSub_nn _ _ | exact part1_le (by omega) (by first | omega | (simp only [List.length_append]; omega)) | (rw [iMul_i64 (by omega) (by omega)]; omega) | decide)⟩⟩⟩, (by first | omega | (rw [adr_eq]; omega) | exact iAnd_nn _ _ | exact iSub_nn _ _ | exact part1_le (by omega) (by first | omega | (simp only [List.length_append]; omega)) | (rw [iMul_i64 (by omega) (by omega)]; omega) | decide)⟩, ⟨(rfl), (by first | omega | (rw [adr_eq]; omega) | exact iAnd_nn _ _ | exact iSub_nn _ _ | exact part1_le (by omega) (by first | omega | (simp only [List.length_append]; omega)) | (rw [iMul_i64 (by omega) (by omega)]; omega) | decide)⟩⟩, trivial⟩, ⟨⟨trivial, trivial⟩, trivial⟩⟩⟩⟩⟩⟩) ?_
          refine Tri.len 400 rfl (fun hl22 => ?_)
          refine Tri.len 112 rfl (fun hl23 => ?_)
          refine Tri.region' [] none [6, 5, 7, 0, 1] [496, 400] ((True ∧ True) ∧ ((True ∧ True) ∧ ((True ∧ True) ∧ ((((((0 < 1) ∧ (1 = 1)) ∧ True) ∧ ((1 * 1 ≤ 16777216) ∧ (1 = 1))) ∧ True) ∧ ((((((True ∧ (1 = 1)) ∧ ((0 < 1) ∧ (((z1.2.1 + 1) * 1 ≤ 140737488355328) ∧ (z1.2.1 + 1 ≤ 140737488355328)))) ∧ (1 = 1 * 1)) ∧ ((1 = 1) ∧ (0 + z1.2.1 * 1 = z1.2.1))) ∧ True) ∧ ((True ∧ True) ∧ True))))))
              ([(6, .sc (.sl 496 0 (z1.2.1 + 1) 1 none)), (5, .sc (.sl 400 0 (z1.1 + 1) 1 none)), (7, .sc (.i .i64 ((k1 : Nat) : Int))), (0, .sc (.ro .u8 p0)), (1, .sc (.ro .u8 p1))], [(496, .ints .u8 (z1.2.1 + 1) (z1.2.2.2 ++ [(iXor .u8 (sel (decide ((((k1 : Nat) : Int) : Int) < ((p0.length : Nat) : Int))) (p0.getD k1 0) 0) 92)])), (400, .ints .u8 (z1.1 + 1) (z1.2.2.1 ++ [(iXor .u8 (sel (decide ((((k1 : Nat) : Int) : Int) < ((p0.length : Nat) : Int))) (p0.getD k1 0) 0) 54)]))])
              528 (by kernel_rfl) rfl (by kernel_rfl) (⟨⟨trivial, trivial⟩, ⟨⟨trivial, trivial⟩, ⟨⟨trivial, trivial⟩, ⟨⟨⟨⟨⟨(by first | omega | (rw [adr_eq]; omega) | exact iAnd_nn _ _ | exact iSub_nn _ _ | exact part1_le (by omega) (by first | omega | (simp only [List.length_append]; omega)) | (rw [iMul_i64 (by omega) (by omega)]; omega) | decide), (rfl)⟩, trivial⟩, ⟨(by first | omega | (rw [adr_eq]; omega) | exact iAnd_nn _ _ | exact iSub_nn _ _ | exact part1_le (by omega) (by first | omega | (simp only [List.length_append]; omega)) | (rw [iMul_i64 (by omega) (by omega)]; omega) | decide), (rfl)⟩⟩, trivial⟩, ⟨⟨⟨⟨⟨⟨trivial, (rfl)⟩, ⟨(by first | omega | (rw [adr_eq]; omega) | exact iAnd_nn _ _ | exact iSub_nn _ _ | exact part1_le (by omega) (by first | omega | (simp only [List.length_append]; omega)) | (rw [iMul_i64 (by omega) (by omega)]; omega) | decide), ⟨(by first | omega | (rw [adr_eq]; omega) | exact iAnd_nn _ _ | exact iSub_nn _ _ | exact part1_le (by omega) (by first | omega | (simp only [List.length_append]; omega)) | (rw [iMul_i64 (by omega) (by omega)]; omega) | decide), (by first | omega | (rw [adr_eq]; omega) | exact iAnd_nn _ _ | exact iSub_nn _ _ | exact part1_le (by omega) (by first | omega | (simp only [List.length_append]; omega)) | (rw [iMul_i64 (by omega) (by omega)]; omega) | decide)⟩⟩⟩, (by first | omega | (rw [adr_eq]; omega) | exact iAnd_nn _ _ | exact iSub_nn _ _ | exact part1_le (by omega) (by first | omega | (simp only [List.length_append]; omega)) | (rw [iMul_i64 (by omega) (by omega)]; omega) | decide)⟩, ⟨(rfl), (by first | omega | (rw [adr_eq]; omega) | exact iAnd_nn _ _ | exact iSub_nn _ _ | exact part1_le (by omega) (by first | omega | (simp only [List.length_append]; omega)) | (rw [iMul_i64 (by omega) (by omega)]; omega) | decide)⟩⟩, trivial⟩, ⟨⟨trivial, trivial⟩, trivial⟩⟩⟩⟩⟩⟩) ?_
          change Tri _ _ _ _ _ _
          refine Tri.region' [(17, .i .i64 ((k1 + 1 : Nat) : Int))] none [7, 6, 5, 0, 1] [496, 400] ((True ∧ True) ∧ ((True ∧ ((iAdd .i64 ((k1 : Nat) : Int) 1) = ((k1 + 1 : Nat) : Int))) ∧ ((True ∧ True) ∧ True)))
              ([(7, .sc (.i .i64 ((k1 + 1 : Nat) : Int))), (6, .sc (.sl 496 0 (z1.2.1 + 1) 1 none)), (5, .sc (.sl 400 0 (z1.1 + 1) 1 none)), (0, .sc (.ro .u8 p0)), (1, .sc (.ro .u8 p1))], [(496, .ints .u8 (z1.2.1 + 1) (z1.2.2.2 ++ [(iXor .u8 (sel (decide ((((k1 : Nat) : Int) : Int) < ((p0.length : Nat) : Int))) (p0.getD k1 0) 0) 92)])), (400, .ints .u8 (z1.1 + 1) (z1.2.2.1 ++ [(iXor .u8 (sel (decide ((((k1 : Nat) : Int) : Int) < ((p0.length : Nat) : Int))) (p0.getD k1 0) 0) 54)]))])
              576 (by kernel_rfl) rfl (by kernel_rfl) (⟨⟨trivial, trivial⟩, ⟨⟨trivial, (iAdd_nat (a := k1) (b := 1) (by omega))⟩, ⟨⟨trivial, trivial⟩, trivial⟩⟩⟩) ?_
          repeat (refine blkP_normal ?_)
          refine countP_normal (by omega) (⟨(show z1.1 + 1 = 1 * (k1 + 1) by omega), (show z1.2.1 + 1 = 1 * (k1 + 1) by omega)⟩) ?_
          exact Sub.ren (ns := [(400, 128), (496, 112)]) (kf := [5, 6, 7, 0, 1]) (by kernel_rfl) (by kernel_rfl)
      ·
        have h16' := of_decide_eq_false h16
        refine Tri.exit ?_
        have hend1 : k1 = 64 := by (have := of_decide_eq_false h16; omega)
        subst hend1; subst hz1
        change Tri _ _ _ _ _ _
        refine Tri.len 128 rfl (fun hl24 => ?_)
        refine Tri.len 112 rfl (fun hl25 => ?_)
        refine Tri.seq_region [] none [4] [272] ((True ∧ True) ∧ ((True ∧ True) ∧ ((True ∧ True) ∧ ((((((True ∧ (1 = 1)) ∧ ((0 < 1) ∧ (((((itr (F41l1 p0) 64 (0, 0, [], [])).1) + p1.length) * 1 ≤ 140737488355328) ∧ (((itr (F41l1 p0) 64 (0, 0, [], [])).1) + p1.length ≤ 140737488355328)))) ∧ (p1.length = p1.length * 1)) ∧ ((1 = 1) ∧ (0 + ((itr (F41l1 p0) 64 (0, 0, [], [])).1) * 1 = (itr (F41l1 p0) 64 (0, 0, [], [])).1))) ∧ True) ∧ (((((0 + (((itr (F41l1 p0) 64 (0, 0, [], [])).1) + p1.length) ≤ ((itr (F41l1 p0) 64 (0, 0, [], [])).1) + p1.length) ∧ True) ∧ ((part1 (((itr (F41l1 p0) 64 (0, 0, [], [])).2.2.1) ++ p1) (((itr (F41l1 p0) 64 (0, 0, [], [])).1) + p1.length) 0 (((itr (F41l1 p0) 64 (0, 0, [], [])).1) + p1.length)).length ≤ 100000000)) ∧ True) ∧ ((((((True ∧ (1 = 1)) ∧ ((0 < 1) ∧ (((((itr (F41l1 p0) 64 (0, 0, [], [])).2.1) + 32) * 1 ≤ 140737488355328) ∧ (((itr (F41l1 p0) 64 (0, 0, [], [])).2.1) + 32 ≤ 140737488355328)))) ∧ (32 = 32 * 1)) ∧ ((1 = 1) ∧ (0 + ((itr (F41l1 p0) 64 (0, 0, [], [])).2.1) * 1 = (itr (F41l1 p0) 64 (0, 0, [], [])).2.1))) ∧ True) ∧ (((((0 + (((itr (F41l1 p0) 64 (0, 0, [], [])).2.1) + 32) ≤ ((itr (F41l1 p0) 64 (0, 0, [], [])).2.1) + 32) ∧ True) ∧ ((part1 (((itr (F41l1 p0) 64 (0, 0, [], [])).2.2.2) ++ (F36w32 (part1 (((itr (F41l1 p0) 64 (0, 0, [], [])).2.2.1) ++ p1) (((itr (F41l1 p0) 64 (0, 0, [], [])).1) + p1.length) 0 (((itr (F41l1 p0) 64 (0, 0, [], [])).1) + p1.length)))) (((itr (F41l1 p0) 64 (0, 0, [], [])).2.1) + 32) 0 (((itr (F41l1 p0) 64 (0, 0, [], [])).2.1) + 32)).length ≤ 100000000)) ∧ True) ∧ ((True ∧ True) ∧ True))))))))
            ([(4, .sc (.sl 272 0 32 1 none))], [(272, .ints .u8 32 (F36w32 (part1 (((itr (F41l1 p0) 64 (0, 0, [], [])).2.2.2) ++ (F36w32 (part1 (((itr (F41l1 p0) 64 (0, 0, [], [])).2.2.1) ++ p1) (((itr (F41l1 p0) 64 (0, 0, [], [])).1) + p1.length) 0 (((itr (F41l1 p0) 64 (0, 0, [], [])).1) + p1.length)))) (((itr (F41l1 p0) 64 (0, 0, [], [])).2.1) + 32) 0 (((itr (F41l1 p0) 64 (0, 0, [], [])).2.1) + 32))))])
            304 (by kernel_rfl) rfl (by kernel_rfl) (⟨⟨trivial, trivial⟩, ⟨⟨trivial, trivial⟩, ⟨⟨trivial, trivial⟩, ⟨⟨⟨⟨⟨⟨trivial, (rfl)⟩, ⟨(by first | omega | (rw [adr_eq]; omega) | exact iAnd_nn _ _ | exact iSub_nn _ _ | exact part1_le (by omega) (by first | omega | (simp only [List.length_append]; omega)) | (rw [iMul_i64 (by omega) (by omega)]; omega) | decide), ⟨(by first | omega | (rw [adr_eq]; omega) | exact iAnd_nn _ _ | exact iSub_nn _ _ | exact part1_le (by omega) (by first | omega | (simp only [List.length_append]; omega)) | (rw [iMul_i64 (by omega) (by omega)]; omega) | decide), (by first | omega | (rw [adr_eq]; omega) | exact iAnd_nn _ _ | exact iSub_nn _ _ | exact part1_le (by omega) (by first | omega | (simp only [List.length_append]; omega)) | (rw [iMul_i64 (by omega) (by omega)]; omega) | decide)⟩⟩⟩, (by first | omega | (rw [adr_eq]; omega) | exact iAnd_nn _ _ | exact iSub_nn _ _ | exact part1_le (by omega) (by first | omega | (simp only [List.length_append]; omega)) | (rw [iMul_i64 (by omega) (by omega)]; omega) | decide)⟩, ⟨(rfl), (by first | omega | (rw [adr_eq]; omega) | exact iAnd_nn _ _ | exact iSub_nn _ _ | exact part1_le (by omega) (by first | omega | (simp only [List.length_append]; omega)) | (rw [iMul_i64 (by omega) (by omega)]; omega) | decide)⟩⟩, trivial⟩, ⟨⟨⟨⟨(by first | omega | (rw [adr_eq]; omega) | exact iAnd_nn _ _ | exact iSub_nn _ _ | exact part1_le (by omega) (by first | omega | (simp only [List.length_append]; omega)) | (rw [iMul_i64 (by omega) (by omega)]; omega) | decide), trivial⟩, (by first | omega | exact part1_le (by omega) (by first | omega | (simp only [List.length_append, len36w32]; omega)))⟩, trivial⟩, ⟨⟨⟨⟨⟨⟨trivial, (rfl)⟩, ⟨(by first | omega | (rw [adr_eq]; omega) | exact iAnd_nn _ _ | exact iSub_nn _ _ | exact part1_le (by omega) (by first | omega | (simp only [List.length_append]; omega)) | (rw [iMul_i64 (by omega) (by omega)]; omega) | decide), ⟨(by first | omega | (rw [adr_eq]; omega) | exact iAnd_nn _ _ | exact iSub_nn _ _ | exact part1_le (by omega) (by first | omega | (simp only [List.length_append]; omega)) | (rw [iMul_i64 (by omega) (by omega)]; omega) | decide), (by first | omega | (rw [adr_eq]; omega) | exact iAnd_nn _ _ | exact iSub_nn _ _ | exact part1_le (by omega) (by first | omega | (simp only [List.length_append]; omega)) | (rw [iMul_i64 (by omega) (by omega)]; omega) | decide)⟩⟩⟩, (by first | omega | (rw [adr_eq]; omega) | exact iAnd_nn _ _ | exact iSub_nn _ _ | exact part1_le (by omega) (by first | omega | (simp only [List.length_append]; omega)) | (rw [iMul_i64 (by omega) (by omega)]; omega) | decide)⟩, ⟨(rfl), (by first | omega | (rw [adr_eq]; omega) | exact iAnd_nn _ _ | exact iSub_nn _ _ | exact part1_le (by omega) (by first | omega | (simp only [List.length_append]; omega)) | (rw [iMul_i64 (by omega) (by omega)]; omega) | decide)⟩⟩, trivial⟩, ⟨⟨⟨⟨(by first | omega | (rw [adr_eq]; omega) | exact iAnd_nn _ _ | exact iSub_nn _ _ | exact part1_le (by omega) (by first | omega | (simp only [List.length_append]; omega)) | (rw [iMul_i64 (by omega) (by omega)]; omega) | decide), trivial⟩, (by first | omega | exact part1_le (by omega) (by first | omega | (simp only [List.length_append, len36w32]; omega)))⟩, trivial⟩, ⟨⟨trivial, trivial⟩, trivial⟩⟩⟩⟩⟩⟩⟩⟩) ?_
        refine Tri.ret ?_
        repeat (first | refine thenP_ret ?_ | refine blkP_ret ?_ | refine countP_ret ?_ | refine joinP_ret ?_)
        refine endP.conv (r' := ⟨.sc (.sl 0 0 32 1 none), [.ints .u8 32 (F36w32 (part1 (((itr (F41l1 p0) 64 (0, 0, [], [])).2.2.2) ++ (F36w32 (part1 (((itr (F41l1 p0) 64 (0, 0, [], [])).2.2.1) ++ p1) (((itr (F41l1 p0) 64 (0, 0, [], [])).1) + p1.length) 0 (((itr (F41l1 p0) 64 (0, 0, [], [])).1) + p1.length)))) (((itr (F41l1 p0) 64 (0, 0, [], [])).2.1) + 32) 0 (((itr (F41l1 p0) 64 (0, 0, [], [])).2.1) + 32)))]⟩) (by simp only [F41, h1, sel_true, sel_false]) ?_
        exact endP.ret [(272, 0)] (True ∧ True) (by kernel_rfl) (by kernel_rfl) (by kernel_rfl) ⟨trivial, trivial⟩


noncomputable def F33 : Bool :=
  (sel (((F34 (part1 [97, 98, 99] 3 0 3)).getD 0 0 : Int) == 186) (sel (((F34 (part1 [97, 98, 99] 3 0 3)).getD 31 0 : Int) == 173) (sel (((F35 ([] : List Int)).getD 0 0 : Int) == 207) (((F35 ([] : List Int)).getD 63 0 : Int) == 62) false) false) false)

noncomputable def S33 : List AV → Option (Prop × Ret)
  | [] => some (True, ⟨.sc (.b (F33)), []⟩)
  | _ => none

noncomputable def B33 : Bs := { P := Go.Proofs.Tryd.prog, G := gD, tab := tabOf [(34, ⟨[.ro .u8], 0, S34⟩), (35, ⟨[.ro .u8], 0, S35⟩)], n := 25 }

theorem B33.ok : B33.Ok := ⟨tabOk (P := Go.Proofs.Tryd.prog) (G := gD) (l := [(34, ⟨[.ro .u8], 0, S34⟩), (35, ⟨[.ro .u8], 0, S35⟩)]) (And.intro K34 (And.intro K35 True.intro)), mixed⟩

theorem K33 : Known Go.Proofs.Tryd.prog gD 33 ⟨[], 0, S33⟩ := by
  refine Known.walk (B := B33) (fn := Go.Proofs.Tryd.f33) B33.ok (by kernel_rfl) rfl (by kernel_rfl) (by kernel_rfl) (by decide) ?_ ?_
  · intro vs C r h
    simp only at h
    unfold S33 at h
    split at h
    · cases h; rfl
    · cases h
  · intro E args C r h hC hlen
    simp only at h
    unfold S33 at h
    split at h
    rotate_left
    · cases h
    skip
    cases h
    simp only [lens] at hlen
    refine ⟨show 0 ≤ 25 from by decide, ?_⟩
    refine Tri.sub (Sub.of_eq (show _ = ([], []) from rfl)) ?_
    refine Tri.seq_region [] none [] [] ((True ∧ True) ∧ True)
        ([], [])
        16 (by kernel_rfl) rfl (by kernel_rfl) (⟨⟨trivial, trivial⟩, trivial⟩) ?_
    refine Tri.seq_region [] none [2, 1] [96, 80] ((((((0 < 3) ∧ (1 = 1)) ∧ (((1 < 3) ∧ (1 = 1)) ∧ (((2 < 3) ∧ (1 = 1)) ∧ True))) ∧ ((3 * 1 ≤ 16777216) ∧ (1 = 1))) ∧ True) ∧ ((((3 = 3) ∧ ((0 = 0) ∧ (0 < 3))) ∧ True) ∧ (((((0 + 3 ≤ 3) ∧ True) ∧ ((part1 [97, 98, 99] 3 0 3).length ≤ 100000000)) ∧ True) ∧ (((True ∧ (([] : List Int).length ≤ 100000000)) ∧ True) ∧ ((True ∧ True) ∧ ((True ∧ True) ∧ (((True ∧ (32 = 32)) ∧ True) ∧ (((True ∧ (64 = 64)) ∧ True) ∧ True))))))))
        ([(2, .sc (.p 96 0)), (1, .sc (.p 80 0))], [(96, .ints .u8 64 (F35 ([] : List Int))), (80, .ints .u8 32 (F34 (part1 [97, 98, 99] 3 0 3)))])
        144 (by kernel_rfl) rfl (by kernel_rfl) (⟨⟨⟨⟨⟨(by first | omega | (rw [adr_eq]; omega) | exact iAnd_nn _ _ | exact iSub_nn _ _ | exact part1_le (by omega) (by first | omega | (simp only [List.length_append]; omega)) | (rw [iMul_i64 (by omega) (by omega)]; omega) | decide), (rfl)⟩, ⟨⟨(by first | omega | (rw [adr_eq]; omega) | exact iAnd_nn _ _ | exact iSub_nn _ _ | exact part1_le (by omega) (by first | omega | (simp only [List.length_append]; omega)) | (rw [iMul_i64 (by omega) (by omega)]; omega) | decide), (rfl)⟩, ⟨⟨(by first | omega | (rw [adr_eq]; omega) | exact iAnd_nn _ _ | exact iSub_nn _ _ | exact part1_le (by omega) (by first | omega | (simp only [List.length_append]; omega)) | (rw [iMul_i64 (by omega) (by omega)]; omega) | decide), (rfl)⟩, trivial⟩⟩⟩, ⟨(by first | omega | (rw [adr_eq]; omega) | exact iAnd_nn _ _ | exact iSub_nn _ _ | exact part1_le (by omega) (by first | omega | (simp only [List.length_append]; omega)) | (rw [iMul_i64 (by omega) (by omega)]; omega) | decide), (rfl)⟩⟩, trivial⟩, ⟨⟨⟨(rfl), ⟨(rfl), (by first | omega | (rw [adr_eq]; omega) | exact iAnd_nn _ _ | exact iSub_nn _ _ | exact part1_le (by omega) (by first | omega | (simp only [List.length_append]; omega)) | (rw [iMul_i64 (by omega) (by omega)]; omega) | decide)⟩⟩, trivial⟩, ⟨⟨⟨⟨(by first | omega | (rw [adr_eq]; omega) | exact iAnd_nn _ _ | exact iSub_nn _ _ | exact part1_le (by omega) (by first | omega | (simp only [List.length_append]; omega)) | (rw [iMul_i64 (by omega) (by omega)]; omega) | decide), trivial⟩, (by first | omega | (rw [adr_eq]; omega) | exact iAnd_nn _ _ | exact iSub_nn _ _ | exact part1_le (by omega) (by first | omega | (simp only [List.length_append]; omega)) | (rw [iMul_i64 (by omega) (by omega)]; omega) | decide)⟩, trivial⟩, ⟨⟨⟨trivial, (by first | omega | (rw [adr_eq]; omega) | exact iAnd_nn _ _ | exact iSub_nn _ _ | exact part1_le (by omega) (by first | omega | (simp only [List.length_append]; omega)) | (rw [iMul_i64 (by omega) (by omega)]; omega) | decide)⟩, trivial⟩, ⟨⟨trivial, trivial⟩, ⟨⟨trivial, trivial⟩, ⟨⟨⟨trivial, (rfl)⟩, trivial⟩, ⟨⟨⟨trivial, (rfl)⟩, trivial⟩, trivial⟩⟩⟩⟩⟩⟩⟩⟩) ?_
    refine Tri.split (((F34 (part1 [97, 98, 99] 3 0 3)).getD 0 0 : Int) == 186) (fun h1 => ?_) (fun h1 => ?_)
    ·
      have h1' := eq_true_i h1
      refine Tri.split (((F34 (part1 [97, 98, 99] 3 0 3)).getD 31 0 : Int) == 173) (fun h2 => ?_) (fun h2 => ?_)
      ·
        have h2' := eq_true_i h2
        refine Tri.split (((F35 ([] : List Int)).getD 0 0 : Int) == 207) (fun h3 => ?_) (fun h3 => ?_)
        ·
          have h3' := eq_true_i h3
          refine Tri.len 96 rfl (fun hl4 => ?_)
          refine Tri.len 80 rfl (fun hl5 => ?_)
          refine Tri.seq_region [(10, .b true), (15, .b true), (20, .b true)] none [0] [] ((((0 : Int) ≤ 0 ∧ 0 < ((32 : Nat) : Int)) ∧ True) ∧ (((0 < 32) ∧ True) ∧ ((True ∧ True) ∧ ((True ∧ ((((F34 (part1 [97, 98, 99] 3 0 3)).getD 0 0 : Int) == 186) = true)) ∧ ((((0 : Int) ≤ 31 ∧ 31 < ((32 : Nat) : Int)) ∧ True) ∧ (((31 < 32) ∧ True) ∧ ((True ∧ True) ∧ ((True ∧ True) ∧ ((True ∧ ((((F34 (part1 [97, 98, 99] 3 0 3)).getD 31 0 : Int) == 173) = true)) ∧ ((((0 : Int) ≤ 0 ∧ 0 < ((64 : Nat) : Int)) ∧ True) ∧ (((0 < 64) ∧ True) ∧ ((True ∧ True) ∧ ((True ∧ True) ∧ ((True ∧ ((((F35 ([] : List Int)).getD 0 0 : Int) == 207) = true)) ∧ ((((0 : Int) ≤ 63 ∧ 63 < ((64 : Nat) : Int)) ∧ True) ∧ (((63 < 64) ∧ True) ∧ ((True ∧ True) ∧ ((True ∧ True) ∧ ((True ∧ True) ∧ True)))))))))))))))))))
              ([(0, .sc (.b (((F35 ([] : List Int)).getD 63 0 : Int) == 62)))], [])
              448 (by kernel_rfl) rfl (by kernel_rfl) (⟨⟨(by first | omega | (rw [adr_eq]; omega) | exact iAnd_nn _ _ | exact iSub_nn _ _ | exact part1_le (by omega) (by first | omega | (simp only [List.length_append]; omega)) | (rw [iMul_i64 (by omega) (by omega)]; omega) | decide), trivial⟩, ⟨⟨(by first | omega | (rw [adr_eq]; omega) | exact iAnd_nn _ _ | exact iSub_nn _ _ | exact part1_le (by omega) (by first | omega | (simp only [List.length_append]; omega)) | (rw [iMul_i64 (by omega) (by omega)]; omega) | decide), trivial⟩, ⟨⟨trivial, trivial⟩, ⟨⟨trivial, (h1)⟩, ⟨⟨(by first | omega | (rw [adr_eq]; omega) | exact iAnd_nn _ _ | exact iSub_nn _ _ | exact part1_le (by omega) (by first | omega | (simp only [List.length_append]; omega)) | (rw [iMul_i64 (by omega) (by omega)]; omega) | decide), trivial⟩, ⟨⟨(by first | omega | (rw [adr_eq]; omega) | exact iAnd_nn _ _ | exact iSub_nn _ _ | exact part1_le (by omega) (by first | omega | (simp only [List.length_append]; omega)) | (rw [iMul_i64 (by omega) (by omega)]; omega) | decide), trivial⟩, ⟨⟨trivial, trivial⟩, ⟨⟨trivial, trivial⟩, ⟨⟨trivial, (h2)⟩, ⟨⟨(by first | omega | (rw [adr_eq]; omega) | exact iAnd_nn _ _ | exact iSub_nn _ _ | exact part1_le (by omega) (by first | omega | (simp only [List.length_append]; omega)) | (rw [iMul_i64 (by omega) (by omega)]; omega) | decide), trivial⟩, ⟨⟨(by first | omega | (rw [adr_eq]; omega) | exact iAnd_nn _ _ | exact iSub_nn _ _ | exact part1_le (by omega) (by first | omega | (simp only [List.length_append]; omega)) | (rw [iMul_i64 (by omega) (by omega)]; omega) | decide), trivial⟩, ⟨⟨trivial, trivial⟩, ⟨⟨trivial, trivial⟩, ⟨⟨trivial, (h3)⟩, ⟨⟨(by first | omega | (rw [adr_eq]; omega) | exact iAnd_nn _ _ | exact iSub_nn _ _ | exact part1_le (by omega) (by first | omega | (simp only [List.length_append]; omega)) | (rw [iMul_i64 (by omega) (by omega)]; omega) | decide), trivial⟩, ⟨⟨(by first | omega | (rw [adr_eq]; omega) | exact iAnd_nn _ _ | exact iSub_nn _ _ | exact part1_le (by omega) (by first | omega | (simp only [List.length_append]; omega)) | (rw [iMul_i64 (by omega) (by omega)]; omega) | decide), trivial⟩, ⟨⟨trivial, trivial⟩, ⟨⟨trivial, trivial⟩, ⟨⟨trivial, trivial⟩, trivial⟩⟩⟩⟩⟩⟩⟩⟩⟩⟩⟩⟩⟩⟩⟩⟩⟩⟩⟩) ?_
          refine Tri.ret ?_
          repeat (first | refine thenP_ret ?_ | refine blkP_ret ?_ | refine countP_ret ?_ | refine joinP_ret ?_)
          refine endP.conv (r' := ⟨.sc (.b (((F35 ([] : List Int)).getD 63 0 : Int) == 62)), []⟩) (by simp only [F33, h1, h2, h3, sel_true, sel_false]) ?_
          exact endP.ret [] (True ∧ True) (by kernel_rfl) (by kernel_rfl) (by kernel_rfl) ⟨trivial, trivial⟩
        ·
          have h3' := eq_false_i h3
          refine Tri.len 96 rfl (fun hl6 => ?_)
          refine Tri.len 80 rfl (fun hl7 => ?_)
          refine Tri.seq_region [(10, .b true), (15, .b true), (20, .b false)] none [0] [] ((((0 : Int) ≤ 0 ∧ 0 < ((32 : Nat) : Int)) ∧ True) ∧ (((0 < 32) ∧ True) ∧ ((True ∧ True) ∧ ((True ∧ ((((F34 (part1 [97, 98, 99] 3 0 3)).getD 0 0 : Int) == 186) = true)) ∧ ((((0 : Int) ≤ 31 ∧ 31 < ((32 : Nat) : Int)) ∧ True) ∧ (((31 < 32) ∧ True) ∧ ((True ∧ True) ∧ ((True ∧ True) ∧ ((True ∧ ((((F34 (part1 [97, 98, 99] 3 0 3)).getD 31 0 : Int) == 173) = true)) ∧ ((((0 : Int) ≤ 0 ∧ 0 < ((64 : Nat) : Int)) ∧ True) ∧ (((0 < 64) ∧ True) ∧ ((True ∧ True) ∧ ((True ∧ True) ∧ ((True ∧ ((((F35 ([] : List Int)).getD 0 0 : Int) == 207) = false)) ∧ ((True ∧ True) ∧ ((True ∧ True) ∧ ((True ∧ True) ∧ ((True ∧ True) ∧ ((True ∧ True) ∧ True)))))))))))))))))))
              ([(0, .sc (.b false))], [])
              448 (by kernel_rfl) rfl (by kernel_rfl) (⟨⟨(by first | omega | (rw [adr_eq]; omega) | exact iAnd_nn _ _ | exact iSub_nn _ _ | exact part1_le (by omega) (by first | omega | (simp only [List.length_append]; omega)) | (rw [iMul_i64 (by omega) (by omega)]; omega) | decide), trivial⟩, ⟨⟨(by first | omega | (rw [adr_eq]; omega) | exact iAnd_nn _ _ | exact iSub_nn _ _ | exact part1_le (by omega) (by first | omega | (simp only [List.length_append]; omega)) | (rw [iMul_i64 (by omega) (by omega)]; omega) | decide), trivial⟩, ⟨⟨trivial, trivial⟩, ⟨⟨trivial, (h1)⟩, ⟨⟨(by first | omega | (rw [adr_eq]; omega) | exact iAnd_nn _ _ | exact iSub_nn _ _ | exact part1_le (by omega) (by first | omega | (simp only [List.length_append]; omega)) | (rw [iMul_i64 (by omega) (by omega)]; omega) | decide), trivial⟩, ⟨⟨(by first | omega | (rw [adr_eq]; omega) | exact iAnd_nn _ _ | exact iSub_nn _ _ | exact part1_le (by omega) (by first | omega | (simp only [List.length_append]; omega)) | (rw [iMul_i64 (by omega) (by omega)]; omega) | decide), trivial⟩, ⟨⟨trivial, trivial⟩, ⟨⟨trivial, trivial⟩, ⟨⟨trivial, (h2)⟩, ⟨⟨(by first | omega | (rw [adr_eq]; omega) | exact iAnd_nn _ _ | exact iSub_nn _ _ | exact part1_le (by omega) (by first | omega | (simp only [List.length_append]; omega)) | (rw [iMul_i64 (by omega) (by omega)]; omega) | decide), trivial⟩, ⟨⟨(by first | omega | (rw [adr_eq]; omega) | exact iAnd_nn _ _ | exact iSub_nn _ _ | exact part1_le (by omega) (by first | omega | (simp only [List.length_append]; omega)) | (rw [iMul_i64 (by omega) (by omega)]; omega) | decide), trivial⟩, ⟨⟨trivial, trivial⟩, ⟨⟨trivial, trivial⟩, ⟨⟨trivial, (h3)⟩, ⟨⟨trivial, trivial⟩, ⟨⟨trivial, trivial⟩, ⟨⟨trivial, trivial⟩, ⟨⟨trivial, trivial⟩, ⟨⟨trivial, trivial⟩, trivial⟩⟩⟩⟩⟩⟩⟩⟩⟩⟩⟩⟩⟩⟩⟩⟩⟩⟩⟩) ?_
          refine Tri.ret ?_
          repeat (first | refine thenP_ret ?_ | refine blkP_ret ?_ | refine countP_ret ?_ | refine joinP_ret ?_)
          refine endP.conv (r' := ⟨.sc (.b false), []⟩) (by simp only [F33, h1, h2, h3, sel_true, sel_false]) ?_
          exact endP.ret [] (True ∧ True) (by kernel_rfl) (by kernel_rfl) (by kernel_rfl) ⟨trivial, trivial⟩
      ·
        have h2' := eq_false_i h2
        refine Tri.len 96 rfl (fun hl8 => ?_)
        refine Tri.len 80 rfl (fun hl9 => ?_)
        refine Tri.seq_region [(10, .b true), (15, .b false)] none [0] [] ((((0 : Int) ≤ 0 ∧ 0 < ((32 : Nat) : Int)) ∧ True) ∧ (((0 < 32) ∧ True) ∧ ((True ∧ True) ∧ ((True ∧ ((((F34 (part1 [97, 98, 99] 3 0 3)).getD 0 0 : Int) == 186) = true)) ∧ ((((0 : Int) ≤ 31 ∧ 31 < ((32 : Nat) : Int)) ∧ True) ∧ (((31 < 32) ∧ True) ∧ ((True ∧ True) ∧ ((True ∧ True) ∧ ((True ∧ ((((F34 (part1 [97, 98, 99] 3 0 3)).getD 31 0 : Int) == 173) = false)) ∧ ((True ∧ True) ∧ ((True ∧ True) ∧ ((True ∧ True) ∧ ((True ∧ True) ∧ ((True ∧ True) ∧ ((True ∧ True) ∧ ((True ∧ True) ∧ ((True ∧ True) ∧ ((True ∧ True) ∧ ((True ∧ True) ∧ True)))))))))))))))))))
            ([(0, .sc (.b false))], [])
            448 (by kernel_rfl) rfl (by kernel_rfl) (⟨⟨(by first | omega | (rw [adr_eq]; omega) | exact iAnd_nn _ _ | exact iSub_nn _ _ | exact part1_le (by omega) (by first | omega | (simp only [List.length_append]; omega)) | (rw [iMul_i64 (by omega) (by omega)]; omega) | decide), trivial⟩, ⟨⟨(by first | omega | (rw [adr_eq]; omega) | exact iAnd_nn _ _ | exact iSub_nn _ _ | exact part1_le (by omega) (by first | omega | (simp only [List.length_append]; omega)) | (rw [iMul_i64 (by omega) (by omega)]; omega) | decide), trivial⟩, ⟨⟨trivial, trivial⟩, ⟨⟨trivial, (h1)⟩, ⟨⟨(by first | omega | (rw [adr_eq]; omega) | exact iAnd_nn _ _ | exact iSub_nn _ _ | exact part1_le (by omega) (by first | omega | (simp only [List.length_append]; omega)) | (rw [iMul_i64 (by omega) (by omega)]; omega) | decide), trivial⟩, ⟨⟨(by first | omega | (rw [adr_eq]; omega) | exact iAnd_nn _ _ | exact iSub_nn _ _ | exact part1_le (by omega) (by first | omega | (simp only [List.length_append]; omega)) | (rw [iMul_i64 (by omega) (by omega)]; omega) | decide), trivial⟩, ⟨⟨trivial, trivial⟩, ⟨⟨trivial, trivial⟩, ⟨⟨trivial, (h2)⟩, ⟨⟨trivial, trivial⟩, ⟨⟨trivial, trivial⟩, ⟨⟨trivial, trivial⟩, ⟨⟨trivial, trivial⟩, ⟨⟨trivial, trivial⟩, ⟨⟨trivial, trivial⟩, ⟨⟨trivial, trivial⟩, ⟨⟨trivial, trivial⟩, ⟨⟨trivial, trivial⟩, ⟨⟨trivial, trivial⟩, trivial⟩⟩⟩⟩⟩⟩⟩⟩⟩⟩⟩⟩⟩⟩⟩⟩⟩⟩⟩) ?_
        refine Tri.ret ?_
        repeat (first | refine thenP_ret ?_ | refine blkP_ret ?_ | refine countP_ret ?_ | refine joinP_ret ?_)
        refine endP.conv (r' := ⟨.sc (.b false), []⟩) (by simp only [F33, h1, h2, sel_true, sel_false]) ?_
        exact endP.ret [] (True ∧ True) (by kernel_rfl) (by kernel_rfl) (by kernel_rfl) ⟨trivial, trivial⟩
    ·
      have h1' := eq_false_i h1
      refine Tri.len 96 rfl (fun hl10 => ?_)
      refine Tri.len 80 rfl (fun hl11 => ?_)
      refine Tri.seq_region [(10, .b false)] none [0] [] ((((0 : Int) ≤ 0 ∧ 0 < ((32 : Nat) : Int)) ∧ True) ∧ (((0 < 32) ∧ True) ∧ ((True ∧ True) ∧ ((True ∧ ((((F34 (part1 [97, 98, 99] 3 0 3)).getD 0 0 : Int) == 186) = false)) ∧ ((True ∧ True) ∧ ((True ∧ True) ∧ ((True ∧ True) ∧ ((True ∧ True) ∧ ((True ∧ True) ∧ ((True ∧ True) ∧ ((True ∧ True) ∧ ((True ∧ True) ∧ ((True ∧ True) ∧ ((True ∧ True) ∧ ((True ∧ True) ∧ ((True ∧ True) ∧ ((True ∧ True) ∧ ((True ∧ True) ∧ ((True ∧ True) ∧ True)))))))))))))))))))
          ([(0, .sc (.b false))], [])
          448 (by kernel_rfl) rfl (by kernel_rfl) (⟨⟨(by first | omega | (rw [adr_eq]; omega) | exact iAnd_nn _ _ | exact iSub_nn _ _ | exact part1_le (by omega) (by first | omega | (simp only [List.length_append]; omega)) | (rw [iMul_i64 (by omega) (by omega)]; omega) | decide), trivial⟩, ⟨⟨(by first | omega | (rw [adr_eq]; omega) | exact iAnd_nn _ _ | exact iSub_nn _ _ | exact part1_le (by omega) (by first | omega | (simp only [List.length_append]; omega)) | (rw [iMul_i64 (by omega) (by omega)]; omega) | decide), trivial⟩, ⟨⟨trivial, trivial⟩, ⟨⟨trivial, (h1)⟩, ⟨⟨trivial, trivial⟩, ⟨⟨trivial, trivial⟩, ⟨⟨trivial, trivial⟩, ⟨⟨trivial, trivial⟩, ⟨⟨trivial, trivial⟩, ⟨⟨trivial, trivial⟩, ⟨⟨trivial, trivial⟩, ⟨⟨trivial, trivial⟩, ⟨⟨trivial, trivial⟩, ⟨⟨trivial, trivial⟩, ⟨⟨trivial, trivial⟩, ⟨⟨trivial, trivial⟩, ⟨⟨trivial, trivial⟩, ⟨⟨trivial, trivial⟩, ⟨⟨trivial, trivial⟩, trivial⟩⟩⟩⟩⟩⟩⟩⟩⟩⟩⟩⟩⟩⟩⟩⟩⟩⟩⟩) ?_
      refine Tri.ret ?_
      repeat (first | refine thenP_ret ?_ | refine blkP_ret ?_ | refine countP_ret ?_ | refine joinP_ret ?_)
      refine endP.conv (r' := ⟨.sc (.b false), []⟩) (by simp only [F33, h1, sel_true, sel_false]) ?_
      exact endP.ret [] (True ∧ True) (by kernel_rfl) (by kernel_rfl) (by kernel_rfl) ⟨trivial, trivial⟩

end Go.Vm
