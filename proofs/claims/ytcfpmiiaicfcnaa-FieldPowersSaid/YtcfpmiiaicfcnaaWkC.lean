/- What the functions compute, and that they do: walked by a printed text. -/
import Derived.Test.YtcfpmiiaicfcnaaWkB
set_option linter.unusedVariables false
set_option linter.unusedSimpArgs false
set_option maxRecDepth 4000
namespace Go.Vm
open Go

noncomputable def F15 (p0 : List Int) (p1 : List Int) : List Int :=
  (F23 p0)

noncomputable def F15_1 (p0 : List Int) (p1 : List Int) : List Int :=
  (F23 p1)

noncomputable def F15_2 (p0 : List Int) (p1 : List Int) : List Int :=
  (sel (!(F23_1 p0)) [0, 0, 0, 0, 0, 0, 0, 0, 0, 0, 0, 0, 0, 0, 0, 0] (sel (!(F23_1 p1)) [0, 0, 0, 0, 0, 0, 0, 0, 0, 0, 0, 0, 0, 0, 0, 0] (F24 p0)))

noncomputable def F15_3 (p0 : List Int) (p1 : List Int) : List Int :=
  (sel (!(F23_1 p0)) [0, 0, 0, 0, 0, 0, 0, 0, 0, 0, 0, 0, 0, 0, 0, 0] (sel (!(F23_1 p1)) [0, 0, 0, 0, 0, 0, 0, 0, 0, 0, 0, 0, 0, 0, 0, 0] (F24 p1)))

noncomputable def F15_4 (p0 : List Int) (p1 : List Int) : Bool :=
  (sel (!(F23_1 p0)) false (sel (!(F23_1 p1)) false true))

noncomputable def S15 : List AV → Option (Prop × Ret)
  | [.sc (.ro .u8 p0), .sc (.ro .u8 p1)] => some (True, ⟨.tup [.ints .u64 5 (F15 p0 p1), .ints .u64 5 (F15_1 p0 p1), .ints .i64 16 (F15_2 p0 p1), .ints .i64 16 (F15_3 p0 p1), .sc (.b (F15_4 p0 p1))], []⟩)
  | _ => none

noncomputable def B15 : Bs := { P := Go.Proofs.Try.prog, G := noG, tab := tabOf [(23, ⟨[.ro .u8], 0, S23⟩), (24, ⟨[.ro .u8], 0, S24⟩)], n := 39 }

theorem B15.ok : B15.Ok := ⟨tabOk (P := Go.Proofs.Try.prog) (G := noG) (l := [(23, ⟨[.ro .u8], 0, S23⟩), (24, ⟨[.ro .u8], 0, S24⟩)]) (And.intro K23 (And.intro K24 True.intro)), mixed⟩

theorem K15 : Known Go.Proofs.Try.prog noG 15 ⟨[.ro .u8, .ro .u8], 0, S15⟩ := by
  refine Known.walk (B := B15) (fn := Go.Proofs.Try.f15) B15.ok (by kernel_rfl) rfl (by kernel_rfl) (by kernel_rfl) (by decide) ?_ ?_
  · intro vs C r h
    simp only at h
    unfold S15 at h
    split at h
    · cases h; rfl
    · cases h
  · intro E args C r h hC hlen
    simp only at h
    unfold S15 at h
    split at h
    rotate_left
    · cases h
    rename_i p0 p1
    cases h
    simp only [lens] at hlen
    refine ⟨show 2 ≤ 39 from by decide, ?_⟩
    refine Tri.sub (Sub.of_eq (show _ = ([(0, .sc (.ro .u8 p0)), (1, .sc (.ro .u8 p1))], []) from rfl)) ?_
    refine Tri.seq_region [] none [7, 6, 5, 4, 0, 1] [48, 32, 16, 0] ((True ∧ True) ∧ ((True ∧ True) ∧ ((True ∧ True) ∧ ((True ∧ True) ∧ ((True ∧ True) ∧ True)))))
        ([(7, .sc (.p 48 0)), (6, .sc (.p 32 0)), (5, .sc (.p 16 0)), (4, .sc (.p 0 0)), (0, .sc (.ro .u8 p0)), (1, .sc (.ro .u8 p1))], [(48, .ints .i64 16 [0, 0, 0, 0, 0, 0, 0, 0, 0, 0, 0, 0, 0, 0, 0, 0]), (32, .ints .i64 16 [0, 0, 0, 0, 0, 0, 0, 0, 0, 0, 0, 0, 0, 0, 0, 0]), (16, .ints .u64 5 [0, 0, 0, 0, 0]), (0, .ints .u64 5 [0, 0, 0, 0, 0])])
        80 (by kernel_rfl) rfl (by kernel_rfl) (⟨⟨trivial, trivial⟩, ⟨⟨trivial, trivial⟩, ⟨⟨trivial, trivial⟩, ⟨⟨trivial, trivial⟩, ⟨⟨trivial, trivial⟩, trivial⟩⟩⟩⟩⟩) ?_
    refine Tri.seq_region [] none [10, 9, 7, 6, 5, 4, 0, 1] [160, 48, 32, 16, 0] ((True ∧ True) ∧ (((True ∧ True) ∧ True) ∧ ((True ∧ True) ∧ ((True ∧ True) ∧ ((True ∧ True) ∧ ((True ∧ True) ∧ (((True ∧ (5 = 5)) ∧ True) ∧ ((True ∧ True) ∧ True))))))))
        ([(10, .sc (.b (F23_1 p0))), (9, .sc (.p 160 0)), (7, .sc (.p 48 0)), (6, .sc (.p 32 0)), (5, .sc (.p 16 0)), (4, .sc (.p 0 0)), (0, .sc (.ro .u8 p0)), (1, .sc (.ro .u8 p1))], [(160, .ints .u64 5 (F23 p0)), (48, .ints .i64 16 [0, 0, 0, 0, 0, 0, 0, 0, 0, 0, 0, 0, 0, 0, 0, 0]), (32, .ints .i64 16 [0, 0, 0, 0, 0, 0, 0, 0, 0, 0, 0, 0, 0, 0, 0, 0]), (16, .ints .u64 5 [0, 0, 0, 0, 0]), (0, .ints .u64 5 [0, 0, 0, 0, 0])])
        208 (by kernel_rfl) rfl (by kernel_rfl) (⟨⟨trivial, trivial⟩, ⟨⟨⟨trivial, trivial⟩, trivial⟩, ⟨⟨trivial, trivial⟩, ⟨⟨trivial, trivial⟩, ⟨⟨trivial, trivial⟩, ⟨⟨trivial, trivial⟩, ⟨⟨⟨trivial, (rfl)⟩, trivial⟩, ⟨⟨trivial, trivial⟩, trivial⟩⟩⟩⟩⟩⟩⟩⟩) ?_
    refine Tri.seq_region [] none [12, 11, 10, 9, 7, 6, 5, 4, 0, 1] [288, 160, 48, 32, 16, 0] ((True ∧ True) ∧ (((True ∧ True) ∧ True) ∧ ((True ∧ True) ∧ ((True ∧ True) ∧ ((True ∧ True) ∧ ((True ∧ True) ∧ (((True ∧ (5 = 5)) ∧ True) ∧ ((True ∧ True) ∧ True))))))))
        ([(12, .sc (.b (F23_1 p1))), (11, .sc (.p 288 0)), (10, .sc (.b (F23_1 p0))), (9, .sc (.p 160 0)), (7, .sc (.p 48 0)), (6, .sc (.p 32 0)), (5, .sc (.p 16 0)), (4, .sc (.p 0 0)), (0, .sc (.ro .u8 p0)), (1, .sc (.ro .u8 p1))], [(288, .ints .u64 5 (F23 p1)), (160, .ints .u64 5 (F23 p0)), (48, .ints .i64 16 [0, 0, 0, 0, 0, 0, 0, 0, 0, 0, 0, 0, 0, 0, 0, 0]), (32, .ints .i64 16 [0, 0, 0, 0, 0, 0, 0, 0, 0, 0, 0, 0, 0, 0, 0, 0]), (16, .ints .u64 5 [0, 0, 0, 0, 0]), (0, .ints .u64 5 [0, 0, 0, 0, 0])])
        336 (by kernel_rfl) rfl (by kernel_rfl) (⟨⟨trivial, trivial⟩, ⟨⟨⟨trivial, trivial⟩, trivial⟩, ⟨⟨trivial, trivial⟩, ⟨⟨trivial, trivial⟩, ⟨⟨trivial, trivial⟩, ⟨⟨trivial, trivial⟩, ⟨⟨⟨trivial, (rfl)⟩, trivial⟩, ⟨⟨trivial, trivial⟩, trivial⟩⟩⟩⟩⟩⟩⟩⟩) ?_
    refine Tri.seq ?_
    refine Tri.split (!(F23_1 p0)) (fun h1 => ?_) (fun h1 => ?_)
    ·
      refine Tri.seq_region [(25, .b true)] none [28, 11, 9, 7, 6, 5, 4, 0, 1] [288, 160, 48, 32, 16, 0] ((True ∧ True) ∧ ((True ∧ True) ∧ ((True ∧ ((!(F23_1 p0)) = true)) ∧ ((True ∧ True) ∧ ((True ∧ True) ∧ ((True ∧ True) ∧ True))))))
          ([(28, .sc (.b true)), (11, .sc (.p 288 0)), (9, .sc (.p 160 0)), (7, .sc (.p 48 0)), (6, .sc (.p 32 0)), (5, .sc (.p 16 0)), (4, .sc (.p 0 0)), (0, .sc (.ro .u8 p0)), (1, .sc (.ro .u8 p1))], [(288, .ints .u64 5 (F23 p1)), (160, .ints .u64 5 (F23 p0)), (48, .ints .i64 16 [0, 0, 0, 0, 0, 0, 0, 0, 0, 0, 0, 0, 0, 0, 0, 0]), (32, .ints .i64 16 [0, 0, 0, 0, 0, 0, 0, 0, 0, 0, 0, 0, 0, 0, 0, 0]), (16, .ints .u64 5 [0, 0, 0, 0, 0]), (0, .ints .u64 5 [0, 0, 0, 0, 0])])
          432 (by kernel_rfl) rfl (by kernel_rfl) (⟨⟨trivial, trivial⟩, ⟨⟨trivial, trivial⟩, ⟨⟨trivial, (h1)⟩, ⟨⟨trivial, trivial⟩, ⟨⟨trivial, trivial⟩, ⟨⟨trivial, trivial⟩, trivial⟩⟩⟩⟩⟩⟩) ?_
      refine Tri.cond_true (by kernel_rfl) ?_
      refine Tri.seq_region [] (some [0, 0, 0, 0, 1, 19, 55, 127, 255]) [8, 7, 6, 5, 4] [48, 32, 16, 0] ((True ∧ True) ∧ ((True ∧ True) ∧ ((True ∧ True) ∧ ((True ∧ True) ∧ (((True ∧ (5 = 5)) ∧ True) ∧ (((True ∧ (5 = 5)) ∧ True) ∧ (((True ∧ (16 = 16)) ∧ True) ∧ (((True ∧ (16 = 16)) ∧ True) ∧ ((True ∧ True) ∧ True)))))))))
          ([(8, .sc (.b false)), (7, .sc (.p 48 0)), (6, .sc (.p 32 0)), (5, .sc (.p 16 0)), (4, .sc (.p 0 0))], [(48, .ints .i64 16 [0, 0, 0, 0, 0, 0, 0, 0, 0, 0, 0, 0, 0, 0, 0, 0]), (32, .ints .i64 16 [0, 0, 0, 0, 0, 0, 0, 0, 0, 0, 0, 0, 0, 0, 0, 0]), (16, .ints .u64 5 (F23 p1)), (0, .ints .u64 5 (F23 p0))])
          576 (by kernel_rfl) rfl (by kernel_rfl) (⟨⟨trivial, trivial⟩, ⟨⟨trivial, trivial⟩, ⟨⟨trivial, trivial⟩, ⟨⟨trivial, trivial⟩, ⟨⟨⟨trivial, (rfl)⟩, trivial⟩, ⟨⟨⟨trivial, (rfl)⟩, trivial⟩, ⟨⟨⟨trivial, (rfl)⟩, trivial⟩, ⟨⟨⟨trivial, (rfl)⟩, trivial⟩, ⟨⟨trivial, trivial⟩, trivial⟩⟩⟩⟩⟩⟩⟩⟩⟩) ?_
      refine Tri.ret ?_
      repeat (first | refine thenP_ret ?_ | refine blkP_ret ?_ | refine countP_ret ?_ | refine joinP_ret ?_)
      refine endP.conv (r' := ⟨.tup [.ints .u64 5 (F23 p0), .ints .u64 5 (F23 p1), .ints .i64 16 [0, 0, 0, 0, 0, 0, 0, 0, 0, 0, 0, 0, 0, 0, 0, 0], .ints .i64 16 [0, 0, 0, 0, 0, 0, 0, 0, 0, 0, 0, 0, 0, 0, 0, 0], .sc (.b false)], []⟩) (by simp only [F15, F15_1, F15_2, F15_3, F15_4, h1, sel_true, sel_false]) ?_
      exact endP.ret [] (True ∧ (True ∧ (True ∧ (True ∧ (True ∧ True))))) (by kernel_rfl) (by kernel_rfl) (by kernel_rfl) ⟨trivial, ⟨trivial, ⟨trivial, ⟨trivial, ⟨trivial, trivial⟩⟩⟩⟩⟩
    ·
      refine Tri.seq_region [(25, .b false)] none [28, 11, 9, 7, 6, 5, 4, 0, 1] [288, 160, 48, 32, 16, 0] ((True ∧ True) ∧ ((True ∧ True) ∧ ((True ∧ ((!(F23_1 p0)) = false)) ∧ ((True ∧ True) ∧ ((True ∧ True) ∧ ((True ∧ True) ∧ True))))))
          ([(28, .sc (.b (!(F23_1 p1)))), (11, .sc (.p 288 0)), (9, .sc (.p 160 0)), (7, .sc (.p 48 0)), (6, .sc (.p 32 0)), (5, .sc (.p 16 0)), (4, .sc (.p 0 0)), (0, .sc (.ro .u8 p0)), (1, .sc (.ro .u8 p1))], [(288, .ints .u64 5 (F23 p1)), (160, .ints .u64 5 (F23 p0)), (48, .ints .i64 16 [0, 0, 0, 0, 0, 0, 0, 0, 0, 0, 0, 0, 0, 0, 0, 0]), (32, .ints .i64 16 [0, 0, 0, 0, 0, 0, 0, 0, 0, 0, 0, 0, 0, 0, 0, 0]), (16, .ints .u64 5 [0, 0, 0, 0, 0]), (0, .ints .u64 5 [0, 0, 0, 0, 0])])
          432 (by kernel_rfl) rfl (by kernel_rfl) (⟨⟨trivial, trivial⟩, ⟨⟨trivial, trivial⟩, ⟨⟨trivial, (h1)⟩, ⟨⟨trivial, trivial⟩, ⟨⟨trivial, trivial⟩, ⟨⟨trivial, trivial⟩, trivial⟩⟩⟩⟩⟩⟩) ?_
      refine Tri.cond (x := (!(F23_1 p1))) (by kernel_rfl) (fun h2 => ?_) (fun h2 => ?_)
      ·
        refine Tri.seq_region [] (some [0, 0, 0, 0, 1, 19, 55, 127, 255]) [8, 7, 6, 5, 4] [48, 32, 16, 0] ((True ∧ True) ∧ ((True ∧ True) ∧ ((True ∧ True) ∧ ((True ∧ True) ∧ (((True ∧ (5 = 5)) ∧ True) ∧ (((True ∧ (5 = 5)) ∧ True) ∧ (((True ∧ (16 = 16)) ∧ True) ∧ (((True ∧ (16 = 16)) ∧ True) ∧ ((True ∧ True) ∧ True)))))))))
            ([(8, .sc (.b false)), (7, .sc (.p 48 0)), (6, .sc (.p 32 0)), (5, .sc (.p 16 0)), (4, .sc (.p 0 0))], [(48, .ints .i64 16 [0, 0, 0, 0, 0, 0, 0, 0, 0, 0, 0, 0, 0, 0, 0, 0]), (32, .ints .i64 16 [0, 0, 0, 0, 0, 0, 0, 0, 0, 0, 0, 0, 0, 0, 0, 0]), (16, .ints .u64 5 (F23 p1)), (0, .ints .u64 5 (F23 p0))])
            576 (by kernel_rfl) rfl (by kernel_rfl) (⟨⟨trivial, trivial⟩, ⟨⟨trivial, trivial⟩, ⟨⟨trivial, trivial⟩, ⟨⟨trivial, trivial⟩, ⟨⟨⟨trivial, (rfl)⟩, trivial⟩, ⟨⟨⟨trivial, (rfl)⟩, trivial⟩, ⟨⟨⟨trivial, (rfl)⟩, trivial⟩, ⟨⟨⟨trivial, (rfl)⟩, trivial⟩, ⟨⟨trivial, trivial⟩, trivial⟩⟩⟩⟩⟩⟩⟩⟩⟩) ?_
        refine Tri.ret ?_
        repeat (first | refine thenP_ret ?_ | refine blkP_ret ?_ | refine countP_ret ?_ | refine joinP_ret ?_)
        refine endP.conv (r' := ⟨.tup [.ints .u64 5 (F23 p0), .ints .u64 5 (F23 p1), .ints .i64 16 [0, 0, 0, 0, 0, 0, 0, 0, 0, 0, 0, 0, 0, 0, 0, 0], .ints .i64 16 [0, 0, 0, 0, 0, 0, 0, 0, 0, 0, 0, 0, 0, 0, 0, 0], .sc (.b false)], []⟩) (by simp only [F15, F15_1, F15_2, F15_3, F15_4, h1, h2, sel_true, sel_false]) ?_
        exact endP.ret [] (True ∧ (True ∧ (True ∧ (True ∧ (True ∧ True))))) (by kernel_rfl) (by kernel_rfl) (by kernel_rfl) ⟨trivial, ⟨trivial, ⟨trivial, ⟨trivial, ⟨trivial, trivial⟩⟩⟩⟩⟩
      ·
        refine Tri.skip ?_
        change Tri _ _ _ _ _ _
        refine Tri.seq_region [] (some [0, 0, 0, 4, 0, 28, 61, 127, 255, 511, 1023]) [8, 7, 6, 5, 4] [48, 32, 16, 0] ((True ∧ True) ∧ ((True ∧ True) ∧ ((True ∧ True) ∧ (((True ∧ (p0.length = 32)) ∧ True) ∧ ((True ∧ True) ∧ (((True ∧ (p1.length = 32)) ∧ True) ∧ (((True ∧ (5 = 5)) ∧ True) ∧ (((True ∧ (5 = 5)) ∧ True) ∧ (((True ∧ (16 = 16)) ∧ True) ∧ (((True ∧ (16 = 16)) ∧ True) ∧ ((True ∧ True) ∧ True)))))))))))
            ([(8, .sc (.b true)), (7, .sc (.p 48 0)), (6, .sc (.p 32 0)), (5, .sc (.p 16 0)), (4, .sc (.p 0 0))], [(48, .ints .i64 16 (F24 p1)), (32, .ints .i64 16 (F24 p0)), (16, .ints .u64 5 (F23 p1)), (0, .ints .u64 5 (F23 p0))])
            608 (by kernel_rfl) rfl (by kernel_rfl) (⟨⟨trivial, trivial⟩, ⟨⟨trivial, trivial⟩, ⟨⟨trivial, trivial⟩, ⟨⟨⟨trivial, (by first | exact len23' h1 | exact len23' h2 | exact len23' h3)⟩, trivial⟩, ⟨⟨trivial, trivial⟩, ⟨⟨⟨trivial, (by first | exact len23' h1 | exact len23' h2 | exact len23' h3)⟩, trivial⟩, ⟨⟨⟨trivial, (rfl)⟩, trivial⟩, ⟨⟨⟨trivial, (rfl)⟩, trivial⟩, ⟨⟨⟨trivial, (rfl)⟩, trivial⟩, ⟨⟨⟨trivial, (rfl)⟩, trivial⟩, ⟨⟨trivial, trivial⟩, trivial⟩⟩⟩⟩⟩⟩⟩⟩⟩⟩⟩) ?_
        refine Tri.ret ?_
        repeat (first | refine thenP_ret ?_ | refine blkP_ret ?_ | refine countP_ret ?_ | refine joinP_ret ?_)
        refine endP.conv (r' := ⟨.tup [.ints .u64 5 (F23 p0), .ints .u64 5 (F23 p1), .ints .i64 16 (F24 p0), .ints .i64 16 (F24 p1), .sc (.b true)], []⟩) (by simp only [F15, F15_1, F15_2, F15_3, F15_4, h1, h2, sel_true, sel_false]) ?_
        exact endP.ret [] (True ∧ (True ∧ (True ∧ (True ∧ (True ∧ True))))) (by kernel_rfl) (by kernel_rfl) (by kernel_rfl) ⟨trivial, ⟨trivial, ⟨trivial, ⟨trivial, ⟨trivial, trivial⟩⟩⟩⟩⟩


noncomputable def F22 (p0 : List Int) (p1 : List Int) : Bool :=
  (strEq (bytesOf (((F33 p0).drop 0).take 32)) (bytesOf (((F49 p1).drop 0).take ((itr (F49l0 p1) 16 (0, [])).1))))

noncomputable def S22 : List AV → Option (Prop × Ret)
  | [.ints .u64 5 p0, .ints .i64 16 p1] => some (True, ⟨.sc (.b (F22 p0 p1)), []⟩)
  | _ => none

noncomputable def B22 : Bs := { P := Go.Proofs.Try.prog, G := noG, tab := tabOf [(33, ⟨[.val], 0, S33⟩), (49, ⟨[.val], 1, S49⟩)], n := 14 }

theorem B22.ok : B22.Ok := ⟨tabOk (P := Go.Proofs.Try.prog) (G := noG) (l := [(33, ⟨[.val], 0, S33⟩), (49, ⟨[.val], 1, S49⟩)]) (And.intro K33 (And.intro K49 True.intro)), mixed⟩

theorem K22 : Known Go.Proofs.Try.prog noG 22 ⟨[.val, .val], 0, S22⟩ := by
  refine Known.walk (B := B22) (fn := Go.Proofs.Try.f22) B22.ok (by kernel_rfl) rfl (by kernel_rfl) (by kernel_rfl) (by decide) ?_ ?_
  · intro vs C r h
    simp only at h
    unfold S22 at h
    split at h
    · cases h; rfl
    · cases h
  · intro E args C r h hC hlen
    simp only at h
    unfold S22 at h
    split at h
    rotate_left
    · cases h
    rename_i p0 p1
    cases h
    simp only [lens] at hlen
    refine ⟨show 2 ≤ 14 from by decide, ?_⟩
    refine Tri.sub (Sub.of_eq (show _ = ([(0, .ints .u64 5 p0), (1, .ints .i64 16 p1)], []) from rfl)) ?_
    refine Tri.seq_region [] none [3, 2] [16, 0] ((True ∧ True) ∧ ((True ∧ True) ∧ ((True ∧ True) ∧ True)))
        ([(3, .sc (.p 16 0)), (2, .sc (.p 0 0))], [(16, .ints .i64 16 p1), (0, .ints .u64 5 p0)])
        48 (by kernel_rfl) rfl (by kernel_rfl) (⟨⟨trivial, trivial⟩, ⟨⟨trivial, trivial⟩, ⟨⟨trivial, trivial⟩, trivial⟩⟩⟩) ?_
    refine Tri.seq_region [] none [5, 3] [80, 16] ((True ∧ True) ∧ (((True ∧ True) ∧ True) ∧ ((True ∧ True) ∧ (((True ∧ (32 = 32)) ∧ True) ∧ True))))
        ([(5, .sc (.p 80 0)), (3, .sc (.p 16 0))], [(80, .ints .u8 32 (F33 p0)), (16, .ints .i64 16 p1)])
        112 (by kernel_rfl) rfl (by kernel_rfl) (⟨⟨trivial, trivial⟩, ⟨⟨⟨trivial, trivial⟩, trivial⟩, ⟨⟨trivial, trivial⟩, ⟨⟨⟨trivial, (rfl)⟩, trivial⟩, trivial⟩⟩⟩⟩) ?_
    refine Tri.seq_region [] (some [0, 1, 0, 4, 12, 31, 63]) [4] [] (((((0 : Int) ≤ 0 ∧ (0 : Int) ≤ 32 ∧ 32 ≤ ((32 : Nat) : Int)) ∧ (32 ≤ 32)) ∧ True) ∧ (((0 + 32 ≤ 32) ∧ True) ∧ ((True ∧ True) ∧ (((True ∧ True) ∧ True) ∧ (((0 + ((itr (F49l0 p1) 16 (0, [])).1) ≤ (itr (F49l0 p1) 16 (0, [])).1) ∧ True) ∧ ((True ∧ True) ∧ ((True ∧ True) ∧ True)))))))
        ([(4, .sc (.b (strEq (bytesOf (((F33 p0).drop 0).take 32)) (bytesOf (((F49 p1).drop 0).take ((itr (F49l0 p1) 16 (0, [])).1))))))], [])
        224 (by kernel_rfl) rfl (by kernel_rfl) (⟨⟨⟨(by omega), (by omega)⟩, trivial⟩, ⟨⟨(by omega), trivial⟩, ⟨⟨trivial, trivial⟩, ⟨⟨⟨trivial, trivial⟩, trivial⟩, ⟨⟨(by omega), trivial⟩, ⟨⟨trivial, trivial⟩, ⟨⟨trivial, trivial⟩, trivial⟩⟩⟩⟩⟩⟩⟩) ?_
    refine Tri.ret ?_
    exact endP.ret [] (True ∧ True) (by kernel_rfl) (by kernel_rfl) (by kernel_rfl) ⟨trivial, trivial⟩


noncomputable def F14l0 (k0 : Nat) (z0 : List Int) : List Int :=
  z0.set k0 255

noncomputable def F14 : Bool :=
  (sel (F23_1 (part1 (((itr (F14l0) 32 (List.replicate 32 0)).set 0 238).set 31 127) 32 0 32)) (sel (F29 (F23 (part1 (((itr (F14l0) 32 (List.replicate 32 0)).set 0 238).set 31 127) 32 0 32)) (F30 1)) (sel (F32 (F23 (part1 (((itr (F14l0) 32 (List.replicate 32 0)).set 0 238).set 31 127) 32 0 32))) (sel (F29 (F18 (F23 (part1 (((itr (F14l0) 32 (List.replicate 32 0)).set 0 238).set 31 127) 32 0 32)) (F23 (part1 (((itr (F14l0) 32 (List.replicate 32 0)).set 0 238).set 31 127) 32 0 32))) (F30 0)) (F29 (F20 (F25 (F16 (F23 (part1 (((itr (F14l0) 32 (List.replicate 32 0)).set 0 238).set 31 127) 32 0 32)) (F23 (part1 (((itr (F14l0) 32 (List.replicate 32 0)).set 0 238).set 31 127) 32 0 32)))) (F30 2)) (F23 (part1 (((itr (F14l0) 32 (List.replicate 32 0)).set 0 238).set 31 127) 32 0 32))) false) false) false) false)

noncomputable def S14 : List AV → Option (Prop × Ret)
  | [] => some (True, ⟨.sc (.b (F14)), []⟩)
  | _ => none

noncomputable def B14 : Bs := { P := Go.Proofs.Try.prog, G := noG, tab := tabOf [(16, ⟨[.val, .val], 0, S16⟩), (18, ⟨[.val, .val], 0, S18⟩), (20, ⟨[.val, .val], 0, S20⟩), (23, ⟨[.ro .u8], 0, S23⟩), (25, ⟨[.val], 0, S25⟩), (29, ⟨[.val, .val], 0, S29⟩), (30, ⟨[.val], 0, S30⟩), (32, ⟨[.val], 0, S32⟩)], n := 51 }

theorem B14.ok : B14.Ok := ⟨tabOk (P := Go.Proofs.Try.prog) (G := noG) (l := [(16, ⟨[.val, .val], 0, S16⟩), (18, ⟨[.val, .val], 0, S18⟩), (20, ⟨[.val, .val], 0, S20⟩), (23, ⟨[.ro .u8], 0, S23⟩), (25, ⟨[.val], 0, S25⟩), (29, ⟨[.val, .val], 0, S29⟩), (30, ⟨[.val], 0, S30⟩), (32, ⟨[.val], 0, S32⟩)]) (And.intro K16 (And.intro K18 (And.intro K20 (And.intro K23 (And.intro K25 (And.intro K29 (And.intro K30 (And.intro K32 True.intro)))))))), mixed⟩

theorem K14 : Known Go.Proofs.Try.prog noG 14 ⟨[], 0, S14⟩ := by
  refine Known.walk (B := B14) (fn := Go.Proofs.Try.f14) B14.ok (by kernel_rfl) rfl (by kernel_rfl) (by kernel_rfl) (by decide) ?_ ?_
  · intro vs C r h
    simp only at h
    unfold S14 at h
    split at h
    · cases h; rfl
    · cases h
  · intro E args C r h hC hlen
    simp only at h
    unfold S14 at h
    split at h
    rotate_left
    · cases h
    skip
    cases h
    simp only [lens] at hlen
    refine ⟨show 0 ≤ 51 from by decide, ?_⟩
    refine Tri.sub (Sub.of_eq (show _ = ([], []) from rfl)) ?_
    refine Tri.seq_region [] none [] [] ((True ∧ True) ∧ True)
        ([], [])
        16 (by kernel_rfl) rfl (by kernel_rfl) (⟨⟨trivial, trivial⟩, trivial⟩) ?_
    refine Tri.seq_region [] none [1] [16] (((((0 : Int) ≤ 32 ∧ (32 : Int) = 32) ∧ ((32 ≤ (140737488355328 : Int)) ∧ (((1 : Nat) : Int) * 32 ≤ 281474976710656))) ∧ True) ∧ ((True ∧ True) ∧ True))
        ([(1, .sc (.sl 16 0 32 1 none))], [(16, .ints .u8 32 (List.replicate 32 0))])
        48 (by kernel_rfl) rfl (by kernel_rfl) (⟨⟨⟨(by omega), ⟨(by omega), (by omega)⟩⟩, trivial⟩, ⟨⟨trivial, trivial⟩, trivial⟩⟩) ?_
    refine Tri.seq ?_
    refine Tri.seq_region [] none [8, 7, 1] [16] ((True ∧ True) ∧ ((True ∧ True) ∧ ((True ∧ True) ∧ True)))
        ([(8, .sc (.i .i64 0)), (7, .sc (.i .i64 32)), (1, .sc (.sl 16 0 32 1 none))], [(16, .ints .u8 32 (List.replicate 32 0))])
        96 (by kernel_rfl) rfl (by kernel_rfl) (⟨⟨trivial, trivial⟩, ⟨⟨trivial, trivial⟩, ⟨⟨trivial, trivial⟩, trivial⟩⟩⟩) ?_
    refine Tri.block ?_
    refine Tri.count 96 32 (F14l0) (List.replicate 32 0) (fun k0 z0 => True) (fun k0 z0 => ([(8, .sc (.i .i64 ((k0 : Nat) : Int))), (7, .sc (.i .i64 32)), (1, .sc (.sl 16 0 32 1 none))], [(16, .ints .u8 32 z0)])) trivial (Sub.of_eq (by kernel_rfl)) ?_
    intro k0 z0 hk0 hz0 hJ0
    refine Tri.seq_region [] none [9, 8, 7, 1] [16] ((True ∧ True) ∧ True)
        ([(9, .sc (.b (decide ((((k0 : Nat) : Int) : Int) < 32)))), (8, .sc (.i .i64 ((k0 : Nat) : Int))), (7, .sc (.i .i64 32)), (1, .sc (.sl 16 0 32 1 none))], [(16, .ints .u8 32 z0)])
        112 (by kernel_rfl) rfl (by kernel_rfl) (⟨⟨trivial, trivial⟩, trivial⟩) ?_
    refine Tri.seq ?_
    refine Tri.cond (x := (decide ((((k0 : Nat) : Int) : Int) < 32))) (by kernel_rfl) (fun h1 => ?_) (fun h1 => ?_)
    ·
      have h1' := of_decide_eq_true h1
      refine Tri.skip ?_
      change Tri _ _ _ _ _ _
      refine Tri.seq ?_
      refine Tri.block ?_
      refine Tri.seq_region [] none [2, 8, 7, 1] [16] ((True ∧ True) ∧ ((True ∧ True) ∧ True))
          ([(2, .sc (.i .i64 ((k0 : Nat) : Int))), (8, .sc (.i .i64 ((k0 : Nat) : Int))), (7, .sc (.i .i64 32)), (1, .sc (.sl 16 0 32 1 none))], [(16, .ints .u8 32 z0)])
          144 (by kernel_rfl) rfl (by kernel_rfl) (⟨⟨trivial, trivial⟩, ⟨⟨trivial, trivial⟩, trivial⟩⟩) ?_
      refine Tri.region' [] none [8, 7, 1] [16] ((True ∧ True) ∧ ((True ∧ True) ∧ ((((0 : Int) ≤ ((k0 : Nat) : Int) ∧ ((k0 : Nat) : Int) < ((32 : Nat) : Int)) ∧ True) ∧ ((((k0 < 32) ∧ (1 = 1)) ∧ True) ∧ True))))
          ([(8, .sc (.i .i64 ((k0 : Nat) : Int))), (7, .sc (.i .i64 32)), (1, .sc (.sl 16 0 32 1 none))], [(16, .ints .u8 32 (z0.set k0 255))])
          208 (by kernel_rfl) rfl (by kernel_rfl) (⟨⟨trivial, trivial⟩, ⟨⟨trivial, trivial⟩, ⟨⟨(by omega), trivial⟩, ⟨⟨⟨(by omega), (rfl)⟩, trivial⟩, trivial⟩⟩⟩⟩) ?_
      change Tri _ _ _ _ _ _
      refine Tri.region' [(14, .i .i64 ((k0 + 1 : Nat) : Int))] none [8, 7, 1] [16] ((True ∧ ((iAdd .i64 ((k0 : Nat) : Int) 1) = ((k0 + 1 : Nat) : Int))) ∧ ((True ∧ True) ∧ True))
          ([(8, .sc (.i .i64 ((k0 + 1 : Nat) : Int))), (7, .sc (.i .i64 32)), (1, .sc (.sl 16 0 32 1 none))], [(16, .ints .u8 32 (z0.set k0 255))])
          240 (by kernel_rfl) rfl (by kernel_rfl) (⟨⟨trivial, (iAdd_nat (a := k0) (b := 1) (by omega))⟩, ⟨⟨trivial, trivial⟩, trivial⟩⟩) ?_
      refine countP_normal (by omega) trivial ?_
      exact Sub.ren (ns := [(16, 16)]) (kf := [8, 7, 1]) (by kernel_rfl) (by kernel_rfl)
    ·
      have h1' := of_decide_eq_false h1
      refine Tri.exit ?_
      have hend0 : k0 = 32 := by (have := of_decide_eq_false h1; omega)
      subst hend0; subst hz0
      change Tri _ _ _ _ _ _
      refine Tri.seq_region [] none [1] [16] ((True ∧ True) ∧ ((True ∧ True) ∧ ((((0 : Int) ≤ 0 ∧ 0 < ((32 : Nat) : Int)) ∧ True) ∧ ((((0 < 32) ∧ (1 = 1)) ∧ True) ∧ ((((0 : Int) ≤ 31 ∧ 31 < ((32 : Nat) : Int)) ∧ True) ∧ ((((31 < 32) ∧ (1 = 1)) ∧ True) ∧ True))))))
          ([(1, .sc (.sl 16 0 32 1 none))], [(16, .ints .u8 32 (((itr (F14l0) 32 (List.replicate 32 0)).set 0 238).set 31 127))])
          208 (by kernel_rfl) rfl (by kernel_rfl) (⟨⟨trivial, trivial⟩, ⟨⟨trivial, trivial⟩, ⟨⟨(by omega), trivial⟩, ⟨⟨⟨(by omega), (rfl)⟩, trivial⟩, ⟨⟨(by omega), trivial⟩, ⟨⟨⟨(by omega), (rfl)⟩, trivial⟩, trivial⟩⟩⟩⟩⟩⟩) ?_
      refine Tri.seq_region [] none [4, 3] [288] ((True ∧ True) ∧ (((((0 + 32 ≤ 32) ∧ True) ∧ True) ∧ True) ∧ ((True ∧ True) ∧ ((True ∧ True) ∧ ((True ∧ True) ∧ ((True ∧ True) ∧ (((True ∧ (5 = 5)) ∧ True) ∧ ((True ∧ True) ∧ True))))))))
          ([(4, .sc (.b (F23_1 (part1 (((itr (F14l0) 32 (List.replicate 32 0)).set 0 238).set 31 127) 32 0 32)))), (3, .sc (.p 288 0))], [(288, .ints .u64 5 (F23 (part1 (((itr (F14l0) 32 (List.replicate 32 0)).set 0 238).set 31 127) 32 0 32)))])
          336 (by kernel_rfl) rfl (by kernel_rfl) (⟨⟨trivial, trivial⟩, ⟨⟨⟨⟨(by omega), trivial⟩, trivial⟩, trivial⟩, ⟨⟨trivial, trivial⟩, ⟨⟨trivial, trivial⟩, ⟨⟨trivial, trivial⟩, ⟨⟨trivial, trivial⟩, ⟨⟨⟨trivial, (rfl)⟩, trivial⟩, ⟨⟨trivial, trivial⟩, trivial⟩⟩⟩⟩⟩⟩⟩⟩) ?_
      refine Tri.split (F23_1 (part1 (((itr (F14l0) 32 (List.replicate 32 0)).set 0 238).set 31 127) 32 0 32)) (fun h2 => ?_) (fun h2 => ?_)
      ·
        refine Tri.split (F29 (F23 (part1 (((itr (F14l0) 32 (List.replicate 32 0)).set 0 238).set 31 127) 32 0 32)) (F30 1)) (fun h3 => ?_) (fun h3 => ?_)
        ·
          refine Tri.split (F32 (F23 (part1 (((itr (F14l0) 32 (List.replicate 32 0)).set 0 238).set 31 127) 32 0 32))) (fun h4 => ?_) (fun h4 => ?_)
          ·
            refine Tri.split (F29 (F18 (F23 (part1 (((itr (F14l0) 32 (List.replicate 32 0)).set 0 238).set 31 127) 32 0 32)) (F23 (part1 (((itr (F14l0) 32 (List.replicate 32 0)).set 0 238).set 31 127) 32 0 32))) (F30 0)) (fun h5 => ?_) (fun h5 => ?_)
            ·
              refine Tri.seq_region [(25, .b true), (30, .b true), (34, .b true), (41, .b true)] (some [0, 1, 3, 3, 15, 31, 63, 127, 255, 511, 1023, 2047, 2047, 8191, 16383, 32767, 65535, 131071, 262143, 262143, 1048575, 2097151, 4194303, 8388607, 262143, 33554431, 67108863, 134217727]) [0] [] ((True ∧ True) ∧ ((True ∧ ((F23_1 (part1 (((itr (F14l0) 32 (List.replicate 32 0)).set 0 238).set 31 127) 32 0 32)) = true)) ∧ ((True ∧ True) ∧ (((True ∧ True) ∧ True) ∧ (((True ∧ True) ∧ True) ∧ ((True ∧ True) ∧ ((True ∧ ((F29 (F23 (part1 (((itr (F14l0) 32 (List.replicate 32 0)).set 0 238).set 31 127) 32 0 32)) (F30 1)) = true)) ∧ ((True ∧ True) ∧ (((True ∧ True) ∧ True) ∧ ((True ∧ True) ∧ ((True ∧ ((F32 (F23 (part1 (((itr (F14l0) 32 (List.replicate 32 0)).set 0 238).set 31 127) 32 0 32))) = true)) ∧ ((True ∧ True) ∧ ((True ∧ True) ∧ (((True ∧ True) ∧ True) ∧ (((True ∧ True) ∧ True) ∧ (((True ∧ True) ∧ True) ∧ ((True ∧ True) ∧ ((True ∧ ((F29 (F18 (F23 (part1 (((itr (F14l0) 32 (List.replicate 32 0)).set 0 238).set 31 127) 32 0 32)) (F23 (part1 (((itr (F14l0) 32 (List.replicate 32 0)).set 0 238).set 31 127) 32 0 32))) (F30 0)) = true)) ∧ ((True ∧ True) ∧ ((True ∧ True) ∧ (((True ∧ True) ∧ True) ∧ (((True ∧ True) ∧ True) ∧ (((True ∧ True) ∧ True) ∧ (((True ∧ True) ∧ True) ∧ ((True ∧ True) ∧ (((True ∧ True) ∧ True) ∧ ((True ∧ True) ∧ ((True ∧ True) ∧ True))))))))))))))))))))))))))))
                  ([(0, .sc (.b (F29 (F20 (F25 (F16 (F23 (part1 (((itr (F14l0) 32 (List.replicate 32 0)).set 0 238).set 31 127) 32 0 32)) (F23 (part1 (((itr (F14l0) 32 (List.replicate 32 0)).set 0 238).set 31 127) 32 0 32)))) (F30 2)) (F23 (part1 (((itr (F14l0) 32 (List.replicate 32 0)).set 0 238).set 31 127) 32 0 32)))))], [])
                  784 (by kernel_rfl) rfl (by kernel_rfl) (⟨⟨trivial, trivial⟩, ⟨⟨trivial, (h2)⟩, ⟨⟨trivial, trivial⟩, ⟨⟨⟨trivial, trivial⟩, trivial⟩, ⟨⟨⟨trivial, trivial⟩, trivial⟩, ⟨⟨trivial, trivial⟩, ⟨⟨trivial, (h3)⟩, ⟨⟨trivial, trivial⟩, ⟨⟨⟨trivial, trivial⟩, trivial⟩, ⟨⟨trivial, trivial⟩, ⟨⟨trivial, (h4)⟩, ⟨⟨trivial, trivial⟩, ⟨⟨trivial, trivial⟩, ⟨⟨⟨trivial, trivial⟩, trivial⟩, ⟨⟨⟨trivial, trivial⟩, trivial⟩, ⟨⟨⟨trivial, trivial⟩, trivial⟩, ⟨⟨trivial, trivial⟩, ⟨⟨trivial, (h5)⟩, ⟨⟨trivial, trivial⟩, ⟨⟨trivial, trivial⟩, ⟨⟨⟨trivial, trivial⟩, trivial⟩, ⟨⟨⟨trivial, trivial⟩, trivial⟩, ⟨⟨⟨trivial, trivial⟩, trivial⟩, ⟨⟨⟨trivial, trivial⟩, trivial⟩, ⟨⟨trivial, trivial⟩, ⟨⟨⟨trivial, trivial⟩, trivial⟩, ⟨⟨trivial, trivial⟩, ⟨⟨trivial, trivial⟩, trivial⟩⟩⟩⟩⟩⟩⟩⟩⟩⟩⟩⟩⟩⟩⟩⟩⟩⟩⟩⟩⟩⟩⟩⟩⟩⟩⟩⟩) ?_
              refine Tri.ret ?_
              repeat (first | refine thenP_ret ?_ | refine blkP_ret ?_ | refine countP_ret ?_ | refine joinP_ret ?_)
              refine endP.conv (r' := ⟨.sc (.b (F29 (F20 (F25 (F16 (F23 (part1 (((itr (F14l0) 32 (List.replicate 32 0)).set 0 238).set 31 127) 32 0 32)) (F23 (part1 (((itr (F14l0) 32 (List.replicate 32 0)).set 0 238).set 31 127) 32 0 32)))) (F30 2)) (F23 (part1 (((itr (F14l0) 32 (List.replicate 32 0)).set 0 238).set 31 127) 32 0 32)))), []⟩) (by simp only [F14, h2, h3, h4, h5, sel_true, sel_false]) ?_
              exact endP.ret [] (True ∧ True) (by kernel_rfl) (by kernel_rfl) (by kernel_rfl) ⟨trivial, trivial⟩
            ·
              refine Tri.seq_region [(25, .b true), (30, .b true), (34, .b true), (41, .b false)] (some [0, 1, 3, 3, 15, 31, 63, 127, 255, 511, 1023, 2047, 2047, 8191, 16383, 32767, 65535, 131071, 262143, 262143, 1048575, 2097151, 4194303, 8388607, 262143, 33554431, 67108863, 134217727]) [0] [] ((True ∧ True) ∧ ((True ∧ ((F23_1 (part1 (((itr (F14l0) 32 (List.replicate 32 0)).set 0 238).set 31 127) 32 0 32)) = true)) ∧ ((True ∧ True) ∧ (((True ∧ True) ∧ True) ∧ (((True ∧ True) ∧ True) ∧ ((True ∧ True) ∧ ((True ∧ ((F29 (F23 (part1 (((itr (F14l0) 32 (List.replicate 32 0)).set 0 238).set 31 127) 32 0 32)) (F30 1)) = true)) ∧ ((True ∧ True) ∧ (((True ∧ True) ∧ True) ∧ ((True ∧ True) ∧ ((True ∧ ((F32 (F23 (part1 (((itr (F14l0) 32 (List.replicate 32 0)).set 0 238).set 31 127) 32 0 32))) = true)) ∧ ((True ∧ True) ∧ ((True ∧ True) ∧ (((True ∧ True) ∧ True) ∧ (((True ∧ True) ∧ True) ∧ (((True ∧ True) ∧ True) ∧ ((True ∧ True) ∧ ((True ∧ ((F29 (F18 (F23 (part1 (((itr (F14l0) 32 (List.replicate 32 0)).set 0 238).set 31 127) 32 0 32)) (F23 (part1 (((itr (F14l0) 32 (List.replicate 32 0)).set 0 238).set 31 127) 32 0 32))) (F30 0)) = false)) ∧ ((True ∧ True) ∧ ((True ∧ True) ∧ ((True ∧ True) ∧ ((True ∧ True) ∧ ((True ∧ True) ∧ ((True ∧ True) ∧ ((True ∧ True) ∧ ((True ∧ True) ∧ ((True ∧ True) ∧ ((True ∧ True) ∧ True))))))))))))))))))))))))))))
                  ([(0, .sc (.b false))], [])
                  784 (by kernel_rfl) rfl (by kernel_rfl) (⟨⟨trivial, trivial⟩, ⟨⟨trivial, (h2)⟩, ⟨⟨trivial, trivial⟩, ⟨⟨⟨trivial, trivial⟩, trivial⟩, ⟨⟨⟨trivial, trivial⟩, trivial⟩, ⟨⟨trivial, trivial⟩, ⟨⟨trivial, (h3)⟩, ⟨⟨trivial, trivial⟩, ⟨⟨⟨trivial, trivial⟩, trivial⟩, ⟨⟨trivial, trivial⟩, ⟨⟨trivial, (h4)⟩, ⟨⟨trivial, trivial⟩, ⟨⟨trivial, trivial⟩, ⟨⟨⟨trivial, trivial⟩, trivial⟩, ⟨⟨⟨trivial, trivial⟩, trivial⟩, ⟨⟨⟨trivial, trivial⟩, trivial⟩, ⟨⟨trivial, trivial⟩, ⟨⟨trivial, (h5)⟩, ⟨⟨trivial, trivial⟩, ⟨⟨trivial, trivial⟩, ⟨⟨trivial, trivial⟩, ⟨⟨trivial, trivial⟩, ⟨⟨trivial, trivial⟩, ⟨⟨trivial, trivial⟩, ⟨⟨trivial, trivial⟩, ⟨⟨trivial, trivial⟩, ⟨⟨trivial, trivial⟩, ⟨⟨trivial, trivial⟩, trivial⟩⟩⟩⟩⟩⟩⟩⟩⟩⟩⟩⟩⟩⟩⟩⟩⟩⟩⟩⟩⟩⟩⟩⟩⟩⟩⟩⟩) ?_
              refine Tri.ret ?_
              repeat (first | refine thenP_ret ?_ | refine blkP_ret ?_ | refine countP_ret ?_ | refine joinP_ret ?_)
              refine endP.conv (r' := ⟨.sc (.b false), []⟩) (by simp only [F14, h2, h3, h4, h5, sel_true, sel_false]) ?_
              exact endP.ret [] (True ∧ True) (by kernel_rfl) (by kernel_rfl) (by kernel_rfl) ⟨trivial, trivial⟩
          ·
            refine Tri.seq_region [(25, .b true), (30, .b true), (34, .b false)] (some [0, 1, 3, 3, 15, 31, 63, 127, 255, 511, 1023, 2047, 2047, 8191, 16383, 32767, 65535, 131071, 262143, 262143, 1048575, 2097151, 4194303, 8388607, 262143, 33554431, 67108863, 134217727]) [0] [] ((True ∧ True) ∧ ((True ∧ ((F23_1 (part1 (((itr (F14l0) 32 (List.replicate 32 0)).set 0 238).set 31 127) 32 0 32)) = true)) ∧ ((True ∧ True) ∧ (((True ∧ True) ∧ True) ∧ (((True ∧ True) ∧ True) ∧ ((True ∧ True) ∧ ((True ∧ ((F29 (F23 (part1 (((itr (F14l0) 32 (List.replicate 32 0)).set 0 238).set 31 127) 32 0 32)) (F30 1)) = true)) ∧ ((True ∧ True) ∧ (((True ∧ True) ∧ True) ∧ ((True ∧ True) ∧ ((True ∧ ((F32 (F23 (part1 (((itr (F14l0) 32 (List.replicate 32 0)).set 0 238).set 31 127) 32 0 32))) = false)) ∧ ((True ∧ True) ∧ ((True ∧ True) ∧ ((True ∧ True) ∧ ((True ∧ True) ∧ ((True ∧ True) ∧ ((True ∧ True) ∧ ((True ∧ True) ∧ ((True ∧ True) ∧ ((True ∧ True) ∧ ((True ∧ True) ∧ ((True ∧ True) ∧ ((True ∧ True) ∧ ((True ∧ True) ∧ ((True ∧ True) ∧ ((True ∧ True) ∧ ((True ∧ True) ∧ ((True ∧ True) ∧ True))))))))))))))))))))))))))))
                ([(0, .sc (.b false))], [])
                784 (by kernel_rfl) rfl (by kernel_rfl) (⟨⟨trivial, trivial⟩, ⟨⟨trivial, (h2)⟩, ⟨⟨trivial, trivial⟩, ⟨⟨⟨trivial, trivial⟩, trivial⟩, ⟨⟨⟨trivial, trivial⟩, trivial⟩, ⟨⟨trivial, trivial⟩, ⟨⟨trivial, (h3)⟩, ⟨⟨trivial, trivial⟩, ⟨⟨⟨trivial, trivial⟩, trivial⟩, ⟨⟨trivial, trivial⟩, ⟨⟨trivial, (h4)⟩, ⟨⟨trivial, trivial⟩, ⟨⟨trivial, trivial⟩, ⟨⟨trivial, trivial⟩, ⟨⟨trivial, trivial⟩, ⟨⟨trivial, trivial⟩, ⟨⟨trivial, trivial⟩, ⟨⟨trivial, trivial⟩, ⟨⟨trivial, trivial⟩, ⟨⟨trivial, trivial⟩, ⟨⟨trivial, trivial⟩, ⟨⟨trivial, trivial⟩, ⟨⟨trivial, trivial⟩, ⟨⟨trivial, trivial⟩, ⟨⟨trivial, trivial⟩, ⟨⟨trivial, trivial⟩, ⟨⟨trivial, trivial⟩, ⟨⟨trivial, trivial⟩, trivial⟩⟩⟩⟩⟩⟩⟩⟩⟩⟩⟩⟩⟩⟩⟩⟩⟩⟩⟩⟩⟩⟩⟩⟩⟩⟩⟩⟩) ?_
            refine Tri.ret ?_
            repeat (first | refine thenP_ret ?_ | refine blkP_ret ?_ | refine countP_ret ?_ | refine joinP_ret ?_)
            refine endP.conv (r' := ⟨.sc (.b false), []⟩) (by simp only [F14, h2, h3, h4, sel_true, sel_false]) ?_
            exact endP.ret [] (True ∧ True) (by kernel_rfl) (by kernel_rfl) (by kernel_rfl) ⟨trivial, trivial⟩
        ·
          refine Tri.seq_region [(25, .b true), (30, .b false)] (some [0, 1, 3, 3, 15, 31, 63, 127, 255, 511, 1023, 2047, 2047, 8191, 16383, 32767, 65535, 131071, 262143, 262143, 1048575, 2097151, 4194303, 8388607, 262143, 33554431, 67108863, 134217727]) [0] [] ((True ∧ True) ∧ ((True ∧ ((F23_1 (part1 (((itr (F14l0) 32 (List.replicate 32 0)).set 0 238).set 31 127) 32 0 32)) = true)) ∧ ((True ∧ True) ∧ (((True ∧ True) ∧ True) ∧ (((True ∧ True) ∧ True) ∧ ((True ∧ True) ∧ ((True ∧ ((F29 (F23 (part1 (((itr (F14l0) 32 (List.replicate 32 0)).set 0 238).set 31 127) 32 0 32)) (F30 1)) = false)) ∧ ((True ∧ True) ∧ ((True ∧ True) ∧ ((True ∧ True) ∧ ((True ∧ True) ∧ ((True ∧ True) ∧ ((True ∧ True) ∧ ((True ∧ True) ∧ ((True ∧ True) ∧ ((True ∧ True) ∧ ((True ∧ True) ∧ ((True ∧ True) ∧ ((True ∧ True) ∧ ((True ∧ True) ∧ ((True ∧ True) ∧ ((True ∧ True) ∧ ((True ∧ True) ∧ ((True ∧ True) ∧ ((True ∧ True) ∧ ((True ∧ True) ∧ ((True ∧ True) ∧ ((True ∧ True) ∧ True))))))))))))))))))))))))))))
              ([(0, .sc (.b false))], [])
              784 (by kernel_rfl) rfl (by kernel_rfl) (⟨⟨trivial, trivial⟩, ⟨⟨trivial, (h2)⟩, ⟨⟨trivial, trivial⟩, ⟨⟨⟨trivial, trivial⟩, trivial⟩, ⟨⟨⟨trivial, trivial⟩, trivial⟩, ⟨⟨trivial, trivial⟩, ⟨⟨trivial, (h3)⟩, ⟨⟨trivial, trivial⟩, ⟨⟨trivial, trivial⟩, ⟨⟨trivial, trivial⟩, ⟨⟨trivial, trivial⟩, ⟨⟨trivial, trivial⟩, ⟨⟨trivial, trivial⟩, ⟨⟨trivial, trivial⟩, ⟨⟨trivial, trivial⟩, ⟨⟨trivial, trivial⟩, ⟨⟨trivial, trivial⟩, ⟨⟨trivial, trivial⟩, ⟨⟨trivial, trivial⟩, ⟨⟨trivial, trivial⟩, ⟨⟨trivial, trivial⟩, ⟨⟨trivial, trivial⟩, ⟨⟨trivial, trivial⟩, ⟨⟨trivial, trivial⟩, ⟨⟨trivial, trivial⟩, ⟨⟨trivial, trivial⟩, ⟨⟨trivial, trivial⟩, ⟨⟨trivial, trivial⟩, trivial⟩⟩⟩⟩⟩⟩⟩⟩⟩⟩⟩⟩⟩⟩⟩⟩⟩⟩⟩⟩⟩⟩⟩⟩⟩⟩⟩⟩) ?_
          refine Tri.ret ?_
          repeat (first | refine thenP_ret ?_ | refine blkP_ret ?_ | refine countP_ret ?_ | refine joinP_ret ?_)
          refine endP.conv (r' := ⟨.sc (.b false), []⟩) (by simp only [F14, h2, h3, sel_true, sel_false]) ?_
          exact endP.ret [] (True ∧ True) (by kernel_rfl) (by kernel_rfl) (by kernel_rfl) ⟨trivial, trivial⟩
      ·
        refine Tri.seq_region [(25, .b false)] (some [0, 1, 3, 3, 15, 31, 63, 127, 255, 511, 1023, 2047, 2047, 8191, 16383, 32767, 65535, 131071, 262143, 262143, 1048575, 2097151, 4194303, 8388607, 262143, 33554431, 67108863, 134217727]) [0] [] ((True ∧ True) ∧ ((True ∧ ((F23_1 (part1 (((itr (F14l0) 32 (List.replicate 32 0)).set 0 238).set 31 127) 32 0 32)) = false)) ∧ ((True ∧ True) ∧ ((True ∧ True) ∧ ((True ∧ True) ∧ ((True ∧ True) ∧ ((True ∧ True) ∧ ((True ∧ True) ∧ ((True ∧ True) ∧ ((True ∧ True) ∧ ((True ∧ True) ∧ ((True ∧ True) ∧ ((True ∧ True) ∧ ((True ∧ True) ∧ ((True ∧ True) ∧ ((True ∧ True) ∧ ((True ∧ True) ∧ ((True ∧ True) ∧ ((True ∧ True) ∧ ((True ∧ True) ∧ ((True ∧ True) ∧ ((True ∧ True) ∧ ((True ∧ True) ∧ ((True ∧ True) ∧ ((True ∧ True) ∧ ((True ∧ True) ∧ ((True ∧ True) ∧ ((True ∧ True) ∧ True))))))))))))))))))))))))))))
            ([(0, .sc (.b false))], [])
            784 (by kernel_rfl) rfl (by kernel_rfl) (⟨⟨trivial, trivial⟩, ⟨⟨trivial, (h2)⟩, ⟨⟨trivial, trivial⟩, ⟨⟨trivial, trivial⟩, ⟨⟨trivial, trivial⟩, ⟨⟨trivial, trivial⟩, ⟨⟨trivial, trivial⟩, ⟨⟨trivial, trivial⟩, ⟨⟨trivial, trivial⟩, ⟨⟨trivial, trivial⟩, ⟨⟨trivial, trivial⟩, ⟨⟨trivial, trivial⟩, ⟨⟨trivial, trivial⟩, ⟨⟨trivial, trivial⟩, ⟨⟨trivial, trivial⟩, ⟨⟨trivial, trivial⟩, ⟨⟨trivial, trivial⟩, ⟨⟨trivial, trivial⟩, ⟨⟨trivial, trivial⟩, ⟨⟨trivial, trivial⟩, ⟨⟨trivial, trivial⟩, ⟨⟨trivial, trivial⟩, ⟨⟨trivial, trivial⟩, ⟨⟨trivial, trivial⟩, ⟨⟨trivial, trivial⟩, ⟨⟨trivial, trivial⟩, ⟨⟨trivial, trivial⟩, ⟨⟨trivial, trivial⟩, trivial⟩⟩⟩⟩⟩⟩⟩⟩⟩⟩⟩⟩⟩⟩⟩⟩⟩⟩⟩⟩⟩⟩⟩⟩⟩⟩⟩⟩) ?_
        refine Tri.ret ?_
        repeat (first | refine thenP_ret ?_ | refine blkP_ret ?_ | refine countP_ret ?_ | refine joinP_ret ?_)
        refine endP.conv (r' := ⟨.sc (.b false), []⟩) (by simp only [F14, h2, sel_true, sel_false]) ?_
        exact endP.ret [] (True ∧ True) (by kernel_rfl) (by kernel_rfl) (by kernel_rfl) ⟨trivial, trivial⟩

end Go.Vm
