/- What the functions compute, and that they do: walked by a printed text. -/
import Derived.Test.YtcfpmiiaicfcnaaWkL
set_option linter.unusedVariables false
set_option linter.unusedSimpArgs false
set_option maxRecDepth 4000
namespace Go.Vm
open Go

noncomputable def F12 (p0 : List Int) (p1 : List Int) (p2 : List Int) : Bool :=
  (sel (!(F37)) false (sel ((((p0.length : Nat) : Int) : Int) != 32) true (sel ((((p1.length : Nat) : Int) : Int) != 32) true (sel ((((p2.length : Nat) : Int) : Int) != 32) true (sel (((((F38n0 p1 (part1 (F38_1 p0 p2) (F38n0 p0 p2) 0 (F38n0 p0 p2))) : Nat) : Int) : Int) == 32) (strEq (bytesOf (((F38_1 p1 (part1 (F38_1 p0 p2) (F38n0 p0 p2) 0 (F38n0 p0 p2))).drop 0).take (F38n0 p1 (part1 (F38_1 p0 p2) (F38n0 p0 p2) 0 (F38n0 p0 p2))))) (bytesOf (((F38_1 p0 (part1 (F38_1 p1 p2) (F38n0 p1 p2) 0 (F38n0 p1 p2))).drop 0).take (F38n0 p0 (part1 (F38_1 p1 p2) (F38n0 p1 p2) 0 (F38n0 p1 p2)))))) false)))))

noncomputable def S12 : List AV → Option (Prop × Ret)
  | [.sc (.ro .u8 p0), .sc (.ro .u8 p1), .sc (.ro .u8 p2)] => some (True, ⟨.sc (.b (F12 p0 p1 p2)), []⟩)
  | _ => none

noncomputable def B12 : Bs := { P := Go.Proofs.Try.prog, G := noG, tab := tabOf [(37, ⟨[], 0, S37⟩), (38, ⟨[.ro .u8, .ro .u8], 1, S38⟩)], n := 64 }

theorem B12.ok : B12.Ok := ⟨tabOk (P := Go.Proofs.Try.prog) (G := noG) (l := [(37, ⟨[], 0, S37⟩), (38, ⟨[.ro .u8, .ro .u8], 1, S38⟩)]) (And.intro K37 (And.intro K38 True.intro)), mixed⟩

theorem K12 : Known Go.Proofs.Try.prog noG 12 ⟨[.ro .u8, .ro .u8, .ro .u8], 0, S12⟩ := by
  refine Known.walk (B := B12) (fn := Go.Proofs.Try.f12) B12.ok (by kernel_rfl) rfl (by kernel_rfl) (by kernel_rfl) (by decide) ?_ ?_
  · intro vs C r h
    simp only at h
    unfold S12 at h
    split at h
    · cases h; rfl
    · cases h
  · intro E args C r h hC hlen
    simp only at h
    unfold S12 at h
    split at h
    rotate_left
    · cases h
    rename_i p0 p1 p2
    cases h
    simp only [lens] at hlen
    refine ⟨show 3 ≤ 64 from by decide, ?_⟩
    refine Tri.sub (Sub.of_eq (show _ = ([(0, .sc (.ro .u8 p0)), (1, .sc (.ro .u8 p1)), (2, .sc (.ro .u8 p2))], []) from rfl)) ?_
    refine Tri.seq_region [] none [0, 1, 2] [] ((True ∧ True) ∧ True)
        ([(0, .sc (.ro .u8 p0)), (1, .sc (.ro .u8 p1)), (2, .sc (.ro .u8 p2))], [])
        16 (by kernel_rfl) rfl (by kernel_rfl) (⟨⟨trivial, trivial⟩, trivial⟩) ?_
    refine Tri.seq ?_
    refine Tri.seq_region [] none [16, 0, 1, 2] [] (((True ∧ True) ∧ True) ∧ ((True ∧ True) ∧ True))
        ([(16, .sc (.b (!(F37)))), (0, .sc (.ro .u8 p0)), (1, .sc (.ro .u8 p1)), (2, .sc (.ro .u8 p2))], [])
        48 (by kernel_rfl) rfl (by kernel_rfl) (⟨⟨⟨trivial, trivial⟩, trivial⟩, ⟨⟨trivial, trivial⟩, trivial⟩⟩) ?_
    refine Tri.cond (x := (!(F37))) (by kernel_rfl) (fun h1 => ?_) (fun h1 => ?_)
    ·
      refine Tri.seq_region [] none [6] [] ((True ∧ True) ∧ True)
          ([(6, .sc (.b false))], [])
          64 (by kernel_rfl) rfl (by kernel_rfl) (⟨⟨trivial, trivial⟩, trivial⟩) ?_
      refine Tri.ret ?_
      repeat (first | refine thenP_ret ?_ | refine blkP_ret ?_ | refine countP_ret ?_ | refine joinP_ret ?_)
      refine endP.conv (r' := ⟨.sc (.b false), []⟩) (by simp only [F12, h1, sel_true, sel_false]) ?_
      exact endP.ret [] (True ∧ True) (by kernel_rfl) (by kernel_rfl) (by kernel_rfl) ⟨trivial, trivial⟩
    ·
      refine Tri.skip ?_
      change Tri _ _ _ _ _ _
      refine Tri.seq ?_
      refine Tri.split ((((p0.length : Nat) : Int) : Int) != 32) (fun h2 => ?_) (fun h2 => ?_)
      ·
        have h2' := ne_true_i h2
        refine Tri.seq_region [(20, .b true)] none [29, 0, 1, 2] [] ((True ∧ True) ∧ ((True ∧ True) ∧ ((True ∧ True) ∧ ((True ∧ (((((p0.length : Nat) : Int) : Int) != 32) = true)) ∧ ((True ∧ True) ∧ ((True ∧ True) ∧ ((True ∧ True) ∧ ((True ∧ True) ∧ ((True ∧ True) ∧ ((True ∧ True) ∧ ((True ∧ True) ∧ ((True ∧ True) ∧ ((True ∧ True) ∧ True)))))))))))))
            ([(29, .sc (.b true)), (0, .sc (.ro .u8 p0)), (1, .sc (.ro .u8 p1)), (2, .sc (.ro .u8 p2))], [])
            256 (by kernel_rfl) rfl (by kernel_rfl) (⟨⟨trivial, trivial⟩, ⟨⟨trivial, trivial⟩, ⟨⟨trivial, trivial⟩, ⟨⟨trivial, (h2)⟩, ⟨⟨trivial, trivial⟩, ⟨⟨trivial, trivial⟩, ⟨⟨trivial, trivial⟩, ⟨⟨trivial, trivial⟩, ⟨⟨trivial, trivial⟩, ⟨⟨trivial, trivial⟩, ⟨⟨trivial, trivial⟩, ⟨⟨trivial, trivial⟩, ⟨⟨trivial, trivial⟩, trivial⟩⟩⟩⟩⟩⟩⟩⟩⟩⟩⟩⟩⟩) ?_
        refine Tri.cond_true (by kernel_rfl) ?_
        refine Tri.seq_region [] none [6] [] ((True ∧ True) ∧ True)
            ([(6, .sc (.b true))], [])
            272 (by kernel_rfl) rfl (by kernel_rfl) (⟨⟨trivial, trivial⟩, trivial⟩) ?_
        refine Tri.ret ?_
        repeat (first | refine thenP_ret ?_ | refine blkP_ret ?_ | refine countP_ret ?_ | refine joinP_ret ?_)
        refine endP.conv (r' := ⟨.sc (.b true), []⟩) (by simp only [F12, h1, h2, sel_true, sel_false]) ?_
        exact endP.ret [] (True ∧ True) (by kernel_rfl) (by kernel_rfl) (by kernel_rfl) ⟨trivial, trivial⟩
      ·
        have h2' := ne_false_i h2
        refine Tri.split ((((p1.length : Nat) : Int) : Int) != 32) (fun h3 => ?_) (fun h3 => ?_)
        ·
          have h3' := ne_true_i h3
          refine Tri.seq_region [(20, .b false), (25, .b true)] none [29, 0, 1, 2] [] ((True ∧ True) ∧ ((True ∧ True) ∧ ((True ∧ True) ∧ ((True ∧ (((((p0.length : Nat) : Int) : Int) != 32) = false)) ∧ ((True ∧ True) ∧ ((True ∧ True) ∧ ((True ∧ True) ∧ ((True ∧ True) ∧ ((True ∧ (((((p1.length : Nat) : Int) : Int) != 32) = true)) ∧ ((True ∧ True) ∧ ((True ∧ True) ∧ ((True ∧ True) ∧ ((True ∧ True) ∧ True)))))))))))))
              ([(29, .sc (.b true)), (0, .sc (.ro .u8 p0)), (1, .sc (.ro .u8 p1)), (2, .sc (.ro .u8 p2))], [])
              256 (by kernel_rfl) rfl (by kernel_rfl) (⟨⟨trivial, trivial⟩, ⟨⟨trivial, trivial⟩, ⟨⟨trivial, trivial⟩, ⟨⟨trivial, (h2)⟩, ⟨⟨trivial, trivial⟩, ⟨⟨trivial, trivial⟩, ⟨⟨trivial, trivial⟩, ⟨⟨trivial, trivial⟩, ⟨⟨trivial, (h3)⟩, ⟨⟨trivial, trivial⟩, ⟨⟨trivial, trivial⟩, ⟨⟨trivial, trivial⟩, ⟨⟨trivial, trivial⟩, trivial⟩⟩⟩⟩⟩⟩⟩⟩⟩⟩⟩⟩⟩) ?_
          refine Tri.cond_true (by kernel_rfl) ?_
          refine Tri.seq_region [] none [6] [] ((True ∧ True) ∧ True)
              ([(6, .sc (.b true))], [])
              272 (by kernel_rfl) rfl (by kernel_rfl) (⟨⟨trivial, trivial⟩, trivial⟩) ?_
          refine Tri.ret ?_
          repeat (first | refine thenP_ret ?_ | refine blkP_ret ?_ | refine countP_ret ?_ | refine joinP_ret ?_)
          refine endP.conv (r' := ⟨.sc (.b true), []⟩) (by simp only [F12, h1, h2, h3, sel_true, sel_false]) ?_
          exact endP.ret [] (True ∧ True) (by kernel_rfl) (by kernel_rfl) (by kernel_rfl) ⟨trivial, trivial⟩
        ·
          have h3' := ne_false_i h3
          refine Tri.seq_region [(20, .b false), (25, .b false)] none [29, 0, 1, 2] [] ((True ∧ True) ∧ ((True ∧ True) ∧ ((True ∧ True) ∧ ((True ∧ (((((p0.length : Nat) : Int) : Int) != 32) = false)) ∧ ((True ∧ True) ∧ ((True ∧ True) ∧ ((True ∧ True) ∧ ((True ∧ True) ∧ ((True ∧ (((((p1.length : Nat) : Int) : Int) != 32) = false)) ∧ ((True ∧ True) ∧ ((True ∧ True) ∧ ((True ∧ True) ∧ ((True ∧ True) ∧ True)))))))))))))
              ([(29, .sc (.b ((((p2.length : Nat) : Int) : Int) != 32))), (0, .sc (.ro .u8 p0)), (1, .sc (.ro .u8 p1)), (2, .sc (.ro .u8 p2))], [])
              256 (by kernel_rfl) rfl (by kernel_rfl) (⟨⟨trivial, trivial⟩, ⟨⟨trivial, trivial⟩, ⟨⟨trivial, trivial⟩, ⟨⟨trivial, (h2)⟩, ⟨⟨trivial, trivial⟩, ⟨⟨trivial, trivial⟩, ⟨⟨trivial, trivial⟩, ⟨⟨trivial, trivial⟩, ⟨⟨trivial, (h3)⟩, ⟨⟨trivial, trivial⟩, ⟨⟨trivial, trivial⟩, ⟨⟨trivial, trivial⟩, ⟨⟨trivial, trivial⟩, trivial⟩⟩⟩⟩⟩⟩⟩⟩⟩⟩⟩⟩⟩) ?_
          refine Tri.cond (x := ((((p2.length : Nat) : Int) : Int) != 32)) (by kernel_rfl) (fun h4 => ?_) (fun h4 => ?_)
          ·
            have h4' := ne_true_i h4
            refine Tri.seq_region [] none [6] [] ((True ∧ True) ∧ True)
                ([(6, .sc (.b true))], [])
                272 (by kernel_rfl) rfl (by kernel_rfl) (⟨⟨trivial, trivial⟩, trivial⟩) ?_
            refine Tri.ret ?_
            repeat (first | refine thenP_ret ?_ | refine blkP_ret ?_ | refine countP_ret ?_ | refine joinP_ret ?_)
            refine endP.conv (r' := ⟨.sc (.b true), []⟩) (by simp only [F12, h1, h2, h3, h4, sel_true, sel_false]) ?_
            exact endP.ret [] (True ∧ True) (by kernel_rfl) (by kernel_rfl) (by kernel_rfl) ⟨trivial, trivial⟩
          ·
            have h4' := ne_false_i h4
            refine Tri.skip ?_
            change Tri _ _ _ _ _ _
            refine Tri.seq_region [] none [7, 0, 1, 2] [288] ((True ∧ True) ∧ ((True ∧ True) ∧ (((True ∧ True) ∧ True) ∧ ((True ∧ True) ∧ ((True ∧ True) ∧ ((True ∧ True) ∧ ((True ∧ True) ∧ ((True ∧ True) ∧ True))))))))
                ([(7, .sc (.sl 288 0 (F38n0 p0 p2) 1 (some (F38n0 p0 p2)))), (0, .sc (.ro .u8 p0)), (1, .sc (.ro .u8 p1)), (2, .sc (.ro .u8 p2))], [(288, .ints .u8 (F38n0 p0 p2) (F38_1 p0 p2))])
                384 (by kernel_rfl) rfl (by kernel_rfl) (⟨⟨trivial, trivial⟩, ⟨⟨trivial, trivial⟩, ⟨⟨⟨trivial, trivial⟩, trivial⟩, ⟨⟨trivial, trivial⟩, ⟨⟨trivial, trivial⟩, ⟨⟨trivial, trivial⟩, ⟨⟨trivial, trivial⟩, ⟨⟨trivial, trivial⟩, trivial⟩⟩⟩⟩⟩⟩⟩⟩) ?_
            refine Tri.seq_region [] none [9, 7, 0, 1] [416, 288] ((True ∧ True) ∧ ((True ∧ True) ∧ (((True ∧ True) ∧ True) ∧ ((True ∧ True) ∧ ((True ∧ True) ∧ ((True ∧ True) ∧ ((True ∧ True) ∧ ((True ∧ True) ∧ True))))))))
                ([(9, .sc (.sl 416 0 (F38n0 p1 p2) 1 (some (F38n0 p1 p2)))), (7, .sc (.sl 288 0 (F38n0 p0 p2) 1 (some (F38n0 p0 p2)))), (0, .sc (.ro .u8 p0)), (1, .sc (.ro .u8 p1))], [(416, .ints .u8 (F38n0 p1 p2) (F38_1 p1 p2)), (288, .ints .u8 (F38n0 p0 p2) (F38_1 p0 p2))])
                512 (by kernel_rfl) rfl (by kernel_rfl) (⟨⟨trivial, trivial⟩, ⟨⟨trivial, trivial⟩, ⟨⟨⟨trivial, trivial⟩, trivial⟩, ⟨⟨trivial, trivial⟩, ⟨⟨trivial, trivial⟩, ⟨⟨trivial, trivial⟩, ⟨⟨trivial, trivial⟩, ⟨⟨trivial, trivial⟩, trivial⟩⟩⟩⟩⟩⟩⟩⟩) ?_
            refine Tri.seq_region [] none [11, 9, 0] [544, 416] ((True ∧ True) ∧ ((True ∧ True) ∧ (((((0 + (F38n0 p0 p2) ≤ (F38n0 p0 p2)) ∧ True) ∧ True) ∧ True) ∧ ((True ∧ True) ∧ ((True ∧ True) ∧ ((True ∧ True) ∧ ((True ∧ True) ∧ ((True ∧ True) ∧ True))))))))
                ([(11, .sc (.sl 544 0 (F38n0 p1 (part1 (F38_1 p0 p2) (F38n0 p0 p2) 0 (F38n0 p0 p2))) 1 (some (F38n0 p1 (part1 (F38_1 p0 p2) (F38n0 p0 p2) 0 (F38n0 p0 p2)))))), (9, .sc (.sl 416 0 (F38n0 p1 p2) 1 (some (F38n0 p1 p2)))), (0, .sc (.ro .u8 p0))], [(544, .ints .u8 (F38n0 p1 (part1 (F38_1 p0 p2) (F38n0 p0 p2) 0 (F38n0 p0 p2))) (F38_1 p1 (part1 (F38_1 p0 p2) (F38n0 p0 p2) 0 (F38n0 p0 p2)))), (416, .ints .u8 (F38n0 p1 p2) (F38_1 p1 p2))])
                640 (by kernel_rfl) rfl (by kernel_rfl) (⟨⟨trivial, trivial⟩, ⟨⟨trivial, trivial⟩, ⟨⟨⟨⟨(by omega), trivial⟩, trivial⟩, trivial⟩, ⟨⟨trivial, trivial⟩, ⟨⟨trivial, trivial⟩, ⟨⟨trivial, trivial⟩, ⟨⟨trivial, trivial⟩, ⟨⟨trivial, trivial⟩, trivial⟩⟩⟩⟩⟩⟩⟩⟩) ?_
            refine Tri.seq_region [] none [13, 11] [672, 544] ((True ∧ True) ∧ ((True ∧ True) ∧ (((((0 + (F38n0 p1 p2) ≤ (F38n0 p1 p2)) ∧ True) ∧ True) ∧ True) ∧ ((True ∧ True) ∧ ((True ∧ True) ∧ ((True ∧ True) ∧ ((True ∧ True) ∧ ((True ∧ True) ∧ True))))))))
                ([(13, .sc (.sl 672 0 (F38n0 p0 (part1 (F38_1 p1 p2) (F38n0 p1 p2) 0 (F38n0 p1 p2))) 1 (some (F38n0 p0 (part1 (F38_1 p1 p2) (F38n0 p1 p2) 0 (F38n0 p1 p2)))))), (11, .sc (.sl 544 0 (F38n0 p1 (part1 (F38_1 p0 p2) (F38n0 p0 p2) 0 (F38n0 p0 p2))) 1 (some (F38n0 p1 (part1 (F38_1 p0 p2) (F38n0 p0 p2) 0 (F38n0 p0 p2))))))], [(672, .ints .u8 (F38n0 p0 (part1 (F38_1 p1 p2) (F38n0 p1 p2) 0 (F38n0 p1 p2))) (F38_1 p0 (part1 (F38_1 p1 p2) (F38n0 p1 p2) 0 (F38n0 p1 p2)))), (544, .ints .u8 (F38n0 p1 (part1 (F38_1 p0 p2) (F38n0 p0 p2) 0 (F38n0 p0 p2))) (F38_1 p1 (part1 (F38_1 p0 p2) (F38n0 p0 p2) 0 (F38n0 p0 p2))))])
                768 (by kernel_rfl) rfl (by kernel_rfl) (⟨⟨trivial, trivial⟩, ⟨⟨trivial, trivial⟩, ⟨⟨⟨⟨(by omega), trivial⟩, trivial⟩, trivial⟩, ⟨⟨trivial, trivial⟩, ⟨⟨trivial, trivial⟩, ⟨⟨trivial, trivial⟩, ⟨⟨trivial, trivial⟩, ⟨⟨trivial, trivial⟩, trivial⟩⟩⟩⟩⟩⟩⟩⟩) ?_
            refine Tri.split (((((F38n0 p1 (part1 (F38_1 p0 p2) (F38n0 p0 p2) 0 (F38n0 p0 p2))) : Nat) : Int) : Int) == 32) (fun h5 => ?_) (fun h5 => ?_)
            ·
              have h5' := eq_true_i h5
              refine Tri.seq_region [(57, .b true)] none [6] [] ((True ∧ True) ∧ ((True ∧ True) ∧ ((True ∧ True) ∧ ((True ∧ ((((((F38n0 p1 (part1 (F38_1 p0 p2) (F38n0 p0 p2) 0 (F38n0 p0 p2))) : Nat) : Int) : Int) == 32) = true)) ∧ ((True ∧ True) ∧ (((0 + (F38n0 p1 (part1 (F38_1 p0 p2) (F38n0 p0 p2) 0 (F38n0 p0 p2))) ≤ (F38n0 p1 (part1 (F38_1 p0 p2) (F38n0 p0 p2) 0 (F38n0 p0 p2)))) ∧ True) ∧ ((True ∧ True) ∧ (((0 + (F38n0 p0 (part1 (F38_1 p1 p2) (F38n0 p1 p2) 0 (F38n0 p1 p2))) ≤ (F38n0 p0 (part1 (F38_1 p1 p2) (F38n0 p1 p2) 0 (F38n0 p1 p2)))) ∧ True) ∧ ((True ∧ True) ∧ ((True ∧ True) ∧ ((True ∧ True) ∧ True)))))))))))
                  ([(6, .sc (.b (strEq (bytesOf (((F38_1 p1 (part1 (F38_1 p0 p2) (F38n0 p0 p2) 0 (F38n0 p0 p2))).drop 0).take (F38n0 p1 (part1 (F38_1 p0 p2) (F38n0 p0 p2) 0 (F38n0 p0 p2))))) (bytesOf (((F38_1 p0 (part1 (F38_1 p1 p2) (F38n0 p1 p2) 0 (F38n0 p1 p2))).drop 0).take (F38n0 p0 (part1 (F38_1 p1 p2) (F38n0 p1 p2) 0 (F38n0 p1 p2))))))))], [])
                  944 (by kernel_rfl) rfl (by kernel_rfl) (⟨⟨trivial, trivial⟩, ⟨⟨trivial, trivial⟩, ⟨⟨trivial, trivial⟩, ⟨⟨trivial, (h5)⟩, ⟨⟨trivial, trivial⟩, ⟨⟨(by omega), trivial⟩, ⟨⟨trivial, trivial⟩, ⟨⟨(by omega), trivial⟩, ⟨⟨trivial, trivial⟩, ⟨⟨trivial, trivial⟩, ⟨⟨trivial, trivial⟩, trivial⟩⟩⟩⟩⟩⟩⟩⟩⟩⟩⟩) ?_
              refine Tri.ret ?_
              repeat (first | refine thenP_ret ?_ | refine blkP_ret ?_ | refine countP_ret ?_ | refine joinP_ret ?_)
              refine endP.conv (r' := ⟨.sc (.b (strEq (bytesOf (((F38_1 p1 (part1 (F38_1 p0 p2) (F38n0 p0 p2) 0 (F38n0 p0 p2))).drop 0).take (F38n0 p1 (part1 (F38_1 p0 p2) (F38n0 p0 p2) 0 (F38n0 p0 p2))))) (bytesOf (((F38_1 p0 (part1 (F38_1 p1 p2) (F38n0 p1 p2) 0 (F38n0 p1 p2))).drop 0).take (F38n0 p0 (part1 (F38_1 p1 p2) (F38n0 p1 p2) 0 (F38n0 p1 p2))))))), []⟩) (by simp only [F12, h1, h2, h3, h4, h5, sel_true, sel_false]) ?_
              exact endP.ret [] (True ∧ True) (by kernel_rfl) (by kernel_rfl) (by kernel_rfl) ⟨trivial, trivial⟩
            ·
              have h5' := eq_false_i h5
              refine Tri.seq_region [(57, .b false)] none [6] [] ((True ∧ True) ∧ ((True ∧ True) ∧ ((True ∧ True) ∧ ((True ∧ ((((((F38n0 p1 (part1 (F38_1 p0 p2) (F38n0 p0 p2) 0 (F38n0 p0 p2))) : Nat) : Int) : Int) == 32) = false)) ∧ ((True ∧ True) ∧ ((True ∧ True) ∧ ((True ∧ True) ∧ ((True ∧ True) ∧ ((True ∧ True) ∧ ((True ∧ True) ∧ ((True ∧ True) ∧ True)))))))))))
                  ([(6, .sc (.b false))], [])
                  944 (by kernel_rfl) rfl (by kernel_rfl) (⟨⟨trivial, trivial⟩, ⟨⟨trivial, trivial⟩, ⟨⟨trivial, trivial⟩, ⟨⟨trivial, (h5)⟩, ⟨⟨trivial, trivial⟩, ⟨⟨trivial, trivial⟩, ⟨⟨trivial, trivial⟩, ⟨⟨trivial, trivial⟩, ⟨⟨trivial, trivial⟩, ⟨⟨trivial, trivial⟩, ⟨⟨trivial, trivial⟩, trivial⟩⟩⟩⟩⟩⟩⟩⟩⟩⟩⟩) ?_
              refine Tri.ret ?_
              repeat (first | refine thenP_ret ?_ | refine blkP_ret ?_ | refine countP_ret ?_ | refine joinP_ret ?_)
              refine endP.conv (r' := ⟨.sc (.b false), []⟩) (by simp only [F12, h1, h2, h3, h4, h5, sel_true, sel_false]) ?_
              exact endP.ret [] (True ∧ True) (by kernel_rfl) (by kernel_rfl) (by kernel_rfl) ⟨trivial, trivial⟩

end Go.Vm
