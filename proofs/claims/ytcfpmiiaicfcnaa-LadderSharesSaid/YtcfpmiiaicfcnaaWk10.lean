/- What the functions compute, and that they do: walked by a printed text. -/
import Derived.Test.YtcfpmiiaicfcnaaWkL
set_option linter.unusedVariables false
set_option linter.unusedSimpArgs false
set_option maxRecDepth 4000
namespace Go.Vm
open Go

noncomputable def F10 (p0 : List Int) (p1 : List Int) (p2 : List Int) : Bool :=
  (sel (!(F37)) false (sel ((((p0.length : Nat) : Int) : Int) != 32) ((((F40 p0) : Int) == 0) == ((((p0.length : Nat) : Int) : Int) == 32)) (sel ((((p1.length : Nat) : Int) : Int) != 32) ((((F40 p0) : Int) == 0) == ((((p0.length : Nat) : Int) : Int) == 32)) (sel (((iAdd .i64 (F41 p0 (part1 (F40_1 p1) (F40n0 p1) 0 (F40n0 p1))) (F41 p1 (part1 (F40_1 p0) (F40n0 p0) 0 (F40n0 p0)))) : Int) != 0) false (sel (!(strEq (bytesOf (((F41_1 p0 (part1 (F40_1 p1) (F40n0 p1) 0 (F40n0 p1))).drop 0).take (F41n0 p0 (part1 (F40_1 p1) (F40n0 p1) 0 (F40n0 p1))))) (bytesOf (((F41_1 p1 (part1 (F40_1 p0) (F40n0 p0) 0 (F40n0 p0))).drop 0).take (F41n0 p1 (part1 (F40_1 p0) (F40n0 p0) 0 (F40n0 p0))))))) false (sel (!(strEq (bytesOf (((F40_1 p0).drop 0).take (F40n0 p0))) (bytesOf (((F42 p0).drop 0).take (F42n0 p0))))) false (sel (((F38 p0 p2) : Int) == 0) (sel (strEq (bytesOf (((F38_1 p0 p2).drop 0).take (F38n0 p0 p2))) (bytesOf (((List.replicate 32 0).drop 0).take 32))) (sel (((F41 p0 p2) : Int) == 3) (((((F41n0 p0 p2) : Nat) : Int) : Int) == 0) false) (sel (((F41 p0 p2) : Int) == (F38 p0 p2)) (strEq (bytesOf (((F41_1 p0 p2).drop 0).take (F41n0 p0 p2))) (bytesOf (((F38_1 p0 p2).drop 0).take (F38n0 p0 p2)))) false)) (sel (((F41 p0 p2) : Int) == (F38 p0 p2)) (strEq (bytesOf (((F41_1 p0 p2).drop 0).take (F41n0 p0 p2))) (bytesOf (((F38_1 p0 p2).drop 0).take (F38n0 p0 p2)))) false))))))))

noncomputable def S10 : List AV → Option (Prop × Ret)
  | [.sc (.ro .u8 p0), .sc (.ro .u8 p1), .sc (.ro .u8 p2)] => some (True, ⟨.sc (.b (F10 p0 p1 p2)), []⟩)
  | _ => none

noncomputable def B10 : Bs := { P := Go.Proofs.Try.prog, G := noG, tab := tabOf [(37, ⟨[], 0, S37⟩), (38, ⟨[.ro .u8, .ro .u8], 1, S38⟩), (40, ⟨[.ro .u8], 1, S40⟩), (41, ⟨[.ro .u8, .ro .u8], 1, S41⟩), (42, ⟨[.ro .u8], 1, S42⟩)], n := 121 }

theorem B10.ok : B10.Ok := ⟨tabOk (P := Go.Proofs.Try.prog) (G := noG) (l := [(37, ⟨[], 0, S37⟩), (38, ⟨[.ro .u8, .ro .u8], 1, S38⟩), (40, ⟨[.ro .u8], 1, S40⟩), (41, ⟨[.ro .u8, .ro .u8], 1, S41⟩), (42, ⟨[.ro .u8], 1, S42⟩)]) (And.intro K37 (And.intro K38 (And.intro K40 (And.intro K41 (And.intro K42 True.intro))))), mixed⟩

theorem K10 : Known Go.Proofs.Try.prog noG 10 ⟨[.ro .u8, .ro .u8, .ro .u8], 0, S10⟩ := by
  refine Known.walk (B := B10) (fn := Go.Proofs.Try.f10) B10.ok (by kernel_rfl) rfl (by kernel_rfl) (by kernel_rfl) (by decide) ?_ ?_
  · intro vs C r h
    simp only at h
    unfold S10 at h
    split at h
    · cases h; rfl
    · cases h
  · intro E args C r h hC hlen
    simp only at h
    unfold S10 at h
    split at h
    rotate_left
    · cases h
    rename_i p0 p1 p2
    cases h
    simp only [lens] at hlen
    refine ⟨show 3 ≤ 121 from by decide, ?_⟩
    refine Tri.sub (Sub.of_eq (show _ = ([(0, .sc (.ro .u8 p0)), (1, .sc (.ro .u8 p1)), (2, .sc (.ro .u8 p2))], []) from rfl)) ?_
    refine Tri.seq_region [] none [0, 1, 2] [] ((True ∧ True) ∧ True)
        ([(0, .sc (.ro .u8 p0)), (1, .sc (.ro .u8 p1)), (2, .sc (.ro .u8 p2))], [])
        16 (by kernel_rfl) rfl (by kernel_rfl) (⟨⟨trivial, trivial⟩, trivial⟩) ?_
    refine Tri.seq ?_
    refine Tri.seq_region [] none [22, 0, 1, 2] [] (((True ∧ True) ∧ True) ∧ ((True ∧ True) ∧ True))
        ([(22, .sc (.b (!(F37)))), (0, .sc (.ro .u8 p0)), (1, .sc (.ro .u8 p1)), (2, .sc (.ro .u8 p2))], [])
        48 (by kernel_rfl) rfl (by kernel_rfl) (⟨⟨⟨trivial, trivial⟩, trivial⟩, ⟨⟨trivial, trivial⟩, trivial⟩⟩) ?_
    refine Tri.cond (x := (!(F37))) (by kernel_rfl) (fun h1 => ?_) (fun h1 => ?_)
    ·
      refine Tri.seq_region [] none [6] [] ((True ∧ True) ∧ True)
          ([(6, .sc (.b false))], [])
          64 (by kernel_rfl) rfl (by kernel_rfl) (⟨⟨trivial, trivial⟩, trivial⟩) ?_
      refine Tri.ret ?_
      repeat (first | refine thenP_ret ?_ | refine blkP_ret ?_ | refine countP_ret ?_ | refine joinP_ret ?_)
      refine endP.conv (r' := ⟨.sc (.b false), []⟩) (by simp only [F10, h1, sel_true, sel_false]) ?_
      exact endP.ret [] (True ∧ True) (by kernel_rfl) (by kernel_rfl) (by kernel_rfl) ⟨trivial, trivial⟩
    ·
      refine Tri.skip ?_
      change Tri _ _ _ _ _ _
      refine Tri.seq ?_
      refine Tri.split ((((p0.length : Nat) : Int) : Int) != 32) (fun h2 => ?_) (fun h2 => ?_)
      ·
        have h2' := ne_true_i h2
        refine Tri.seq_region [(26, .b true)] none [30, 0, 1, 2] [] ((True ∧ True) ∧ ((True ∧ True) ∧ ((True ∧ True) ∧ ((True ∧ (((((p0.length : Nat) : Int) : Int) != 32) = true)) ∧ ((True ∧ True) ∧ ((True ∧ True) ∧ ((True ∧ True) ∧ ((True ∧ True) ∧ True))))))))
            ([(30, .sc (.b true)), (0, .sc (.ro .u8 p0)), (1, .sc (.ro .u8 p1)), (2, .sc (.ro .u8 p2))], [])
            176 (by kernel_rfl) rfl (by kernel_rfl) (⟨⟨trivial, trivial⟩, ⟨⟨trivial, trivial⟩, ⟨⟨trivial, trivial⟩, ⟨⟨trivial, (h2)⟩, ⟨⟨trivial, trivial⟩, ⟨⟨trivial, trivial⟩, ⟨⟨trivial, trivial⟩, ⟨⟨trivial, trivial⟩, trivial⟩⟩⟩⟩⟩⟩⟩⟩) ?_
        refine Tri.cond_true (by kernel_rfl) ?_
        refine Tri.seq_region [] none [8, 0] [] ((True ∧ True) ∧ (((True ∧ True) ∧ True) ∧ ((True ∧ True) ∧ ((True ∧ True) ∧ ((True ∧ True) ∧ ((True ∧ True) ∧ ((True ∧ True) ∧ True)))))))
            ([(8, .sc (.i .i64 (F40 p0))), (0, .sc (.ro .u8 p0))], [])
            288 (by kernel_rfl) rfl (by kernel_rfl) (⟨⟨trivial, trivial⟩, ⟨⟨⟨trivial, trivial⟩, trivial⟩, ⟨⟨trivial, trivial⟩, ⟨⟨trivial, trivial⟩, ⟨⟨trivial, trivial⟩, ⟨⟨trivial, trivial⟩, ⟨⟨trivial, trivial⟩, trivial⟩⟩⟩⟩⟩⟩⟩) ?_
        refine Tri.seq_region [] none [6] [] ((True ∧ True) ∧ ((True ∧ True) ∧ ((True ∧ True) ∧ ((True ∧ True) ∧ ((True ∧ True) ∧ ((True ∧ True) ∧ ((True ∧ True) ∧ True)))))))
            ([(6, .sc (.b ((((F40 p0) : Int) == 0) == ((((p0.length : Nat) : Int) : Int) == 32))))], [])
            400 (by kernel_rfl) rfl (by kernel_rfl) (⟨⟨trivial, trivial⟩, ⟨⟨trivial, trivial⟩, ⟨⟨trivial, trivial⟩, ⟨⟨trivial, trivial⟩, ⟨⟨trivial, trivial⟩, ⟨⟨trivial, trivial⟩, ⟨⟨trivial, trivial⟩, trivial⟩⟩⟩⟩⟩⟩⟩) ?_
        refine Tri.ret ?_
        repeat (first | refine thenP_ret ?_ | refine blkP_ret ?_ | refine countP_ret ?_ | refine joinP_ret ?_)
        refine endP.conv (r' := ⟨.sc (.b ((((F40 p0) : Int) == 0) == ((((p0.length : Nat) : Int) : Int) == 32))), []⟩) (by simp only [F10, h1, h2, sel_true, sel_false]) ?_
        exact endP.ret [] (True ∧ True) (by kernel_rfl) (by kernel_rfl) (by kernel_rfl) ⟨trivial, trivial⟩
      ·
        have h2' := ne_false_i h2
        refine Tri.seq_region [(26, .b false)] none [30, 0, 1, 2] [] ((True ∧ True) ∧ ((True ∧ True) ∧ ((True ∧ True) ∧ ((True ∧ (((((p0.length : Nat) : Int) : Int) != 32) = false)) ∧ ((True ∧ True) ∧ ((True ∧ True) ∧ ((True ∧ True) ∧ ((True ∧ True) ∧ True))))))))
            ([(30, .sc (.b ((((p1.length : Nat) : Int) : Int) != 32))), (0, .sc (.ro .u8 p0)), (1, .sc (.ro .u8 p1)), (2, .sc (.ro .u8 p2))], [])
            176 (by kernel_rfl) rfl (by kernel_rfl) (⟨⟨trivial, trivial⟩, ⟨⟨trivial, trivial⟩, ⟨⟨trivial, trivial⟩, ⟨⟨trivial, (h2)⟩, ⟨⟨trivial, trivial⟩, ⟨⟨trivial, trivial⟩, ⟨⟨trivial, trivial⟩, ⟨⟨trivial, trivial⟩, trivial⟩⟩⟩⟩⟩⟩⟩⟩) ?_
        refine Tri.cond (x := ((((p1.length : Nat) : Int) : Int) != 32)) (by kernel_rfl) (fun h3 => ?_) (fun h3 => ?_)
        ·
          have h3' := ne_true_i h3
          refine Tri.seq_region [] none [8, 0] [] ((True ∧ True) ∧ (((True ∧ True) ∧ True) ∧ ((True ∧ True) ∧ ((True ∧ True) ∧ ((True ∧ True) ∧ ((True ∧ True) ∧ ((True ∧ True) ∧ True)))))))
              ([(8, .sc (.i .i64 (F40 p0))), (0, .sc (.ro .u8 p0))], [])
              288 (by kernel_rfl) rfl (by kernel_rfl) (⟨⟨trivial, trivial⟩, ⟨⟨⟨trivial, trivial⟩, trivial⟩, ⟨⟨trivial, trivial⟩, ⟨⟨trivial, trivial⟩, ⟨⟨trivial, trivial⟩, ⟨⟨trivial, trivial⟩, ⟨⟨trivial, trivial⟩, trivial⟩⟩⟩⟩⟩⟩⟩) ?_
          refine Tri.seq_region [] none [6] [] ((True ∧ True) ∧ ((True ∧ True) ∧ ((True ∧ True) ∧ ((True ∧ True) ∧ ((True ∧ True) ∧ ((True ∧ True) ∧ ((True ∧ True) ∧ True)))))))
              ([(6, .sc (.b ((((F40 p0) : Int) == 0) == ((((p0.length : Nat) : Int) : Int) == 32))))], [])
              400 (by kernel_rfl) rfl (by kernel_rfl) (⟨⟨trivial, trivial⟩, ⟨⟨trivial, trivial⟩, ⟨⟨trivial, trivial⟩, ⟨⟨trivial, trivial⟩, ⟨⟨trivial, trivial⟩, ⟨⟨trivial, trivial⟩, ⟨⟨trivial, trivial⟩, trivial⟩⟩⟩⟩⟩⟩⟩) ?_
          refine Tri.ret ?_
          repeat (first | refine thenP_ret ?_ | refine blkP_ret ?_ | refine countP_ret ?_ | refine joinP_ret ?_)
          refine endP.conv (r' := ⟨.sc (.b ((((F40 p0) : Int) == 0) == ((((p0.length : Nat) : Int) : Int) == 32))), []⟩) (by simp only [F10, h1, h2, h3, sel_true, sel_false]) ?_
          exact endP.ret [] (True ∧ True) (by kernel_rfl) (by kernel_rfl) (by kernel_rfl) ⟨trivial, trivial⟩
        ·
          have h3' := ne_false_i h3
          refine Tri.skip ?_
          change Tri _ _ _ _ _ _
          refine Tri.seq_region [] none [9, 0, 1, 2] [192] ((True ∧ True) ∧ (((True ∧ True) ∧ True) ∧ ((True ∧ True) ∧ ((True ∧ True) ∧ ((True ∧ True) ∧ ((True ∧ True) ∧ ((True ∧ True) ∧ True)))))))
              ([(9, .sc (.sl 192 0 (F40n0 p0) 1 (some (F40n0 p0)))), (0, .sc (.ro .u8 p0)), (1, .sc (.ro .u8 p1)), (2, .sc (.ro .u8 p2))], [(192, .ints .u8 (F40n0 p0) (F40_1 p0))])
              288 (by kernel_rfl) rfl (by kernel_rfl) (⟨⟨trivial, trivial⟩, ⟨⟨⟨trivial, trivial⟩, trivial⟩, ⟨⟨trivial, trivial⟩, ⟨⟨trivial, trivial⟩, ⟨⟨trivial, trivial⟩, ⟨⟨trivial, trivial⟩, ⟨⟨trivial, trivial⟩, trivial⟩⟩⟩⟩⟩⟩⟩) ?_
          refine Tri.seq_region [] none [11, 9, 0, 1, 2] [304, 192] ((True ∧ True) ∧ (((True ∧ True) ∧ True) ∧ ((True ∧ True) ∧ ((True ∧ True) ∧ ((True ∧ True) ∧ ((True ∧ True) ∧ ((True ∧ True) ∧ True)))))))
              ([(11, .sc (.sl 304 0 (F40n0 p1) 1 (some (F40n0 p1)))), (9, .sc (.sl 192 0 (F40n0 p0) 1 (some (F40n0 p0)))), (0, .sc (.ro .u8 p0)), (1, .sc (.ro .u8 p1)), (2, .sc (.ro .u8 p2))], [(304, .ints .u8 (F40n0 p1) (F40_1 p1)), (192, .ints .u8 (F40n0 p0) (F40_1 p0))])
              400 (by kernel_rfl) rfl (by kernel_rfl) (⟨⟨trivial, trivial⟩, ⟨⟨⟨trivial, trivial⟩, trivial⟩, ⟨⟨trivial, trivial⟩, ⟨⟨trivial, trivial⟩, ⟨⟨trivial, trivial⟩, ⟨⟨trivial, trivial⟩, ⟨⟨trivial, trivial⟩, trivial⟩⟩⟩⟩⟩⟩⟩) ?_
          refine Tri.seq_region [] none [14, 13, 9, 0, 1, 2] [432, 192] ((True ∧ True) ∧ ((True ∧ True) ∧ (((((0 + (F40n0 p1) ≤ (F40n0 p1)) ∧ True) ∧ True) ∧ True) ∧ ((True ∧ True) ∧ ((True ∧ True) ∧ ((True ∧ True) ∧ ((True ∧ True) ∧ ((True ∧ True) ∧ True))))))))
              ([(14, .sc (.i .i64 (F41 p0 (part1 (F40_1 p1) (F40n0 p1) 0 (F40n0 p1))))), (13, .sc (.sl 432 0 (F41n0 p0 (part1 (F40_1 p1) (F40n0 p1) 0 (F40n0 p1))) 1 (some (F41n0 p0 (part1 (F40_1 p1) (F40n0 p1) 0 (F40n0 p1)))))), (9, .sc (.sl 192 0 (F40n0 p0) 1 (some (F40n0 p0)))), (0, .sc (.ro .u8 p0)), (1, .sc (.ro .u8 p1)), (2, .sc (.ro .u8 p2))], [(432, .ints .u8 (F41n0 p0 (part1 (F40_1 p1) (F40n0 p1) 0 (F40n0 p1))) (F41_1 p0 (part1 (F40_1 p1) (F40n0 p1) 0 (F40n0 p1)))), (192, .ints .u8 (F40n0 p0) (F40_1 p0))])
              528 (by kernel_rfl) rfl (by kernel_rfl) (⟨⟨trivial, trivial⟩, ⟨⟨trivial, trivial⟩, ⟨⟨⟨⟨(by omega), trivial⟩, trivial⟩, trivial⟩, ⟨⟨trivial, trivial⟩, ⟨⟨trivial, trivial⟩, ⟨⟨trivial, trivial⟩, ⟨⟨trivial, trivial⟩, ⟨⟨trivial, trivial⟩, trivial⟩⟩⟩⟩⟩⟩⟩⟩) ?_
          refine Tri.seq_region [] none [16, 15, 14, 13, 9, 0, 2] [560, 432, 192] ((True ∧ True) ∧ ((True ∧ True) ∧ (((((0 + (F40n0 p0) ≤ (F40n0 p0)) ∧ True) ∧ True) ∧ True) ∧ ((True ∧ True) ∧ ((True ∧ True) ∧ ((True ∧ True) ∧ ((True ∧ True) ∧ ((True ∧ True) ∧ True))))))))
              ([(16, .sc (.i .i64 (F41 p1 (part1 (F40_1 p0) (F40n0 p0) 0 (F40n0 p0))))), (15, .sc (.sl 560 0 (F41n0 p1 (part1 (F40_1 p0) (F40n0 p0) 0 (F40n0 p0))) 1 (some (F41n0 p1 (part1 (F40_1 p0) (F40n0 p0) 0 (F40n0 p0)))))), (14, .sc (.i .i64 (F41 p0 (part1 (F40_1 p1) (F40n0 p1) 0 (F40n0 p1))))), (13, .sc (.sl 432 0 (F41n0 p0 (part1 (F40_1 p1) (F40n0 p1) 0 (F40n0 p1))) 1 (some (F41n0 p0 (part1 (F40_1 p1) (F40n0 p1) 0 (F40n0 p1)))))), (9, .sc (.sl 192 0 (F40n0 p0) 1 (some (F40n0 p0)))), (0, .sc (.ro .u8 p0)), (2, .sc (.ro .u8 p2))], [(560, .ints .u8 (F41n0 p1 (part1 (F40_1 p0) (F40n0 p0) 0 (F40n0 p0))) (F41_1 p1 (part1 (F40_1 p0) (F40n0 p0) 0 (F40n0 p0)))), (432, .ints .u8 (F41n0 p0 (part1 (F40_1 p1) (F40n0 p1) 0 (F40n0 p1))) (F41_1 p0 (part1 (F40_1 p1) (F40n0 p1) 0 (F40n0 p1)))), (192, .ints .u8 (F40n0 p0) (F40_1 p0))])
              656 (by kernel_rfl) rfl (by kernel_rfl) (⟨⟨trivial, trivial⟩, ⟨⟨trivial, trivial⟩, ⟨⟨⟨⟨(by omega), trivial⟩, trivial⟩, trivial⟩, ⟨⟨trivial, trivial⟩, ⟨⟨trivial, trivial⟩, ⟨⟨trivial, trivial⟩, ⟨⟨trivial, trivial⟩, ⟨⟨trivial, trivial⟩, trivial⟩⟩⟩⟩⟩⟩⟩⟩) ?_
          refine Tri.seq_region [] none [18, 17, 16, 15, 14, 13, 9, 0, 2] [688, 560, 432, 192] ((True ∧ True) ∧ ((True ∧ True) ∧ (((True ∧ True) ∧ True) ∧ ((True ∧ True) ∧ ((True ∧ True) ∧ ((True ∧ True) ∧ ((True ∧ True) ∧ ((True ∧ True) ∧ True))))))))
              ([(18, .sc (.i .i64 (F41 p0 p2))), (17, .sc (.sl 688 0 (F41n0 p0 p2) 1 (some (F41n0 p0 p2)))), (16, .sc (.i .i64 (F41 p1 (part1 (F40_1 p0) (F40n0 p0) 0 (F40n0 p0))))), (15, .sc (.sl 560 0 (F41n0 p1 (part1 (F40_1 p0) (F40n0 p0) 0 (F40n0 p0))) 1 (some (F41n0 p1 (part1 (F40_1 p0) (F40n0 p0) 0 (F40n0 p0)))))), (14, .sc (.i .i64 (F41 p0 (part1 (F40_1 p1) (F40n0 p1) 0 (F40n0 p1))))), (13, .sc (.sl 432 0 (F41n0 p0 (part1 (F40_1 p1) (F40n0 p1) 0 (F40n0 p1))) 1 (some (F41n0 p0 (part1 (F40_1 p1) (F40n0 p1) 0 (F40n0 p1)))))), (9, .sc (.sl 192 0 (F40n0 p0) 1 (some (F40n0 p0)))), (0, .sc (.ro .u8 p0)), (2, .sc (.ro .u8 p2))], [(688, .ints .u8 (F41n0 p0 p2) (F41_1 p0 p2)), (560, .ints .u8 (F41n0 p1 (part1 (F40_1 p0) (F40n0 p0) 0 (F40n0 p0))) (F41_1 p1 (part1 (F40_1 p0) (F40n0 p0) 0 (F40n0 p0)))), (432, .ints .u8 (F41n0 p0 (part1 (F40_1 p1) (F40n0 p1) 0 (F40n0 p1))) (F41_1 p0 (part1 (F40_1 p1) (F40n0 p1) 0 (F40n0 p1)))), (192, .ints .u8 (F40n0 p0) (F40_1 p0))])
              784 (by kernel_rfl) rfl (by kernel_rfl) (⟨⟨trivial, trivial⟩, ⟨⟨trivial, trivial⟩, ⟨⟨⟨trivial, trivial⟩, trivial⟩, ⟨⟨trivial, trivial⟩, ⟨⟨trivial, trivial⟩, ⟨⟨trivial, trivial⟩, ⟨⟨trivial, trivial⟩, ⟨⟨trivial, trivial⟩, trivial⟩⟩⟩⟩⟩⟩⟩⟩) ?_
          refine Tri.seq_region [] none [20, 19, 18, 17, 16, 15, 14, 13, 9, 0] [816, 688, 560, 432, 192] ((True ∧ True) ∧ ((True ∧ True) ∧ (((True ∧ True) ∧ True) ∧ ((True ∧ True) ∧ ((True ∧ True) ∧ ((True ∧ True) ∧ ((True ∧ True) ∧ ((True ∧ True) ∧ True))))))))
              ([(20, .sc (.i .i64 (F38 p0 p2))), (19, .sc (.sl 816 0 (F38n0 p0 p2) 1 (some (F38n0 p0 p2)))), (18, .sc (.i .i64 (F41 p0 p2))), (17, .sc (.sl 688 0 (F41n0 p0 p2) 1 (some (F41n0 p0 p2)))), (16, .sc (.i .i64 (F41 p1 (part1 (F40_1 p0) (F40n0 p0) 0 (F40n0 p0))))), (15, .sc (.sl 560 0 (F41n0 p1 (part1 (F40_1 p0) (F40n0 p0) 0 (F40n0 p0))) 1 (some (F41n0 p1 (part1 (F40_1 p0) (F40n0 p0) 0 (F40n0 p0)))))), (14, .sc (.i .i64 (F41 p0 (part1 (F40_1 p1) (F40n0 p1) 0 (F40n0 p1))))), (13, .sc (.sl 432 0 (F41n0 p0 (part1 (F40_1 p1) (F40n0 p1) 0 (F40n0 p1))) 1 (some (F41n0 p0 (part1 (F40_1 p1) (F40n0 p1) 0 (F40n0 p1)))))), (9, .sc (.sl 192 0 (F40n0 p0) 1 (some (F40n0 p0)))), (0, .sc (.ro .u8 p0))], [(816, .ints .u8 (F38n0 p0 p2) (F38_1 p0 p2)), (688, .ints .u8 (F41n0 p0 p2) (F41_1 p0 p2)), (560, .ints .u8 (F41n0 p1 (part1 (F40_1 p0) (F40n0 p0) 0 (F40n0 p0))) (F41_1 p1 (part1 (F40_1 p0) (F40n0 p0) 0 (F40n0 p0)))), (432, .ints .u8 (F41n0 p0 (part1 (F40_1 p1) (F40n0 p1) 0 (F40n0 p1))) (F41_1 p0 (part1 (F40_1 p1) (F40n0 p1) 0 (F40n0 p1)))), (192, .ints .u8 (F40n0 p0) (F40_1 p0))])
              912 (by kernel_rfl) rfl (by kernel_rfl) (⟨⟨trivial, trivial⟩, ⟨⟨trivial, trivial⟩, ⟨⟨⟨trivial, trivial⟩, trivial⟩, ⟨⟨trivial, trivial⟩, ⟨⟨trivial, trivial⟩, ⟨⟨trivial, trivial⟩, ⟨⟨trivial, trivial⟩, ⟨⟨trivial, trivial⟩, trivial⟩⟩⟩⟩⟩⟩⟩⟩) ?_
          refine Tri.seq ?_
          refine Tri.split (((iAdd .i64 (F41 p0 (part1 (F40_1 p1) (F40n0 p1) 0 (F40n0 p1))) (F41 p1 (part1 (F40_1 p0) (F40n0 p0) 0 (F40n0 p0)))) : Int) != 0) (fun h4 => ?_) (fun h4 => ?_)
          ·
            have h4' := ne_true_i h4
            refine Tri.seq_region [(80, .b true)] (some [0, 0, 3, 7, 15, 31, 63, 31, 159, 511, 1023, 2047, 4095, 8191, 4095, 20479, 53247, 131071, 262143]) [94, 20, 19, 18, 17] [816, 688] ((True ∧ True) ∧ ((True ∧ True) ∧ ((True ∧ True) ∧ ((True ∧ True) ∧ ((True ∧ ((((iAdd .i64 (F41 p0 (part1 (F40_1 p1) (F40n0 p1) 0 (F40n0 p1))) (F41 p1 (part1 (F40_1 p0) (F40n0 p0) 0 (F40n0 p0)))) : Int) != 0) = true)) ∧ ((True ∧ True) ∧ ((True ∧ True) ∧ ((True ∧ True) ∧ ((True ∧ True) ∧ ((True ∧ True) ∧ ((True ∧ True) ∧ ((True ∧ True) ∧ ((True ∧ True) ∧ ((True ∧ True) ∧ ((True ∧ True) ∧ ((True ∧ True) ∧ ((True ∧ True) ∧ ((True ∧ True) ∧ ((True ∧ True) ∧ True)))))))))))))))))))
                ([(94, .sc (.b true)), (20, .sc (.i .i64 (F38 p0 p2))), (19, .sc (.sl 816 0 (F38n0 p0 p2) 1 (some (F38n0 p0 p2)))), (18, .sc (.i .i64 (F41 p0 p2))), (17, .sc (.sl 688 0 (F41n0 p0 p2) 1 (some (F41n0 p0 p2))))], [(816, .ints .u8 (F38n0 p0 p2) (F38_1 p0 p2)), (688, .ints .u8 (F41n0 p0 p2) (F41_1 p0 p2))])
                1216 (by kernel_rfl) rfl (by kernel_rfl) (⟨⟨trivial, trivial⟩, ⟨⟨trivial, trivial⟩, ⟨⟨trivial, trivial⟩, ⟨⟨trivial, trivial⟩, ⟨⟨trivial, (h4)⟩, ⟨⟨trivial, trivial⟩, ⟨⟨trivial, trivial⟩, ⟨⟨trivial, trivial⟩, ⟨⟨trivial, trivial⟩, ⟨⟨trivial, trivial⟩, ⟨⟨trivial, trivial⟩, ⟨⟨trivial, trivial⟩, ⟨⟨trivial, trivial⟩, ⟨⟨trivial, trivial⟩, ⟨⟨trivial, trivial⟩, ⟨⟨trivial, trivial⟩, ⟨⟨trivial, trivial⟩, ⟨⟨trivial, trivial⟩, ⟨⟨trivial, trivial⟩, trivial⟩⟩⟩⟩⟩⟩⟩⟩⟩⟩⟩⟩⟩⟩⟩⟩⟩⟩⟩) ?_
            refine Tri.cond_true (by kernel_rfl) ?_
            refine Tri.seq_region [] none [6] [] ((True ∧ True) ∧ True)
                ([(6, .sc (.b false))], [])
                1232 (by kernel_rfl) rfl (by kernel_rfl) (⟨⟨trivial, trivial⟩, trivial⟩) ?_
            refine Tri.ret ?_
            repeat (first | refine thenP_ret ?_ | refine blkP_ret ?_ | refine countP_ret ?_ | refine joinP_ret ?_)
            refine endP.conv (r' := ⟨.sc (.b false), []⟩) (by simp only [F10, h1, h2, h3, h4, sel_true, sel_false]) ?_
            exact endP.ret [] (True ∧ True) (by kernel_rfl) (by kernel_rfl) (by kernel_rfl) ⟨trivial, trivial⟩
          ·
            have h4' := ne_false_i h4
            refine Tri.split (!(strEq (bytesOf (((F41_1 p0 (part1 (F40_1 p1) (F40n0 p1) 0 (F40n0 p1))).drop 0).take (F41n0 p0 (part1 (F40_1 p1) (F40n0 p1) 0 (F40n0 p1))))) (bytesOf (((F41_1 p1 (part1 (F40_1 p0) (F40n0 p0) 0 (F40n0 p0))).drop 0).take (F41n0 p1 (part1 (F40_1 p0) (F40n0 p0) 0 (F40n0 p0))))))) (fun h5 => ?_) (fun h5 => ?_)
            ·
              refine Tri.seq_region [(80, .b false), (87, .b true)] (some [0, 0, 3, 7, 15, 31, 63, 31, 159, 511, 1023, 2047, 4095, 8191, 4095, 20479, 53247, 131071, 262143]) [94, 20, 19, 18, 17] [816, 688] ((True ∧ True) ∧ ((True ∧ True) ∧ ((True ∧ True) ∧ ((True ∧ True) ∧ ((True ∧ ((((iAdd .i64 (F41 p0 (part1 (F40_1 p1) (F40n0 p1) 0 (F40n0 p1))) (F41 p1 (part1 (F40_1 p0) (F40n0 p0) 0 (F40n0 p0)))) : Int) != 0) = false)) ∧ ((True ∧ True) ∧ (((0 + (F41n0 p0 (part1 (F40_1 p1) (F40n0 p1) 0 (F40n0 p1))) ≤ (F41n0 p0 (part1 (F40_1 p1) (F40n0 p1) 0 (F40n0 p1)))) ∧ True) ∧ ((True ∧ True) ∧ (((0 + (F41n0 p1 (part1 (F40_1 p0) (F40n0 p0) 0 (F40n0 p0))) ≤ (F41n0 p1 (part1 (F40_1 p0) (F40n0 p0) 0 (F40n0 p0)))) ∧ True) ∧ ((True ∧ True) ∧ ((True ∧ True) ∧ ((True ∧ ((!(strEq (bytesOf (((F41_1 p0 (part1 (F40_1 p1) (F40n0 p1) 0 (F40n0 p1))).drop 0).take (F41n0 p0 (part1 (F40_1 p1) (F40n0 p1) 0 (F40n0 p1))))) (bytesOf (((F41_1 p1 (part1 (F40_1 p0) (F40n0 p0) 0 (F40n0 p0))).drop 0).take (F41n0 p1 (part1 (F40_1 p0) (F40n0 p0) 0 (F40n0 p0))))))) = true)) ∧ ((True ∧ True) ∧ ((True ∧ True) ∧ ((True ∧ True) ∧ ((True ∧ True) ∧ ((True ∧ True) ∧ ((True ∧ True) ∧ ((True ∧ True) ∧ True)))))))))))))))))))
                  ([(94, .sc (.b true)), (20, .sc (.i .i64 (F38 p0 p2))), (19, .sc (.sl 816 0 (F38n0 p0 p2) 1 (some (F38n0 p0 p2)))), (18, .sc (.i .i64 (F41 p0 p2))), (17, .sc (.sl 688 0 (F41n0 p0 p2) 1 (some (F41n0 p0 p2))))], [(816, .ints .u8 (F38n0 p0 p2) (F38_1 p0 p2)), (688, .ints .u8 (F41n0 p0 p2) (F41_1 p0 p2))])
                  1216 (by kernel_rfl) rfl (by kernel_rfl) (⟨⟨trivial, trivial⟩, ⟨⟨trivial, trivial⟩, ⟨⟨trivial, trivial⟩, ⟨⟨trivial, trivial⟩, ⟨⟨trivial, (h4)⟩, ⟨⟨trivial, trivial⟩, ⟨⟨(by omega), trivial⟩, ⟨⟨trivial, trivial⟩, ⟨⟨(by omega), trivial⟩, ⟨⟨trivial, trivial⟩, ⟨⟨trivial, trivial⟩, ⟨⟨trivial, (h5)⟩, ⟨⟨trivial, trivial⟩, ⟨⟨trivial, trivial⟩, ⟨⟨trivial, trivial⟩, ⟨⟨trivial, trivial⟩, ⟨⟨trivial, trivial⟩, ⟨⟨trivial, trivial⟩, ⟨⟨trivial, trivial⟩, trivial⟩⟩⟩⟩⟩⟩⟩⟩⟩⟩⟩⟩⟩⟩⟩⟩⟩⟩⟩) ?_
              refine Tri.cond_true (by kernel_rfl) ?_
              refine Tri.seq_region [] none [6] [] ((True ∧ True) ∧ True)
                  ([(6, .sc (.b false))], [])
                  1232 (by kernel_rfl) rfl (by kernel_rfl) (⟨⟨trivial, trivial⟩, trivial⟩) ?_
              refine Tri.ret ?_
              repeat (first | refine thenP_ret ?_ | refine blkP_ret ?_ | refine countP_ret ?_ | refine joinP_ret ?_)
              refine endP.conv (r' := ⟨.sc (.b false), []⟩) (by simp only [F10, h1, h2, h3, h4, h5, sel_true, sel_false]) ?_
              exact endP.ret [] (True ∧ True) (by kernel_rfl) (by kernel_rfl) (by kernel_rfl) ⟨trivial, trivial⟩
            ·
              refine Tri.seq_region [(80, .b false), (87, .b false)] (some [0, 0, 3, 7, 15, 31, 63, 31, 159, 511, 1023, 2047, 4095, 8191, 4095, 20479, 53247, 131071, 262143]) [94, 20, 19, 18, 17] [816, 688] ((True ∧ True) ∧ ((True ∧ True) ∧ ((True ∧ True) ∧ ((True ∧ True) ∧ ((True ∧ ((((iAdd .i64 (F41 p0 (part1 (F40_1 p1) (F40n0 p1) 0 (F40n0 p1))) (F41 p1 (part1 (F40_1 p0) (F40n0 p0) 0 (F40n0 p0)))) : Int) != 0) = false)) ∧ ((True ∧ True) ∧ (((0 + (F41n0 p0 (part1 (F40_1 p1) (F40n0 p1) 0 (F40n0 p1))) ≤ (F41n0 p0 (part1 (F40_1 p1) (F40n0 p1) 0 (F40n0 p1)))) ∧ True) ∧ ((True ∧ True) ∧ (((0 + (F41n0 p1 (part1 (F40_1 p0) (F40n0 p0) 0 (F40n0 p0))) ≤ (F41n0 p1 (part1 (F40_1 p0) (F40n0 p0) 0 (F40n0 p0)))) ∧ True) ∧ ((True ∧ True) ∧ ((True ∧ True) ∧ ((True ∧ ((!(strEq (bytesOf (((F41_1 p0 (part1 (F40_1 p1) (F40n0 p1) 0 (F40n0 p1))).drop 0).take (F41n0 p0 (part1 (F40_1 p1) (F40n0 p1) 0 (F40n0 p1))))) (bytesOf (((F41_1 p1 (part1 (F40_1 p0) (F40n0 p0) 0 (F40n0 p0))).drop 0).take (F41n0 p1 (part1 (F40_1 p0) (F40n0 p0) 0 (F40n0 p0))))))) = false)) ∧ ((True ∧ True) ∧ (((0 + (F40n0 p0) ≤ (F40n0 p0)) ∧ True) ∧ ((True ∧ True) ∧ (((True ∧ (p0.length = 32)) ∧ True) ∧ (((0 + (F42n0 p0) ≤ (F42n0 p0)) ∧ True) ∧ ((True ∧ True) ∧ ((True ∧ True) ∧ True)))))))))))))))))))
                  ([(94, .sc (.b (!(strEq (bytesOf (((F40_1 p0).drop 0).take (F40n0 p0))) (bytesOf (((F42 p0).drop 0).take (F42n0 p0))))))), (20, .sc (.i .i64 (F38 p0 p2))), (19, .sc (.sl 816 0 (F38n0 p0 p2) 1 (some (F38n0 p0 p2)))), (18, .sc (.i .i64 (F41 p0 p2))), (17, .sc (.sl 688 0 (F41n0 p0 p2) 1 (some (F41n0 p0 p2))))], [(816, .ints .u8 (F38n0 p0 p2) (F38_1 p0 p2)), (688, .ints .u8 (F41n0 p0 p2) (F41_1 p0 p2))])
                  1216 (by kernel_rfl) rfl (by kernel_rfl) (⟨⟨trivial, trivial⟩, ⟨⟨trivial, trivial⟩, ⟨⟨trivial, trivial⟩, ⟨⟨trivial, trivial⟩, ⟨⟨trivial, (h4)⟩, ⟨⟨trivial, trivial⟩, ⟨⟨(by omega), trivial⟩, ⟨⟨trivial, trivial⟩, ⟨⟨(by omega), trivial⟩, ⟨⟨trivial, trivial⟩, ⟨⟨trivial, trivial⟩, ⟨⟨trivial, (h5)⟩, ⟨⟨trivial, trivial⟩, ⟨⟨(by omega), trivial⟩, ⟨⟨trivial, trivial⟩, ⟨⟨⟨trivial, (by omega)⟩, trivial⟩, ⟨⟨(by omega), trivial⟩, ⟨⟨trivial, trivial⟩, ⟨⟨trivial, trivial⟩, trivial⟩⟩⟩⟩⟩⟩⟩⟩⟩⟩⟩⟩⟩⟩⟩⟩⟩⟩⟩) ?_
              refine Tri.cond (x := (!(strEq (bytesOf (((F40_1 p0).drop 0).take (F40n0 p0))) (bytesOf (((F42 p0).drop 0).take (F42n0 p0)))))) (by kernel_rfl) (fun h6 => ?_) (fun h6 => ?_)
              ·
                refine Tri.seq_region [] none [6] [] ((True ∧ True) ∧ True)
                    ([(6, .sc (.b false))], [])
                    1232 (by kernel_rfl) rfl (by kernel_rfl) (⟨⟨trivial, trivial⟩, trivial⟩) ?_
                refine Tri.ret ?_
                repeat (first | refine thenP_ret ?_ | refine blkP_ret ?_ | refine countP_ret ?_ | refine joinP_ret ?_)
                refine endP.conv (r' := ⟨.sc (.b false), []⟩) (by simp only [F10, h1, h2, h3, h4, h5, h6, sel_true, sel_false]) ?_
                exact endP.ret [] (True ∧ True) (by kernel_rfl) (by kernel_rfl) (by kernel_rfl) ⟨trivial, trivial⟩
              ·
                refine Tri.skip ?_
                change Tri _ _ _ _ _ _
                refine Tri.seq ?_
                refine Tri.split (((F38 p0 p2) : Int) == 0) (fun h7 => ?_) (fun h7 => ?_)
                ·
                  have h7' := eq_true_i h7
                  refine Tri.seq_region [(97, .b true)] (some [0, 1, 3, 7, 15, 7, 39, 127, 255]) [103, 20, 19, 18, 17] [816, 688] ((True ∧ True) ∧ ((True ∧ True) ∧ ((True ∧ ((((F38 p0 p2) : Int) == 0) = true)) ∧ ((True ∧ True) ∧ (((0 + (F38n0 p0 p2) ≤ (F38n0 p0 p2)) ∧ True) ∧ (((((0 : Int) ≤ 32 ∧ (32 : Int) = 32) ∧ ((32 ≤ (140737488355328 : Int)) ∧ (((1 : Nat) : Int) * 32 ≤ 281474976710656))) ∧ True) ∧ (((0 + 32 ≤ 32) ∧ True) ∧ ((True ∧ True) ∧ ((True ∧ True) ∧ True)))))))))
                      ([(103, .sc (.b (strEq (bytesOf (((F38_1 p0 p2).drop 0).take (F38n0 p0 p2))) (bytesOf (((List.replicate 32 0).drop 0).take 32))))), (20, .sc (.i .i64 (F38 p0 p2))), (19, .sc (.sl 816 0 (F38n0 p0 p2) 1 (some (F38n0 p0 p2)))), (18, .sc (.i .i64 (F41 p0 p2))), (17, .sc (.sl 688 0 (F41n0 p0 p2) 1 (some (F41n0 p0 p2))))], [(816, .ints .u8 (F38n0 p0 p2) (F38_1 p0 p2)), (688, .ints .u8 (F41n0 p0 p2) (F41_1 p0 p2))])
                      1360 (by kernel_rfl) rfl (by kernel_rfl) (⟨⟨trivial, trivial⟩, ⟨⟨trivial, trivial⟩, ⟨⟨trivial, (h7)⟩, ⟨⟨trivial, trivial⟩, ⟨⟨(by omega), trivial⟩, ⟨⟨⟨(by omega), ⟨(by omega), (by omega)⟩⟩, trivial⟩, ⟨⟨(by omega), trivial⟩, ⟨⟨trivial, trivial⟩, ⟨⟨trivial, trivial⟩, trivial⟩⟩⟩⟩⟩⟩⟩⟩⟩) ?_
                  refine Tri.cond (x := (strEq (bytesOf (((F38_1 p0 p2).drop 0).take (F38n0 p0 p2))) (bytesOf (((List.replicate 32 0).drop 0).take 32)))) (by kernel_rfl) (fun h8 => ?_) (fun h8 => ?_)
                  ·
                    refine Tri.split (((F41 p0 p2) : Int) == 3) (fun h9 => ?_) (fun h9 => ?_)
                    ·
                      have h9' := eq_true_i h9
                      refine Tri.seq_region [(106, .b true)] none [6] [] ((True ∧ True) ∧ ((True ∧ True) ∧ ((True ∧ ((((F41 p0 p2) : Int) == 3) = true)) ∧ ((True ∧ True) ∧ ((True ∧ True) ∧ ((True ∧ True) ∧ ((True ∧ True) ∧ ((True ∧ True) ∧ True))))))))
                          ([(6, .sc (.b (((((F41n0 p0 p2) : Nat) : Int) : Int) == 0)))], [])
                          1488 (by kernel_rfl) rfl (by kernel_rfl) (⟨⟨trivial, trivial⟩, ⟨⟨trivial, trivial⟩, ⟨⟨trivial, (h9)⟩, ⟨⟨trivial, trivial⟩, ⟨⟨trivial, trivial⟩, ⟨⟨trivial, trivial⟩, ⟨⟨trivial, trivial⟩, ⟨⟨trivial, trivial⟩, trivial⟩⟩⟩⟩⟩⟩⟩⟩) ?_
                      refine Tri.ret ?_
                      repeat (first | refine thenP_ret ?_ | refine blkP_ret ?_ | refine countP_ret ?_ | refine joinP_ret ?_)
                      refine endP.conv (r' := ⟨.sc (.b (((((F41n0 p0 p2) : Nat) : Int) : Int) == 0)), []⟩) (by simp only [F10, h1, h2, h3, h4, h5, h6, h7, h8, h9, sel_true, sel_false]) ?_
                      exact endP.ret [] (True ∧ True) (by kernel_rfl) (by kernel_rfl) (by kernel_rfl) ⟨trivial, trivial⟩
                    ·
                      have h9' := eq_false_i h9
                      refine Tri.seq_region [(106, .b false)] none [6] [] ((True ∧ True) ∧ ((True ∧ True) ∧ ((True ∧ ((((F41 p0 p2) : Int) == 3) = false)) ∧ ((True ∧ True) ∧ ((True ∧ True) ∧ ((True ∧ True) ∧ ((True ∧ True) ∧ ((True ∧ True) ∧ True))))))))
                          ([(6, .sc (.b false))], [])
                          1488 (by kernel_rfl) rfl (by kernel_rfl) (⟨⟨trivial, trivial⟩, ⟨⟨trivial, trivial⟩, ⟨⟨trivial, (h9)⟩, ⟨⟨trivial, trivial⟩, ⟨⟨trivial, trivial⟩, ⟨⟨trivial, trivial⟩, ⟨⟨trivial, trivial⟩, ⟨⟨trivial, trivial⟩, trivial⟩⟩⟩⟩⟩⟩⟩⟩) ?_
                      refine Tri.ret ?_
                      repeat (first | refine thenP_ret ?_ | refine blkP_ret ?_ | refine countP_ret ?_ | refine joinP_ret ?_)
                      refine endP.conv (r' := ⟨.sc (.b false), []⟩) (by simp only [F10, h1, h2, h3, h4, h5, h6, h7, h8, h9, sel_true, sel_false]) ?_
                      exact endP.ret [] (True ∧ True) (by kernel_rfl) (by kernel_rfl) (by kernel_rfl) ⟨trivial, trivial⟩
                  ·
                    refine Tri.skip ?_
                    change Tri _ _ _ _ _ _
                    refine Tri.split (((F41 p0 p2) : Int) == (F38 p0 p2)) (fun h10 => ?_) (fun h10 => ?_)
                    ·
                      have h10' := eq_true_i h10
                      refine Tri.seq_region [(114, .b true)] none [6] [] ((True ∧ True) ∧ ((True ∧ True) ∧ ((True ∧ True) ∧ ((True ∧ ((((F41 p0 p2) : Int) == (F38 p0 p2)) = true)) ∧ ((True ∧ True) ∧ (((0 + (F41n0 p0 p2) ≤ (F41n0 p0 p2)) ∧ True) ∧ ((True ∧ True) ∧ (((0 + (F38n0 p0 p2) ≤ (F38n0 p0 p2)) ∧ True) ∧ ((True ∧ True) ∧ ((True ∧ True) ∧ ((True ∧ True) ∧ True)))))))))))
                          ([(6, .sc (.b (strEq (bytesOf (((F41_1 p0 p2).drop 0).take (F41n0 p0 p2))) (bytesOf (((F38_1 p0 p2).drop 0).take (F38n0 p0 p2))))))], [])
                          1536 (by kernel_rfl) rfl (by kernel_rfl) (⟨⟨trivial, trivial⟩, ⟨⟨trivial, trivial⟩, ⟨⟨trivial, trivial⟩, ⟨⟨trivial, (h10)⟩, ⟨⟨trivial, trivial⟩, ⟨⟨(by omega), trivial⟩, ⟨⟨trivial, trivial⟩, ⟨⟨(by omega), trivial⟩, ⟨⟨trivial, trivial⟩, ⟨⟨trivial, trivial⟩, ⟨⟨trivial, trivial⟩, trivial⟩⟩⟩⟩⟩⟩⟩⟩⟩⟩⟩) ?_
                      refine Tri.ret ?_
                      repeat (first | refine thenP_ret ?_ | refine blkP_ret ?_ | refine countP_ret ?_ | refine joinP_ret ?_)
                      refine endP.conv (r' := ⟨.sc (.b (strEq (bytesOf (((F41_1 p0 p2).drop 0).take (F41n0 p0 p2))) (bytesOf (((F38_1 p0 p2).drop 0).take (F38n0 p0 p2))))), []⟩) (by simp only [F10, h1, h2, h3, h4, h5, h6, h7, h8, h10, sel_true, sel_false]) ?_
                      exact endP.ret [] (True ∧ True) (by kernel_rfl) (by kernel_rfl) (by kernel_rfl) ⟨trivial, trivial⟩
                    ·
                      have h10' := eq_false_i h10
                      refine Tri.seq_region [(114, .b false)] none [6] [] ((True ∧ True) ∧ ((True ∧ True) ∧ ((True ∧ True) ∧ ((True ∧ ((((F41 p0 p2) : Int) == (F38 p0 p2)) = false)) ∧ ((True ∧ True) ∧ ((True ∧ True) ∧ ((True ∧ True) ∧ ((True ∧ True) ∧ ((True ∧ True) ∧ ((True ∧ True) ∧ ((True ∧ True) ∧ True)))))))))))
                          ([(6, .sc (.b false))], [])
                          1536 (by kernel_rfl) rfl (by kernel_rfl) (⟨⟨trivial, trivial⟩, ⟨⟨trivial, trivial⟩, ⟨⟨trivial, trivial⟩, ⟨⟨trivial, (h10)⟩, ⟨⟨trivial, trivial⟩, ⟨⟨trivial, trivial⟩, ⟨⟨trivial, trivial⟩, ⟨⟨trivial, trivial⟩, ⟨⟨trivial, trivial⟩, ⟨⟨trivial, trivial⟩, ⟨⟨trivial, trivial⟩, trivial⟩⟩⟩⟩⟩⟩⟩⟩⟩⟩⟩) ?_
                      refine Tri.ret ?_
                      repeat (first | refine thenP_ret ?_ | refine blkP_ret ?_ | refine countP_ret ?_ | refine joinP_ret ?_)
                      refine endP.conv (r' := ⟨.sc (.b false), []⟩) (by simp only [F10, h1, h2, h3, h4, h5, h6, h7, h8, h10, sel_true, sel_false]) ?_
                      exact endP.ret [] (True ∧ True) (by kernel_rfl) (by kernel_rfl) (by kernel_rfl) ⟨trivial, trivial⟩
                ·
                  have h7' := eq_false_i h7
                  refine Tri.seq_region [(97, .b false)] (some [0, 1, 3, 7, 15, 7, 39, 127, 255]) [103, 20, 19, 18, 17] [816, 688] ((True ∧ True) ∧ ((True ∧ True) ∧ ((True ∧ ((((F38 p0 p2) : Int) == 0) = false)) ∧ ((True ∧ True) ∧ ((True ∧ True) ∧ ((True ∧ True) ∧ ((True ∧ True) ∧ ((True ∧ True) ∧ ((True ∧ True) ∧ True)))))))))
                      ([(103, .sc (.b false)), (20, .sc (.i .i64 (F38 p0 p2))), (19, .sc (.sl 816 0 (F38n0 p0 p2) 1 (some (F38n0 p0 p2)))), (18, .sc (.i .i64 (F41 p0 p2))), (17, .sc (.sl 688 0 (F41n0 p0 p2) 1 (some (F41n0 p0 p2))))], [(816, .ints .u8 (F38n0 p0 p2) (F38_1 p0 p2)), (688, .ints .u8 (F41n0 p0 p2) (F41_1 p0 p2))])
                      1360 (by kernel_rfl) rfl (by kernel_rfl) (⟨⟨trivial, trivial⟩, ⟨⟨trivial, trivial⟩, ⟨⟨trivial, (h7)⟩, ⟨⟨trivial, trivial⟩, ⟨⟨trivial, trivial⟩, ⟨⟨trivial, trivial⟩, ⟨⟨trivial, trivial⟩, ⟨⟨trivial, trivial⟩, ⟨⟨trivial, trivial⟩, trivial⟩⟩⟩⟩⟩⟩⟩⟩⟩) ?_
                  refine Tri.cond_false (by kernel_rfl) ?_
                  refine Tri.skip ?_
                  change Tri _ _ _ _ _ _
                  refine Tri.split (((F41 p0 p2) : Int) == (F38 p0 p2)) (fun h11 => ?_) (fun h11 => ?_)
                  ·
                    have h11' := eq_true_i h11
                    refine Tri.seq_region [(114, .b true)] none [6] [] ((True ∧ True) ∧ ((True ∧ True) ∧ ((True ∧ True) ∧ ((True ∧ ((((F41 p0 p2) : Int) == (F38 p0 p2)) = true)) ∧ ((True ∧ True) ∧ (((0 + (F41n0 p0 p2) ≤ (F41n0 p0 p2)) ∧ True) ∧ ((True ∧ True) ∧ (((0 + (F38n0 p0 p2) ≤ (F38n0 p0 p2)) ∧ True) ∧ ((True ∧ True) ∧ ((True ∧ True) ∧ ((True ∧ True) ∧ True)))))))))))
                        ([(6, .sc (.b (strEq (bytesOf (((F41_1 p0 p2).drop 0).take (F41n0 p0 p2))) (bytesOf (((F38_1 p0 p2).drop 0).take (F38n0 p0 p2))))))], [])
                        1536 (by kernel_rfl) rfl (by kernel_rfl) (⟨⟨trivial, trivial⟩, ⟨⟨trivial, trivial⟩, ⟨⟨trivial, trivial⟩, ⟨⟨trivial, (h11)⟩, ⟨⟨trivial, trivial⟩, ⟨⟨(by omega), trivial⟩, ⟨⟨trivial, trivial⟩, ⟨⟨(by omega), trivial⟩, ⟨⟨trivial, trivial⟩, ⟨⟨trivial, trivial⟩, ⟨⟨trivial, trivial⟩, trivial⟩⟩⟩⟩⟩⟩⟩⟩⟩⟩⟩) ?_
                    refine Tri.ret ?_
                    repeat (first | refine thenP_ret ?_ | refine blkP_ret ?_ | refine countP_ret ?_ | refine joinP_ret ?_)
                    refine endP.conv (r' := ⟨.sc (.b (strEq (bytesOf (((F41_1 p0 p2).drop 0).take (F41n0 p0 p2))) (bytesOf (((F38_1 p0 p2).drop 0).take (F38n0 p0 p2))))), []⟩) (by simp only [F10, h1, h2, h3, h4, h5, h6, h7, h11, sel_true, sel_false]) ?_
                    exact endP.ret [] (True ∧ True) (by kernel_rfl) (by kernel_rfl) (by kernel_rfl) ⟨trivial, trivial⟩
                  ·
                    have h11' := eq_false_i h11
                    refine Tri.seq_region [(114, .b false)] none [6] [] ((True ∧ True) ∧ ((True ∧ True) ∧ ((True ∧ True) ∧ ((True ∧ ((((F41 p0 p2) : Int) == (F38 p0 p2)) = false)) ∧ ((True ∧ True) ∧ ((True ∧ True) ∧ ((True ∧ True) ∧ ((True ∧ True) ∧ ((True ∧ True) ∧ ((True ∧ True) ∧ ((True ∧ True) ∧ True)))))))))))
                        ([(6, .sc (.b false))], [])
                        1536 (by kernel_rfl) rfl (by kernel_rfl) (⟨⟨trivial, trivial⟩, ⟨⟨trivial, trivial⟩, ⟨⟨trivial, trivial⟩, ⟨⟨trivial, (h11)⟩, ⟨⟨trivial, trivial⟩, ⟨⟨trivial, trivial⟩, ⟨⟨trivial, trivial⟩, ⟨⟨trivial, trivial⟩, ⟨⟨trivial, trivial⟩, ⟨⟨trivial, trivial⟩, ⟨⟨trivial, trivial⟩, trivial⟩⟩⟩⟩⟩⟩⟩⟩⟩⟩⟩) ?_
                    refine Tri.ret ?_
                    repeat (first | refine thenP_ret ?_ | refine blkP_ret ?_ | refine countP_ret ?_ | refine joinP_ret ?_)
                    refine endP.conv (r' := ⟨.sc (.b false), []⟩) (by simp only [F10, h1, h2, h3, h4, h5, h6, h7, h11, sel_true, sel_false]) ?_
                    exact endP.ret [] (True ∧ True) (by kernel_rfl) (by kernel_rfl) (by kernel_rfl) ⟨trivial, trivial⟩

end Go.Vm
