/- What the functions compute, and that they do: walked by a printed text. -/
import Derived.Test.YtcfpmiiaicfcnaaWkL
set_option linter.unusedVariables false
set_option linter.unusedSimpArgs false
set_option maxRecDepth 4000
namespace Go.Vm
open Go

noncomputable def F13 (p0 : List Int) (p1 : Int) : Bool :=
  (sel (!(F37)) false (sel ((((p0.length : Nat) : Int) : Int) != 32) (((F41 p0 (part1 ((List.replicate 32 0).set 0 (IntKind.wrap .u8 (iRem (iAdd .i64 (iRem p1 2) 2) 2))) 32 0 32)) : Int) == 2) (sel (((F38 p0 (part1 ((List.replicate 32 0).set 0 (IntKind.wrap .u8 (iRem (iAdd .i64 (iRem p1 2) 2) 2))) 32 0 32)) : Int) == 0) (sel (strEq (bytesOf (((F38_1 p0 (part1 ((List.replicate 32 0).set 0 (IntKind.wrap .u8 (iRem (iAdd .i64 (iRem p1 2) 2) 2))) 32 0 32)).drop 0).take (F38n0 p0 (part1 ((List.replicate 32 0).set 0 (IntKind.wrap .u8 (iRem (iAdd .i64 (iRem p1 2) 2) 2))) 32 0 32)))) (bytesOf (((List.replicate 32 0).drop 0).take 32))) (sel (((F41 p0 (part1 ((List.replicate 32 0).set 0 (IntKind.wrap .u8 (iRem (iAdd .i64 (iRem p1 2) 2) 2))) 32 0 32)) : Int) == 3) (((((F41n0 p0 (part1 ((List.replicate 32 0).set 0 (IntKind.wrap .u8 (iRem (iAdd .i64 (iRem p1 2) 2) 2))) 32 0 32)) : Nat) : Int) : Int) == 0) false) false) false)))

noncomputable def S13 : List AV → Option (Prop × Ret)
  | [.sc (.ro .u8 p0), .sc (.i .i64 p1)] => some (True, ⟨.sc (.b (F13 p0 p1)), []⟩)
  | _ => none

noncomputable def B13 : Bs := { P := Go.Proofs.Try.prog, G := noG, tab := tabOf [(37, ⟨[], 0, S37⟩), (38, ⟨[.ro .u8, .ro .u8], 1, S38⟩), (41, ⟨[.ro .u8, .ro .u8], 1, S41⟩)], n := 63 }

theorem B13.ok : B13.Ok := ⟨tabOk (P := Go.Proofs.Try.prog) (G := noG) (l := [(37, ⟨[], 0, S37⟩), (38, ⟨[.ro .u8, .ro .u8], 1, S38⟩), (41, ⟨[.ro .u8, .ro .u8], 1, S41⟩)]) (And.intro K37 (And.intro K38 (And.intro K41 True.intro))), mixed⟩

theorem K13 : Known Go.Proofs.Try.prog noG 13 ⟨[.ro .u8, .val], 0, S13⟩ := by
  refine Known.walk (B := B13) (fn := Go.Proofs.Try.f13) B13.ok (by kernel_rfl) rfl (by kernel_rfl) (by kernel_rfl) (by decide) ?_ ?_
  · intro vs C r h
    simp only at h
    unfold S13 at h
    split at h
    · cases h; rfl
    · cases h
  · intro E args C r h hC hlen
    simp only at h
    unfold S13 at h
    split at h
    rotate_left
    · cases h
    rename_i p0 p1
    cases h
    simp only [lens] at hlen
    refine ⟨show 2 ≤ 63 from by decide, ?_⟩
    refine Tri.sub (Sub.of_eq (show _ = ([(0, .sc (.ro .u8 p0)), (1, .sc (.i .i64 p1))], []) from rfl)) ?_
    refine Tri.seq_region [] none [0, 1] [] ((True ∧ True) ∧ True)
        ([(0, .sc (.ro .u8 p0)), (1, .sc (.i .i64 p1))], [])
        16 (by kernel_rfl) rfl (by kernel_rfl) (⟨⟨trivial, trivial⟩, trivial⟩) ?_
    refine Tri.seq ?_
    refine Tri.seq_region [] none [13, 0, 1] [] (((True ∧ True) ∧ True) ∧ ((True ∧ True) ∧ True))
        ([(13, .sc (.b (!(F37)))), (0, .sc (.ro .u8 p0)), (1, .sc (.i .i64 p1))], [])
        48 (by kernel_rfl) rfl (by kernel_rfl) (⟨⟨⟨trivial, trivial⟩, trivial⟩, ⟨⟨trivial, trivial⟩, trivial⟩⟩) ?_
    refine Tri.cond (x := (!(F37))) (by kernel_rfl) (fun h1 => ?_) (fun h1 => ?_)
    ·
      refine Tri.seq_region [] none [4] [] ((True ∧ True) ∧ True)
          ([(4, .sc (.b false))], [])
          64 (by kernel_rfl) rfl (by kernel_rfl) (⟨⟨trivial, trivial⟩, trivial⟩) ?_
      refine Tri.ret ?_
      repeat (first | refine thenP_ret ?_ | refine blkP_ret ?_ | refine countP_ret ?_ | refine joinP_ret ?_)
      refine endP.conv (r' := ⟨.sc (.b false), []⟩) (by simp only [F13, h1, sel_true, sel_false]) ?_
      exact endP.ret [] (True ∧ True) (by kernel_rfl) (by kernel_rfl) (by kernel_rfl) ⟨trivial, trivial⟩
    ·
      refine Tri.skip ?_
      change Tri _ _ _ _ _ _
      refine Tri.seq_region [] none [5, 0, 1] [48] (((((0 : Int) ≤ 32 ∧ (32 : Int) = 32) ∧ ((32 ≤ (140737488355328 : Int)) ∧ (((1 : Nat) : Int) * 32 ≤ 281474976710656))) ∧ True) ∧ ((True ∧ True) ∧ True))
          ([(5, .sc (.sl 48 0 32 1 none)), (0, .sc (.ro .u8 p0)), (1, .sc (.i .i64 p1))], [(48, .ints .u8 32 (List.replicate 32 0))])
          80 (by kernel_rfl) rfl (by kernel_rfl) (⟨⟨⟨(by omega), ⟨(by omega), (by omega)⟩⟩, trivial⟩, ⟨⟨trivial, trivial⟩, trivial⟩⟩) ?_
      refine Tri.seq_region [] none [5, 0] [48] ((True ∧ True) ∧ ((True ∧ True) ∧ (((2 ≠ (0 : Int)) ∧ True) ∧ ((True ∧ True) ∧ (((2 ≠ (0 : Int)) ∧ True) ∧ ((True ∧ True) ∧ ((((0 : Int) ≤ 0 ∧ 0 < ((32 : Nat) : Int)) ∧ True) ∧ ((((0 < 32) ∧ (1 = 1)) ∧ True) ∧ True))))))))
          ([(5, .sc (.sl 48 0 32 1 none)), (0, .sc (.ro .u8 p0))], [(48, .ints .u8 32 ((List.replicate 32 0).set 0 (IntKind.wrap .u8 (iRem (iAdd .i64 (iRem p1 2) 2) 2))))])
          208 (by kernel_rfl) rfl (by kernel_rfl) (⟨⟨trivial, trivial⟩, ⟨⟨trivial, trivial⟩, ⟨⟨(by omega), trivial⟩, ⟨⟨trivial, trivial⟩, ⟨⟨(by omega), trivial⟩, ⟨⟨trivial, trivial⟩, ⟨⟨(by omega), trivial⟩, ⟨⟨⟨(by omega), (rfl)⟩, trivial⟩, trivial⟩⟩⟩⟩⟩⟩⟩⟩) ?_
      refine Tri.seq ?_
      refine Tri.seq_region [] none [24, 5, 0] [48] ((True ∧ True) ∧ ((True ∧ True) ∧ ((True ∧ True) ∧ True)))
          ([(24, .sc (.b ((((p0.length : Nat) : Int) : Int) != 32))), (5, .sc (.sl 48 0 32 1 none)), (0, .sc (.ro .u8 p0))], [(48, .ints .u8 32 ((List.replicate 32 0).set 0 (IntKind.wrap .u8 (iRem (iAdd .i64 (iRem p1 2) 2) 2))))])
          256 (by kernel_rfl) rfl (by kernel_rfl) (⟨⟨trivial, trivial⟩, ⟨⟨trivial, trivial⟩, ⟨⟨trivial, trivial⟩, trivial⟩⟩⟩) ?_
      refine Tri.cond (x := ((((p0.length : Nat) : Int) : Int) != 32)) (by kernel_rfl) (fun h2 => ?_) (fun h2 => ?_)
      ·
        have h2' := ne_true_i h2
        refine Tri.seq_region [] none [7] [] ((True ∧ True) ∧ ((True ∧ True) ∧ (((((0 + 32 ≤ 32) ∧ True) ∧ True) ∧ True) ∧ ((True ∧ True) ∧ ((True ∧ True) ∧ ((True ∧ True) ∧ ((True ∧ True) ∧ ((True ∧ True) ∧ True))))))))
            ([(7, .sc (.i .i64 (F41 p0 (part1 ((List.replicate 32 0).set 0 (IntKind.wrap .u8 (iRem (iAdd .i64 (iRem p1 2) 2) 2))) 32 0 32))))], [])
            384 (by kernel_rfl) rfl (by kernel_rfl) (⟨⟨trivial, trivial⟩, ⟨⟨trivial, trivial⟩, ⟨⟨⟨⟨(by omega), trivial⟩, trivial⟩, trivial⟩, ⟨⟨trivial, trivial⟩, ⟨⟨trivial, trivial⟩, ⟨⟨trivial, trivial⟩, ⟨⟨trivial, trivial⟩, ⟨⟨trivial, trivial⟩, trivial⟩⟩⟩⟩⟩⟩⟩⟩) ?_
        refine Tri.seq_region [] none [4] [] ((True ∧ True) ∧ ((True ∧ True) ∧ ((True ∧ True) ∧ True)))
            ([(4, .sc (.b (((F41 p0 (part1 ((List.replicate 32 0).set 0 (IntKind.wrap .u8 (iRem (iAdd .i64 (iRem p1 2) 2) 2))) 32 0 32)) : Int) == 2)))], [])
            432 (by kernel_rfl) rfl (by kernel_rfl) (⟨⟨trivial, trivial⟩, ⟨⟨trivial, trivial⟩, ⟨⟨trivial, trivial⟩, trivial⟩⟩⟩) ?_
        refine Tri.ret ?_
        repeat (first | refine thenP_ret ?_ | refine blkP_ret ?_ | refine countP_ret ?_ | refine joinP_ret ?_)
        refine endP.conv (r' := ⟨.sc (.b (((F41 p0 (part1 ((List.replicate 32 0).set 0 (IntKind.wrap .u8 (iRem (iAdd .i64 (iRem p1 2) 2) 2))) 32 0 32)) : Int) == 2)), []⟩) (by simp only [F13, h1, h2, sel_true, sel_false]) ?_
        exact endP.ret [] (True ∧ True) (by kernel_rfl) (by kernel_rfl) (by kernel_rfl) ⟨trivial, trivial⟩
      ·
        have h2' := ne_false_i h2
        refine Tri.skip ?_
        change Tri _ _ _ _ _ _
        refine Tri.seq_region [] none [9, 8, 5, 0] [288, 48] ((True ∧ True) ∧ ((True ∧ True) ∧ (((((0 + 32 ≤ 32) ∧ True) ∧ True) ∧ True) ∧ ((True ∧ True) ∧ ((True ∧ True) ∧ ((True ∧ True) ∧ ((True ∧ True) ∧ ((True ∧ True) ∧ True))))))))
            ([(9, .sc (.i .i64 (F38 p0 (part1 ((List.replicate 32 0).set 0 (IntKind.wrap .u8 (iRem (iAdd .i64 (iRem p1 2) 2) 2))) 32 0 32)))), (8, .sc (.sl 288 0 (F38n0 p0 (part1 ((List.replicate 32 0).set 0 (IntKind.wrap .u8 (iRem (iAdd .i64 (iRem p1 2) 2) 2))) 32 0 32)) 1 (some (F38n0 p0 (part1 ((List.replicate 32 0).set 0 (IntKind.wrap .u8 (iRem (iAdd .i64 (iRem p1 2) 2) 2))) 32 0 32))))), (5, .sc (.sl 48 0 32 1 none)), (0, .sc (.ro .u8 p0))], [(288, .ints .u8 (F38n0 p0 (part1 ((List.replicate 32 0).set 0 (IntKind.wrap .u8 (iRem (iAdd .i64 (iRem p1 2) 2) 2))) 32 0 32)) (F38_1 p0 (part1 ((List.replicate 32 0).set 0 (IntKind.wrap .u8 (iRem (iAdd .i64 (iRem p1 2) 2) 2))) 32 0 32))), (48, .ints .u8 32 ((List.replicate 32 0).set 0 (IntKind.wrap .u8 (iRem (iAdd .i64 (iRem p1 2) 2) 2))))])
            384 (by kernel_rfl) rfl (by kernel_rfl) (⟨⟨trivial, trivial⟩, ⟨⟨trivial, trivial⟩, ⟨⟨⟨⟨(by omega), trivial⟩, trivial⟩, trivial⟩, ⟨⟨trivial, trivial⟩, ⟨⟨trivial, trivial⟩, ⟨⟨trivial, trivial⟩, ⟨⟨trivial, trivial⟩, ⟨⟨trivial, trivial⟩, trivial⟩⟩⟩⟩⟩⟩⟩⟩) ?_
        refine Tri.seq_region [] none [11, 10, 9, 8] [416, 288] ((True ∧ True) ∧ ((True ∧ True) ∧ (((((0 + 32 ≤ 32) ∧ True) ∧ True) ∧ True) ∧ ((True ∧ True) ∧ ((True ∧ True) ∧ ((True ∧ True) ∧ ((True ∧ True) ∧ ((True ∧ True) ∧ True))))))))
            ([(11, .sc (.i .i64 (F41 p0 (part1 ((List.replicate 32 0).set 0 (IntKind.wrap .u8 (iRem (iAdd .i64 (iRem p1 2) 2) 2))) 32 0 32)))), (10, .sc (.sl 416 0 (F41n0 p0 (part1 ((List.replicate 32 0).set 0 (IntKind.wrap .u8 (iRem (iAdd .i64 (iRem p1 2) 2) 2))) 32 0 32)) 1 (some (F41n0 p0 (part1 ((List.replicate 32 0).set 0 (IntKind.wrap .u8 (iRem (iAdd .i64 (iRem p1 2) 2) 2))) 32 0 32))))), (9, .sc (.i .i64 (F38 p0 (part1 ((List.replicate 32 0).set 0 (IntKind.wrap .u8 (iRem (iAdd .i64 (iRem p1 2) 2) 2))) 32 0 32)))), (8, .sc (.sl 288 0 (F38n0 p0 (part1 ((List.replicate 32 0).set 0 (IntKind.wrap .u8 (iRem (iAdd .i64 (iRem p1 2) 2) 2))) 32 0 32)) 1 (some (F38n0 p0 (part1 ((List.replicate 32 0).set 0 (IntKind.wrap .u8 (iRem (iAdd .i64 (iRem p1 2) 2) 2))) 32 0 32)))))], [(416, .ints .u8 (F41n0 p0 (part1 ((List.replicate 32 0).set 0 (IntKind.wrap .u8 (iRem (iAdd .i64 (iRem p1 2) 2) 2))) 32 0 32)) (F41_1 p0 (part1 ((List.replicate 32 0).set 0 (IntKind.wrap .u8 (iRem (iAdd .i64 (iRem p1 2) 2) 2))) 32 0 32))), (288, .ints .u8 (F38n0 p0 (part1 ((List.replicate 32 0).set 0 (IntKind.wrap .u8 (iRem (iAdd .i64 (iRem p1 2) 2) 2))) 32 0 32)) (F38_1 p0 (part1 ((List.replicate 32 0).set 0 (IntKind.wrap .u8 (iRem (iAdd .i64 (iRem p1 2) 2) 2))) 32 0 32)))])
            512 (by kernel_rfl) rfl (by kernel_rfl) (⟨⟨trivial, trivial⟩, ⟨⟨trivial, trivial⟩, ⟨⟨⟨⟨(by omega), trivial⟩, trivial⟩, trivial⟩, ⟨⟨trivial, trivial⟩, ⟨⟨trivial, trivial⟩, ⟨⟨trivial, trivial⟩, ⟨⟨trivial, trivial⟩, ⟨⟨trivial, trivial⟩, trivial⟩⟩⟩⟩⟩⟩⟩⟩) ?_
        refine Tri.split (((F38 p0 (part1 ((List.replicate 32 0).set 0 (IntKind.wrap .u8 (iRem (iAdd .i64 (iRem p1 2) 2) 2))) 32 0 32)) : Int) == 0) (fun h3 => ?_) (fun h3 => ?_)
        ·
          have h3' := eq_true_i h3
          refine Tri.split (strEq (bytesOf (((F38_1 p0 (part1 ((List.replicate 32 0).set 0 (IntKind.wrap .u8 (iRem (iAdd .i64 (iRem p1 2) 2) 2))) 32 0 32)).drop 0).take (F38n0 p0 (part1 ((List.replicate 32 0).set 0 (IntKind.wrap .u8 (iRem (iAdd .i64 (iRem p1 2) 2) 2))) 32 0 32)))) (bytesOf (((List.replicate 32 0).drop 0).take 32))) (fun h4 => ?_) (fun h4 => ?_)
          ·
            refine Tri.split (((F41 p0 (part1 ((List.replicate 32 0).set 0 (IntKind.wrap .u8 (iRem (iAdd .i64 (iRem p1 2) 2) 2))) 32 0 32)) : Int) == 3) (fun h5 => ?_) (fun h5 => ?_)
            ·
              have h5' := eq_true_i h5
              refine Tri.seq_region [(47, .b true), (54, .b true), (58, .b true)] (some [0, 1, 3, 7, 15, 7, 39, 127, 255, 511, 1023, 2047, 4095, 8191, 16383, 32767, 65535, 131071, 262143]) [4] [] ((True ∧ True) ∧ ((True ∧ True) ∧ ((True ∧ ((((F38 p0 (part1 ((List.replicate 32 0).set 0 (IntKind.wrap .u8 (iRem (iAdd .i64 (iRem p1 2) 2) 2))) 32 0 32)) : Int) == 0) = true)) ∧ ((True ∧ True) ∧ (((0 + (F38n0 p0 (part1 ((List.replicate 32 0).set 0 (IntKind.wrap .u8 (iRem (iAdd .i64 (iRem p1 2) 2) 2))) 32 0 32)) ≤ (F38n0 p0 (part1 ((List.replicate 32 0).set 0 (IntKind.wrap .u8 (iRem (iAdd .i64 (iRem p1 2) 2) 2))) 32 0 32))) ∧ True) ∧ (((((0 : Int) ≤ 32 ∧ (32 : Int) = 32) ∧ ((32 ≤ (140737488355328 : Int)) ∧ (((1 : Nat) : Int) * 32 ≤ 281474976710656))) ∧ True) ∧ (((0 + 32 ≤ 32) ∧ True) ∧ ((True ∧ True) ∧ ((True ∧ True) ∧ ((True ∧ ((strEq (bytesOf (((F38_1 p0 (part1 ((List.replicate 32 0).set 0 (IntKind.wrap .u8 (iRem (iAdd .i64 (iRem p1 2) 2) 2))) 32 0 32)).drop 0).take (F38n0 p0 (part1 ((List.replicate 32 0).set 0 (IntKind.wrap .u8 (iRem (iAdd .i64 (iRem p1 2) 2) 2))) 32 0 32)))) (bytesOf (((List.replicate 32 0).drop 0).take 32))) = true)) ∧ ((True ∧ True) ∧ ((True ∧ True) ∧ ((True ∧ True) ∧ ((True ∧ ((((F41 p0 (part1 ((List.replicate 32 0).set 0 (IntKind.wrap .u8 (iRem (iAdd .i64 (iRem p1 2) 2) 2))) 32 0 32)) : Int) == 3) = true)) ∧ ((True ∧ True) ∧ ((True ∧ True) ∧ ((True ∧ True) ∧ ((True ∧ True) ∧ ((True ∧ True) ∧ True)))))))))))))))))))
                  ([(4, .sc (.b (((((F41n0 p0 (part1 ((List.replicate 32 0).set 0 (IntKind.wrap .u8 (iRem (iAdd .i64 (iRem p1 2) 2) 2))) 32 0 32)) : Nat) : Int) : Int) == 0)))], [])
                  816 (by kernel_rfl) rfl (by kernel_rfl) (⟨⟨trivial, trivial⟩, ⟨⟨trivial, trivial⟩, ⟨⟨trivial, (h3)⟩, ⟨⟨trivial, trivial⟩, ⟨⟨(by omega), trivial⟩, ⟨⟨⟨(by omega), ⟨(by omega), (by omega)⟩⟩, trivial⟩, ⟨⟨(by omega), trivial⟩, ⟨⟨trivial, trivial⟩, ⟨⟨trivial, trivial⟩, ⟨⟨trivial, (h4)⟩, ⟨⟨trivial, trivial⟩, ⟨⟨trivial, trivial⟩, ⟨⟨trivial, trivial⟩, ⟨⟨trivial, (h5)⟩, ⟨⟨trivial, trivial⟩, ⟨⟨trivial, trivial⟩, ⟨⟨trivial, trivial⟩, ⟨⟨trivial, trivial⟩, ⟨⟨trivial, trivial⟩, trivial⟩⟩⟩⟩⟩⟩⟩⟩⟩⟩⟩⟩⟩⟩⟩⟩⟩⟩⟩) ?_
              refine Tri.ret ?_
              repeat (first | refine thenP_ret ?_ | refine blkP_ret ?_ | refine countP_ret ?_ | refine joinP_ret ?_)
              refine endP.conv (r' := ⟨.sc (.b (((((F41n0 p0 (part1 ((List.replicate 32 0).set 0 (IntKind.wrap .u8 (iRem (iAdd .i64 (iRem p1 2) 2) 2))) 32 0 32)) : Nat) : Int) : Int) == 0)), []⟩) (by simp only [F13, h1, h2, h3, h4, h5, sel_true, sel_false]) ?_
              exact endP.ret [] (True ∧ True) (by kernel_rfl) (by kernel_rfl) (by kernel_rfl) ⟨trivial, trivial⟩
            ·
              have h5' := eq_false_i h5
              refine Tri.seq_region [(47, .b true), (54, .b true), (58, .b false)] (some [0, 1, 3, 7, 15, 7, 39, 127, 255, 511, 1023, 2047, 4095, 8191, 16383, 32767, 65535, 131071, 262143]) [4] [] ((True ∧ True) ∧ ((True ∧ True) ∧ ((True ∧ ((((F38 p0 (part1 ((List.replicate 32 0).set 0 (IntKind.wrap .u8 (iRem (iAdd .i64 (iRem p1 2) 2) 2))) 32 0 32)) : Int) == 0) = true)) ∧ ((True ∧ True) ∧ (((0 + (F38n0 p0 (part1 ((List.replicate 32 0).set 0 (IntKind.wrap .u8 (iRem (iAdd .i64 (iRem p1 2) 2) 2))) 32 0 32)) ≤ (F38n0 p0 (part1 ((List.replicate 32 0).set 0 (IntKind.wrap .u8 (iRem (iAdd .i64 (iRem p1 2) 2) 2))) 32 0 32))) ∧ True) ∧ (((((0 : Int) ≤ 32 ∧ (32 : Int) = 32) ∧ ((32 ≤ (140737488355328 : Int)) ∧ (((1 : Nat) : Int) * 32 ≤ 281474976710656))) ∧ True) ∧ (((0 + 32 ≤ 32) ∧ True) ∧ ((True ∧ True) ∧ ((True ∧ True) ∧ ((True ∧ ((strEq (bytesOf (((F38_1 p0 (part1 ((List.replicate 32 0).set 0 (IntKind.wrap .u8 (iRem (iAdd .i64 (iRem p1 2) 2) 2))) 32 0 32)).drop 0).take (F38n0 p0 (part1 ((List.replicate 32 0).set 0 (IntKind.wrap .u8 (iRem (iAdd .i64 (iRem p1 2) 2) 2))) 32 0 32)))) (bytesOf (((List.replicate 32 0).drop 0).take 32))) = true)) ∧ ((True ∧ True) ∧ ((True ∧ True) ∧ ((True ∧ True) ∧ ((True ∧ ((((F41 p0 (part1 ((List.replicate 32 0).set 0 (IntKind.wrap .u8 (iRem (iAdd .i64 (iRem p1 2) 2) 2))) 32 0 32)) : Int) == 3) = false)) ∧ ((True ∧ True) ∧ ((True ∧ True) ∧ ((True ∧ True) ∧ ((True ∧ True) ∧ ((True ∧ True) ∧ True)))))))))))))))))))
                  ([(4, .sc (.b false))], [])
                  816 (by kernel_rfl) rfl (by kernel_rfl) (⟨⟨trivial, trivial⟩, ⟨⟨trivial, trivial⟩, ⟨⟨trivial, (h3)⟩, ⟨⟨trivial, trivial⟩, ⟨⟨(by omega), trivial⟩, ⟨⟨⟨(by omega), ⟨(by omega), (by omega)⟩⟩, trivial⟩, ⟨⟨(by omega), trivial⟩, ⟨⟨trivial, trivial⟩, ⟨⟨trivial, trivial⟩, ⟨⟨trivial, (h4)⟩, ⟨⟨trivial, trivial⟩, ⟨⟨trivial, trivial⟩, ⟨⟨trivial, trivial⟩, ⟨⟨trivial, (h5)⟩, ⟨⟨trivial, trivial⟩, ⟨⟨trivial, trivial⟩, ⟨⟨trivial, trivial⟩, ⟨⟨trivial, trivial⟩, ⟨⟨trivial, trivial⟩, trivial⟩⟩⟩⟩⟩⟩⟩⟩⟩⟩⟩⟩⟩⟩⟩⟩⟩⟩⟩) ?_
              refine Tri.ret ?_
              repeat (first | refine thenP_ret ?_ | refine blkP_ret ?_ | refine countP_ret ?_ | refine joinP_ret ?_)
              refine endP.conv (r' := ⟨.sc (.b false), []⟩) (by simp only [F13, h1, h2, h3, h4, h5, sel_true, sel_false]) ?_
              exact endP.ret [] (True ∧ True) (by kernel_rfl) (by kernel_rfl) (by kernel_rfl) ⟨trivial, trivial⟩
          ·
            refine Tri.seq_region [(47, .b true), (54, .b false)] (some [0, 1, 3, 7, 15, 7, 39, 127, 255, 511, 1023, 2047, 4095, 8191, 16383, 32767, 65535, 131071, 262143]) [4] [] ((True ∧ True) ∧ ((True ∧ True) ∧ ((True ∧ ((((F38 p0 (part1 ((List.replicate 32 0).set 0 (IntKind.wrap .u8 (iRem (iAdd .i64 (iRem p1 2) 2) 2))) 32 0 32)) : Int) == 0) = true)) ∧ ((True ∧ True) ∧ (((0 + (F38n0 p0 (part1 ((List.replicate 32 0).set 0 (IntKind.wrap .u8 (iRem (iAdd .i64 (iRem p1 2) 2) 2))) 32 0 32)) ≤ (F38n0 p0 (part1 ((List.replicate 32 0).set 0 (IntKind.wrap .u8 (iRem (iAdd .i64 (iRem p1 2) 2) 2))) 32 0 32))) ∧ True) ∧ (((((0 : Int) ≤ 32 ∧ (32 : Int) = 32) ∧ ((32 ≤ (140737488355328 : Int)) ∧ (((1 : Nat) : Int) * 32 ≤ 281474976710656))) ∧ True) ∧ (((0 + 32 ≤ 32) ∧ True) ∧ ((True ∧ True) ∧ ((True ∧ True) ∧ ((True ∧ ((strEq (bytesOf (((F38_1 p0 (part1 ((List.replicate 32 0).set 0 (IntKind.wrap .u8 (iRem (iAdd .i64 (iRem p1 2) 2) 2))) 32 0 32)).drop 0).take (F38n0 p0 (part1 ((List.replicate 32 0).set 0 (IntKind.wrap .u8 (iRem (iAdd .i64 (iRem p1 2) 2) 2))) 32 0 32)))) (bytesOf (((List.replicate 32 0).drop 0).take 32))) = false)) ∧ ((True ∧ True) ∧ ((True ∧ True) ∧ ((True ∧ True) ∧ ((True ∧ True) ∧ ((True ∧ True) ∧ ((True ∧ True) ∧ ((True ∧ True) ∧ ((True ∧ True) ∧ ((True ∧ True) ∧ True)))))))))))))))))))
                ([(4, .sc (.b false))], [])
                816 (by kernel_rfl) rfl (by kernel_rfl) (⟨⟨trivial, trivial⟩, ⟨⟨trivial, trivial⟩, ⟨⟨trivial, (h3)⟩, ⟨⟨trivial, trivial⟩, ⟨⟨(by omega), trivial⟩, ⟨⟨⟨(by omega), ⟨(by omega), (by omega)⟩⟩, trivial⟩, ⟨⟨(by omega), trivial⟩, ⟨⟨trivial, trivial⟩, ⟨⟨trivial, trivial⟩, ⟨⟨trivial, (h4)⟩, ⟨⟨trivial, trivial⟩, ⟨⟨trivial, trivial⟩, ⟨⟨trivial, trivial⟩, ⟨⟨trivial, trivial⟩, ⟨⟨trivial, trivial⟩, ⟨⟨trivial, trivial⟩, ⟨⟨trivial, trivial⟩, ⟨⟨trivial, trivial⟩, ⟨⟨trivial, trivial⟩, trivial⟩⟩⟩⟩⟩⟩⟩⟩⟩⟩⟩⟩⟩⟩⟩⟩⟩⟩⟩) ?_
            refine Tri.ret ?_
            repeat (first | refine thenP_ret ?_ | refine blkP_ret ?_ | refine countP_ret ?_ | refine joinP_ret ?_)
            refine endP.conv (r' := ⟨.sc (.b false), []⟩) (by simp only [F13, h1, h2, h3, h4, sel_true, sel_false]) ?_
            exact endP.ret [] (True ∧ True) (by kernel_rfl) (by kernel_rfl) (by kernel_rfl) ⟨trivial, trivial⟩
        ·
          have h3' := eq_false_i h3
          refine Tri.seq_region [(47, .b false)] (some [0, 1, 3, 7, 15, 7, 39, 127, 255, 511, 1023, 2047, 4095, 8191, 16383, 32767, 65535, 131071, 262143]) [4] [] ((True ∧ True) ∧ ((True ∧ True) ∧ ((True ∧ ((((F38 p0 (part1 ((List.replicate 32 0).set 0 (IntKind.wrap .u8 (iRem (iAdd .i64 (iRem p1 2) 2) 2))) 32 0 32)) : Int) == 0) = false)) ∧ ((True ∧ True) ∧ ((True ∧ True) ∧ ((True ∧ True) ∧ ((True ∧ True) ∧ ((True ∧ True) ∧ ((True ∧ True) ∧ ((True ∧ True) ∧ ((True ∧ True) ∧ ((True ∧ True) ∧ ((True ∧ True) ∧ ((True ∧ True) ∧ ((True ∧ True) ∧ ((True ∧ True) ∧ ((True ∧ True) ∧ ((True ∧ True) ∧ ((True ∧ True) ∧ True)))))))))))))))))))
              ([(4, .sc (.b false))], [])
              816 (by kernel_rfl) rfl (by kernel_rfl) (⟨⟨trivial, trivial⟩, ⟨⟨trivial, trivial⟩, ⟨⟨trivial, (h3)⟩, ⟨⟨trivial, trivial⟩, ⟨⟨trivial, trivial⟩, ⟨⟨trivial, trivial⟩, ⟨⟨trivial, trivial⟩, ⟨⟨trivial, trivial⟩, ⟨⟨trivial, trivial⟩, ⟨⟨trivial, trivial⟩, ⟨⟨trivial, trivial⟩, ⟨⟨trivial, trivial⟩, ⟨⟨trivial, trivial⟩, ⟨⟨trivial, trivial⟩, ⟨⟨trivial, trivial⟩, ⟨⟨trivial, trivial⟩, ⟨⟨trivial, trivial⟩, ⟨⟨trivial, trivial⟩, ⟨⟨trivial, trivial⟩, trivial⟩⟩⟩⟩⟩⟩⟩⟩⟩⟩⟩⟩⟩⟩⟩⟩⟩⟩⟩) ?_
          refine Tri.ret ?_
          repeat (first | refine thenP_ret ?_ | refine blkP_ret ?_ | refine countP_ret ?_ | refine joinP_ret ?_)
          refine endP.conv (r' := ⟨.sc (.b false), []⟩) (by simp only [F13, h1, h2, h3, sel_true, sel_false]) ?_
          exact endP.ret [] (True ∧ True) (by kernel_rfl) (by kernel_rfl) (by kernel_rfl) ⟨trivial, trivial⟩

end Go.Vm
