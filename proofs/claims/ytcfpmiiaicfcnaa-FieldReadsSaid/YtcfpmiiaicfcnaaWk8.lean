/- What the functions compute, and that they do: walked by a printed text. -/
import Derived.Test.YtcfpmiiaicfcnaaWkC
set_option linter.unusedVariables false
set_option linter.unusedSimpArgs false
set_option maxRecDepth 4000
namespace Go.Vm
open Go

noncomputable def F8 (p0 : List Int) (p1 : List Int) : Bool :=
  (sel (!(F14)) false (sel (!(F15_4 p0 p1)) (sel ((F23_1 p0) == ((((p0.length : Nat) : Int) : Int) == 32)) ((F23_1 p1) == ((((p1.length : Nat) : Int) : Int) == 32)) false) (sel (F22 (F15 p0 p1) (F15_2 p0 p1)) (sel (F22 (F15_1 p0 p1) (F15_3 p0 p1)) (sel ((F29 (F15 p0 p1) (F15_1 p0 p1)) == (((F15_2 p0 p1) : List Int) == (F15_3 p0 p1))) (sel ((F32 (F15 p0 p1)) == (((iRem ((F15_2 p0 p1).getD 0 0) 2) : Int) == 1)) (sel (F22 (F36 true (F15 p0 p1) (F15_1 p0 p1)) (F15_2 p0 p1)) (F22 (F36 false (F15 p0 p1) (F15_1 p0 p1)) (F15_3 p0 p1)) false) false) false) false) false)))

noncomputable def S8 : List AV → Option (Prop × Ret)
  | [.sc (.ro .u8 p0), .sc (.ro .u8 p1)] => some (True, ⟨.sc (.b (F8 p0 p1)), []⟩)
  | _ => none

noncomputable def B8 : Bs := { P := Go.Proofs.Try.prog, G := noG, tab := tabOf [(14, ⟨[], 0, S14⟩), (15, ⟨[.ro .u8, .ro .u8], 0, S15⟩), (22, ⟨[.val, .val], 0, S22⟩), (23, ⟨[.ro .u8], 0, S23⟩), (29, ⟨[.val, .val], 0, S29⟩), (32, ⟨[.val], 0, S32⟩), (36, ⟨[.val, .val, .val], 0, S36⟩)], n := 89 }

theorem B8.ok : B8.Ok := ⟨tabOk (P := Go.Proofs.Try.prog) (G := noG) (l := [(14, ⟨[], 0, S14⟩), (15, ⟨[.ro .u8, .ro .u8], 0, S15⟩), (22, ⟨[.val, .val], 0, S22⟩), (23, ⟨[.ro .u8], 0, S23⟩), (29, ⟨[.val, .val], 0, S29⟩), (32, ⟨[.val], 0, S32⟩), (36, ⟨[.val, .val, .val], 0, S36⟩)]) (And.intro K14 (And.intro K15 (And.intro K22 (And.intro K23 (And.intro K29 (And.intro K32 (And.intro K36 True.intro))))))), mixed⟩

theorem K8 : Known Go.Proofs.Try.prog noG 8 ⟨[.ro .u8, .ro .u8], 0, S8⟩ := by
  refine Known.walk (B := B8) (fn := Go.Proofs.Try.f8) B8.ok (by kernel_rfl) rfl (by kernel_rfl) (by kernel_rfl) (by decide) ?_ ?_
  · intro vs C r h
    simp only at h
    unfold S8 at h
    split at h
    · cases h; rfl
    · cases h
  · intro E args C r h hC hlen
    simp only at h
    unfold S8 at h
    split at h
    rotate_left
    · cases h
    rename_i p0 p1
    cases h
    simp only [lens] at hlen
    refine ⟨show 2 ≤ 89 from by decide, ?_⟩
    refine Tri.sub (Sub.of_eq (show _ = ([(0, .sc (.ro .u8 p0)), (1, .sc (.ro .u8 p1))], []) from rfl)) ?_
    refine Tri.seq_region [] none [0, 1] [] ((True ∧ True) ∧ True)
        ([(0, .sc (.ro .u8 p0)), (1, .sc (.ro .u8 p1))], [])
        16 (by kernel_rfl) rfl (by kernel_rfl) (⟨⟨trivial, trivial⟩, trivial⟩) ?_
    refine Tri.seq ?_
    refine Tri.seq_region [] none [15, 0, 1] [] (((True ∧ True) ∧ True) ∧ ((True ∧ True) ∧ True))
        ([(15, .sc (.b (!(F14)))), (0, .sc (.ro .u8 p0)), (1, .sc (.ro .u8 p1))], [])
        48 (by kernel_rfl) rfl (by kernel_rfl) (⟨⟨⟨trivial, trivial⟩, trivial⟩, ⟨⟨trivial, trivial⟩, trivial⟩⟩) ?_
    refine Tri.cond (x := (!(F14))) (by kernel_rfl) (fun h1 => ?_) (fun h1 => ?_)
    ·
      refine Tri.seq_region [] none [4] [] ((True ∧ True) ∧ True)
          ([(4, .sc (.b false))], [])
          64 (by kernel_rfl) rfl (by kernel_rfl) (⟨⟨trivial, trivial⟩, trivial⟩) ?_
      refine Tri.ret ?_
      repeat (first | refine thenP_ret ?_ | refine blkP_ret ?_ | refine countP_ret ?_ | refine joinP_ret ?_)
      refine endP.conv (r' := ⟨.sc (.b false), []⟩) (by simp only [F8, h1, sel_true, sel_false]) ?_
      exact endP.ret [] (True ∧ True) (by kernel_rfl) (by kernel_rfl) (by kernel_rfl) ⟨trivial, trivial⟩
    ·
      refine Tri.skip ?_
      change Tri _ _ _ _ _ _
      refine Tri.seq_region [] none [9, 8, 7, 6, 5, 0, 1] [240, 224, 208, 192] ((True ∧ True) ∧ ((True ∧ True) ∧ (((True ∧ True) ∧ True) ∧ ((True ∧ True) ∧ ((True ∧ True) ∧ ((True ∧ True) ∧ ((True ∧ True) ∧ ((True ∧ True) ∧ ((True ∧ True) ∧ ((True ∧ True) ∧ ((True ∧ True) ∧ ((True ∧ True) ∧ ((True ∧ True) ∧ (((True ∧ (5 = 5)) ∧ True) ∧ (((True ∧ (5 = 5)) ∧ True) ∧ (((True ∧ (16 = 16)) ∧ True) ∧ (((True ∧ (16 = 16)) ∧ True) ∧ ((True ∧ True) ∧ True))))))))))))))))))
          ([(9, .sc (.b (F15_4 p0 p1))), (8, .sc (.p 240 0)), (7, .sc (.p 224 0)), (6, .sc (.p 208 0)), (5, .sc (.p 192 0)), (0, .sc (.ro .u8 p0)), (1, .sc (.ro .u8 p1))], [(240, .ints .i64 16 (F15_3 p0 p1)), (224, .ints .i64 16 (F15_2 p0 p1)), (208, .ints .u64 5 (F15_1 p0 p1)), (192, .ints .u64 5 (F15 p0 p1))])
          336 (by kernel_rfl) rfl (by kernel_rfl) (⟨⟨trivial, trivial⟩, ⟨⟨trivial, trivial⟩, ⟨⟨⟨trivial, trivial⟩, trivial⟩, ⟨⟨trivial, trivial⟩, ⟨⟨trivial, trivial⟩, ⟨⟨trivial, trivial⟩, ⟨⟨trivial, trivial⟩, ⟨⟨trivial, trivial⟩, ⟨⟨trivial, trivial⟩, ⟨⟨trivial, trivial⟩, ⟨⟨trivial, trivial⟩, ⟨⟨trivial, trivial⟩, ⟨⟨trivial, trivial⟩, ⟨⟨⟨trivial, (rfl)⟩, trivial⟩, ⟨⟨⟨trivial, (rfl)⟩, trivial⟩, ⟨⟨⟨trivial, (rfl)⟩, trivial⟩, ⟨⟨⟨trivial, (rfl)⟩, trivial⟩, ⟨⟨trivial, trivial⟩, trivial⟩⟩⟩⟩⟩⟩⟩⟩⟩⟩⟩⟩⟩⟩⟩⟩⟩⟩) ?_
      refine Tri.seq ?_
      refine Tri.seq_region [] none [26, 8, 7, 6, 5, 0, 1] [240, 224, 208, 192] ((True ∧ True) ∧ ((True ∧ True) ∧ True))
          ([(26, .sc (.b (!(F15_4 p0 p1)))), (8, .sc (.p 240 0)), (7, .sc (.p 224 0)), (6, .sc (.p 208 0)), (5, .sc (.p 192 0)), (0, .sc (.ro .u8 p0)), (1, .sc (.ro .u8 p1))], [(240, .ints .i64 16 (F15_3 p0 p1)), (224, .ints .i64 16 (F15_2 p0 p1)), (208, .ints .u64 5 (F15_1 p0 p1)), (192, .ints .u64 5 (F15 p0 p1))])
          368 (by kernel_rfl) rfl (by kernel_rfl) (⟨⟨trivial, trivial⟩, ⟨⟨trivial, trivial⟩, trivial⟩⟩) ?_
      refine Tri.cond (x := (!(F15_4 p0 p1))) (by kernel_rfl) (fun h2 => ?_) (fun h2 => ?_)
      ·
        refine Tri.seq_region [] none [11, 0, 1] [] ((True ∧ True) ∧ (((True ∧ True) ∧ True) ∧ ((True ∧ True) ∧ ((True ∧ True) ∧ ((True ∧ True) ∧ ((True ∧ True) ∧ (((True ∧ (5 = 5)) ∧ True) ∧ ((True ∧ True) ∧ True))))))))
            ([(11, .sc (.b (F23_1 p0))), (0, .sc (.ro .u8 p0)), (1, .sc (.ro .u8 p1))], [])
            496 (by kernel_rfl) rfl (by kernel_rfl) (⟨⟨trivial, trivial⟩, ⟨⟨⟨trivial, trivial⟩, trivial⟩, ⟨⟨trivial, trivial⟩, ⟨⟨trivial, trivial⟩, ⟨⟨trivial, trivial⟩, ⟨⟨trivial, trivial⟩, ⟨⟨⟨trivial, (rfl)⟩, trivial⟩, ⟨⟨trivial, trivial⟩, trivial⟩⟩⟩⟩⟩⟩⟩⟩) ?_
        refine Tri.seq_region [] none [13, 11, 0, 1] [] ((True ∧ True) ∧ (((True ∧ True) ∧ True) ∧ ((True ∧ True) ∧ ((True ∧ True) ∧ ((True ∧ True) ∧ ((True ∧ True) ∧ (((True ∧ (5 = 5)) ∧ True) ∧ ((True ∧ True) ∧ True))))))))
            ([(13, .sc (.b (F23_1 p1))), (11, .sc (.b (F23_1 p0))), (0, .sc (.ro .u8 p0)), (1, .sc (.ro .u8 p1))], [])
            624 (by kernel_rfl) rfl (by kernel_rfl) (⟨⟨trivial, trivial⟩, ⟨⟨⟨trivial, trivial⟩, trivial⟩, ⟨⟨trivial, trivial⟩, ⟨⟨trivial, trivial⟩, ⟨⟨trivial, trivial⟩, ⟨⟨trivial, trivial⟩, ⟨⟨⟨trivial, (rfl)⟩, trivial⟩, ⟨⟨trivial, trivial⟩, trivial⟩⟩⟩⟩⟩⟩⟩⟩) ?_
        refine Tri.split ((F23_1 p0) == ((((p0.length : Nat) : Int) : Int) == 32)) (fun h3 => ?_) (fun h3 => ?_)
        ·
          refine Tri.seq_region [(42, .b true)] none [4] [] ((True ∧ True) ∧ ((True ∧ True) ∧ ((True ∧ True) ∧ ((True ∧ True) ∧ ((True ∧ True) ∧ ((True ∧ (((F23_1 p0) == ((((p0.length : Nat) : Int) : Int) == 32)) = true)) ∧ ((True ∧ True) ∧ ((True ∧ True) ∧ ((True ∧ True) ∧ ((True ∧ True) ∧ ((True ∧ True) ∧ ((True ∧ True) ∧ ((True ∧ True) ∧ True)))))))))))))
              ([(4, .sc (.b ((F23_1 p1) == ((((p1.length : Nat) : Int) : Int) == 32))))], [])
              832 (by kernel_rfl) rfl (by kernel_rfl) (⟨⟨trivial, trivial⟩, ⟨⟨trivial, trivial⟩, ⟨⟨trivial, trivial⟩, ⟨⟨trivial, trivial⟩, ⟨⟨trivial, trivial⟩, ⟨⟨trivial, (h3)⟩, ⟨⟨trivial, trivial⟩, ⟨⟨trivial, trivial⟩, ⟨⟨trivial, trivial⟩, ⟨⟨trivial, trivial⟩, ⟨⟨trivial, trivial⟩, ⟨⟨trivial, trivial⟩, ⟨⟨trivial, trivial⟩, trivial⟩⟩⟩⟩⟩⟩⟩⟩⟩⟩⟩⟩⟩) ?_
          refine Tri.ret ?_
          repeat (first | refine thenP_ret ?_ | refine blkP_ret ?_ | refine countP_ret ?_ | refine joinP_ret ?_)
          refine endP.conv (r' := ⟨.sc (.b ((F23_1 p1) == ((((p1.length : Nat) : Int) : Int) == 32))), []⟩) (by simp only [F8, h1, h2, h3, sel_true, sel_false]) ?_
          exact endP.ret [] (True ∧ True) (by kernel_rfl) (by kernel_rfl) (by kernel_rfl) ⟨trivial, trivial⟩
        ·
          refine Tri.seq_region [(42, .b false)] none [4] [] ((True ∧ True) ∧ ((True ∧ True) ∧ ((True ∧ True) ∧ ((True ∧ True) ∧ ((True ∧ True) ∧ ((True ∧ (((F23_1 p0) == ((((p0.length : Nat) : Int) : Int) == 32)) = false)) ∧ ((True ∧ True) ∧ ((True ∧ True) ∧ ((True ∧ True) ∧ ((True ∧ True) ∧ ((True ∧ True) ∧ ((True ∧ True) ∧ ((True ∧ True) ∧ True)))))))))))))
              ([(4, .sc (.b false))], [])
              832 (by kernel_rfl) rfl (by kernel_rfl) (⟨⟨trivial, trivial⟩, ⟨⟨trivial, trivial⟩, ⟨⟨trivial, trivial⟩, ⟨⟨trivial, trivial⟩, ⟨⟨trivial, trivial⟩, ⟨⟨trivial, (h3)⟩, ⟨⟨trivial, trivial⟩, ⟨⟨trivial, trivial⟩, ⟨⟨trivial, trivial⟩, ⟨⟨trivial, trivial⟩, ⟨⟨trivial, trivial⟩, ⟨⟨trivial, trivial⟩, ⟨⟨trivial, trivial⟩, trivial⟩⟩⟩⟩⟩⟩⟩⟩⟩⟩⟩⟩⟩) ?_
          refine Tri.ret ?_
          repeat (first | refine thenP_ret ?_ | refine blkP_ret ?_ | refine countP_ret ?_ | refine joinP_ret ?_)
          refine endP.conv (r' := ⟨.sc (.b false), []⟩) (by simp only [F8, h1, h2, h3, sel_true, sel_false]) ?_
          exact endP.ret [] (True ∧ True) (by kernel_rfl) (by kernel_rfl) (by kernel_rfl) ⟨trivial, trivial⟩
      ·
        refine Tri.skip ?_
        change Tri _ _ _ _ _ _
        refine Tri.split (F22 (F15 p0 p1) (F15_2 p0 p1)) (fun h4 => ?_) (fun h4 => ?_)
        ·
          refine Tri.split (F22 (F15_1 p0 p1) (F15_3 p0 p1)) (fun h5 => ?_) (fun h5 => ?_)
          ·
            refine Tri.split ((F29 (F15 p0 p1) (F15_1 p0 p1)) == (((F15_2 p0 p1) : List Int) == (F15_3 p0 p1))) (fun h6 => ?_) (fun h6 => ?_)
            ·
              refine Tri.split ((F32 (F15 p0 p1)) == (((iRem ((F15_2 p0 p1).getD 0 0) 2) : Int) == 1)) (fun h7 => ?_) (fun h7 => ?_)
              ·
                refine Tri.split (F22 (F36 true (F15 p0 p1) (F15_1 p0 p1)) (F15_2 p0 p1)) (fun h8 => ?_) (fun h8 => ?_)
                ·
                  refine Tri.seq_region [(52, .b true), (57, .b true), (66, .b true), (75, .b true), (82, .b true)] (some [0, 0, 3, 7, 15, 15, 63, 127, 255, 511, 511, 2047, 511, 511, 12799, 32767, 65535, 131071, 262143, 524287, 262143, 1310719, 3407871, 7602175, 16777215, 33554431, 67108863, 134217727, 134217727, 536870911, 134217727, 2147483647, 4294967295, 8589934591, 17179869183, 17179869183, 68719476735, 17179869183, 274877906943, 549755813887, 1099511627775]) [4] [] ((True ∧ True) ∧ ((True ∧ True) ∧ (((True ∧ True) ∧ True) ∧ ((True ∧ ((F22 (F15 p0 p1) (F15_2 p0 p1)) = true)) ∧ ((True ∧ True) ∧ ((True ∧ True) ∧ (((True ∧ True) ∧ True) ∧ ((True ∧ True) ∧ ((True ∧ ((F22 (F15_1 p0 p1) (F15_3 p0 p1)) = true)) ∧ ((True ∧ True) ∧ ((True ∧ True) ∧ (((True ∧ True) ∧ True) ∧ ((True ∧ True) ∧ ((True ∧ True) ∧ ((True ∧ True) ∧ ((True ∧ True) ∧ ((True ∧ True) ∧ ((True ∧ (((F29 (F15 p0 p1) (F15_1 p0 p1)) == (((F15_2 p0 p1) : List Int) == (F15_3 p0 p1))) = true)) ∧ ((True ∧ True) ∧ (((True ∧ True) ∧ True) ∧ ((((0 : Int) ≤ 0 ∧ 0 < ((16 : Nat) : Int)) ∧ True) ∧ (((0 < 16) ∧ True) ∧ (((2 ≠ (0 : Int)) ∧ True) ∧ ((True ∧ True) ∧ ((True ∧ True) ∧ ((True ∧ True) ∧ ((True ∧ (((F32 (F15 p0 p1)) == (((iRem ((F15_2 p0 p1).getD 0 0) 2) : Int) == 1)) = true)) ∧ ((True ∧ True) ∧ ((True ∧ True) ∧ (((True ∧ True) ∧ True) ∧ ((True ∧ True) ∧ (((True ∧ True) ∧ True) ∧ ((True ∧ True) ∧ ((True ∧ ((F22 (F36 true (F15 p0 p1) (F15_1 p0 p1)) (F15_2 p0 p1)) = true)) ∧ ((True ∧ True) ∧ ((True ∧ True) ∧ (((True ∧ True) ∧ True) ∧ ((True ∧ True) ∧ (((True ∧ True) ∧ True) ∧ ((True ∧ True) ∧ ((True ∧ True) ∧ True)))))))))))))))))))))))))))))))))))))))))
                      ([(4, .sc (.b (F22 (F36 false (F15 p0 p1) (F15_1 p0 p1)) (F15_3 p0 p1))))], [])
                      1024 (by kernel_rfl) rfl (by kernel_rfl) (⟨⟨trivial, trivial⟩, ⟨⟨trivial, trivial⟩, ⟨⟨⟨trivial, trivial⟩, trivial⟩, ⟨⟨trivial, (h4)⟩, ⟨⟨trivial, trivial⟩, ⟨⟨trivial, trivial⟩, ⟨⟨⟨trivial, trivial⟩, trivial⟩, ⟨⟨trivial, trivial⟩, ⟨⟨trivial, (h5)⟩, ⟨⟨trivial, trivial⟩, ⟨⟨trivial, trivial⟩, ⟨⟨⟨trivial, trivial⟩, trivial⟩, ⟨⟨trivial, trivial⟩, ⟨⟨trivial, trivial⟩, ⟨⟨trivial, trivial⟩, ⟨⟨trivial, trivial⟩, ⟨⟨trivial, trivial⟩, ⟨⟨trivial, (h6)⟩, ⟨⟨trivial, trivial⟩, ⟨⟨⟨trivial, trivial⟩, trivial⟩, ⟨⟨(by omega), trivial⟩, ⟨⟨(by omega), trivial⟩, ⟨⟨(by omega), trivial⟩, ⟨⟨trivial, trivial⟩, ⟨⟨trivial, trivial⟩, ⟨⟨trivial, trivial⟩, ⟨⟨trivial, (h7)⟩, ⟨⟨trivial, trivial⟩, ⟨⟨trivial, trivial⟩, ⟨⟨⟨trivial, trivial⟩, trivial⟩, ⟨⟨trivial, trivial⟩, ⟨⟨⟨trivial, trivial⟩, trivial⟩, ⟨⟨trivial, trivial⟩, ⟨⟨trivial, (h8)⟩, ⟨⟨trivial, trivial⟩, ⟨⟨trivial, trivial⟩, ⟨⟨⟨trivial, trivial⟩, trivial⟩, ⟨⟨trivial, trivial⟩, ⟨⟨⟨trivial, trivial⟩, trivial⟩, ⟨⟨trivial, trivial⟩, ⟨⟨trivial, trivial⟩, trivial⟩⟩⟩⟩⟩⟩⟩⟩⟩⟩⟩⟩⟩⟩⟩⟩⟩⟩⟩⟩⟩⟩⟩⟩⟩⟩⟩⟩⟩⟩⟩⟩⟩⟩⟩⟩⟩⟩⟩⟩⟩) ?_
                  refine Tri.ret ?_
                  repeat (first | refine thenP_ret ?_ | refine blkP_ret ?_ | refine countP_ret ?_ | refine joinP_ret ?_)
                  refine endP.conv (r' := ⟨.sc (.b (F22 (F36 false (F15 p0 p1) (F15_1 p0 p1)) (F15_3 p0 p1))), []⟩) (by simp only [F8, h1, h2, h4, h5, h6, h7, h8, sel_true, sel_false]) ?_
                  exact endP.ret [] (True ∧ True) (by kernel_rfl) (by kernel_rfl) (by kernel_rfl) ⟨trivial, trivial⟩
                ·
                  refine Tri.seq_region [(52, .b true), (57, .b true), (66, .b true), (75, .b true), (82, .b false)] (some [0, 0, 3, 7, 15, 15, 63, 127, 255, 511, 511, 2047, 511, 511, 12799, 32767, 65535, 131071, 262143, 524287, 262143, 1310719, 3407871, 7602175, 16777215, 33554431, 67108863, 134217727, 134217727, 536870911, 134217727, 2147483647, 4294967295, 8589934591, 17179869183, 17179869183, 68719476735, 17179869183, 274877906943, 549755813887, 1099511627775]) [4] [] ((True ∧ True) ∧ ((True ∧ True) ∧ (((True ∧ True) ∧ True) ∧ ((True ∧ ((F22 (F15 p0 p1) (F15_2 p0 p1)) = true)) ∧ ((True ∧ True) ∧ ((True ∧ True) ∧ (((True ∧ True) ∧ True) ∧ ((True ∧ True) ∧ ((True ∧ ((F22 (F15_1 p0 p1) (F15_3 p0 p1)) = true)) ∧ ((True ∧ True) ∧ ((True ∧ True) ∧ (((True ∧ True) ∧ True) ∧ ((True ∧ True) ∧ ((True ∧ True) ∧ ((True ∧ True) ∧ ((True ∧ True) ∧ ((True ∧ True) ∧ ((True ∧ (((F29 (F15 p0 p1) (F15_1 p0 p1)) == (((F15_2 p0 p1) : List Int) == (F15_3 p0 p1))) = true)) ∧ ((True ∧ True) ∧ (((True ∧ True) ∧ True) ∧ ((((0 : Int) ≤ 0 ∧ 0 < ((16 : Nat) : Int)) ∧ True) ∧ (((0 < 16) ∧ True) ∧ (((2 ≠ (0 : Int)) ∧ True) ∧ ((True ∧ True) ∧ ((True ∧ True) ∧ ((True ∧ True) ∧ ((True ∧ (((F32 (F15 p0 p1)) == (((iRem ((F15_2 p0 p1).getD 0 0) 2) : Int) == 1)) = true)) ∧ ((True ∧ True) ∧ ((True ∧ True) ∧ (((True ∧ True) ∧ True) ∧ ((True ∧ True) ∧ (((True ∧ True) ∧ True) ∧ ((True ∧ True) ∧ ((True ∧ ((F22 (F36 true (F15 p0 p1) (F15_1 p0 p1)) (F15_2 p0 p1)) = false)) ∧ ((True ∧ True) ∧ ((True ∧ True) ∧ ((True ∧ True) ∧ ((True ∧ True) ∧ ((True ∧ True) ∧ ((True ∧ True) ∧ ((True ∧ True) ∧ True)))))))))))))))))))))))))))))))))))))))))
                      ([(4, .sc (.b false))], [])
                      1024 (by kernel_rfl) rfl (by kernel_rfl) (⟨⟨trivial, trivial⟩, ⟨⟨trivial, trivial⟩, ⟨⟨⟨trivial, trivial⟩, trivial⟩, ⟨⟨trivial, (h4)⟩, ⟨⟨trivial, trivial⟩, ⟨⟨trivial, trivial⟩, ⟨⟨⟨trivial, trivial⟩, trivial⟩, ⟨⟨trivial, trivial⟩, ⟨⟨trivial, (h5)⟩, ⟨⟨trivial, trivial⟩, ⟨⟨trivial, trivial⟩, ⟨⟨⟨trivial, trivial⟩, trivial⟩, ⟨⟨trivial, trivial⟩, ⟨⟨trivial, trivial⟩, ⟨⟨trivial, trivial⟩, ⟨⟨trivial, trivial⟩, ⟨⟨trivial, trivial⟩, ⟨⟨trivial, (h6)⟩, ⟨⟨trivial, trivial⟩, ⟨⟨⟨trivial, trivial⟩, trivial⟩, ⟨⟨(by omega), trivial⟩, ⟨⟨(by omega), trivial⟩, ⟨⟨(by omega), trivial⟩, ⟨⟨trivial, trivial⟩, ⟨⟨trivial, trivial⟩, ⟨⟨trivial, trivial⟩, ⟨⟨trivial, (h7)⟩, ⟨⟨trivial, trivial⟩, ⟨⟨trivial, trivial⟩, ⟨⟨⟨trivial, trivial⟩, trivial⟩, ⟨⟨trivial, trivial⟩, ⟨⟨⟨trivial, trivial⟩, trivial⟩, ⟨⟨trivial, trivial⟩, ⟨⟨trivial, (h8)⟩, ⟨⟨trivial, trivial⟩, ⟨⟨trivial, trivial⟩, ⟨⟨trivial, trivial⟩, ⟨⟨trivial, trivial⟩, ⟨⟨trivial, trivial⟩, ⟨⟨trivial, trivial⟩, ⟨⟨trivial, trivial⟩, trivial⟩⟩⟩⟩⟩⟩⟩⟩⟩⟩⟩⟩⟩⟩⟩⟩⟩⟩⟩⟩⟩⟩⟩⟩⟩⟩⟩⟩⟩⟩⟩⟩⟩⟩⟩⟩⟩⟩⟩⟩⟩) ?_
                  refine Tri.ret ?_
                  repeat (first | refine thenP_ret ?_ | refine blkP_ret ?_ | refine countP_ret ?_ | refine joinP_ret ?_)
                  refine endP.conv (r' := ⟨.sc (.b false), []⟩) (by simp only [F8, h1, h2, h4, h5, h6, h7, h8, sel_true, sel_false]) ?_
                  exact endP.ret [] (True ∧ True) (by kernel_rfl) (by kernel_rfl) (by kernel_rfl) ⟨trivial, trivial⟩
              ·
                refine Tri.seq_region [(52, .b true), (57, .b true), (66, .b true), (75, .b false)] (some [0, 0, 3, 7, 15, 15, 63, 127, 255, 511, 511, 2047, 511, 511, 12799, 32767, 65535, 131071, 262143, 524287, 262143, 1310719, 3407871, 7602175, 16777215, 33554431, 67108863, 134217727, 134217727, 536870911, 134217727, 2147483647, 4294967295, 8589934591, 17179869183, 17179869183, 68719476735, 17179869183, 274877906943, 549755813887, 1099511627775]) [4] [] ((True ∧ True) ∧ ((True ∧ True) ∧ (((True ∧ True) ∧ True) ∧ ((True ∧ ((F22 (F15 p0 p1) (F15_2 p0 p1)) = true)) ∧ ((True ∧ True) ∧ ((True ∧ True) ∧ (((True ∧ True) ∧ True) ∧ ((True ∧ True) ∧ ((True ∧ ((F22 (F15_1 p0 p1) (F15_3 p0 p1)) = true)) ∧ ((True ∧ True) ∧ ((True ∧ True) ∧ (((True ∧ True) ∧ True) ∧ ((True ∧ True) ∧ ((True ∧ True) ∧ ((True ∧ True) ∧ ((True ∧ True) ∧ ((True ∧ True) ∧ ((True ∧ (((F29 (F15 p0 p1) (F15_1 p0 p1)) == (((F15_2 p0 p1) : List Int) == (F15_3 p0 p1))) = true)) ∧ ((True ∧ True) ∧ (((True ∧ True) ∧ True) ∧ ((((0 : Int) ≤ 0 ∧ 0 < ((16 : Nat) : Int)) ∧ True) ∧ (((0 < 16) ∧ True) ∧ (((2 ≠ (0 : Int)) ∧ True) ∧ ((True ∧ True) ∧ ((True ∧ True) ∧ ((True ∧ True) ∧ ((True ∧ (((F32 (F15 p0 p1)) == (((iRem ((F15_2 p0 p1).getD 0 0) 2) : Int) == 1)) = false)) ∧ ((True ∧ True) ∧ ((True ∧ True) ∧ ((True ∧ True) ∧ ((True ∧ True) ∧ ((True ∧ True) ∧ ((True ∧ True) ∧ ((True ∧ True) ∧ ((True ∧ True) ∧ ((True ∧ True) ∧ ((True ∧ True) ∧ ((True ∧ True) ∧ ((True ∧ True) ∧ ((True ∧ True) ∧ ((True ∧ True) ∧ True)))))))))))))))))))))))))))))))))))))))))
                    ([(4, .sc (.b false))], [])
                    1024 (by kernel_rfl) rfl (by kernel_rfl) (⟨⟨trivial, trivial⟩, ⟨⟨trivial, trivial⟩, ⟨⟨⟨trivial, trivial⟩, trivial⟩, ⟨⟨trivial, (h4)⟩, ⟨⟨trivial, trivial⟩, ⟨⟨trivial, trivial⟩, ⟨⟨⟨trivial, trivial⟩, trivial⟩, ⟨⟨trivial, trivial⟩, ⟨⟨trivial, (h5)⟩, ⟨⟨trivial, trivial⟩, ⟨⟨trivial, trivial⟩, ⟨⟨⟨trivial, trivial⟩, trivial⟩, ⟨⟨trivial, trivial⟩, ⟨⟨trivial, trivial⟩, ⟨⟨trivial, trivial⟩, ⟨⟨trivial, trivial⟩, ⟨⟨trivial, trivial⟩, ⟨⟨trivial, (h6)⟩, ⟨⟨trivial, trivial⟩, ⟨⟨⟨trivial, trivial⟩, trivial⟩, ⟨⟨(by omega), trivial⟩, ⟨⟨(by omega), trivial⟩, ⟨⟨(by omega), trivial⟩, ⟨⟨trivial, trivial⟩, ⟨⟨trivial, trivial⟩, ⟨⟨trivial, trivial⟩, ⟨⟨trivial, (h7)⟩, ⟨⟨trivial, trivial⟩, ⟨⟨trivial, trivial⟩, ⟨⟨trivial, trivial⟩, ⟨⟨trivial, trivial⟩, ⟨⟨trivial, trivial⟩, ⟨⟨trivial, trivial⟩, ⟨⟨trivial, trivial⟩, ⟨⟨trivial, trivial⟩, ⟨⟨trivial, trivial⟩, ⟨⟨trivial, trivial⟩, ⟨⟨trivial, trivial⟩, ⟨⟨trivial, trivial⟩, ⟨⟨trivial, trivial⟩, ⟨⟨trivial, trivial⟩, trivial⟩⟩⟩⟩⟩⟩⟩⟩⟩⟩⟩⟩⟩⟩⟩⟩⟩⟩⟩⟩⟩⟩⟩⟩⟩⟩⟩⟩⟩⟩⟩⟩⟩⟩⟩⟩⟩⟩⟩⟩⟩) ?_
                refine Tri.ret ?_
                repeat (first | refine thenP_ret ?_ | refine blkP_ret ?_ | refine countP_ret ?_ | refine joinP_ret ?_)
                refine endP.conv (r' := ⟨.sc (.b false), []⟩) (by simp only [F8, h1, h2, h4, h5, h6, h7, sel_true, sel_false]) ?_
                exact endP.ret [] (True ∧ True) (by kernel_rfl) (by kernel_rfl) (by kernel_rfl) ⟨trivial, trivial⟩
            ·
              refine Tri.seq_region [(52, .b true), (57, .b true), (66, .b false)] (some [0, 0, 3, 7, 15, 15, 63, 127, 255, 511, 511, 2047, 511, 511, 12799, 32767, 65535, 131071, 262143, 524287, 262143, 1310719, 3407871, 7602175, 16777215, 33554431, 67108863, 134217727, 134217727, 536870911, 134217727, 2147483647, 4294967295, 8589934591, 17179869183, 17179869183, 68719476735, 17179869183, 274877906943, 549755813887, 1099511627775]) [4] [] ((True ∧ True) ∧ ((True ∧ True) ∧ (((True ∧ True) ∧ True) ∧ ((True ∧ ((F22 (F15 p0 p1) (F15_2 p0 p1)) = true)) ∧ ((True ∧ True) ∧ ((True ∧ True) ∧ (((True ∧ True) ∧ True) ∧ ((True ∧ True) ∧ ((True ∧ ((F22 (F15_1 p0 p1) (F15_3 p0 p1)) = true)) ∧ ((True ∧ True) ∧ ((True ∧ True) ∧ (((True ∧ True) ∧ True) ∧ ((True ∧ True) ∧ ((True ∧ True) ∧ ((True ∧ True) ∧ ((True ∧ True) ∧ ((True ∧ True) ∧ ((True ∧ (((F29 (F15 p0 p1) (F15_1 p0 p1)) == (((F15_2 p0 p1) : List Int) == (F15_3 p0 p1))) = false)) ∧ ((True ∧ True) ∧ ((True ∧ True) ∧ ((True ∧ True) ∧ ((True ∧ True) ∧ ((True ∧ True) ∧ ((True ∧ True) ∧ ((True ∧ True) ∧ ((True ∧ True) ∧ ((True ∧ True) ∧ ((True ∧ True) ∧ ((True ∧ True) ∧ ((True ∧ True) ∧ ((True ∧ True) ∧ ((True ∧ True) ∧ ((True ∧ True) ∧ ((True ∧ True) ∧ ((True ∧ True) ∧ ((True ∧ True) ∧ ((True ∧ True) ∧ ((True ∧ True) ∧ ((True ∧ True) ∧ ((True ∧ True) ∧ ((True ∧ True) ∧ True)))))))))))))))))))))))))))))))))))))))))
                  ([(4, .sc (.b false))], [])
                  1024 (by kernel_rfl) rfl (by kernel_rfl) (⟨⟨trivial, trivial⟩, ⟨⟨trivial, trivial⟩, ⟨⟨⟨trivial, trivial⟩, trivial⟩, ⟨⟨trivial, (h4)⟩, ⟨⟨trivial, trivial⟩, ⟨⟨trivial, trivial⟩, ⟨⟨⟨trivial, trivial⟩, trivial⟩, ⟨⟨trivial, trivial⟩, ⟨⟨trivial, (h5)⟩, ⟨⟨trivial, trivial⟩, ⟨⟨trivial, trivial⟩, ⟨⟨⟨trivial, trivial⟩, trivial⟩, ⟨⟨trivial, trivial⟩, ⟨⟨trivial, trivial⟩, ⟨⟨trivial, trivial⟩, ⟨⟨trivial, trivial⟩, ⟨⟨trivial, trivial⟩, ⟨⟨trivial, (h6)⟩, ⟨⟨trivial, trivial⟩, ⟨⟨trivial, trivial⟩, ⟨⟨trivial, trivial⟩, ⟨⟨trivial, trivial⟩, ⟨⟨trivial, trivial⟩, ⟨⟨trivial, trivial⟩, ⟨⟨trivial, trivial⟩, ⟨⟨trivial, trivial⟩, ⟨⟨trivial, trivial⟩, ⟨⟨trivial, trivial⟩, ⟨⟨trivial, trivial⟩, ⟨⟨trivial, trivial⟩, ⟨⟨trivial, trivial⟩, ⟨⟨trivial, trivial⟩, ⟨⟨trivial, trivial⟩, ⟨⟨trivial, trivial⟩, ⟨⟨trivial, trivial⟩, ⟨⟨trivial, trivial⟩, ⟨⟨trivial, trivial⟩, ⟨⟨trivial, trivial⟩, ⟨⟨trivial, trivial⟩, ⟨⟨trivial, trivial⟩, ⟨⟨trivial, trivial⟩, trivial⟩⟩⟩⟩⟩⟩⟩⟩⟩⟩⟩⟩⟩⟩⟩⟩⟩⟩⟩⟩⟩⟩⟩⟩⟩⟩⟩⟩⟩⟩⟩⟩⟩⟩⟩⟩⟩⟩⟩⟩⟩) ?_
              refine Tri.ret ?_
              repeat (first | refine thenP_ret ?_ | refine blkP_ret ?_ | refine countP_ret ?_ | refine joinP_ret ?_)
              refine endP.conv (r' := ⟨.sc (.b false), []⟩) (by simp only [F8, h1, h2, h4, h5, h6, sel_true, sel_false]) ?_
              exact endP.ret [] (True ∧ True) (by kernel_rfl) (by kernel_rfl) (by kernel_rfl) ⟨trivial, trivial⟩
          ·
            refine Tri.seq_region [(52, .b true), (57, .b false)] (some [0, 0, 3, 7, 15, 15, 63, 127, 255, 511, 511, 2047, 511, 511, 12799, 32767, 65535, 131071, 262143, 524287, 262143, 1310719, 3407871, 7602175, 16777215, 33554431, 67108863, 134217727, 134217727, 536870911, 134217727, 2147483647, 4294967295, 8589934591, 17179869183, 17179869183, 68719476735, 17179869183, 274877906943, 549755813887, 1099511627775]) [4] [] ((True ∧ True) ∧ ((True ∧ True) ∧ (((True ∧ True) ∧ True) ∧ ((True ∧ ((F22 (F15 p0 p1) (F15_2 p0 p1)) = true)) ∧ ((True ∧ True) ∧ ((True ∧ True) ∧ (((True ∧ True) ∧ True) ∧ ((True ∧ True) ∧ ((True ∧ ((F22 (F15_1 p0 p1) (F15_3 p0 p1)) = false)) ∧ ((True ∧ True) ∧ ((True ∧ True) ∧ ((True ∧ True) ∧ ((True ∧ True) ∧ ((True ∧ True) ∧ ((True ∧ True) ∧ ((True ∧ True) ∧ ((True ∧ True) ∧ ((True ∧ True) ∧ ((True ∧ True) ∧ ((True ∧ True) ∧ ((True ∧ True) ∧ ((True ∧ True) ∧ ((True ∧ True) ∧ ((True ∧ True) ∧ ((True ∧ True) ∧ ((True ∧ True) ∧ ((True ∧ True) ∧ ((True ∧ True) ∧ ((True ∧ True) ∧ ((True ∧ True) ∧ ((True ∧ True) ∧ ((True ∧ True) ∧ ((True ∧ True) ∧ ((True ∧ True) ∧ ((True ∧ True) ∧ ((True ∧ True) ∧ ((True ∧ True) ∧ ((True ∧ True) ∧ ((True ∧ True) ∧ ((True ∧ True) ∧ ((True ∧ True) ∧ True)))))))))))))))))))))))))))))))))))))))))
                ([(4, .sc (.b false))], [])
                1024 (by kernel_rfl) rfl (by kernel_rfl) (⟨⟨trivial, trivial⟩, ⟨⟨trivial, trivial⟩, ⟨⟨⟨trivial, trivial⟩, trivial⟩, ⟨⟨trivial, (h4)⟩, ⟨⟨trivial, trivial⟩, ⟨⟨trivial, trivial⟩, ⟨⟨⟨trivial, trivial⟩, trivial⟩, ⟨⟨trivial, trivial⟩, ⟨⟨trivial, (h5)⟩, ⟨⟨trivial, trivial⟩, ⟨⟨trivial, trivial⟩, ⟨⟨trivial, trivial⟩, ⟨⟨trivial, trivial⟩, ⟨⟨trivial, trivial⟩, ⟨⟨trivial, trivial⟩, ⟨⟨trivial, trivial⟩, ⟨⟨trivial, trivial⟩, ⟨⟨trivial, trivial⟩, ⟨⟨trivial, trivial⟩, ⟨⟨trivial, trivial⟩, ⟨⟨trivial, trivial⟩, ⟨⟨trivial, trivial⟩, ⟨⟨trivial, trivial⟩, ⟨⟨trivial, trivial⟩, ⟨⟨trivial, trivial⟩, ⟨⟨trivial, trivial⟩, ⟨⟨trivial, trivial⟩, ⟨⟨trivial, trivial⟩, ⟨⟨trivial, trivial⟩, ⟨⟨trivial, trivial⟩, ⟨⟨trivial, trivial⟩, ⟨⟨trivial, trivial⟩, ⟨⟨trivial, trivial⟩, ⟨⟨trivial, trivial⟩, ⟨⟨trivial, trivial⟩, ⟨⟨trivial, trivial⟩, ⟨⟨trivial, trivial⟩, ⟨⟨trivial, trivial⟩, ⟨⟨trivial, trivial⟩, ⟨⟨trivial, trivial⟩, ⟨⟨trivial, trivial⟩, trivial⟩⟩⟩⟩⟩⟩⟩⟩⟩⟩⟩⟩⟩⟩⟩⟩⟩⟩⟩⟩⟩⟩⟩⟩⟩⟩⟩⟩⟩⟩⟩⟩⟩⟩⟩⟩⟩⟩⟩⟩⟩) ?_
            refine Tri.ret ?_
            repeat (first | refine thenP_ret ?_ | refine blkP_ret ?_ | refine countP_ret ?_ | refine joinP_ret ?_)
            refine endP.conv (r' := ⟨.sc (.b false), []⟩) (by simp only [F8, h1, h2, h4, h5, sel_true, sel_false]) ?_
            exact endP.ret [] (True ∧ True) (by kernel_rfl) (by kernel_rfl) (by kernel_rfl) ⟨trivial, trivial⟩
        ·
          refine Tri.seq_region [(52, .b false)] (some [0, 0, 3, 7, 15, 15, 63, 127, 255, 511, 511, 2047, 511, 511, 12799, 32767, 65535, 131071, 262143, 524287, 262143, 1310719, 3407871, 7602175, 16777215, 33554431, 67108863, 134217727, 134217727, 536870911, 134217727, 2147483647, 4294967295, 8589934591, 17179869183, 17179869183, 68719476735, 17179869183, 274877906943, 549755813887, 1099511627775]) [4] [] ((True ∧ True) ∧ ((True ∧ True) ∧ (((True ∧ True) ∧ True) ∧ ((True ∧ ((F22 (F15 p0 p1) (F15_2 p0 p1)) = false)) ∧ ((True ∧ True) ∧ ((True ∧ True) ∧ ((True ∧ True) ∧ ((True ∧ True) ∧ ((True ∧ True) ∧ ((True ∧ True) ∧ ((True ∧ True) ∧ ((True ∧ True) ∧ ((True ∧ True) ∧ ((True ∧ True) ∧ ((True ∧ True) ∧ ((True ∧ True) ∧ ((True ∧ True) ∧ ((True ∧ True) ∧ ((True ∧ True) ∧ ((True ∧ True) ∧ ((True ∧ True) ∧ ((True ∧ True) ∧ ((True ∧ True) ∧ ((True ∧ True) ∧ ((True ∧ True) ∧ ((True ∧ True) ∧ ((True ∧ True) ∧ ((True ∧ True) ∧ ((True ∧ True) ∧ ((True ∧ True) ∧ ((True ∧ True) ∧ ((True ∧ True) ∧ ((True ∧ True) ∧ ((True ∧ True) ∧ ((True ∧ True) ∧ ((True ∧ True) ∧ ((True ∧ True) ∧ ((True ∧ True) ∧ ((True ∧ True) ∧ ((True ∧ True) ∧ ((True ∧ True) ∧ True)))))))))))))))))))))))))))))))))))))))))
              ([(4, .sc (.b false))], [])
              1024 (by kernel_rfl) rfl (by kernel_rfl) (⟨⟨trivial, trivial⟩, ⟨⟨trivial, trivial⟩, ⟨⟨⟨trivial, trivial⟩, trivial⟩, ⟨⟨trivial, (h4)⟩, ⟨⟨trivial, trivial⟩, ⟨⟨trivial, trivial⟩, ⟨⟨trivial, trivial⟩, ⟨⟨trivial, trivial⟩, ⟨⟨trivial, trivial⟩, ⟨⟨trivial, trivial⟩, ⟨⟨trivial, trivial⟩, ⟨⟨trivial, trivial⟩, ⟨⟨trivial, trivial⟩, ⟨⟨trivial, trivial⟩, ⟨⟨trivial, trivial⟩, ⟨⟨trivial, trivial⟩, ⟨⟨trivial, trivial⟩, ⟨⟨trivial, trivial⟩, ⟨⟨trivial, trivial⟩, ⟨⟨trivial, trivial⟩, ⟨⟨trivial, trivial⟩, ⟨⟨trivial, trivial⟩, ⟨⟨trivial, trivial⟩, ⟨⟨trivial, trivial⟩, ⟨⟨trivial, trivial⟩, ⟨⟨trivial, trivial⟩, ⟨⟨trivial, trivial⟩, ⟨⟨trivial, trivial⟩, ⟨⟨trivial, trivial⟩, ⟨⟨trivial, trivial⟩, ⟨⟨trivial, trivial⟩, ⟨⟨trivial, trivial⟩, ⟨⟨trivial, trivial⟩, ⟨⟨trivial, trivial⟩, ⟨⟨trivial, trivial⟩, ⟨⟨trivial, trivial⟩, ⟨⟨trivial, trivial⟩, ⟨⟨trivial, trivial⟩, ⟨⟨trivial, trivial⟩, ⟨⟨trivial, trivial⟩, ⟨⟨trivial, trivial⟩, trivial⟩⟩⟩⟩⟩⟩⟩⟩⟩⟩⟩⟩⟩⟩⟩⟩⟩⟩⟩⟩⟩⟩⟩⟩⟩⟩⟩⟩⟩⟩⟩⟩⟩⟩⟩⟩⟩⟩⟩⟩⟩) ?_
          refine Tri.ret ?_
          repeat (first | refine thenP_ret ?_ | refine blkP_ret ?_ | refine countP_ret ?_ | refine joinP_ret ?_)
          refine endP.conv (r' := ⟨.sc (.b false), []⟩) (by simp only [F8, h1, h2, h4, sel_true, sel_false]) ?_
          exact endP.ret [] (True ∧ True) (by kernel_rfl) (by kernel_rfl) (by kernel_rfl) ⟨trivial, trivial⟩

end Go.Vm
