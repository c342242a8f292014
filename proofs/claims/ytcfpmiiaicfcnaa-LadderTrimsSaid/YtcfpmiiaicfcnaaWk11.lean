/- What the functions compute, and that they do: walked by a printed text. -/
import Derived.Test.YtcfpmiiaicfcnaaWkL
set_option linter.unusedVariables false
set_option linter.unusedSimpArgs false
set_option maxRecDepth 4000
namespace Go.Vm
open Go

noncomputable def F11 (p0 : List Int) (p1 : List Int) : Bool :=
  (sel (!(F37)) false (sel (!(strEq (bytesOf (((F43 p0).drop 0).take 32)) (bytesOf (((F44 (part1 p0 32 0 32)).drop 0).take ((part1 p0 32 0 32).length))))) false (sel (((iRem ((F43 p0).getD 0 0) 8) : Int) != 0) false (sel (((iShr .u8 ((F43 p0).getD 31 0) 6) : Int) != 1) false (sel (!(((F43 (F43 p0)) : List Int) == (F43 p0))) false (sel ((((p1.length : Nat) : Int) : Int) != 32) true (strEq (bytesOf (((F38_1 (part1 p0 32 0 32) p1).drop 0).take (F38n0 (part1 p0 32 0 32) p1))) (bytesOf (((F38_1 (part1 (F43 p0) 32 0 32) (part1 (p1.set 31 (iXor .u8 (p1.getD 31 0) 128)) p1.length 0 p1.length)).drop 0).take (F38n0 (part1 (F43 p0) 32 0 32) (part1 (p1.set 31 (iXor .u8 (p1.getD 31 0) 128)) p1.length 0 p1.length)))))))))))

noncomputable def S11 : List AV → Option (Prop × Ret)
  | [.ints .u8 32 p0, .sc (.ro .u8 p1)] => some (True, ⟨.sc (.b (F11 p0 p1)), []⟩)
  | _ => none

noncomputable def B11 : Bs := { P := Go.Proofs.Try.prog, G := noG, tab := tabOf [(37, ⟨[], 0, S37⟩), (38, ⟨[.ro .u8, .ro .u8], 1, S38⟩), (43, ⟨[.val], 0, S43⟩), (44, ⟨[.ro .u8], 1, S44⟩)], n := 66 }

theorem B11.ok : B11.Ok := ⟨tabOk (P := Go.Proofs.Try.prog) (G := noG) (l := [(37, ⟨[], 0, S37⟩), (38, ⟨[.ro .u8, .ro .u8], 1, S38⟩), (43, ⟨[.val], 0, S43⟩), (44, ⟨[.ro .u8], 1, S44⟩)]) (And.intro K37 (And.intro K38 (And.intro K43 (And.intro K44 True.intro)))), mixed⟩

theorem K11 : Known Go.Proofs.Try.prog noG 11 ⟨[.val, .ro .u8], 0, S11⟩ := by
  refine Known.walk (B := B11) (fn := Go.Proofs.Try.f11) B11.ok (by kernel_rfl) rfl (by kernel_rfl) (by kernel_rfl) (by decide) ?_ ?_
  · intro vs C r h
    simp only at h
    unfold S11 at h
    split at h
    · cases h; rfl
    · cases h
  · intro E args C r h hC hlen
    simp only at h
    unfold S11 at h
    split at h
    rotate_left
    · cases h
    rename_i p0 p1
    cases h
    simp only [lens] at hlen
    refine ⟨show 2 ≤ 66 from by decide, ?_⟩
    refine Tri.sub (Sub.of_eq (show _ = ([(0, .ints .u8 32 p0), (1, .sc (.ro .u8 p1))], []) from rfl)) ?_
    refine Tri.seq_region [] none [2, 1] [0] ((True ∧ True) ∧ ((True ∧ True) ∧ True))
        ([(2, .sc (.p 0 0)), (1, .sc (.ro .u8 p1))], [(0, .ints .u8 32 p0)])
        32 (by kernel_rfl) rfl (by kernel_rfl) (⟨⟨trivial, trivial⟩, ⟨⟨trivial, trivial⟩, trivial⟩⟩) ?_
    refine Tri.seq ?_
    refine Tri.seq_region [] none [12, 2, 1] [0] (((True ∧ True) ∧ True) ∧ ((True ∧ True) ∧ True))
        ([(12, .sc (.b (!(F37)))), (2, .sc (.p 0 0)), (1, .sc (.ro .u8 p1))], [(0, .ints .u8 32 p0)])
        64 (by kernel_rfl) rfl (by kernel_rfl) (⟨⟨⟨trivial, trivial⟩, trivial⟩, ⟨⟨trivial, trivial⟩, trivial⟩⟩) ?_
    refine Tri.cond (x := (!(F37))) (by kernel_rfl) (fun h1 => ?_) (fun h1 => ?_)
    ·
      refine Tri.seq_region [] none [4] [] ((True ∧ True) ∧ True)
          ([(4, .sc (.b false))], [])
          80 (by kernel_rfl) rfl (by kernel_rfl) (⟨⟨trivial, trivial⟩, trivial⟩) ?_
      refine Tri.ret ?_
      repeat (first | refine thenP_ret ?_ | refine blkP_ret ?_ | refine countP_ret ?_ | refine joinP_ret ?_)
      refine endP.conv (r' := ⟨.sc (.b false), []⟩) (by simp only [F11, h1, sel_true, sel_false]) ?_
      exact endP.ret [] (True ∧ True) (by kernel_rfl) (by kernel_rfl) (by kernel_rfl) ⟨trivial, trivial⟩
    ·
      refine Tri.skip ?_
      change Tri _ _ _ _ _ _
      refine Tri.seq_region [] none [5, 2, 1] [96, 0] ((True ∧ True) ∧ (((True ∧ True) ∧ True) ∧ ((True ∧ True) ∧ (((True ∧ (32 = 32)) ∧ True) ∧ True))))
          ([(5, .sc (.p 96 0)), (2, .sc (.p 0 0)), (1, .sc (.ro .u8 p1))], [(96, .ints .u8 32 (F43 p0)), (0, .ints .u8 32 p0)])
          128 (by kernel_rfl) rfl (by kernel_rfl) (⟨⟨trivial, trivial⟩, ⟨⟨⟨trivial, trivial⟩, trivial⟩, ⟨⟨trivial, trivial⟩, ⟨⟨⟨trivial, (rfl)⟩, trivial⟩, trivial⟩⟩⟩⟩) ?_
      refine Tri.seq ?_
      refine Tri.split (!(strEq (bytesOf (((F43 p0).drop 0).take 32)) (bytesOf (((F44 (part1 p0 32 0 32)).drop 0).take ((part1 p0 32 0 32).length))))) (fun h2 => ?_) (fun h2 => ?_)
      ·
        refine Tri.seq_region [(21, .b true)] (some [0, 1, 0, 4, 12, 31, 63, 127, 255, 511, 1023, 2047, 4095, 8191, 16383, 32767, 65535, 131071, 262143, 524287, 1048575, 524287, 4194303, 8388607]) [38, 5, 2, 1] [96, 0] (((((0 : Int) ≤ 0 ∧ (0 : Int) ≤ 32 ∧ 32 ≤ ((32 : Nat) : Int)) ∧ (32 ≤ 32)) ∧ True) ∧ (((0 + 32 ≤ 32) ∧ True) ∧ (((((0 : Int) ≤ 0 ∧ (0 : Int) ≤ 32 ∧ 32 ≤ ((32 : Nat) : Int)) ∧ (32 ≤ 32)) ∧ True) ∧ (((((0 + 32 ≤ 32) ∧ True) ∧ ((part1 p0 32 0 32).length = 32)) ∧ True) ∧ (((0 + ((part1 p0 32 0 32).length) ≤ (part1 p0 32 0 32).length) ∧ True) ∧ ((True ∧ True) ∧ ((True ∧ ((!(strEq (bytesOf (((F43 p0).drop 0).take 32)) (bytesOf (((F44 (part1 p0 32 0 32)).drop 0).take ((part1 p0 32 0 32).length))))) = true)) ∧ ((True ∧ True) ∧ ((True ∧ True) ∧ ((True ∧ True) ∧ ((True ∧ True) ∧ ((True ∧ True) ∧ ((True ∧ True) ∧ ((True ∧ True) ∧ ((True ∧ True) ∧ ((True ∧ True) ∧ ((True ∧ True) ∧ ((True ∧ True) ∧ ((True ∧ True) ∧ ((True ∧ True) ∧ ((True ∧ True) ∧ ((True ∧ True) ∧ ((True ∧ True) ∧ ((True ∧ True) ∧ True))))))))))))))))))))))))
            ([(38, .sc (.b true)), (5, .sc (.p 96 0)), (2, .sc (.p 0 0)), (1, .sc (.ro .u8 p1))], [(96, .ints .u8 32 (F43 p0)), (0, .ints .u8 32 p0)])
            512 (by kernel_rfl) rfl (by kernel_rfl) (⟨⟨⟨(by omega), (by omega)⟩, trivial⟩, ⟨⟨(by omega), trivial⟩, ⟨⟨⟨(by omega), (by omega)⟩, trivial⟩, ⟨⟨⟨⟨(by omega), trivial⟩, (by first | omega | (rw [part1_all (by omega)]; omega))⟩, trivial⟩, ⟨⟨(by omega), trivial⟩, ⟨⟨trivial, trivial⟩, ⟨⟨trivial, (h2)⟩, ⟨⟨trivial, trivial⟩, ⟨⟨trivial, trivial⟩, ⟨⟨trivial, trivial⟩, ⟨⟨trivial, trivial⟩, ⟨⟨trivial, trivial⟩, ⟨⟨trivial, trivial⟩, ⟨⟨trivial, trivial⟩, ⟨⟨trivial, trivial⟩, ⟨⟨trivial, trivial⟩, ⟨⟨trivial, trivial⟩, ⟨⟨trivial, trivial⟩, ⟨⟨trivial, trivial⟩, ⟨⟨trivial, trivial⟩, ⟨⟨trivial, trivial⟩, ⟨⟨trivial, trivial⟩, ⟨⟨trivial, trivial⟩, ⟨⟨trivial, trivial⟩, trivial⟩⟩⟩⟩⟩⟩⟩⟩⟩⟩⟩⟩⟩⟩⟩⟩⟩⟩⟩⟩⟩⟩⟩⟩) ?_
        refine Tri.cond_true (by kernel_rfl) ?_
        refine Tri.seq_region [] none [4] [] ((True ∧ True) ∧ True)
            ([(4, .sc (.b false))], [])
            528 (by kernel_rfl) rfl (by kernel_rfl) (⟨⟨trivial, trivial⟩, trivial⟩) ?_
        refine Tri.ret ?_
        repeat (first | refine thenP_ret ?_ | refine blkP_ret ?_ | refine countP_ret ?_ | refine joinP_ret ?_)
        refine endP.conv (r' := ⟨.sc (.b false), []⟩) (by simp only [F11, h1, h2, sel_true, sel_false]) ?_
        exact endP.ret [] (True ∧ True) (by kernel_rfl) (by kernel_rfl) (by kernel_rfl) ⟨trivial, trivial⟩
      ·
        refine Tri.split (((iRem ((F43 p0).getD 0 0) 8) : Int) != 0) (fun h3 => ?_) (fun h3 => ?_)
        ·
          have h3' := ne_true_i h3
          refine Tri.seq_region [(21, .b false), (27, .b true)] (some [0, 1, 0, 4, 12, 31, 63, 127, 255, 511, 1023, 2047, 4095, 8191, 16383, 32767, 65535, 131071, 262143, 524287, 1048575, 524287, 4194303, 8388607]) [38, 5, 2, 1] [96, 0] (((((0 : Int) ≤ 0 ∧ (0 : Int) ≤ 32 ∧ 32 ≤ ((32 : Nat) : Int)) ∧ (32 ≤ 32)) ∧ True) ∧ (((0 + 32 ≤ 32) ∧ True) ∧ (((((0 : Int) ≤ 0 ∧ (0 : Int) ≤ 32 ∧ 32 ≤ ((32 : Nat) : Int)) ∧ (32 ≤ 32)) ∧ True) ∧ (((((0 + 32 ≤ 32) ∧ True) ∧ ((part1 p0 32 0 32).length = 32)) ∧ True) ∧ (((0 + ((part1 p0 32 0 32).length) ≤ (part1 p0 32 0 32).length) ∧ True) ∧ ((True ∧ True) ∧ ((True ∧ ((!(strEq (bytesOf (((F43 p0).drop 0).take 32)) (bytesOf (((F44 (part1 p0 32 0 32)).drop 0).take ((part1 p0 32 0 32).length))))) = false)) ∧ ((((0 : Int) ≤ 0 ∧ 0 < ((32 : Nat) : Int)) ∧ True) ∧ (((0 < 32) ∧ True) ∧ (((8 ≠ (0 : Int)) ∧ True) ∧ ((True ∧ True) ∧ ((True ∧ True) ∧ ((True ∧ ((((iRem ((F43 p0).getD 0 0) 8) : Int) != 0) = true)) ∧ ((True ∧ True) ∧ ((True ∧ True) ∧ ((True ∧ True) ∧ ((True ∧ True) ∧ ((True ∧ True) ∧ ((True ∧ True) ∧ ((True ∧ True) ∧ ((True ∧ True) ∧ ((True ∧ True) ∧ ((True ∧ True) ∧ ((True ∧ True) ∧ True))))))))))))))))))))))))
              ([(38, .sc (.b true)), (5, .sc (.p 96 0)), (2, .sc (.p 0 0)), (1, .sc (.ro .u8 p1))], [(96, .ints .u8 32 (F43 p0)), (0, .ints .u8 32 p0)])
              512 (by kernel_rfl) rfl (by kernel_rfl) (⟨⟨⟨(by omega), (by omega)⟩, trivial⟩, ⟨⟨(by omega), trivial⟩, ⟨⟨⟨(by omega), (by omega)⟩, trivial⟩, ⟨⟨⟨⟨(by omega), trivial⟩, (by first | omega | (rw [part1_all (by omega)]; omega))⟩, trivial⟩, ⟨⟨(by omega), trivial⟩, ⟨⟨trivial, trivial⟩, ⟨⟨trivial, (h2)⟩, ⟨⟨(by omega), trivial⟩, ⟨⟨(by omega), trivial⟩, ⟨⟨(by omega), trivial⟩, ⟨⟨trivial, trivial⟩, ⟨⟨trivial, trivial⟩, ⟨⟨trivial, (h3)⟩, ⟨⟨trivial, trivial⟩, ⟨⟨trivial, trivial⟩, ⟨⟨trivial, trivial⟩, ⟨⟨trivial, trivial⟩, ⟨⟨trivial, trivial⟩, ⟨⟨trivial, trivial⟩, ⟨⟨trivial, trivial⟩, ⟨⟨trivial, trivial⟩, ⟨⟨trivial, trivial⟩, ⟨⟨trivial, trivial⟩, ⟨⟨trivial, trivial⟩, trivial⟩⟩⟩⟩⟩⟩⟩⟩⟩⟩⟩⟩⟩⟩⟩⟩⟩⟩⟩⟩⟩⟩⟩⟩) ?_
          refine Tri.cond_true (by kernel_rfl) ?_
          refine Tri.seq_region [] none [4] [] ((True ∧ True) ∧ True)
              ([(4, .sc (.b false))], [])
              528 (by kernel_rfl) rfl (by kernel_rfl) (⟨⟨trivial, trivial⟩, trivial⟩) ?_
          refine Tri.ret ?_
          repeat (first | refine thenP_ret ?_ | refine blkP_ret ?_ | refine countP_ret ?_ | refine joinP_ret ?_)
          refine endP.conv (r' := ⟨.sc (.b false), []⟩) (by simp only [F11, h1, h2, h3, sel_true, sel_false]) ?_
          exact endP.ret [] (True ∧ True) (by kernel_rfl) (by kernel_rfl) (by kernel_rfl) ⟨trivial, trivial⟩
        ·
          have h3' := ne_false_i h3
          refine Tri.split (((iShr .u8 ((F43 p0).getD 31 0) 6) : Int) != 1) (fun h4 => ?_) (fun h4 => ?_)
          ·
            have h4' := ne_true_i h4
            refine Tri.seq_region [(21, .b false), (27, .b false), (33, .b true)] (some [0, 1, 0, 4, 12, 31, 63, 127, 255, 511, 1023, 2047, 4095, 8191, 16383, 32767, 65535, 131071, 262143, 524287, 1048575, 524287, 4194303, 8388607]) [38, 5, 2, 1] [96, 0] (((((0 : Int) ≤ 0 ∧ (0 : Int) ≤ 32 ∧ 32 ≤ ((32 : Nat) : Int)) ∧ (32 ≤ 32)) ∧ True) ∧ (((0 + 32 ≤ 32) ∧ True) ∧ (((((0 : Int) ≤ 0 ∧ (0 : Int) ≤ 32 ∧ 32 ≤ ((32 : Nat) : Int)) ∧ (32 ≤ 32)) ∧ True) ∧ (((((0 + 32 ≤ 32) ∧ True) ∧ ((part1 p0 32 0 32).length = 32)) ∧ True) ∧ (((0 + ((part1 p0 32 0 32).length) ≤ (part1 p0 32 0 32).length) ∧ True) ∧ ((True ∧ True) ∧ ((True ∧ ((!(strEq (bytesOf (((F43 p0).drop 0).take 32)) (bytesOf (((F44 (part1 p0 32 0 32)).drop 0).take ((part1 p0 32 0 32).length))))) = false)) ∧ ((((0 : Int) ≤ 0 ∧ 0 < ((32 : Nat) : Int)) ∧ True) ∧ (((0 < 32) ∧ True) ∧ (((8 ≠ (0 : Int)) ∧ True) ∧ ((True ∧ True) ∧ ((True ∧ True) ∧ ((True ∧ ((((iRem ((F43 p0).getD 0 0) 8) : Int) != 0) = false)) ∧ ((((0 : Int) ≤ 31 ∧ 31 < ((32 : Nat) : Int)) ∧ True) ∧ (((31 < 32) ∧ True) ∧ ((((0 : Int) ≤ 6) ∧ True) ∧ ((True ∧ True) ∧ ((True ∧ True) ∧ ((True ∧ ((((iShr .u8 ((F43 p0).getD 31 0) 6) : Int) != 1) = true)) ∧ ((True ∧ True) ∧ ((True ∧ True) ∧ ((True ∧ True) ∧ ((True ∧ True) ∧ ((True ∧ True) ∧ True))))))))))))))))))))))))
                ([(38, .sc (.b true)), (5, .sc (.p 96 0)), (2, .sc (.p 0 0)), (1, .sc (.ro .u8 p1))], [(96, .ints .u8 32 (F43 p0)), (0, .ints .u8 32 p0)])
                512 (by kernel_rfl) rfl (by kernel_rfl) (⟨⟨⟨(by omega), (by omega)⟩, trivial⟩, ⟨⟨(by omega), trivial⟩, ⟨⟨⟨(by omega), (by omega)⟩, trivial⟩, ⟨⟨⟨⟨(by omega), trivial⟩, (by first | omega | (rw [part1_all (by omega)]; omega))⟩, trivial⟩, ⟨⟨(by omega), trivial⟩, ⟨⟨trivial, trivial⟩, ⟨⟨trivial, (h2)⟩, ⟨⟨(by omega), trivial⟩, ⟨⟨(by omega), trivial⟩, ⟨⟨(by omega), trivial⟩, ⟨⟨trivial, trivial⟩, ⟨⟨trivial, trivial⟩, ⟨⟨trivial, (h3)⟩, ⟨⟨(by omega), trivial⟩, ⟨⟨(by omega), trivial⟩, ⟨⟨(by omega), trivial⟩, ⟨⟨trivial, trivial⟩, ⟨⟨trivial, trivial⟩, ⟨⟨trivial, (h4)⟩, ⟨⟨trivial, trivial⟩, ⟨⟨trivial, trivial⟩, ⟨⟨trivial, trivial⟩, ⟨⟨trivial, trivial⟩, ⟨⟨trivial, trivial⟩, trivial⟩⟩⟩⟩⟩⟩⟩⟩⟩⟩⟩⟩⟩⟩⟩⟩⟩⟩⟩⟩⟩⟩⟩⟩) ?_
            refine Tri.cond_true (by kernel_rfl) ?_
            refine Tri.seq_region [] none [4] [] ((True ∧ True) ∧ True)
                ([(4, .sc (.b false))], [])
                528 (by kernel_rfl) rfl (by kernel_rfl) (⟨⟨trivial, trivial⟩, trivial⟩) ?_
            refine Tri.ret ?_
            repeat (first | refine thenP_ret ?_ | refine blkP_ret ?_ | refine countP_ret ?_ | refine joinP_ret ?_)
            refine endP.conv (r' := ⟨.sc (.b false), []⟩) (by simp only [F11, h1, h2, h3, h4, sel_true, sel_false]) ?_
            exact endP.ret [] (True ∧ True) (by kernel_rfl) (by kernel_rfl) (by kernel_rfl) ⟨trivial, trivial⟩
          ·
            have h4' := ne_false_i h4
            refine Tri.seq_region [(21, .b false), (27, .b false), (33, .b false)] (some [0, 1, 0, 4, 12, 31, 63, 127, 255, 511, 1023, 2047, 4095, 8191, 16383, 32767, 65535, 131071, 262143, 524287, 1048575, 524287, 4194303, 8388607]) [38, 5, 2, 1] [96, 0] (((((0 : Int) ≤ 0 ∧ (0 : Int) ≤ 32 ∧ 32 ≤ ((32 : Nat) : Int)) ∧ (32 ≤ 32)) ∧ True) ∧ (((0 + 32 ≤ 32) ∧ True) ∧ (((((0 : Int) ≤ 0 ∧ (0 : Int) ≤ 32 ∧ 32 ≤ ((32 : Nat) : Int)) ∧ (32 ≤ 32)) ∧ True) ∧ (((((0 + 32 ≤ 32) ∧ True) ∧ ((part1 p0 32 0 32).length = 32)) ∧ True) ∧ (((0 + ((part1 p0 32 0 32).length) ≤ (part1 p0 32 0 32).length) ∧ True) ∧ ((True ∧ True) ∧ ((True ∧ ((!(strEq (bytesOf (((F43 p0).drop 0).take 32)) (bytesOf (((F44 (part1 p0 32 0 32)).drop 0).take ((part1 p0 32 0 32).length))))) = false)) ∧ ((((0 : Int) ≤ 0 ∧ 0 < ((32 : Nat) : Int)) ∧ True) ∧ (((0 < 32) ∧ True) ∧ (((8 ≠ (0 : Int)) ∧ True) ∧ ((True ∧ True) ∧ ((True ∧ True) ∧ ((True ∧ ((((iRem ((F43 p0).getD 0 0) 8) : Int) != 0) = false)) ∧ ((((0 : Int) ≤ 31 ∧ 31 < ((32 : Nat) : Int)) ∧ True) ∧ (((31 < 32) ∧ True) ∧ ((((0 : Int) ≤ 6) ∧ True) ∧ ((True ∧ True) ∧ ((True ∧ True) ∧ ((True ∧ ((((iShr .u8 ((F43 p0).getD 31 0) 6) : Int) != 1) = false)) ∧ ((True ∧ True) ∧ (((True ∧ True) ∧ True) ∧ ((True ∧ True) ∧ ((True ∧ True) ∧ ((True ∧ True) ∧ True))))))))))))))))))))))))
                ([(38, .sc (.b (!(((F43 (F43 p0)) : List Int) == (F43 p0))))), (5, .sc (.p 96 0)), (2, .sc (.p 0 0)), (1, .sc (.ro .u8 p1))], [(96, .ints .u8 32 (F43 p0)), (0, .ints .u8 32 p0)])
                512 (by kernel_rfl) rfl (by kernel_rfl) (⟨⟨⟨(by omega), (by omega)⟩, trivial⟩, ⟨⟨(by omega), trivial⟩, ⟨⟨⟨(by omega), (by omega)⟩, trivial⟩, ⟨⟨⟨⟨(by omega), trivial⟩, (by first | omega | (rw [part1_all (by omega)]; omega))⟩, trivial⟩, ⟨⟨(by omega), trivial⟩, ⟨⟨trivial, trivial⟩, ⟨⟨trivial, (h2)⟩, ⟨⟨(by omega), trivial⟩, ⟨⟨(by omega), trivial⟩, ⟨⟨(by omega), trivial⟩, ⟨⟨trivial, trivial⟩, ⟨⟨trivial, trivial⟩, ⟨⟨trivial, (h3)⟩, ⟨⟨(by omega), trivial⟩, ⟨⟨(by omega), trivial⟩, ⟨⟨(by omega), trivial⟩, ⟨⟨trivial, trivial⟩, ⟨⟨trivial, trivial⟩, ⟨⟨trivial, (h4)⟩, ⟨⟨trivial, trivial⟩, ⟨⟨⟨trivial, trivial⟩, trivial⟩, ⟨⟨trivial, trivial⟩, ⟨⟨trivial, trivial⟩, ⟨⟨trivial, trivial⟩, trivial⟩⟩⟩⟩⟩⟩⟩⟩⟩⟩⟩⟩⟩⟩⟩⟩⟩⟩⟩⟩⟩⟩⟩⟩) ?_
            refine Tri.cond (x := (!(((F43 (F43 p0)) : List Int) == (F43 p0)))) (by kernel_rfl) (fun h5 => ?_) (fun h5 => ?_)
            ·
              refine Tri.seq_region [] none [4] [] ((True ∧ True) ∧ True)
                  ([(4, .sc (.b false))], [])
                  528 (by kernel_rfl) rfl (by kernel_rfl) (⟨⟨trivial, trivial⟩, trivial⟩) ?_
              refine Tri.ret ?_
              repeat (first | refine thenP_ret ?_ | refine blkP_ret ?_ | refine countP_ret ?_ | refine joinP_ret ?_)
              refine endP.conv (r' := ⟨.sc (.b false), []⟩) (by simp only [F11, h1, h2, h3, h4, h5, sel_true, sel_false]) ?_
              exact endP.ret [] (True ∧ True) (by kernel_rfl) (by kernel_rfl) (by kernel_rfl) ⟨trivial, trivial⟩
            ·
              refine Tri.skip ?_
              change Tri _ _ _ _ _ _
              refine Tri.seq ?_
              refine Tri.seq_region [] none [41, 5, 2, 1] [96, 0] ((True ∧ True) ∧ ((True ∧ True) ∧ ((True ∧ True) ∧ True)))
                  ([(41, .sc (.b ((((p1.length : Nat) : Int) : Int) != 32))), (5, .sc (.p 96 0)), (2, .sc (.p 0 0)), (1, .sc (.ro .u8 p1))], [(96, .ints .u8 32 (F43 p0)), (0, .ints .u8 32 p0)])
                  560 (by kernel_rfl) rfl (by kernel_rfl) (⟨⟨trivial, trivial⟩, ⟨⟨trivial, trivial⟩, ⟨⟨trivial, trivial⟩, trivial⟩⟩⟩) ?_
              refine Tri.cond (x := ((((p1.length : Nat) : Int) : Int) != 32)) (by kernel_rfl) (fun h6 => ?_) (fun h6 => ?_)
              ·
                have h6' := ne_true_i h6
                refine Tri.seq_region [] none [4] [] ((True ∧ True) ∧ True)
                    ([(4, .sc (.b true))], [])
                    576 (by kernel_rfl) rfl (by kernel_rfl) (⟨⟨trivial, trivial⟩, trivial⟩) ?_
                refine Tri.ret ?_
                repeat (first | refine thenP_ret ?_ | refine blkP_ret ?_ | refine countP_ret ?_ | refine joinP_ret ?_)
                refine endP.conv (r' := ⟨.sc (.b true), []⟩) (by simp only [F11, h1, h2, h3, h4, h5, h6, sel_true, sel_false]) ?_
                exact endP.ret [] (True ∧ True) (by kernel_rfl) (by kernel_rfl) (by kernel_rfl) ⟨trivial, trivial⟩
              ·
                have h6' := ne_false_i h6
                refine Tri.skip ?_
                change Tri _ _ _ _ _ _
                refine Tri.seq_region [] none [6, 5, 2, 1] [576, 96, 0] ((True ∧ True) ∧ (((((True ∧ (1 = 1)) ∧ ((0 < 1) ∧ ((p1.length * 1 ≤ 140737488355328) ∧ (p1.length ≤ 140737488355328)))) ∧ (p1.length = p1.length * 1)) ∧ True) ∧ ((True ∧ True) ∧ True)))
                    ([(6, .sc (.sl 576 0 p1.length 1 none)), (5, .sc (.p 96 0)), (2, .sc (.p 0 0)), (1, .sc (.ro .u8 p1))], [(576, .ints .u8 p1.length p1), (96, .ints .u8 32 (F43 p0)), (0, .ints .u8 32 p0)])
                    608 (by kernel_rfl) rfl (by kernel_rfl) (⟨⟨trivial, trivial⟩, ⟨⟨⟨⟨⟨trivial, (rfl)⟩, ⟨(by omega), ⟨(by omega), (by omega)⟩⟩⟩, (by omega)⟩, trivial⟩, ⟨⟨trivial, trivial⟩, trivial⟩⟩⟩) ?_
                refine Tri.seq_region [] none [6, 5, 2, 1] [576, 96, 0] ((True ∧ True) ∧ ((((0 : Int) ≤ 31 ∧ 31 < ((p1.length : Nat) : Int)) ∧ True) ∧ (((31 < p1.length) ∧ True) ∧ ((True ∧ True) ∧ ((((0 : Int) ≤ 31 ∧ 31 < ((p1.length : Nat) : Int)) ∧ True) ∧ ((((31 < p1.length) ∧ (1 = 1)) ∧ True) ∧ True))))))
                    ([(6, .sc (.sl 576 0 p1.length 1 none)), (5, .sc (.p 96 0)), (2, .sc (.p 0 0)), (1, .sc (.ro .u8 p1))], [(576, .ints .u8 p1.length (p1.set 31 (iXor .u8 (p1.getD 31 0) 128))), (96, .ints .u8 32 (F43 p0)), (0, .ints .u8 32 p0)])
                    704 (by kernel_rfl) rfl (by kernel_rfl) (⟨⟨trivial, trivial⟩, ⟨⟨(by omega), trivial⟩, ⟨⟨(by omega), trivial⟩, ⟨⟨trivial, trivial⟩, ⟨⟨(by omega), trivial⟩, ⟨⟨⟨(by omega), (rfl)⟩, trivial⟩, trivial⟩⟩⟩⟩⟩⟩) ?_
                refine Tri.seq_region [] none [7, 6, 5] [736, 576, 96] (((((0 : Int) ≤ 0 ∧ (0 : Int) ≤ 32 ∧ 32 ≤ ((32 : Nat) : Int)) ∧ (32 ≤ 32)) ∧ True) ∧ ((True ∧ True) ∧ (((((0 + 32 ≤ 32) ∧ True) ∧ True) ∧ True) ∧ ((True ∧ True) ∧ ((True ∧ True) ∧ ((True ∧ True) ∧ ((True ∧ True) ∧ ((True ∧ True) ∧ True))))))))
                    ([(7, .sc (.sl 736 0 (F38n0 (part1 p0 32 0 32) p1) 1 (some (F38n0 (part1 p0 32 0 32) p1)))), (6, .sc (.sl 576 0 p1.length 1 none)), (5, .sc (.p 96 0))], [(736, .ints .u8 (F38n0 (part1 p0 32 0 32) p1) (F38_1 (part1 p0 32 0 32) p1)), (576, .ints .u8 p1.length (p1.set 31 (iXor .u8 (p1.getD 31 0) 128))), (96, .ints .u8 32 (F43 p0))])
                    832 (by kernel_rfl) rfl (by kernel_rfl) (⟨⟨⟨(by omega), (by omega)⟩, trivial⟩, ⟨⟨trivial, trivial⟩, ⟨⟨⟨⟨(by omega), trivial⟩, trivial⟩, trivial⟩, ⟨⟨trivial, trivial⟩, ⟨⟨trivial, trivial⟩, ⟨⟨trivial, trivial⟩, ⟨⟨trivial, trivial⟩, ⟨⟨trivial, trivial⟩, trivial⟩⟩⟩⟩⟩⟩⟩⟩) ?_
                refine Tri.seq_region [] none [9, 7] [864, 736] (((((0 : Int) ≤ 0 ∧ (0 : Int) ≤ 32 ∧ 32 ≤ ((32 : Nat) : Int)) ∧ (32 ≤ 32)) ∧ True) ∧ ((True ∧ True) ∧ (((((0 + 32 ≤ 32) ∧ ((0 + p1.length ≤ p1.length) ∧ True)) ∧ True) ∧ True) ∧ ((True ∧ True) ∧ ((True ∧ True) ∧ ((True ∧ True) ∧ ((True ∧ True) ∧ ((True ∧ True) ∧ True))))))))
                    ([(9, .sc (.sl 864 0 (F38n0 (part1 (F43 p0) 32 0 32) (part1 (p1.set 31 (iXor .u8 (p1.getD 31 0) 128)) p1.length 0 p1.length)) 1 (some (F38n0 (part1 (F43 p0) 32 0 32) (part1 (p1.set 31 (iXor .u8 (p1.getD 31 0) 128)) p1.length 0 p1.length))))), (7, .sc (.sl 736 0 (F38n0 (part1 p0 32 0 32) p1) 1 (some (F38n0 (part1 p0 32 0 32) p1))))], [(864, .ints .u8 (F38n0 (part1 (F43 p0) 32 0 32) (part1 (p1.set 31 (iXor .u8 (p1.getD 31 0) 128)) p1.length 0 p1.length)) (F38_1 (part1 (F43 p0) 32 0 32) (part1 (p1.set 31 (iXor .u8 (p1.getD 31 0) 128)) p1.length 0 p1.length))), (736, .ints .u8 (F38n0 (part1 p0 32 0 32) p1) (F38_1 (part1 p0 32 0 32) p1))])
                    960 (by kernel_rfl) rfl (by kernel_rfl) (⟨⟨⟨(by omega), (by omega)⟩, trivial⟩, ⟨⟨trivial, trivial⟩, ⟨⟨⟨⟨(by omega), ⟨(by omega), trivial⟩⟩, trivial⟩, trivial⟩, ⟨⟨trivial, trivial⟩, ⟨⟨trivial, trivial⟩, ⟨⟨trivial, trivial⟩, ⟨⟨trivial, trivial⟩, ⟨⟨trivial, trivial⟩, trivial⟩⟩⟩⟩⟩⟩⟩⟩) ?_
                refine Tri.seq_region [] none [4] [] ((True ∧ True) ∧ (((0 + (F38n0 (part1 p0 32 0 32) p1) ≤ (F38n0 (part1 p0 32 0 32) p1)) ∧ True) ∧ ((True ∧ True) ∧ (((0 + (F38n0 (part1 (F43 p0) 32 0 32) (part1 (p1.set 31 (iXor .u8 (p1.getD 31 0) 128)) p1.length 0 p1.length)) ≤ (F38n0 (part1 (F43 p0) 32 0 32) (part1 (p1.set 31 (iXor .u8 (p1.getD 31 0) 128)) p1.length 0 p1.length))) ∧ True) ∧ ((True ∧ True) ∧ ((True ∧ True) ∧ True))))))
                    ([(4, .sc (.b (strEq (bytesOf (((F38_1 (part1 p0 32 0 32) p1).drop 0).take (F38n0 (part1 p0 32 0 32) p1))) (bytesOf (((F38_1 (part1 (F43 p0) 32 0 32) (part1 (p1.set 31 (iXor .u8 (p1.getD 31 0) 128)) p1.length 0 p1.length)).drop 0).take (F38n0 (part1 (F43 p0) 32 0 32) (part1 (p1.set 31 (iXor .u8 (p1.getD 31 0) 128)) p1.length 0 p1.length)))))))], [])
                    1056 (by kernel_rfl) rfl (by kernel_rfl) (⟨⟨trivial, trivial⟩, ⟨⟨(by omega), trivial⟩, ⟨⟨trivial, trivial⟩, ⟨⟨(by omega), trivial⟩, ⟨⟨trivial, trivial⟩, ⟨⟨trivial, trivial⟩, trivial⟩⟩⟩⟩⟩⟩) ?_
                refine Tri.ret ?_
                repeat (first | refine thenP_ret ?_ | refine blkP_ret ?_ | refine countP_ret ?_ | refine joinP_ret ?_)
                refine endP.conv (r' := ⟨.sc (.b (strEq (bytesOf (((F38_1 (part1 p0 32 0 32) p1).drop 0).take (F38n0 (part1 p0 32 0 32) p1))) (bytesOf (((F38_1 (part1 (F43 p0) 32 0 32) (part1 (p1.set 31 (iXor .u8 (p1.getD 31 0) 128)) p1.length 0 p1.length)).drop 0).take (F38n0 (part1 (F43 p0) 32 0 32) (part1 (p1.set 31 (iXor .u8 (p1.getD 31 0) 128)) p1.length 0 p1.length)))))), []⟩) (by simp only [F11, h1, h2, h3, h4, h5, h6, sel_true, sel_false]) ?_
                exact endP.ret [] (True ∧ True) (by kernel_rfl) (by kernel_rfl) (by kernel_rfl) ⟨trivial, trivial⟩

end Go.Vm
