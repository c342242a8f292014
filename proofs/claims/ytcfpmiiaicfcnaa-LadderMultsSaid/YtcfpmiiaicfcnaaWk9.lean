/- What the functions compute, and that they do: walked by a printed text. -/
import Derived.Test.YtcfpmiiaicfcnaaWkL
set_option linter.unusedVariables false
set_option linter.unusedSimpArgs false
set_option maxRecDepth 4000
namespace Go.Vm
open Go

noncomputable def F9 (p0 : List Int) (p1 : List Int) : Bool :=
  (sel (!(F37)) false (sel ((((p0.length : Nat) : Int) : Int) != 32) (sel (((F38 p0 p1) : Int) == 2) (((((F38n0 p0 p1) : Nat) : Int) : Int) == 0) false) (sel ((((p1.length : Nat) : Int) : Int) != 32) (sel (((F38 p0 p1) : Int) == 2) (((((F38n0 p0 p1) : Nat) : Int) : Int) == 0) false) (sel (((F38 p0 p1) : Int) == 0) (strEq (bytesOf (((F38_1 p0 p1).drop 0).take (F38n0 p0 p1))) (bytesOf (((F39 p0 p1).drop 0).take (F39n0 p0 p1)))) false))))

noncomputable def S9 : List AV → Option (Prop × Ret)
  | [.sc (.ro .u8 p0), .sc (.ro .u8 p1)] => some (True, ⟨.sc (.b (F9 p0 p1)), []⟩)
  | _ => none

noncomputable def B9 : Bs := { P := Go.Proofs.Try.prog, G := noG, tab := tabOf [(37, ⟨[], 0, S37⟩), (38, ⟨[.ro .u8, .ro .u8], 1, S38⟩), (39, ⟨[.ro .u8, .ro .u8], 1, S39⟩)], n := 41 }

theorem B9.ok : B9.Ok := ⟨tabOk (P := Go.Proofs.Try.prog) (G := noG) (l := [(37, ⟨[], 0, S37⟩), (38, ⟨[.ro .u8, .ro .u8], 1, S38⟩), (39, ⟨[.ro .u8, .ro .u8], 1, S39⟩)]) (And.intro K37 (And.intro K38 (And.intro K39 True.intro))), mixed⟩

theorem K9 : Known Go.Proofs.Try.prog noG 9 ⟨[.ro .u8, .ro .u8], 0, S9⟩ := by
  refine Known.walk (B := B9) (fn := Go.Proofs.Try.f9) B9.ok (by kernel_rfl) rfl (by kernel_rfl) (by kernel_rfl) (by decide) ?_ ?_
  · intro vs C r h
    simp only at h
    unfold S9 at h
    split at h
    · cases h; rfl
    · cases h
  · intro E args C r h hC hlen
    simp only at h
    unfold S9 at h
    split at h
    rotate_left
    · cases h
    rename_i p0 p1
    cases h
    simp only [lens] at hlen
    refine ⟨show 2 ≤ 41 from by decide, ?_⟩
    refine Tri.sub (Sub.of_eq (show _ = ([(0, .sc (.ro .u8 p0)), (1, .sc (.ro .u8 p1))], []) from rfl)) ?_
    refine Tri.seq_region [] none [0, 1] [] ((True ∧ True) ∧ True)
        ([(0, .sc (.ro .u8 p0)), (1, .sc (.ro .u8 p1))], [])
        16 (by kernel_rfl) rfl (by kernel_rfl) (⟨⟨trivial, trivial⟩, trivial⟩) ?_
    refine Tri.seq ?_
    refine Tri.seq_region [] none [8, 0, 1] [] (((True ∧ True) ∧ True) ∧ ((True ∧ True) ∧ True))
        ([(8, .sc (.b (!(F37)))), (0, .sc (.ro .u8 p0)), (1, .sc (.ro .u8 p1))], [])
        48 (by kernel_rfl) rfl (by kernel_rfl) (⟨⟨⟨trivial, trivial⟩, trivial⟩, ⟨⟨trivial, trivial⟩, trivial⟩⟩) ?_
    refine Tri.cond (x := (!(F37))) (by kernel_rfl) (fun h1 => ?_) (fun h1 => ?_)
    ·
      refine Tri.seq_region [] none [4] [] ((True ∧ True) ∧ True)
          ([(4, .sc (.b false))], [])
          64 (by kernel_rfl) rfl (by kernel_rfl) (⟨⟨trivial, trivial⟩, trivial⟩) ?_
      refine Tri.ret ?_
      repeat (first | refine thenP_ret ?_ | refine blkP_ret ?_ | refine countP_ret ?_ | refine joinP_ret ?_)
      refine endP.conv (r' := ⟨.sc (.b false), []⟩) (by simp only [F9, h1, sel_true, sel_false]) ?_
      exact endP.ret [] (True ∧ True) (by kernel_rfl) (by kernel_rfl) (by kernel_rfl) ⟨trivial, trivial⟩
    ·
      refine Tri.skip ?_
      change Tri _ _ _ _ _ _
      refine Tri.seq_region [] none [6, 5, 0, 1] [80] ((True ∧ True) ∧ ((True ∧ True) ∧ (((True ∧ True) ∧ True) ∧ ((True ∧ True) ∧ ((True ∧ True) ∧ ((True ∧ True) ∧ ((True ∧ True) ∧ ((True ∧ True) ∧ True))))))))
          ([(6, .sc (.i .i64 (F38 p0 p1))), (5, .sc (.sl 80 0 (F38n0 p0 p1) 1 (some (F38n0 p0 p1)))), (0, .sc (.ro .u8 p0)), (1, .sc (.ro .u8 p1))], [(80, .ints .u8 (F38n0 p0 p1) (F38_1 p0 p1))])
          176 (by kernel_rfl) rfl (by kernel_rfl) (⟨⟨trivial, trivial⟩, ⟨⟨trivial, trivial⟩, ⟨⟨⟨trivial, trivial⟩, trivial⟩, ⟨⟨trivial, trivial⟩, ⟨⟨trivial, trivial⟩, ⟨⟨trivial, trivial⟩, ⟨⟨trivial, trivial⟩, ⟨⟨trivial, trivial⟩, trivial⟩⟩⟩⟩⟩⟩⟩⟩) ?_
      refine Tri.seq ?_
      refine Tri.split ((((p0.length : Nat) : Int) : Int) != 32) (fun h2 => ?_) (fun h2 => ?_)
      ·
        have h2' := ne_true_i h2
        refine Tri.seq_region [(18, .b true)] none [22, 6, 5, 0, 1] [80] ((True ∧ True) ∧ ((True ∧ True) ∧ ((True ∧ True) ∧ ((True ∧ (((((p0.length : Nat) : Int) : Int) != 32) = true)) ∧ ((True ∧ True) ∧ ((True ∧ True) ∧ ((True ∧ True) ∧ ((True ∧ True) ∧ True))))))))
            ([(22, .sc (.b true)), (6, .sc (.i .i64 (F38 p0 p1))), (5, .sc (.sl 80 0 (F38n0 p0 p1) 1 (some (F38n0 p0 p1)))), (0, .sc (.ro .u8 p0)), (1, .sc (.ro .u8 p1))], [(80, .ints .u8 (F38n0 p0 p1) (F38_1 p0 p1))])
            304 (by kernel_rfl) rfl (by kernel_rfl) (⟨⟨trivial, trivial⟩, ⟨⟨trivial, trivial⟩, ⟨⟨trivial, trivial⟩, ⟨⟨trivial, (h2)⟩, ⟨⟨trivial, trivial⟩, ⟨⟨trivial, trivial⟩, ⟨⟨trivial, trivial⟩, ⟨⟨trivial, trivial⟩, trivial⟩⟩⟩⟩⟩⟩⟩⟩) ?_
        refine Tri.cond_true (by kernel_rfl) ?_
        refine Tri.split (((F38 p0 p1) : Int) == 2) (fun h3 => ?_) (fun h3 => ?_)
        ·
          have h3' := eq_true_i h3
          refine Tri.seq_region [(25, .b true)] none [4] [] ((True ∧ True) ∧ ((True ∧ True) ∧ ((True ∧ ((((F38 p0 p1) : Int) == 2) = true)) ∧ ((True ∧ True) ∧ ((True ∧ True) ∧ ((True ∧ True) ∧ ((True ∧ True) ∧ ((True ∧ True) ∧ True))))))))
              ([(4, .sc (.b (((((F38n0 p0 p1) : Nat) : Int) : Int) == 0)))], [])
              432 (by kernel_rfl) rfl (by kernel_rfl) (⟨⟨trivial, trivial⟩, ⟨⟨trivial, trivial⟩, ⟨⟨trivial, (h3)⟩, ⟨⟨trivial, trivial⟩, ⟨⟨trivial, trivial⟩, ⟨⟨trivial, trivial⟩, ⟨⟨trivial, trivial⟩, ⟨⟨trivial, trivial⟩, trivial⟩⟩⟩⟩⟩⟩⟩⟩) ?_
          refine Tri.ret ?_
          repeat (first | refine thenP_ret ?_ | refine blkP_ret ?_ | refine countP_ret ?_ | refine joinP_ret ?_)
          refine endP.conv (r' := ⟨.sc (.b (((((F38n0 p0 p1) : Nat) : Int) : Int) == 0)), []⟩) (by simp only [F9, h1, h2, h3, sel_true, sel_false]) ?_
          exact endP.ret [] (True ∧ True) (by kernel_rfl) (by kernel_rfl) (by kernel_rfl) ⟨trivial, trivial⟩
        ·
          have h3' := eq_false_i h3
          refine Tri.seq_region [(25, .b false)] none [4] [] ((True ∧ True) ∧ ((True ∧ True) ∧ ((True ∧ ((((F38 p0 p1) : Int) == 2) = false)) ∧ ((True ∧ True) ∧ ((True ∧ True) ∧ ((True ∧ True) ∧ ((True ∧ True) ∧ ((True ∧ True) ∧ True))))))))
              ([(4, .sc (.b false))], [])
              432 (by kernel_rfl) rfl (by kernel_rfl) (⟨⟨trivial, trivial⟩, ⟨⟨trivial, trivial⟩, ⟨⟨trivial, (h3)⟩, ⟨⟨trivial, trivial⟩, ⟨⟨trivial, trivial⟩, ⟨⟨trivial, trivial⟩, ⟨⟨trivial, trivial⟩, ⟨⟨trivial, trivial⟩, trivial⟩⟩⟩⟩⟩⟩⟩⟩) ?_
          refine Tri.ret ?_
          repeat (first | refine thenP_ret ?_ | refine blkP_ret ?_ | refine countP_ret ?_ | refine joinP_ret ?_)
          refine endP.conv (r' := ⟨.sc (.b false), []⟩) (by simp only [F9, h1, h2, h3, sel_true, sel_false]) ?_
          exact endP.ret [] (True ∧ True) (by kernel_rfl) (by kernel_rfl) (by kernel_rfl) ⟨trivial, trivial⟩
      ·
        have h2' := ne_false_i h2
        refine Tri.seq_region [(18, .b false)] none [22, 6, 5, 0, 1] [80] ((True ∧ True) ∧ ((True ∧ True) ∧ ((True ∧ True) ∧ ((True ∧ (((((p0.length : Nat) : Int) : Int) != 32) = false)) ∧ ((True ∧ True) ∧ ((True ∧ True) ∧ ((True ∧ True) ∧ ((True ∧ True) ∧ True))))))))
            ([(22, .sc (.b ((((p1.length : Nat) : Int) : Int) != 32))), (6, .sc (.i .i64 (F38 p0 p1))), (5, .sc (.sl 80 0 (F38n0 p0 p1) 1 (some (F38n0 p0 p1)))), (0, .sc (.ro .u8 p0)), (1, .sc (.ro .u8 p1))], [(80, .ints .u8 (F38n0 p0 p1) (F38_1 p0 p1))])
            304 (by kernel_rfl) rfl (by kernel_rfl) (⟨⟨trivial, trivial⟩, ⟨⟨trivial, trivial⟩, ⟨⟨trivial, trivial⟩, ⟨⟨trivial, (h2)⟩, ⟨⟨trivial, trivial⟩, ⟨⟨trivial, trivial⟩, ⟨⟨trivial, trivial⟩, ⟨⟨trivial, trivial⟩, trivial⟩⟩⟩⟩⟩⟩⟩⟩) ?_
        refine Tri.cond (x := ((((p1.length : Nat) : Int) : Int) != 32)) (by kernel_rfl) (fun h4 => ?_) (fun h4 => ?_)
        ·
          have h4' := ne_true_i h4
          refine Tri.split (((F38 p0 p1) : Int) == 2) (fun h5 => ?_) (fun h5 => ?_)
          ·
            have h5' := eq_true_i h5
            refine Tri.seq_region [(25, .b true)] none [4] [] ((True ∧ True) ∧ ((True ∧ True) ∧ ((True ∧ ((((F38 p0 p1) : Int) == 2) = true)) ∧ ((True ∧ True) ∧ ((True ∧ True) ∧ ((True ∧ True) ∧ ((True ∧ True) ∧ ((True ∧ True) ∧ True))))))))
                ([(4, .sc (.b (((((F38n0 p0 p1) : Nat) : Int) : Int) == 0)))], [])
                432 (by kernel_rfl) rfl (by kernel_rfl) (⟨⟨trivial, trivial⟩, ⟨⟨trivial, trivial⟩, ⟨⟨trivial, (h5)⟩, ⟨⟨trivial, trivial⟩, ⟨⟨trivial, trivial⟩, ⟨⟨trivial, trivial⟩, ⟨⟨trivial, trivial⟩, ⟨⟨trivial, trivial⟩, trivial⟩⟩⟩⟩⟩⟩⟩⟩) ?_
            refine Tri.ret ?_
            repeat (first | refine thenP_ret ?_ | refine blkP_ret ?_ | refine countP_ret ?_ | refine joinP_ret ?_)
            refine endP.conv (r' := ⟨.sc (.b (((((F38n0 p0 p1) : Nat) : Int) : Int) == 0)), []⟩) (by simp only [F9, h1, h2, h4, h5, sel_true, sel_false]) ?_
            exact endP.ret [] (True ∧ True) (by kernel_rfl) (by kernel_rfl) (by kernel_rfl) ⟨trivial, trivial⟩
          ·
            have h5' := eq_false_i h5
            refine Tri.seq_region [(25, .b false)] none [4] [] ((True ∧ True) ∧ ((True ∧ True) ∧ ((True ∧ ((((F38 p0 p1) : Int) == 2) = false)) ∧ ((True ∧ True) ∧ ((True ∧ True) ∧ ((True ∧ True) ∧ ((True ∧ True) ∧ ((True ∧ True) ∧ True))))))))
                ([(4, .sc (.b false))], [])
                432 (by kernel_rfl) rfl (by kernel_rfl) (⟨⟨trivial, trivial⟩, ⟨⟨trivial, trivial⟩, ⟨⟨trivial, (h5)⟩, ⟨⟨trivial, trivial⟩, ⟨⟨trivial, trivial⟩, ⟨⟨trivial, trivial⟩, ⟨⟨trivial, trivial⟩, ⟨⟨trivial, trivial⟩, trivial⟩⟩⟩⟩⟩⟩⟩⟩) ?_
            refine Tri.ret ?_
            repeat (first | refine thenP_ret ?_ | refine blkP_ret ?_ | refine countP_ret ?_ | refine joinP_ret ?_)
            refine endP.conv (r' := ⟨.sc (.b false), []⟩) (by simp only [F9, h1, h2, h4, h5, sel_true, sel_false]) ?_
            exact endP.ret [] (True ∧ True) (by kernel_rfl) (by kernel_rfl) (by kernel_rfl) ⟨trivial, trivial⟩
        ·
          have h4' := ne_false_i h4
          refine Tri.skip ?_
          change Tri _ _ _ _ _ _
          refine Tri.split (((F38 p0 p1) : Int) == 0) (fun h6 => ?_) (fun h6 => ?_)
          ·
            have h6' := eq_true_i h6
            refine Tri.seq_region [(32, .b true)] (some [0, 1, 3, 7, 15, 7, 7, 103, 231, 511, 1023, 2047]) [4] [] ((True ∧ True) ∧ ((True ∧ True) ∧ ((True ∧ ((((F38 p0 p1) : Int) == 0) = true)) ∧ ((True ∧ True) ∧ (((0 + (F38n0 p0 p1) ≤ (F38n0 p0 p1)) ∧ True) ∧ ((True ∧ True) ∧ ((True ∧ True) ∧ (((True ∧ (p0.length = 32 ∧ p1.length = 32)) ∧ True) ∧ (((0 + (F39n0 p0 p1) ≤ (F39n0 p0 p1)) ∧ True) ∧ ((True ∧ True) ∧ ((True ∧ True) ∧ ((True ∧ True) ∧ True))))))))))))
                ([(4, .sc (.b (strEq (bytesOf (((F38_1 p0 p1).drop 0).take (F38n0 p0 p1))) (bytesOf (((F39 p0 p1).drop 0).take (F39n0 p0 p1))))))], [])
                496 (by kernel_rfl) rfl (by kernel_rfl) (⟨⟨trivial, trivial⟩, ⟨⟨trivial, trivial⟩, ⟨⟨trivial, (h6)⟩, ⟨⟨trivial, trivial⟩, ⟨⟨(by omega), trivial⟩, ⟨⟨trivial, trivial⟩, ⟨⟨trivial, trivial⟩, ⟨⟨⟨trivial, (by omega)⟩, trivial⟩, ⟨⟨(by omega), trivial⟩, ⟨⟨trivial, trivial⟩, ⟨⟨trivial, trivial⟩, ⟨⟨trivial, trivial⟩, trivial⟩⟩⟩⟩⟩⟩⟩⟩⟩⟩⟩⟩) ?_
            refine Tri.ret ?_
            repeat (first | refine thenP_ret ?_ | refine blkP_ret ?_ | refine countP_ret ?_ | refine joinP_ret ?_)
            refine endP.conv (r' := ⟨.sc (.b (strEq (bytesOf (((F38_1 p0 p1).drop 0).take (F38n0 p0 p1))) (bytesOf (((F39 p0 p1).drop 0).take (F39n0 p0 p1))))), []⟩) (by simp only [F9, h1, h2, h4, h6, sel_true, sel_false]) ?_
            exact endP.ret [] (True ∧ True) (by kernel_rfl) (by kernel_rfl) (by kernel_rfl) ⟨trivial, trivial⟩
          ·
            have h6' := eq_false_i h6
            refine Tri.seq_region [(32, .b false)] (some [0, 1, 3, 7, 15, 7, 7, 103, 231, 511, 1023, 2047]) [4] [] ((True ∧ True) ∧ ((True ∧ True) ∧ ((True ∧ ((((F38 p0 p1) : Int) == 0) = false)) ∧ ((True ∧ True) ∧ ((True ∧ True) ∧ ((True ∧ True) ∧ ((True ∧ True) ∧ ((True ∧ True) ∧ ((True ∧ True) ∧ ((True ∧ True) ∧ ((True ∧ True) ∧ ((True ∧ True) ∧ True))))))))))))
                ([(4, .sc (.b false))], [])
                496 (by kernel_rfl) rfl (by kernel_rfl) (⟨⟨trivial, trivial⟩, ⟨⟨trivial, trivial⟩, ⟨⟨trivial, (h6)⟩, ⟨⟨trivial, trivial⟩, ⟨⟨trivial, trivial⟩, ⟨⟨trivial, trivial⟩, ⟨⟨trivial, trivial⟩, ⟨⟨trivial, trivial⟩, ⟨⟨trivial, trivial⟩, ⟨⟨trivial, trivial⟩, ⟨⟨trivial, trivial⟩, ⟨⟨trivial, trivial⟩, trivial⟩⟩⟩⟩⟩⟩⟩⟩⟩⟩⟩⟩) ?_
            refine Tri.ret ?_
            repeat (first | refine thenP_ret ?_ | refine blkP_ret ?_ | refine countP_ret ?_ | refine joinP_ret ?_)
            refine endP.conv (r' := ⟨.sc (.b false), []⟩) (by simp only [F9, h1, h2, h4, h6, sel_true, sel_false]) ?_
            exact endP.ret [] (True ∧ True) (by kernel_rfl) (by kernel_rfl) (by kernel_rfl) ⟨trivial, trivial⟩

end Go.Vm
