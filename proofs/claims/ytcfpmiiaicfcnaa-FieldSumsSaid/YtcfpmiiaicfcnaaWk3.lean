/- What the functions compute, and that they do: walked by a printed text. -/
import Derived.Test.YtcfpmiiaicfcnaaWkC
set_option linter.unusedVariables false
set_option linter.unusedSimpArgs false
set_option maxRecDepth 4000
namespace Go.Vm
open Go

noncomputable def F3l0 (p2 : List Int) (k0 : Nat) (z0 : List Int × List Int × List Int × List Int) : List Int × List Int × List Int × List Int :=
  (z0.2.1, (sel (((iRem (iAdd .i64 (iRem (p2.getD k0 0) 3) 3) 3) : Int) == 0) (F17 z0.2.1 z0.1) (sel (((iRem (iAdd .i64 (iRem (p2.getD k0 0) 3) 3) 3) : Int) == 1) (F19 z0.2.1 z0.1) (F21 z0.2.1 z0.1))), z0.2.2.2, (sel (((iRem (iAdd .i64 (iRem (p2.getD k0 0) 3) 3) 3) : Int) == 0) (F16 z0.2.2.2 z0.2.2.1) (sel (((iRem (iAdd .i64 (iRem (p2.getD k0 0) 3) 3) 3) : Int) == 1) (F18 z0.2.2.2 z0.2.2.1) (F20 z0.2.2.2 z0.2.2.1))))

noncomputable def F3 (p0 : List Int) (p1 : List Int) (p2 : List Int) : Bool :=
  (sel (!(F14)) false (sel (!(F15_4 p0 p1)) true (sel (decide ((((p2.length : Nat) : Int) : Int) > 200)) true (sel (F22 ((itr (F3l0 p2) (p2.length - 0) ((F15_3 p0 p1), (F15_2 p0 p1), (F15_1 p0 p1), (F15 p0 p1))).2.2.2) ((itr (F3l0 p2) (p2.length - 0) ((F15_3 p0 p1), (F15_2 p0 p1), (F15_1 p0 p1), (F15 p0 p1))).2.1)) (F22 ((itr (F3l0 p2) (p2.length - 0) ((F15_3 p0 p1), (F15_2 p0 p1), (F15_1 p0 p1), (F15 p0 p1))).2.2.1) ((itr (F3l0 p2) (p2.length - 0) ((F15_3 p0 p1), (F15_2 p0 p1), (F15_1 p0 p1), (F15 p0 p1))).1)) false))))

noncomputable def S3 : List AV → Option (Prop × Ret)
  | [.sc (.ro .u8 p0), .sc (.ro .u8 p1), .sc (.ro .i64 p2)] => some (True, ⟨.sc (.b (F3 p0 p1 p2)), []⟩)
  | _ => none

noncomputable def B3 : Bs := { P := Go.Proofs.Try.prog, G := noG, tab := tabOf [(14, ⟨[], 0, S14⟩), (15, ⟨[.ro .u8, .ro .u8], 0, S15⟩), (16, ⟨[.val, .val], 0, S16⟩), (17, ⟨[.val, .val], 0, S17⟩), (18, ⟨[.val, .val], 0, S18⟩), (19, ⟨[.val, .val], 0, S19⟩), (20, ⟨[.val, .val], 0, S20⟩), (21, ⟨[.val, .val], 0, S21⟩), (22, ⟨[.val, .val], 0, S22⟩)], n := 79 }

theorem B3.ok : B3.Ok := ⟨tabOk (P := Go.Proofs.Try.prog) (G := noG) (l := [(14, ⟨[], 0, S14⟩), (15, ⟨[.ro .u8, .ro .u8], 0, S15⟩), (16, ⟨[.val, .val], 0, S16⟩), (17, ⟨[.val, .val], 0, S17⟩), (18, ⟨[.val, .val], 0, S18⟩), (19, ⟨[.val, .val], 0, S19⟩), (20, ⟨[.val, .val], 0, S20⟩), (21, ⟨[.val, .val], 0, S21⟩), (22, ⟨[.val, .val], 0, S22⟩)]) (And.intro K14 (And.intro K15 (And.intro K16 (And.intro K17 (And.intro K18 (And.intro K19 (And.intro K20 (And.intro K21 (And.intro K22 True.intro))))))))), mixed⟩

theorem K3 : Known Go.Proofs.Try.prog noG 3 ⟨[.ro .u8, .ro .u8, .ro .i64], 0, S3⟩ := by
  refine Known.walk (B := B3) (fn := Go.Proofs.Try.f3) B3.ok (by kernel_rfl) rfl (by kernel_rfl) (by kernel_rfl) (by decide) ?_ ?_
  · intro vs C r h
    simp only at h
    unfold S3 at h
    split at h
    · cases h; rfl
    · cases h
  · intro E args C r h hC hlen
    simp only at h
    unfold S3 at h
    split at h
    rotate_left
    · cases h
    rename_i p0 p1 p2
    cases h
    simp only [lens] at hlen
    refine ⟨show 3 ≤ 79 from by decide, ?_⟩
    refine Tri.sub (Sub.of_eq (show _ = ([(0, .sc (.ro .u8 p0)), (1, .sc (.ro .u8 p1)), (2, .sc (.ro .i64 p2))], []) from rfl)) ?_
    refine Tri.seq_region [] none [0, 1, 2] [] ((True ∧ True) ∧ True)
        ([(0, .sc (.ro .u8 p0)), (1, .sc (.ro .u8 p1)), (2, .sc (.ro .i64 p2))], [])
        16 (by kernel_rfl) rfl (by kernel_rfl) (⟨⟨trivial, trivial⟩, trivial⟩) ?_
    refine Tri.seq ?_
    refine Tri.seq_region [] none [15, 0, 1, 2] [] (((True ∧ True) ∧ True) ∧ ((True ∧ True) ∧ True))
        ([(15, .sc (.b (!(F14)))), (0, .sc (.ro .u8 p0)), (1, .sc (.ro .u8 p1)), (2, .sc (.ro .i64 p2))], [])
        48 (by kernel_rfl) rfl (by kernel_rfl) (⟨⟨⟨trivial, trivial⟩, trivial⟩, ⟨⟨trivial, trivial⟩, trivial⟩⟩) ?_
    refine Tri.cond (x := (!(F14))) (by kernel_rfl) (fun h1 => ?_) (fun h1 => ?_)
    ·
      refine Tri.seq_region [] none [6] [] ((True ∧ True) ∧ True)
          ([(6, .sc (.b false))], [])
          64 (by kernel_rfl) rfl (by kernel_rfl) (⟨⟨trivial, trivial⟩, trivial⟩) ?_
      refine Tri.ret ?_
      repeat (first | refine thenP_ret ?_ | refine blkP_ret ?_ | refine countP_ret ?_ | refine joinP_ret ?_)
      refine endP.conv (r' := ⟨.sc (.b false), []⟩) (by simp only [F3, h1, sel_true, sel_false]) ?_
      exact endP.ret [] (True ∧ True) (by kernel_rfl) (by kernel_rfl) (by kernel_rfl) ⟨trivial, trivial⟩
    ·
      refine Tri.skip ?_
      change Tri _ _ _ _ _ _
      refine Tri.seq_region [] none [11, 10, 9, 8, 7, 2] [240, 224, 208, 192] ((True ∧ True) ∧ ((True ∧ True) ∧ (((True ∧ True) ∧ True) ∧ ((True ∧ True) ∧ ((True ∧ True) ∧ ((True ∧ True) ∧ ((True ∧ True) ∧ ((True ∧ True) ∧ ((True ∧ True) ∧ ((True ∧ True) ∧ ((True ∧ True) ∧ ((True ∧ True) ∧ ((True ∧ True) ∧ (((True ∧ (5 = 5)) ∧ True) ∧ (((True ∧ (5 = 5)) ∧ True) ∧ (((True ∧ (16 = 16)) ∧ True) ∧ (((True ∧ (16 = 16)) ∧ True) ∧ ((True ∧ True) ∧ True))))))))))))))))))
          ([(11, .sc (.b (F15_4 p0 p1))), (10, .sc (.p 240 0)), (9, .sc (.p 224 0)), (8, .sc (.p 208 0)), (7, .sc (.p 192 0)), (2, .sc (.ro .i64 p2))], [(240, .ints .i64 16 (F15_3 p0 p1)), (224, .ints .i64 16 (F15_2 p0 p1)), (208, .ints .u64 5 (F15_1 p0 p1)), (192, .ints .u64 5 (F15 p0 p1))])
          336 (by kernel_rfl) rfl (by kernel_rfl) (⟨⟨trivial, trivial⟩, ⟨⟨trivial, trivial⟩, ⟨⟨⟨trivial, trivial⟩, trivial⟩, ⟨⟨trivial, trivial⟩, ⟨⟨trivial, trivial⟩, ⟨⟨trivial, trivial⟩, ⟨⟨trivial, trivial⟩, ⟨⟨trivial, trivial⟩, ⟨⟨trivial, trivial⟩, ⟨⟨trivial, trivial⟩, ⟨⟨trivial, trivial⟩, ⟨⟨trivial, trivial⟩, ⟨⟨trivial, trivial⟩, ⟨⟨⟨trivial, (rfl)⟩, trivial⟩, ⟨⟨⟨trivial, (rfl)⟩, trivial⟩, ⟨⟨⟨trivial, (rfl)⟩, trivial⟩, ⟨⟨⟨trivial, (rfl)⟩, trivial⟩, ⟨⟨trivial, trivial⟩, trivial⟩⟩⟩⟩⟩⟩⟩⟩⟩⟩⟩⟩⟩⟩⟩⟩⟩⟩) ?_
      refine Tri.seq ?_
      refine Tri.split (!(F15_4 p0 p1)) (fun h2 => ?_) (fun h2 => ?_)
      ·
        refine Tri.seq_region [(27, .b true)] none [31, 10, 9, 8, 7, 2] [240, 224, 208, 192] ((True ∧ True) ∧ ((True ∧ True) ∧ ((True ∧ ((!(F15_4 p0 p1)) = true)) ∧ ((True ∧ True) ∧ ((True ∧ True) ∧ ((True ∧ True) ∧ ((True ∧ True) ∧ True)))))))
            ([(31, .sc (.b true)), (10, .sc (.p 240 0)), (9, .sc (.p 224 0)), (8, .sc (.p 208 0)), (7, .sc (.p 192 0)), (2, .sc (.ro .i64 p2))], [(240, .ints .i64 16 (F15_3 p0 p1)), (224, .ints .i64 16 (F15_2 p0 p1)), (208, .ints .u64 5 (F15_1 p0 p1)), (192, .ints .u64 5 (F15 p0 p1))])
            448 (by kernel_rfl) rfl (by kernel_rfl) (⟨⟨trivial, trivial⟩, ⟨⟨trivial, trivial⟩, ⟨⟨trivial, (h2)⟩, ⟨⟨trivial, trivial⟩, ⟨⟨trivial, trivial⟩, ⟨⟨trivial, trivial⟩, ⟨⟨trivial, trivial⟩, trivial⟩⟩⟩⟩⟩⟩⟩) ?_
        refine Tri.cond_true (by kernel_rfl) ?_
        refine Tri.seq_region [] none [6] [] ((True ∧ True) ∧ True)
            ([(6, .sc (.b true))], [])
            464 (by kernel_rfl) rfl (by kernel_rfl) (⟨⟨trivial, trivial⟩, trivial⟩) ?_
        refine Tri.ret ?_
        repeat (first | refine thenP_ret ?_ | refine blkP_ret ?_ | refine countP_ret ?_ | refine joinP_ret ?_)
        refine endP.conv (r' := ⟨.sc (.b true), []⟩) (by simp only [F3, h1, h2, sel_true, sel_false]) ?_
        exact endP.ret [] (True ∧ True) (by kernel_rfl) (by kernel_rfl) (by kernel_rfl) ⟨trivial, trivial⟩
      ·
        refine Tri.seq_region [(27, .b false)] none [31, 10, 9, 8, 7, 2] [240, 224, 208, 192] ((True ∧ True) ∧ ((True ∧ True) ∧ ((True ∧ ((!(F15_4 p0 p1)) = false)) ∧ ((True ∧ True) ∧ ((True ∧ True) ∧ ((True ∧ True) ∧ ((True ∧ True) ∧ True)))))))
            ([(31, .sc (.b (decide ((((p2.length : Nat) : Int) : Int) > 200)))), (10, .sc (.p 240 0)), (9, .sc (.p 224 0)), (8, .sc (.p 208 0)), (7, .sc (.p 192 0)), (2, .sc (.ro .i64 p2))], [(240, .ints .i64 16 (F15_3 p0 p1)), (224, .ints .i64 16 (F15_2 p0 p1)), (208, .ints .u64 5 (F15_1 p0 p1)), (192, .ints .u64 5 (F15 p0 p1))])
            448 (by kernel_rfl) rfl (by kernel_rfl) (⟨⟨trivial, trivial⟩, ⟨⟨trivial, trivial⟩, ⟨⟨trivial, (h2)⟩, ⟨⟨trivial, trivial⟩, ⟨⟨trivial, trivial⟩, ⟨⟨trivial, trivial⟩, ⟨⟨trivial, trivial⟩, trivial⟩⟩⟩⟩⟩⟩⟩) ?_
        refine Tri.cond (x := (decide ((((p2.length : Nat) : Int) : Int) > 200))) (by kernel_rfl) (fun h3 => ?_) (fun h3 => ?_)
        ·
          have h3' := of_decide_eq_true h3
          refine Tri.seq_region [] none [6] [] ((True ∧ True) ∧ True)
              ([(6, .sc (.b true))], [])
              464 (by kernel_rfl) rfl (by kernel_rfl) (⟨⟨trivial, trivial⟩, trivial⟩) ?_
          refine Tri.ret ?_
          repeat (first | refine thenP_ret ?_ | refine blkP_ret ?_ | refine countP_ret ?_ | refine joinP_ret ?_)
          refine endP.conv (r' := ⟨.sc (.b true), []⟩) (by simp only [F3, h1, h2, h3, sel_true, sel_false]) ?_
          exact endP.ret [] (True ∧ True) (by kernel_rfl) (by kernel_rfl) (by kernel_rfl) ⟨trivial, trivial⟩
        ·
          have h3' := of_decide_eq_false h3
          refine Tri.skip ?_
          change Tri _ _ _ _ _ _
          refine Tri.seq ?_
          refine Tri.seq_region [] none [34, 33, 32, 10, 9, 8, 7] [240, 224, 208, 192] ((True ∧ True) ∧ ((True ∧ True) ∧ ((True ∧ True) ∧ True)))
              ([(34, .sc (.i .i64 0)), (33, .sc (.i .i64 ((p2.length : Nat) : Int))), (32, .sc (.ro .i64 p2)), (10, .sc (.p 240 0)), (9, .sc (.p 224 0)), (8, .sc (.p 208 0)), (7, .sc (.p 192 0))], [(240, .ints .i64 16 (F15_3 p0 p1)), (224, .ints .i64 16 (F15_2 p0 p1)), (208, .ints .u64 5 (F15_1 p0 p1)), (192, .ints .u64 5 (F15 p0 p1))])
              496 (by kernel_rfl) rfl (by kernel_rfl) (⟨⟨trivial, trivial⟩, ⟨⟨trivial, trivial⟩, ⟨⟨trivial, trivial⟩, trivial⟩⟩⟩) ?_
          refine Tri.block ?_
          refine Tri.count 496 (p2.length - 0) (F3l0 p2) ((F15_3 p0 p1), (F15_2 p0 p1), (F15_1 p0 p1), (F15 p0 p1)) (fun k0 z0 => True) (fun k0 z0 => ([(34, .sc (.i .i64 ((k0 : Nat) : Int))), (33, .sc (.i .i64 ((p2.length : Nat) : Int))), (32, .sc (.ro .i64 p2)), (10, .sc (.p 240 0)), (9, .sc (.p 224 0)), (8, .sc (.p 208 0)), (7, .sc (.p 192 0))], [(240, .ints .i64 16 z0.1), (224, .ints .i64 16 z0.2.1), (208, .ints .u64 5 z0.2.2.1), (192, .ints .u64 5 z0.2.2.2)])) trivial (Sub.of_eq (by kernel_rfl)) ?_
          intro k0 z0 hk0 hz0 hJ0
          refine Tri.seq_region [] none [35, 34, 33, 32, 10, 9, 8, 7] [240, 224, 208, 192] ((True ∧ True) ∧ True)
              ([(35, .sc (.b (decide ((((k0 : Nat) : Int) : Int) < ((p2.length : Nat) : Int))))), (34, .sc (.i .i64 ((k0 : Nat) : Int))), (33, .sc (.i .i64 ((p2.length : Nat) : Int))), (32, .sc (.ro .i64 p2)), (10, .sc (.p 240 0)), (9, .sc (.p 224 0)), (8, .sc (.p 208 0)), (7, .sc (.p 192 0))], [(240, .ints .i64 16 z0.1), (224, .ints .i64 16 z0.2.1), (208, .ints .u64 5 z0.2.2.1), (192, .ints .u64 5 z0.2.2.2)])
              512 (by kernel_rfl) rfl (by kernel_rfl) (⟨⟨trivial, trivial⟩, trivial⟩) ?_
          refine Tri.seq ?_
          refine Tri.cond (x := (decide ((((k0 : Nat) : Int) : Int) < ((p2.length : Nat) : Int)))) (by kernel_rfl) (fun h4 => ?_) (fun h4 => ?_)
          ·
            have h4' := of_decide_eq_true h4
            refine Tri.skip ?_
            change Tri _ _ _ _ _ _
            refine Tri.seq ?_
            refine Tri.block ?_
            refine Tri.seq_region [] none [13, 34, 33, 32, 10, 9, 8, 7] [240, 224, 208, 192] ((((0 : Int) ≤ ((k0 : Nat) : Int) ∧ ((k0 : Nat) : Int) < (p2.length : Int)) ∧ True) ∧ (((k0 < p2.length) ∧ True) ∧ ((True ∧ True) ∧ True)))
                ([(13, .sc (.i .i64 (p2.getD k0 0))), (34, .sc (.i .i64 ((k0 : Nat) : Int))), (33, .sc (.i .i64 ((p2.length : Nat) : Int))), (32, .sc (.ro .i64 p2)), (10, .sc (.p 240 0)), (9, .sc (.p 224 0)), (8, .sc (.p 208 0)), (7, .sc (.p 192 0))], [(240, .ints .i64 16 z0.1), (224, .ints .i64 16 z0.2.1), (208, .ints .u64 5 z0.2.2.1), (192, .ints .u64 5 z0.2.2.2)])
                560 (by kernel_rfl) rfl (by kernel_rfl) (⟨⟨(by omega), trivial⟩, ⟨⟨(by omega), trivial⟩, ⟨⟨trivial, trivial⟩, trivial⟩⟩⟩) ?_
            refine Tri.seq_region [] none [41, 34, 33, 32, 10, 9, 8, 7] [240, 224, 208, 192] ((True ∧ True) ∧ (((3 ≠ (0 : Int)) ∧ True) ∧ ((True ∧ True) ∧ (((3 ≠ (0 : Int)) ∧ True) ∧ True))))
                ([(41, .sc (.i .i64 (iRem (iAdd .i64 (iRem (p2.getD k0 0) 3) 3) 3))), (34, .sc (.i .i64 ((k0 : Nat) : Int))), (33, .sc (.i .i64 ((p2.length : Nat) : Int))), (32, .sc (.ro .i64 p2)), (10, .sc (.p 240 0)), (9, .sc (.p 224 0)), (8, .sc (.p 208 0)), (7, .sc (.p 192 0))], [(240, .ints .i64 16 z0.1), (224, .ints .i64 16 z0.2.1), (208, .ints .u64 5 z0.2.2.1), (192, .ints .u64 5 z0.2.2.2)])
                624 (by kernel_rfl) rfl (by kernel_rfl) (⟨⟨trivial, trivial⟩, ⟨⟨(by omega), trivial⟩, ⟨⟨trivial, trivial⟩, ⟨⟨(by omega), trivial⟩, trivial⟩⟩⟩⟩) ?_
            refine Tri.block ?_
            refine Tri.seq_region [] none [50, 41, 34, 33, 32, 10, 9, 8, 7] [240, 224, 208, 192] ((True ∧ True) ∧ ((True ∧ True) ∧ True))
                ([(50, .sc (.b (((iRem (iAdd .i64 (iRem (p2.getD k0 0) 3) 3) 3) : Int) == 0))), (41, .sc (.i .i64 (iRem (iAdd .i64 (iRem (p2.getD k0 0) 3) 3) 3))), (34, .sc (.i .i64 ((k0 : Nat) : Int))), (33, .sc (.i .i64 ((p2.length : Nat) : Int))), (32, .sc (.ro .i64 p2)), (10, .sc (.p 240 0)), (9, .sc (.p 224 0)), (8, .sc (.p 208 0)), (7, .sc (.p 192 0))], [(240, .ints .i64 16 z0.1), (224, .ints .i64 16 z0.2.1), (208, .ints .u64 5 z0.2.2.1), (192, .ints .u64 5 z0.2.2.2)])
                656 (by kernel_rfl) rfl (by kernel_rfl) (⟨⟨trivial, trivial⟩, ⟨⟨trivial, trivial⟩, trivial⟩⟩) ?_
            refine Tri.join (x := (((iRem (iAdd .i64 (iRem (p2.getD k0 0) 3) 3) 3) : Int) == 0)) (fun bb => ([(34, .sc (.i .i64 ((k0 : Nat) : Int))), (33, .sc (.i .i64 ((p2.length : Nat) : Int))), (32, .sc (.ro .i64 p2)), (10, .sc (.p 240 0)), (9, .sc (.p 224 0)), (8, .sc (.p 208 0)), (7, .sc (.p 192 0))], [(240, .ints .i64 16 z0.2.1), (224, .ints .i64 16 (sel bb (F17 z0.2.1 z0.1) (sel (((iRem (iAdd .i64 (iRem (p2.getD k0 0) 3) 3) 3) : Int) == 1) (F19 z0.2.1 z0.1) (F21 z0.2.1 z0.1)))), (208, .ints .u64 5 z0.2.2.2), (192, .ints .u64 5 (sel bb (F16 z0.2.2.2 z0.2.2.1) (sel (((iRem (iAdd .i64 (iRem (p2.getD k0 0) 3) 3) 3) : Int) == 1) (F18 z0.2.2.2 z0.2.2.1) (F20 z0.2.2.2 z0.2.2.1))))])) 880 (by kernel_rfl) (fun h5 => ?_) (fun h5 => ?_) ?_
            ·
              have h5' := eq_true_i h5
              refine Tri.region' [] (some [0, 0, 3, 0, 0, 0, 55, 0, 255, 511, 1023, 2047]) [34, 33, 32, 10, 9, 8, 7] [240, 224, 208, 192] ((True ∧ True) ∧ ((True ∧ True) ∧ (((True ∧ True) ∧ True) ∧ ((True ∧ True) ∧ ((True ∧ True) ∧ ((True ∧ True) ∧ (((True ∧ True) ∧ True) ∧ ((True ∧ True) ∧ (((True ∧ (5 = 5)) ∧ True) ∧ (((True ∧ (5 = 5)) ∧ True) ∧ (((True ∧ (16 = 16)) ∧ True) ∧ (((True ∧ (16 = 16)) ∧ True) ∧ True))))))))))))
                  ([(34, .sc (.i .i64 ((k0 : Nat) : Int))), (33, .sc (.i .i64 ((p2.length : Nat) : Int))), (32, .sc (.ro .i64 p2)), (10, .sc (.p 240 0)), (9, .sc (.p 224 0)), (8, .sc (.p 208 0)), (7, .sc (.p 192 0))], [(240, .ints .i64 16 z0.2.1), (224, .ints .i64 16 (F17 z0.2.1 z0.1)), (208, .ints .u64 5 z0.2.2.2), (192, .ints .u64 5 (F16 z0.2.2.2 z0.2.2.1))])
                  848 (by kernel_rfl) rfl (by kernel_rfl) (⟨⟨trivial, trivial⟩, ⟨⟨trivial, trivial⟩, ⟨⟨⟨trivial, trivial⟩, trivial⟩, ⟨⟨trivial, trivial⟩, ⟨⟨trivial, trivial⟩, ⟨⟨trivial, trivial⟩, ⟨⟨⟨trivial, trivial⟩, trivial⟩, ⟨⟨trivial, trivial⟩, ⟨⟨⟨trivial, (rfl)⟩, trivial⟩, ⟨⟨⟨trivial, (rfl)⟩, trivial⟩, ⟨⟨⟨trivial, (rfl)⟩, trivial⟩, ⟨⟨⟨trivial, (rfl)⟩, trivial⟩, trivial⟩⟩⟩⟩⟩⟩⟩⟩⟩⟩⟩⟩) ?_
              exact (Sub.ren (ns := [(240, 240), (224, 224), (208, 208), (192, 192)]) (kf := [34, 33, 32, 10, 9, 8, 7]) (s' := ([(34, .sc (.i .i64 ((k0 : Nat) : Int))), (33, .sc (.i .i64 ((p2.length : Nat) : Int))), (32, .sc (.ro .i64 p2)), (10, .sc (.p 240 0)), (9, .sc (.p 224 0)), (8, .sc (.p 208 0)), (7, .sc (.p 192 0))], [(240, .ints .i64 16 z0.2.1), (224, .ints .i64 16 (F17 z0.2.1 z0.1)), (208, .ints .u64 5 z0.2.2.2), (192, .ints .u64 5 (F16 z0.2.2.2 z0.2.2.1))])) (by kernel_rfl) (by kernel_rfl)).trans (Sub.of_eq (by simp only [sel_true, sel_false]))
            ·
              have h5' := eq_false_i h5
              refine Tri.seq_region [] none [60, 34, 33, 32, 10, 9, 8, 7] [240, 224, 208, 192] ((True ∧ True) ∧ ((True ∧ True) ∧ True))
                  ([(60, .sc (.b (((iRem (iAdd .i64 (iRem (p2.getD k0 0) 3) 3) 3) : Int) == 1))), (34, .sc (.i .i64 ((k0 : Nat) : Int))), (33, .sc (.i .i64 ((p2.length : Nat) : Int))), (32, .sc (.ro .i64 p2)), (10, .sc (.p 240 0)), (9, .sc (.p 224 0)), (8, .sc (.p 208 0)), (7, .sc (.p 192 0))], [(240, .ints .i64 16 z0.1), (224, .ints .i64 16 z0.2.1), (208, .ints .u64 5 z0.2.2.1), (192, .ints .u64 5 z0.2.2.2)])
                  688 (by kernel_rfl) rfl (by kernel_rfl) (⟨⟨trivial, trivial⟩, ⟨⟨trivial, trivial⟩, trivial⟩⟩) ?_
              refine Tri.join (x := (((iRem (iAdd .i64 (iRem (p2.getD k0 0) 3) 3) 3) : Int) == 1)) (fun bb => ([(34, .sc (.i .i64 ((k0 : Nat) : Int))), (33, .sc (.i .i64 ((p2.length : Nat) : Int))), (32, .sc (.ro .i64 p2)), (10, .sc (.p 240 0)), (9, .sc (.p 224 0)), (8, .sc (.p 208 0)), (7, .sc (.p 192 0))], [(240, .ints .i64 16 z0.2.1), (224, .ints .i64 16 (sel bb (F19 z0.2.1 z0.1) (F21 z0.2.1 z0.1))), (208, .ints .u64 5 z0.2.2.2), (192, .ints .u64 5 (sel bb (F18 z0.2.2.2 z0.2.2.1) (F20 z0.2.2.2 z0.2.2.1)))])) 880 (by kernel_rfl) (fun h6 => ?_) (fun h6 => ?_) ?_
              ·
                have h6' := eq_true_i h6
                refine Tri.region' [] (some [0, 0, 3, 0, 0, 0, 55, 0, 255, 511, 1023, 2047]) [34, 33, 32, 10, 9, 8, 7] [240, 224, 208, 192] ((True ∧ True) ∧ ((True ∧ True) ∧ (((True ∧ True) ∧ True) ∧ ((True ∧ True) ∧ ((True ∧ True) ∧ ((True ∧ True) ∧ (((True ∧ True) ∧ True) ∧ ((True ∧ True) ∧ (((True ∧ (5 = 5)) ∧ True) ∧ (((True ∧ (5 = 5)) ∧ True) ∧ (((True ∧ (16 = 16)) ∧ True) ∧ (((True ∧ (16 = 16)) ∧ True) ∧ True))))))))))))
                    ([(34, .sc (.i .i64 ((k0 : Nat) : Int))), (33, .sc (.i .i64 ((p2.length : Nat) : Int))), (32, .sc (.ro .i64 p2)), (10, .sc (.p 240 0)), (9, .sc (.p 224 0)), (8, .sc (.p 208 0)), (7, .sc (.p 192 0))], [(240, .ints .i64 16 z0.2.1), (224, .ints .i64 16 (F19 z0.2.1 z0.1)), (208, .ints .u64 5 z0.2.2.2), (192, .ints .u64 5 (F18 z0.2.2.2 z0.2.2.1))])
                    880 (by kernel_rfl) rfl (by kernel_rfl) (⟨⟨trivial, trivial⟩, ⟨⟨trivial, trivial⟩, ⟨⟨⟨trivial, trivial⟩, trivial⟩, ⟨⟨trivial, trivial⟩, ⟨⟨trivial, trivial⟩, ⟨⟨trivial, trivial⟩, ⟨⟨⟨trivial, trivial⟩, trivial⟩, ⟨⟨trivial, trivial⟩, ⟨⟨⟨trivial, (rfl)⟩, trivial⟩, ⟨⟨⟨trivial, (rfl)⟩, trivial⟩, ⟨⟨⟨trivial, (rfl)⟩, trivial⟩, ⟨⟨⟨trivial, (rfl)⟩, trivial⟩, trivial⟩⟩⟩⟩⟩⟩⟩⟩⟩⟩⟩⟩) ?_
                exact (Sub.ren (ns := [(240, 240), (224, 224), (208, 208), (192, 192)]) (kf := [34, 33, 32, 10, 9, 8, 7]) (s' := ([(34, .sc (.i .i64 ((k0 : Nat) : Int))), (33, .sc (.i .i64 ((p2.length : Nat) : Int))), (32, .sc (.ro .i64 p2)), (10, .sc (.p 240 0)), (9, .sc (.p 224 0)), (8, .sc (.p 208 0)), (7, .sc (.p 192 0))], [(240, .ints .i64 16 z0.2.1), (224, .ints .i64 16 (F19 z0.2.1 z0.1)), (208, .ints .u64 5 z0.2.2.2), (192, .ints .u64 5 (F18 z0.2.2.2 z0.2.2.1))])) (by kernel_rfl) (by kernel_rfl)).trans (Sub.of_eq (by simp only [sel_true, sel_false]))
              ·
                have h6' := eq_false_i h6
                refine Tri.region' [] (some [0, 0, 3, 0, 0, 0, 55, 0, 255, 511, 1023, 2047]) [34, 33, 32, 10, 9, 8, 7] [240, 224, 208, 192] ((True ∧ True) ∧ ((True ∧ True) ∧ (((True ∧ True) ∧ True) ∧ ((True ∧ True) ∧ ((True ∧ True) ∧ ((True ∧ True) ∧ (((True ∧ True) ∧ True) ∧ ((True ∧ True) ∧ (((True ∧ (5 = 5)) ∧ True) ∧ (((True ∧ (5 = 5)) ∧ True) ∧ (((True ∧ (16 = 16)) ∧ True) ∧ (((True ∧ (16 = 16)) ∧ True) ∧ True))))))))))))
                    ([(34, .sc (.i .i64 ((k0 : Nat) : Int))), (33, .sc (.i .i64 ((p2.length : Nat) : Int))), (32, .sc (.ro .i64 p2)), (10, .sc (.p 240 0)), (9, .sc (.p 224 0)), (8, .sc (.p 208 0)), (7, .sc (.p 192 0))], [(240, .ints .i64 16 z0.2.1), (224, .ints .i64 16 (F21 z0.2.1 z0.1)), (208, .ints .u64 5 z0.2.2.2), (192, .ints .u64 5 (F20 z0.2.2.2 z0.2.2.1))])
                    880 (by kernel_rfl) rfl (by kernel_rfl) (⟨⟨trivial, trivial⟩, ⟨⟨trivial, trivial⟩, ⟨⟨⟨trivial, trivial⟩, trivial⟩, ⟨⟨trivial, trivial⟩, ⟨⟨trivial, trivial⟩, ⟨⟨trivial, trivial⟩, ⟨⟨⟨trivial, trivial⟩, trivial⟩, ⟨⟨trivial, trivial⟩, ⟨⟨⟨trivial, (rfl)⟩, trivial⟩, ⟨⟨⟨trivial, (rfl)⟩, trivial⟩, ⟨⟨⟨trivial, (rfl)⟩, trivial⟩, ⟨⟨⟨trivial, (rfl)⟩, trivial⟩, trivial⟩⟩⟩⟩⟩⟩⟩⟩⟩⟩⟩⟩) ?_
                exact (Sub.ren (ns := [(240, 240), (224, 224), (208, 208), (192, 192)]) (kf := [34, 33, 32, 10, 9, 8, 7]) (s' := ([(34, .sc (.i .i64 ((k0 : Nat) : Int))), (33, .sc (.i .i64 ((p2.length : Nat) : Int))), (32, .sc (.ro .i64 p2)), (10, .sc (.p 240 0)), (9, .sc (.p 224 0)), (8, .sc (.p 208 0)), (7, .sc (.p 192 0))], [(240, .ints .i64 16 z0.2.1), (224, .ints .i64 16 (F21 z0.2.1 z0.1)), (208, .ints .u64 5 z0.2.2.2), (192, .ints .u64 5 (F20 z0.2.2.2 z0.2.2.1))])) (by kernel_rfl) (by kernel_rfl)).trans (Sub.of_eq (by simp only [sel_true, sel_false]))
              ·
                exact (Sub.ren (ns := [(240, 240), (224, 224), (208, 208), (192, 192)]) (kf := [34, 33, 32, 10, 9, 8, 7]) (s' := ([(34, .sc (.i .i64 ((k0 : Nat) : Int))), (33, .sc (.i .i64 ((p2.length : Nat) : Int))), (32, .sc (.ro .i64 p2)), (10, .sc (.p 240 0)), (9, .sc (.p 224 0)), (8, .sc (.p 208 0)), (7, .sc (.p 192 0))], [(240, .ints .i64 16 z0.2.1), (224, .ints .i64 16 (sel (((iRem (iAdd .i64 (iRem (p2.getD k0 0) 3) 3) 3) : Int) == 1) (F19 z0.2.1 z0.1) (F21 z0.2.1 z0.1))), (208, .ints .u64 5 z0.2.2.2), (192, .ints .u64 5 (sel (((iRem (iAdd .i64 (iRem (p2.getD k0 0) 3) 3) 3) : Int) == 1) (F18 z0.2.2.2 z0.2.2.1) (F20 z0.2.2.2 z0.2.2.1)))])) (by kernel_rfl) (by kernel_rfl)).trans (Sub.of_eq (by simp only [sel_true, sel_false]))
            ·
              change Tri _ _ _ _ _ _
              refine Tri.region' [(70, .i .i64 ((k0 + 1 : Nat) : Int))] none [34, 33, 32, 10, 9, 8, 7] [240, 224, 208, 192] ((True ∧ ((iAdd .i64 ((k0 : Nat) : Int) 1) = ((k0 + 1 : Nat) : Int))) ∧ ((True ∧ True) ∧ True))
                  ([(34, .sc (.i .i64 ((k0 + 1 : Nat) : Int))), (33, .sc (.i .i64 ((p2.length : Nat) : Int))), (32, .sc (.ro .i64 p2)), (10, .sc (.p 240 0)), (9, .sc (.p 224 0)), (8, .sc (.p 208 0)), (7, .sc (.p 192 0))], [(240, .ints .i64 16 z0.2.1), (224, .ints .i64 16 (sel (((iRem (iAdd .i64 (iRem (p2.getD k0 0) 3) 3) 3) : Int) == 0) (F17 z0.2.1 z0.1) (sel (((iRem (iAdd .i64 (iRem (p2.getD k0 0) 3) 3) 3) : Int) == 1) (F19 z0.2.1 z0.1) (F21 z0.2.1 z0.1)))), (208, .ints .u64 5 z0.2.2.2), (192, .ints .u64 5 (sel (((iRem (iAdd .i64 (iRem (p2.getD k0 0) 3) 3) 3) : Int) == 0) (F16 z0.2.2.2 z0.2.2.1) (sel (((iRem (iAdd .i64 (iRem (p2.getD k0 0) 3) 3) 3) : Int) == 1) (F18 z0.2.2.2 z0.2.2.1) (F20 z0.2.2.2 z0.2.2.1))))])
                  912 (by kernel_rfl) rfl (by kernel_rfl) (⟨⟨trivial, (iAdd_nat (a := k0) (b := 1) (by omega))⟩, ⟨⟨trivial, trivial⟩, trivial⟩⟩) ?_
              refine countP_normal (by omega) trivial ?_
              exact Sub.ren (ns := [(240, 240), (224, 224), (208, 208), (192, 192)]) (kf := [34, 33, 32, 10, 9, 8, 7]) (by kernel_rfl) (by kernel_rfl)
          ·
            have h4' := of_decide_eq_false h4
            refine Tri.exit ?_
            have hend0 : k0 = (p2.length - 0) := by (have := of_decide_eq_false h4; omega)
            subst hend0; subst hz0
            change Tri _ _ _ _ _ _
            refine Tri.split (F22 ((itr (F3l0 p2) (p2.length - 0) ((F15_3 p0 p1), (F15_2 p0 p1), (F15_1 p0 p1), (F15 p0 p1))).2.2.2) ((itr (F3l0 p2) (p2.length - 0) ((F15_3 p0 p1), (F15_2 p0 p1), (F15_1 p0 p1), (F15 p0 p1))).2.1)) (fun h7 => ?_) (fun h7 => ?_)
            ·
              refine Tri.seq_region [(74, .b true)] none [6] [] ((True ∧ True) ∧ ((True ∧ True) ∧ (((True ∧ True) ∧ True) ∧ ((True ∧ ((F22 ((itr (F3l0 p2) (p2.length - 0) ((F15_3 p0 p1), (F15_2 p0 p1), (F15_1 p0 p1), (F15 p0 p1))).2.2.2) ((itr (F3l0 p2) (p2.length - 0) ((F15_3 p0 p1), (F15_2 p0 p1), (F15_1 p0 p1), (F15 p0 p1))).2.1)) = true)) ∧ ((True ∧ True) ∧ ((True ∧ True) ∧ (((True ∧ True) ∧ True) ∧ ((True ∧ True) ∧ ((True ∧ True) ∧ True)))))))))
                  ([(6, .sc (.b (F22 ((itr (F3l0 p2) (p2.length - 0) ((F15_3 p0 p1), (F15_2 p0 p1), (F15_1 p0 p1), (F15 p0 p1))).2.2.1) ((itr (F3l0 p2) (p2.length - 0) ((F15_3 p0 p1), (F15_2 p0 p1), (F15_1 p0 p1), (F15 p0 p1))).1))))], [])
                  656 (by kernel_rfl) rfl (by kernel_rfl) (⟨⟨trivial, trivial⟩, ⟨⟨trivial, trivial⟩, ⟨⟨⟨trivial, trivial⟩, trivial⟩, ⟨⟨trivial, (h7)⟩, ⟨⟨trivial, trivial⟩, ⟨⟨trivial, trivial⟩, ⟨⟨⟨trivial, trivial⟩, trivial⟩, ⟨⟨trivial, trivial⟩, ⟨⟨trivial, trivial⟩, trivial⟩⟩⟩⟩⟩⟩⟩⟩⟩) ?_
              refine Tri.ret ?_
              repeat (first | refine thenP_ret ?_ | refine blkP_ret ?_ | refine countP_ret ?_ | refine joinP_ret ?_)
              refine endP.conv (r' := ⟨.sc (.b (F22 ((itr (F3l0 p2) (p2.length - 0) ((F15_3 p0 p1), (F15_2 p0 p1), (F15_1 p0 p1), (F15 p0 p1))).2.2.1) ((itr (F3l0 p2) (p2.length - 0) ((F15_3 p0 p1), (F15_2 p0 p1), (F15_1 p0 p1), (F15 p0 p1))).1))), []⟩) (by simp only [F3, h1, h2, h3, h7, sel_true, sel_false]) ?_
              exact endP.ret [] (True ∧ True) (by kernel_rfl) (by kernel_rfl) (by kernel_rfl) ⟨trivial, trivial⟩
            ·
              refine Tri.seq_region [(74, .b false)] none [6] [] ((True ∧ True) ∧ ((True ∧ True) ∧ (((True ∧ True) ∧ True) ∧ ((True ∧ ((F22 ((itr (F3l0 p2) (p2.length - 0) ((F15_3 p0 p1), (F15_2 p0 p1), (F15_1 p0 p1), (F15 p0 p1))).2.2.2) ((itr (F3l0 p2) (p2.length - 0) ((F15_3 p0 p1), (F15_2 p0 p1), (F15_1 p0 p1), (F15 p0 p1))).2.1)) = false)) ∧ ((True ∧ True) ∧ ((True ∧ True) ∧ ((True ∧ True) ∧ ((True ∧ True) ∧ ((True ∧ True) ∧ True)))))))))
                  ([(6, .sc (.b false))], [])
                  656 (by kernel_rfl) rfl (by kernel_rfl) (⟨⟨trivial, trivial⟩, ⟨⟨trivial, trivial⟩, ⟨⟨⟨trivial, trivial⟩, trivial⟩, ⟨⟨trivial, (h7)⟩, ⟨⟨trivial, trivial⟩, ⟨⟨trivial, trivial⟩, ⟨⟨trivial, trivial⟩, ⟨⟨trivial, trivial⟩, ⟨⟨trivial, trivial⟩, trivial⟩⟩⟩⟩⟩⟩⟩⟩⟩) ?_
              refine Tri.ret ?_
              repeat (first | refine thenP_ret ?_ | refine blkP_ret ?_ | refine countP_ret ?_ | refine joinP_ret ?_)
              refine endP.conv (r' := ⟨.sc (.b false), []⟩) (by simp only [F3, h1, h2, h3, h7, sel_true, sel_false]) ?_
              exact endP.ret [] (True ∧ True) (by kernel_rfl) (by kernel_rfl) (by kernel_rfl) ⟨trivial, trivial⟩

end Go.Vm
