/- What the functions compute, and that they do: walked by a printed text. -/
import Derived.Test.YtcfpmiiaicfcnaaWkC
set_option linter.unusedVariables false
set_option linter.unusedSimpArgs false
set_option maxRecDepth 4000
namespace Go.Vm
open Go

noncomputable def F4 (p0 : List Int) (p1 : List Int) : Bool :=
  (sel (!(F14)) false (sel (!(F23_1 p0)) true (sel (decide ((((p1.length : Nat) : Int) : Int) > 100)) true (sel (F22 (F26 (F23 p0) p1) (F27 (F24 p0) p1)) (sel (F22 (F25 (F23 p0)) (F28 (F24 p0))) (sel (F29 (F20 (F23 p0) (F25 (F23 p0))) (F30 1)) true (sel (F29 (F23 p0) (F30 0)) (F29 (F20 (F23 p0) (F25 (F23 p0))) (F30 0)) false)) false) false))))

noncomputable def S4 : List AV → Option (Prop × Ret)
  | [.sc (.ro .u8 p0), .sc (.ro .u8 p1)] => some (True, ⟨.sc (.b (F4 p0 p1)), []⟩)
  | _ => none

noncomputable def B4 : Bs := { P := Go.Proofs.Try.prog, G := noG, tab := tabOf [(14, ⟨[], 0, S14⟩), (20, ⟨[.val, .val], 0, S20⟩), (22, ⟨[.val, .val], 0, S22⟩), (23, ⟨[.ro .u8], 0, S23⟩), (24, ⟨[.ro .u8], 0, S24⟩), (25, ⟨[.val], 0, S25⟩), (26, ⟨[.val, .ro .u8], 0, S26⟩), (27, ⟨[.val, .ro .u8], 0, S27⟩), (28, ⟨[.val], 0, S28⟩), (29, ⟨[.val, .val], 0, S29⟩), (30, ⟨[.val], 0, S30⟩)], n := 58 }

theorem B4.ok : B4.Ok := ⟨tabOk (P := Go.Proofs.Try.prog) (G := noG) (l := [(14, ⟨[], 0, S14⟩), (20, ⟨[.val, .val], 0, S20⟩), (22, ⟨[.val, .val], 0, S22⟩), (23, ⟨[.ro .u8], 0, S23⟩), (24, ⟨[.ro .u8], 0, S24⟩), (25, ⟨[.val], 0, S25⟩), (26, ⟨[.val, .ro .u8], 0, S26⟩), (27, ⟨[.val, .ro .u8], 0, S27⟩), (28, ⟨[.val], 0, S28⟩), (29, ⟨[.val, .val], 0, S29⟩), (30, ⟨[.val], 0, S30⟩)]) (And.intro K14 (And.intro K20 (And.intro K22 (And.intro K23 (And.intro K24 (And.intro K25 (And.intro K26 (And.intro K27 (And.intro K28 (And.intro K29 (And.intro K30 True.intro))))))))))), mixed⟩

theorem K4 : Known Go.Proofs.Try.prog noG 4 ⟨[.ro .u8, .ro .u8], 0, S4⟩ := by
  refine Known.walk (B := B4) (fn := Go.Proofs.Try.f4) B4.ok (by kernel_rfl) rfl (by kernel_rfl) (by kernel_rfl) (by decide) ?_ ?_
  · intro vs C r h
    simp only at h
    unfold S4 at h
    split at h
    · cases h; rfl
    · cases h
  · intro E args C r h hC hlen
    simp only at h
    unfold S4 at h
    split at h
    rotate_left
    · cases h
    rename_i p0 p1
    cases h
    simp only [lens] at hlen
    refine ⟨show 2 ≤ 58 from by decide, ?_⟩
    refine Tri.sub (Sub.of_eq (show _ = ([(0, .sc (.ro .u8 p0)), (1, .sc (.ro .u8 p1))], []) from rfl)) ?_
    refine Tri.seq_region [] none [0, 1] [] ((True ∧ True) ∧ True)
        ([(0, .sc (.ro .u8 p0)), (1, .sc (.ro .u8 p1))], [])
        16 (by kernel_rfl) rfl (by kernel_rfl) (⟨⟨trivial, trivial⟩, trivial⟩) ?_
    refine Tri.seq ?_
    refine Tri.seq_region [] none [10, 0, 1] [] (((True ∧ True) ∧ True) ∧ ((True ∧ True) ∧ True))
        ([(10, .sc (.b (!(F14)))), (0, .sc (.ro .u8 p0)), (1, .sc (.ro .u8 p1))], [])
        48 (by kernel_rfl) rfl (by kernel_rfl) (⟨⟨⟨trivial, trivial⟩, trivial⟩, ⟨⟨trivial, trivial⟩, trivial⟩⟩) ?_
    refine Tri.cond (x := (!(F14))) (by kernel_rfl) (fun h1 => ?_) (fun h1 => ?_)
    ·
      refine Tri.seq_region [] none [4] [] ((True ∧ True) ∧ True)
          ([(4, .sc (.b false))], [])
          64 (by kernel_rfl) rfl (by kernel_rfl) (⟨⟨trivial, trivial⟩, trivial⟩) ?_
      refine Tri.ret ?_
      repeat (first | refine thenP_ret ?_ | refine blkP_ret ?_ | refine countP_ret ?_ | refine joinP_ret ?_)
      refine endP.conv (r' := ⟨.sc (.b false), []⟩) (by simp only [F4, h1, sel_true, sel_false]) ?_
      exact endP.ret [] (True ∧ True) (by kernel_rfl) (by kernel_rfl) (by kernel_rfl) ⟨trivial, trivial⟩
    ·
      refine Tri.skip ?_
      change Tri _ _ _ _ _ _
      refine Tri.seq_region [] none [6, 5, 0, 1] [128] ((True ∧ True) ∧ (((True ∧ True) ∧ True) ∧ ((True ∧ True) ∧ ((True ∧ True) ∧ ((True ∧ True) ∧ ((True ∧ True) ∧ (((True ∧ (5 = 5)) ∧ True) ∧ ((True ∧ True) ∧ True))))))))
          ([(6, .sc (.b (F23_1 p0))), (5, .sc (.p 128 0)), (0, .sc (.ro .u8 p0)), (1, .sc (.ro .u8 p1))], [(128, .ints .u64 5 (F23 p0))])
          176 (by kernel_rfl) rfl (by kernel_rfl) (⟨⟨trivial, trivial⟩, ⟨⟨⟨trivial, trivial⟩, trivial⟩, ⟨⟨trivial, trivial⟩, ⟨⟨trivial, trivial⟩, ⟨⟨trivial, trivial⟩, ⟨⟨trivial, trivial⟩, ⟨⟨⟨trivial, (rfl)⟩, trivial⟩, ⟨⟨trivial, trivial⟩, trivial⟩⟩⟩⟩⟩⟩⟩⟩) ?_
      refine Tri.seq ?_
      refine Tri.split (!(F23_1 p0)) (fun h2 => ?_) (fun h2 => ?_)
      ·
        refine Tri.seq_region [(18, .b true)] none [22, 5, 0, 1] [128] ((True ∧ True) ∧ ((True ∧ True) ∧ ((True ∧ ((!(F23_1 p0)) = true)) ∧ ((True ∧ True) ∧ ((True ∧ True) ∧ ((True ∧ True) ∧ ((True ∧ True) ∧ True)))))))
            ([(22, .sc (.b true)), (5, .sc (.p 128 0)), (0, .sc (.ro .u8 p0)), (1, .sc (.ro .u8 p1))], [(128, .ints .u64 5 (F23 p0))])
            288 (by kernel_rfl) rfl (by kernel_rfl) (⟨⟨trivial, trivial⟩, ⟨⟨trivial, trivial⟩, ⟨⟨trivial, (h2)⟩, ⟨⟨trivial, trivial⟩, ⟨⟨trivial, trivial⟩, ⟨⟨trivial, trivial⟩, ⟨⟨trivial, trivial⟩, trivial⟩⟩⟩⟩⟩⟩⟩) ?_
        refine Tri.cond_true (by kernel_rfl) ?_
        refine Tri.seq_region [] none [4] [] ((True ∧ True) ∧ True)
            ([(4, .sc (.b true))], [])
            304 (by kernel_rfl) rfl (by kernel_rfl) (⟨⟨trivial, trivial⟩, trivial⟩) ?_
        refine Tri.ret ?_
        repeat (first | refine thenP_ret ?_ | refine blkP_ret ?_ | refine countP_ret ?_ | refine joinP_ret ?_)
        refine endP.conv (r' := ⟨.sc (.b true), []⟩) (by simp only [F4, h1, h2, sel_true, sel_false]) ?_
        exact endP.ret [] (True ∧ True) (by kernel_rfl) (by kernel_rfl) (by kernel_rfl) ⟨trivial, trivial⟩
      ·
        refine Tri.seq_region [(18, .b false)] none [22, 5, 0, 1] [128] ((True ∧ True) ∧ ((True ∧ True) ∧ ((True ∧ ((!(F23_1 p0)) = false)) ∧ ((True ∧ True) ∧ ((True ∧ True) ∧ ((True ∧ True) ∧ ((True ∧ True) ∧ True)))))))
            ([(22, .sc (.b (decide ((((p1.length : Nat) : Int) : Int) > 100)))), (5, .sc (.p 128 0)), (0, .sc (.ro .u8 p0)), (1, .sc (.ro .u8 p1))], [(128, .ints .u64 5 (F23 p0))])
            288 (by kernel_rfl) rfl (by kernel_rfl) (⟨⟨trivial, trivial⟩, ⟨⟨trivial, trivial⟩, ⟨⟨trivial, (h2)⟩, ⟨⟨trivial, trivial⟩, ⟨⟨trivial, trivial⟩, ⟨⟨trivial, trivial⟩, ⟨⟨trivial, trivial⟩, trivial⟩⟩⟩⟩⟩⟩⟩) ?_
        refine Tri.cond (x := (decide ((((p1.length : Nat) : Int) : Int) > 100))) (by kernel_rfl) (fun h3 => ?_) (fun h3 => ?_)
        ·
          have h3' := of_decide_eq_true h3
          refine Tri.seq_region [] none [4] [] ((True ∧ True) ∧ True)
              ([(4, .sc (.b true))], [])
              304 (by kernel_rfl) rfl (by kernel_rfl) (⟨⟨trivial, trivial⟩, trivial⟩) ?_
          refine Tri.ret ?_
          repeat (first | refine thenP_ret ?_ | refine blkP_ret ?_ | refine countP_ret ?_ | refine joinP_ret ?_)
          refine endP.conv (r' := ⟨.sc (.b true), []⟩) (by simp only [F4, h1, h2, h3, sel_true, sel_false]) ?_
          exact endP.ret [] (True ∧ True) (by kernel_rfl) (by kernel_rfl) (by kernel_rfl) ⟨trivial, trivial⟩
        ·
          have h3' := of_decide_eq_false h3
          refine Tri.skip ?_
          change Tri _ _ _ _ _ _
          refine Tri.seq_region [] none [7, 5, 1] [320, 128] ((True ∧ True) ∧ (((True ∧ (p0.length = 32)) ∧ True) ∧ ((True ∧ True) ∧ (((True ∧ (16 = 16)) ∧ True) ∧ True))))
              ([(7, .sc (.p 320 0)), (5, .sc (.p 128 0)), (1, .sc (.ro .u8 p1))], [(320, .ints .i64 16 (F24 p0)), (128, .ints .u64 5 (F23 p0))])
              352 (by kernel_rfl) rfl (by kernel_rfl) (⟨⟨trivial, trivial⟩, ⟨⟨⟨trivial, (by first | exact len23' h1 | exact len23' h2 | exact len23' h3)⟩, trivial⟩, ⟨⟨trivial, trivial⟩, ⟨⟨⟨trivial, (rfl)⟩, trivial⟩, trivial⟩⟩⟩⟩) ?_
          refine Tri.seq_region [] (some [0, 0, 2, 7, 0, 31]) [8, 7, 5, 1] [416, 320, 128] ((True ∧ True) ∧ ((True ∧ True) ∧ (((True ∧ True) ∧ True) ∧ (((True ∧ True) ∧ True) ∧ ((True ∧ True) ∧ (((True ∧ (5 = 5)) ∧ True) ∧ True))))))
              ([(8, .sc (.p 416 0)), (7, .sc (.p 320 0)), (5, .sc (.p 128 0)), (1, .sc (.ro .u8 p1))], [(416, .ints .u64 5 (F20 (F23 p0) (F25 (F23 p0)))), (320, .ints .i64 16 (F24 p0)), (128, .ints .u64 5 (F23 p0))])
              448 (by kernel_rfl) rfl (by kernel_rfl) (⟨⟨trivial, trivial⟩, ⟨⟨trivial, trivial⟩, ⟨⟨⟨trivial, trivial⟩, trivial⟩, ⟨⟨⟨trivial, trivial⟩, trivial⟩, ⟨⟨trivial, trivial⟩, ⟨⟨⟨trivial, (rfl)⟩, trivial⟩, trivial⟩⟩⟩⟩⟩⟩) ?_
          refine Tri.split (F22 (F26 (F23 p0) p1) (F27 (F24 p0) p1)) (fun h4 => ?_) (fun h4 => ?_)
          ·
            refine Tri.split (F22 (F25 (F23 p0)) (F28 (F24 p0))) (fun h5 => ?_) (fun h5 => ?_)
            ·
              refine Tri.split (F29 (F20 (F23 p0) (F25 (F23 p0))) (F30 1)) (fun h6 => ?_) (fun h6 => ?_)
              ·
                refine Tri.seq_region [(36, .b true), (43, .b true), (47, .b true)] (some [0, 0, 3, 0, 0, 31, 63, 127, 255, 511, 255, 2047, 4095, 8191, 16383, 32767, 32767, 131071, 262143, 524287, 524287, 2097151, 4194303, 8388607, 8388607, 33554431, 67108863, 134217727, 268435455, 536870911]) [4] [] ((True ∧ True) ∧ ((True ∧ True) ∧ (((True ∧ (p1.length ≤ 1000000)) ∧ True) ∧ ((True ∧ True) ∧ ((True ∧ True) ∧ (((True ∧ (p1.length ≤ 1000000)) ∧ True) ∧ (((True ∧ True) ∧ True) ∧ ((True ∧ ((F22 (F26 (F23 p0) p1) (F27 (F24 p0) p1)) = true)) ∧ ((True ∧ True) ∧ (((True ∧ True) ∧ True) ∧ ((True ∧ True) ∧ (((True ∧ True) ∧ True) ∧ (((True ∧ True) ∧ True) ∧ ((True ∧ True) ∧ ((True ∧ ((F22 (F25 (F23 p0)) (F28 (F24 p0))) = true)) ∧ ((True ∧ True) ∧ (((True ∧ True) ∧ True) ∧ (((True ∧ True) ∧ True) ∧ ((True ∧ ((F29 (F20 (F23 p0) (F25 (F23 p0))) (F30 1)) = true)) ∧ ((True ∧ True) ∧ ((True ∧ True) ∧ ((True ∧ True) ∧ ((True ∧ True) ∧ ((True ∧ True) ∧ ((True ∧ True) ∧ ((True ∧ True) ∧ ((True ∧ True) ∧ ((True ∧ True) ∧ ((True ∧ True) ∧ ((True ∧ True) ∧ True))))))))))))))))))))))))))))))
                    ([(4, .sc (.b true))], [])
                    928 (by kernel_rfl) rfl (by kernel_rfl) (⟨⟨trivial, trivial⟩, ⟨⟨trivial, trivial⟩, ⟨⟨⟨trivial, (by omega)⟩, trivial⟩, ⟨⟨trivial, trivial⟩, ⟨⟨trivial, trivial⟩, ⟨⟨⟨trivial, (by omega)⟩, trivial⟩, ⟨⟨⟨trivial, trivial⟩, trivial⟩, ⟨⟨trivial, (h4)⟩, ⟨⟨trivial, trivial⟩, ⟨⟨⟨trivial, trivial⟩, trivial⟩, ⟨⟨trivial, trivial⟩, ⟨⟨⟨trivial, trivial⟩, trivial⟩, ⟨⟨⟨trivial, trivial⟩, trivial⟩, ⟨⟨trivial, trivial⟩, ⟨⟨trivial, (h5)⟩, ⟨⟨trivial, trivial⟩, ⟨⟨⟨trivial, trivial⟩, trivial⟩, ⟨⟨⟨trivial, trivial⟩, trivial⟩, ⟨⟨trivial, (h6)⟩, ⟨⟨trivial, trivial⟩, ⟨⟨trivial, trivial⟩, ⟨⟨trivial, trivial⟩, ⟨⟨trivial, trivial⟩, ⟨⟨trivial, trivial⟩, ⟨⟨trivial, trivial⟩, ⟨⟨trivial, trivial⟩, ⟨⟨trivial, trivial⟩, ⟨⟨trivial, trivial⟩, ⟨⟨trivial, trivial⟩, ⟨⟨trivial, trivial⟩, trivial⟩⟩⟩⟩⟩⟩⟩⟩⟩⟩⟩⟩⟩⟩⟩⟩⟩⟩⟩⟩⟩⟩⟩⟩⟩⟩⟩⟩⟩⟩) ?_
                refine Tri.ret ?_
                repeat (first | refine thenP_ret ?_ | refine blkP_ret ?_ | refine countP_ret ?_ | refine joinP_ret ?_)
                refine endP.conv (r' := ⟨.sc (.b true), []⟩) (by simp only [F4, h1, h2, h3, h4, h5, h6, sel_true, sel_false]) ?_
                exact endP.ret [] (True ∧ True) (by kernel_rfl) (by kernel_rfl) (by kernel_rfl) ⟨trivial, trivial⟩
              ·
                refine Tri.split (F29 (F23 p0) (F30 0)) (fun h7 => ?_) (fun h7 => ?_)
                ·
                  refine Tri.seq_region [(36, .b true), (43, .b true), (47, .b false), (51, .b true)] (some [0, 0, 3, 0, 0, 31, 63, 127, 255, 511, 255, 2047, 4095, 8191, 16383, 32767, 32767, 131071, 262143, 524287, 524287, 2097151, 4194303, 8388607, 8388607, 33554431, 67108863, 134217727, 268435455, 536870911]) [4] [] ((True ∧ True) ∧ ((True ∧ True) ∧ (((True ∧ (p1.length ≤ 1000000)) ∧ True) ∧ ((True ∧ True) ∧ ((True ∧ True) ∧ (((True ∧ (p1.length ≤ 1000000)) ∧ True) ∧ (((True ∧ True) ∧ True) ∧ ((True ∧ ((F22 (F26 (F23 p0) p1) (F27 (F24 p0) p1)) = true)) ∧ ((True ∧ True) ∧ (((True ∧ True) ∧ True) ∧ ((True ∧ True) ∧ (((True ∧ True) ∧ True) ∧ (((True ∧ True) ∧ True) ∧ ((True ∧ True) ∧ ((True ∧ ((F22 (F25 (F23 p0)) (F28 (F24 p0))) = true)) ∧ ((True ∧ True) ∧ (((True ∧ True) ∧ True) ∧ (((True ∧ True) ∧ True) ∧ ((True ∧ ((F29 (F20 (F23 p0) (F25 (F23 p0))) (F30 1)) = false)) ∧ ((True ∧ True) ∧ (((True ∧ True) ∧ True) ∧ (((True ∧ True) ∧ True) ∧ ((True ∧ ((F29 (F23 p0) (F30 0)) = true)) ∧ ((True ∧ True) ∧ (((True ∧ True) ∧ True) ∧ (((True ∧ True) ∧ True) ∧ ((True ∧ True) ∧ ((True ∧ True) ∧ ((True ∧ True) ∧ ((True ∧ True) ∧ True))))))))))))))))))))))))))))))
                      ([(4, .sc (.b (F29 (F20 (F23 p0) (F25 (F23 p0))) (F30 0))))], [])
                      928 (by kernel_rfl) rfl (by kernel_rfl) (⟨⟨trivial, trivial⟩, ⟨⟨trivial, trivial⟩, ⟨⟨⟨trivial, (by omega)⟩, trivial⟩, ⟨⟨trivial, trivial⟩, ⟨⟨trivial, trivial⟩, ⟨⟨⟨trivial, (by omega)⟩, trivial⟩, ⟨⟨⟨trivial, trivial⟩, trivial⟩, ⟨⟨trivial, (h4)⟩, ⟨⟨trivial, trivial⟩, ⟨⟨⟨trivial, trivial⟩, trivial⟩, ⟨⟨trivial, trivial⟩, ⟨⟨⟨trivial, trivial⟩, trivial⟩, ⟨⟨⟨trivial, trivial⟩, trivial⟩, ⟨⟨trivial, trivial⟩, ⟨⟨trivial, (h5)⟩, ⟨⟨trivial, trivial⟩, ⟨⟨⟨trivial, trivial⟩, trivial⟩, ⟨⟨⟨trivial, trivial⟩, trivial⟩, ⟨⟨trivial, (h6)⟩, ⟨⟨trivial, trivial⟩, ⟨⟨⟨trivial, trivial⟩, trivial⟩, ⟨⟨⟨trivial, trivial⟩, trivial⟩, ⟨⟨trivial, (h7)⟩, ⟨⟨trivial, trivial⟩, ⟨⟨⟨trivial, trivial⟩, trivial⟩, ⟨⟨⟨trivial, trivial⟩, trivial⟩, ⟨⟨trivial, trivial⟩, ⟨⟨trivial, trivial⟩, ⟨⟨trivial, trivial⟩, ⟨⟨trivial, trivial⟩, trivial⟩⟩⟩⟩⟩⟩⟩⟩⟩⟩⟩⟩⟩⟩⟩⟩⟩⟩⟩⟩⟩⟩⟩⟩⟩⟩⟩⟩⟩⟩) ?_
                  refine Tri.ret ?_
                  repeat (first | refine thenP_ret ?_ | refine blkP_ret ?_ | refine countP_ret ?_ | refine joinP_ret ?_)
                  refine endP.conv (r' := ⟨.sc (.b (F29 (F20 (F23 p0) (F25 (F23 p0))) (F30 0))), []⟩) (by simp only [F4, h1, h2, h3, h4, h5, h6, h7, sel_true, sel_false]) ?_
                  exact endP.ret [] (True ∧ True) (by kernel_rfl) (by kernel_rfl) (by kernel_rfl) ⟨trivial, trivial⟩
                ·
                  refine Tri.seq_region [(36, .b true), (43, .b true), (47, .b false), (51, .b false)] (some [0, 0, 3, 0, 0, 31, 63, 127, 255, 511, 255, 2047, 4095, 8191, 16383, 32767, 32767, 131071, 262143, 524287, 524287, 2097151, 4194303, 8388607, 8388607, 33554431, 67108863, 134217727, 268435455, 536870911]) [4] [] ((True ∧ True) ∧ ((True ∧ True) ∧ (((True ∧ (p1.length ≤ 1000000)) ∧ True) ∧ ((True ∧ True) ∧ ((True ∧ True) ∧ (((True ∧ (p1.length ≤ 1000000)) ∧ True) ∧ (((True ∧ True) ∧ True) ∧ ((True ∧ ((F22 (F26 (F23 p0) p1) (F27 (F24 p0) p1)) = true)) ∧ ((True ∧ True) ∧ (((True ∧ True) ∧ True) ∧ ((True ∧ True) ∧ (((True ∧ True) ∧ True) ∧ (((True ∧ True) ∧ True) ∧ ((True ∧ True) ∧ ((True ∧ ((F22 (F25 (F23 p0)) (F28 (F24 p0))) = true)) ∧ ((True ∧ True) ∧ (((True ∧ True) ∧ True) ∧ (((True ∧ True) ∧ True) ∧ ((True ∧ ((F29 (F20 (F23 p0) (F25 (F23 p0))) (F30 1)) = false)) ∧ ((True ∧ True) ∧ (((True ∧ True) ∧ True) ∧ (((True ∧ True) ∧ True) ∧ ((True ∧ ((F29 (F23 p0) (F30 0)) = false)) ∧ ((True ∧ True) ∧ ((True ∧ True) ∧ ((True ∧ True) ∧ ((True ∧ True) ∧ ((True ∧ True) ∧ ((True ∧ True) ∧ ((True ∧ True) ∧ True))))))))))))))))))))))))))))))
                      ([(4, .sc (.b false))], [])
                      928 (by kernel_rfl) rfl (by kernel_rfl) (⟨⟨trivial, trivial⟩, ⟨⟨trivial, trivial⟩, ⟨⟨⟨trivial, (by omega)⟩, trivial⟩, ⟨⟨trivial, trivial⟩, ⟨⟨trivial, trivial⟩, ⟨⟨⟨trivial, (by omega)⟩, trivial⟩, ⟨⟨⟨trivial, trivial⟩, trivial⟩, ⟨⟨trivial, (h4)⟩, ⟨⟨trivial, trivial⟩, ⟨⟨⟨trivial, trivial⟩, trivial⟩, ⟨⟨trivial, trivial⟩, ⟨⟨⟨trivial, trivial⟩, trivial⟩, ⟨⟨⟨trivial, trivial⟩, trivial⟩, ⟨⟨trivial, trivial⟩, ⟨⟨trivial, (h5)⟩, ⟨⟨trivial, trivial⟩, ⟨⟨⟨trivial, trivial⟩, trivial⟩, ⟨⟨⟨trivial, trivial⟩, trivial⟩, ⟨⟨trivial, (h6)⟩, ⟨⟨trivial, trivial⟩, ⟨⟨⟨trivial, trivial⟩, trivial⟩, ⟨⟨⟨trivial, trivial⟩, trivial⟩, ⟨⟨trivial, (h7)⟩, ⟨⟨trivial, trivial⟩, ⟨⟨trivial, trivial⟩, ⟨⟨trivial, trivial⟩, ⟨⟨trivial, trivial⟩, ⟨⟨trivial, trivial⟩, ⟨⟨trivial, trivial⟩, ⟨⟨trivial, trivial⟩, trivial⟩⟩⟩⟩⟩⟩⟩⟩⟩⟩⟩⟩⟩⟩⟩⟩⟩⟩⟩⟩⟩⟩⟩⟩⟩⟩⟩⟩⟩⟩) ?_
                  refine Tri.ret ?_
                  repeat (first | refine thenP_ret ?_ | refine blkP_ret ?_ | refine countP_ret ?_ | refine joinP_ret ?_)
                  refine endP.conv (r' := ⟨.sc (.b false), []⟩) (by simp only [F4, h1, h2, h3, h4, h5, h6, h7, sel_true, sel_false]) ?_
                  exact endP.ret [] (True ∧ True) (by kernel_rfl) (by kernel_rfl) (by kernel_rfl) ⟨trivial, trivial⟩
            ·
              refine Tri.seq_region [(36, .b true), (43, .b false)] (some [0, 0, 3, 0, 0, 31, 63, 127, 255, 511, 255, 2047, 4095, 8191, 16383, 32767, 32767, 131071, 262143, 524287, 524287, 2097151, 4194303, 8388607, 8388607, 33554431, 67108863, 134217727, 268435455, 536870911]) [4] [] ((True ∧ True) ∧ ((True ∧ True) ∧ (((True ∧ (p1.length ≤ 1000000)) ∧ True) ∧ ((True ∧ True) ∧ ((True ∧ True) ∧ (((True ∧ (p1.length ≤ 1000000)) ∧ True) ∧ (((True ∧ True) ∧ True) ∧ ((True ∧ ((F22 (F26 (F23 p0) p1) (F27 (F24 p0) p1)) = true)) ∧ ((True ∧ True) ∧ (((True ∧ True) ∧ True) ∧ ((True ∧ True) ∧ (((True ∧ True) ∧ True) ∧ (((True ∧ True) ∧ True) ∧ ((True ∧ True) ∧ ((True ∧ ((F22 (F25 (F23 p0)) (F28 (F24 p0))) = false)) ∧ ((True ∧ True) ∧ ((True ∧ True) ∧ ((True ∧ True) ∧ ((True ∧ True) ∧ ((True ∧ True) ∧ ((True ∧ True) ∧ ((True ∧ True) ∧ ((True ∧ True) ∧ ((True ∧ True) ∧ ((True ∧ True) ∧ ((True ∧ True) ∧ ((True ∧ True) ∧ ((True ∧ True) ∧ ((True ∧ True) ∧ ((True ∧ True) ∧ True))))))))))))))))))))))))))))))
                  ([(4, .sc (.b false))], [])
                  928 (by kernel_rfl) rfl (by kernel_rfl) (⟨⟨trivial, trivial⟩, ⟨⟨trivial, trivial⟩, ⟨⟨⟨trivial, (by omega)⟩, trivial⟩, ⟨⟨trivial, trivial⟩, ⟨⟨trivial, trivial⟩, ⟨⟨⟨trivial, (by omega)⟩, trivial⟩, ⟨⟨⟨trivial, trivial⟩, trivial⟩, ⟨⟨trivial, (h4)⟩, ⟨⟨trivial, trivial⟩, ⟨⟨⟨trivial, trivial⟩, trivial⟩, ⟨⟨trivial, trivial⟩, ⟨⟨⟨trivial, trivial⟩, trivial⟩, ⟨⟨⟨trivial, trivial⟩, trivial⟩, ⟨⟨trivial, trivial⟩, ⟨⟨trivial, (h5)⟩, ⟨⟨trivial, trivial⟩, ⟨⟨trivial, trivial⟩, ⟨⟨trivial, trivial⟩, ⟨⟨trivial, trivial⟩, ⟨⟨trivial, trivial⟩, ⟨⟨trivial, trivial⟩, ⟨⟨trivial, trivial⟩, ⟨⟨trivial, trivial⟩, ⟨⟨trivial, trivial⟩, ⟨⟨trivial, trivial⟩, ⟨⟨trivial, trivial⟩, ⟨⟨trivial, trivial⟩, ⟨⟨trivial, trivial⟩, ⟨⟨trivial, trivial⟩, ⟨⟨trivial, trivial⟩, trivial⟩⟩⟩⟩⟩⟩⟩⟩⟩⟩⟩⟩⟩⟩⟩⟩⟩⟩⟩⟩⟩⟩⟩⟩⟩⟩⟩⟩⟩⟩) ?_
              refine Tri.ret ?_
              repeat (first | refine thenP_ret ?_ | refine blkP_ret ?_ | refine countP_ret ?_ | refine joinP_ret ?_)
              refine endP.conv (r' := ⟨.sc (.b false), []⟩) (by simp only [F4, h1, h2, h3, h4, h5, sel_true, sel_false]) ?_
              exact endP.ret [] (True ∧ True) (by kernel_rfl) (by kernel_rfl) (by kernel_rfl) ⟨trivial, trivial⟩
          ·
            refine Tri.seq_region [(36, .b false)] (some [0, 0, 3, 0, 0, 31, 63, 127, 255, 511, 255, 2047, 4095, 8191, 16383, 32767, 32767, 131071, 262143, 524287, 524287, 2097151, 4194303, 8388607, 8388607, 33554431, 67108863, 134217727, 268435455, 536870911]) [4] [] ((True ∧ True) ∧ ((True ∧ True) ∧ (((True ∧ (p1.length ≤ 1000000)) ∧ True) ∧ ((True ∧ True) ∧ ((True ∧ True) ∧ (((True ∧ (p1.length ≤ 1000000)) ∧ True) ∧ (((True ∧ True) ∧ True) ∧ ((True ∧ ((F22 (F26 (F23 p0) p1) (F27 (F24 p0) p1)) = false)) ∧ ((True ∧ True) ∧ ((True ∧ True) ∧ ((True ∧ True) ∧ ((True ∧ True) ∧ ((True ∧ True) ∧ ((True ∧ True) ∧ ((True ∧ True) ∧ ((True ∧ True) ∧ ((True ∧ True) ∧ ((True ∧ True) ∧ ((True ∧ True) ∧ ((True ∧ True) ∧ ((True ∧ True) ∧ ((True ∧ True) ∧ ((True ∧ True) ∧ ((True ∧ True) ∧ ((True ∧ True) ∧ ((True ∧ True) ∧ ((True ∧ True) ∧ ((True ∧ True) ∧ ((True ∧ True) ∧ ((True ∧ True) ∧ True))))))))))))))))))))))))))))))
                ([(4, .sc (.b false))], [])
                928 (by kernel_rfl) rfl (by kernel_rfl) (⟨⟨trivial, trivial⟩, ⟨⟨trivial, trivial⟩, ⟨⟨⟨trivial, (by omega)⟩, trivial⟩, ⟨⟨trivial, trivial⟩, ⟨⟨trivial, trivial⟩, ⟨⟨⟨trivial, (by omega)⟩, trivial⟩, ⟨⟨⟨trivial, trivial⟩, trivial⟩, ⟨⟨trivial, (h4)⟩, ⟨⟨trivial, trivial⟩, ⟨⟨trivial, trivial⟩, ⟨⟨trivial, trivial⟩, ⟨⟨trivial, trivial⟩, ⟨⟨trivial, trivial⟩, ⟨⟨trivial, trivial⟩, ⟨⟨trivial, trivial⟩, ⟨⟨trivial, trivial⟩, ⟨⟨trivial, trivial⟩, ⟨⟨trivial, trivial⟩, ⟨⟨trivial, trivial⟩, ⟨⟨trivial, trivial⟩, ⟨⟨trivial, trivial⟩, ⟨⟨trivial, trivial⟩, ⟨⟨trivial, trivial⟩, ⟨⟨trivial, trivial⟩, ⟨⟨trivial, trivial⟩, ⟨⟨trivial, trivial⟩, ⟨⟨trivial, trivial⟩, ⟨⟨trivial, trivial⟩, ⟨⟨trivial, trivial⟩, ⟨⟨trivial, trivial⟩, trivial⟩⟩⟩⟩⟩⟩⟩⟩⟩⟩⟩⟩⟩⟩⟩⟩⟩⟩⟩⟩⟩⟩⟩⟩⟩⟩⟩⟩⟩⟩) ?_
            refine Tri.ret ?_
            repeat (first | refine thenP_ret ?_ | refine blkP_ret ?_ | refine countP_ret ?_ | refine joinP_ret ?_)
            refine endP.conv (r' := ⟨.sc (.b false), []⟩) (by simp only [F4, h1, h2, h3, h4, sel_true, sel_false]) ?_
            exact endP.ret [] (True ∧ True) (by kernel_rfl) (by kernel_rfl) (by kernel_rfl) ⟨trivial, trivial⟩

end Go.Vm
