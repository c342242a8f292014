/- What the functions compute, and that they do: walked by a printed text. -/
import Derived.Test.YtclfmaifcelcpaaDoorDgD
set_option linter.unusedVariables false
set_option linter.unusedSimpArgs false
set_option maxRecDepth 4000
namespace Go.Vm
open Go

noncomputable def F8 (p0 : ByteArray) (p1 : Int) : Bool :=
  (sel (!(F33)) false (sel (decide ((((p0.size : Nat) : Int) : Int) > 2000)) true (strEq (bytesOf (((F38 p0 p1).drop 0).take 32)) (bytesOf (((F39 p0 p1).drop 0).take 32)))))

noncomputable def S8 : List AV → Option (Prop × Ret)
  | [.sc (.s p0), .sc (.i .u64 p1)] => some (True, ⟨.sc (.b (F8 p0 p1)), []⟩)
  | _ => none

noncomputable def B8 : Bs := { P := Go.Proofs.Tryd.prog, G := gD, tab := tabOf [(33, ⟨[], 0, S33⟩), (38, ⟨[.val, .val], 0, S38⟩), (39, ⟨[.val, .val], 1, S39⟩)], n := 21 }

theorem B8.ok : B8.Ok := ⟨tabOk (P := Go.Proofs.Tryd.prog) (G := gD) (l := [(33, ⟨[], 0, S33⟩), (38, ⟨[.val, .val], 0, S38⟩), (39, ⟨[.val, .val], 1, S39⟩)]) (And.intro K33 (And.intro K38 (And.intro K39 True.intro))), mixed⟩

theorem K8 : Known Go.Proofs.Tryd.prog gD 8 ⟨[.val, .val], 0, S8⟩ := by
  refine Known.walk (B := B8) (fn := Go.Proofs.Tryd.f8) B8.ok (by kernel_rfl) rfl (by kernel_rfl) (by kernel_rfl) (by decide) ?_ ?_
  · intro vs C r h
    simp only at h
    unfold S8 at h
    split at h
    · cases h; rfl
    · cases h
  · intro E args C r h hC hlen
    simp only at h
    unfold S8 at h
    split at h
    rotate_left
    · cases h
    rename_i p0 p1
    cases h
    simp only [lens] at hlen
    refine ⟨show 2 ≤ 21 from by decide, ?_⟩
    refine Tri.sub (Sub.of_eq (show _ = ([(0, .sc (.s p0)), (1, .sc (.i .u64 p1))], []) from rfl)) ?_
    refine Tri.seq_region [] none [0, 1] [] ((True ∧ True) ∧ True)
        ([(0, .sc (.s p0)), (1, .sc (.i .u64 p1))], [])
        16 (by kernel_rfl) rfl (by kernel_rfl) (⟨⟨trivial, trivial⟩, trivial⟩) ?_
    refine Tri.seq ?_
    refine Tri.seq_region [] none [7, 0, 1] [] (((True ∧ True) ∧ True) ∧ ((True ∧ True) ∧ True))
        ([(7, .sc (.b (!(F33)))), (0, .sc (.s p0)), (1, .sc (.i .u64 p1))], [])
        48 (by kernel_rfl) rfl (by kernel_rfl) (⟨⟨⟨trivial, trivial⟩, trivial⟩, ⟨⟨trivial, trivial⟩, trivial⟩⟩) ?_
    refine Tri.cond (x := (!(F33))) (by kernel_rfl) (fun h1 => ?_) (fun h1 => ?_)
    ·
      refine Tri.seq_region [] none [4] [] ((True ∧ True) ∧ True)
          ([(4, .sc (.b false))], [])
          64 (by kernel_rfl) rfl (by kernel_rfl) (⟨⟨trivial, trivial⟩, trivial⟩) ?_
      refine Tri.ret ?_
      repeat (first | refine thenP_ret ?_ | refine blkP_ret ?_ | refine countP_ret ?_ | refine joinP_ret ?_)
      refine endP.conv (r' := ⟨.sc (.b false), []⟩) (by simp only [F8, h1, sel_true, sel_false]) ?_
      exact endP.ret [] (True ∧ True) (by kernel_rfl) (by kernel_rfl) (by kernel_rfl) ⟨trivial, trivial⟩
    ·
      refine Tri.skip ?_
      change Tri _ _ _ _ _ _
      refine Tri.seq ?_
      refine Tri.seq_region [] none [10, 0, 1] [] ((True ∧ True) ∧ ((True ∧ True) ∧ ((True ∧ True) ∧ True)))
          ([(10, .sc (.b (decide ((((p0.size : Nat) : Int) : Int) > 2000)))), (0, .sc (.s p0)), (1, .sc (.i .u64 p1))], [])
          96 (by kernel_rfl) rfl (by kernel_rfl) (⟨⟨trivial, trivial⟩, ⟨⟨trivial, trivial⟩, ⟨⟨trivial, trivial⟩, trivial⟩⟩⟩) ?_
      refine Tri.cond (x := (decide ((((p0.size : Nat) : Int) : Int) > 2000))) (by kernel_rfl) (fun h2 => ?_) (fun h2 => ?_)
      ·
        have h2' := of_decide_eq_true h2
        refine Tri.seq_region [] none [4] [] ((True ∧ True) ∧ True)
            ([(4, .sc (.b true))], [])
            112 (by kernel_rfl) rfl (by kernel_rfl) (⟨⟨trivial, trivial⟩, trivial⟩) ?_
        refine Tri.ret ?_
        repeat (first | refine thenP_ret ?_ | refine blkP_ret ?_ | refine countP_ret ?_ | refine joinP_ret ?_)
        refine endP.conv (r' := ⟨.sc (.b true), []⟩) (by simp only [F8, h1, h2, sel_true, sel_false]) ?_
        exact endP.ret [] (True ∧ True) (by kernel_rfl) (by kernel_rfl) (by kernel_rfl) ⟨trivial, trivial⟩
      ·
        have h2' := of_decide_eq_false h2
        refine Tri.skip ?_
        change Tri _ _ _ _ _ _
        refine Tri.seq_region [] none [5, 0, 1] [144] ((True ∧ True) ∧ ((True ∧ True) ∧ (((True ∧ (p0.size ≤ 100000)) ∧ True) ∧ ((True ∧ True) ∧ (((True ∧ (32 = 32)) ∧ True) ∧ True)))))
            ([(5, .sc (.p 144 0)), (0, .sc (.s p0)), (1, .sc (.i .u64 p1))], [(144, .ints .u8 32 (F38 p0 p1))])
            176 (by kernel_rfl) rfl (by kernel_rfl) (⟨⟨trivial, trivial⟩, ⟨⟨trivial, trivial⟩, ⟨⟨⟨trivial, (by first | omega | (rw [adr_eq]; omega) | exact iAnd_nn _ _ | exact iSub_nn _ _ | exact part1_le (by omega) (by first | omega | (simp only [List.length_append]; omega)) | (rw [iMul_i64 (by omega) (by omega)]; omega) | decide)⟩, trivial⟩, ⟨⟨trivial, trivial⟩, ⟨⟨⟨trivial, (rfl)⟩, trivial⟩, trivial⟩⟩⟩⟩⟩) ?_
        refine Tri.len 144 rfl (fun hl3 => ?_)
        refine Tri.seq_region [] (some [0, 1, 0, 0, 12, 28, 63, 127]) [4] [] (((((0 : Int) ≤ 0 ∧ (0 : Int) ≤ 32 ∧ 32 ≤ ((32 : Nat) : Int)) ∧ (32 ≤ 32)) ∧ True) ∧ (((0 + 32 ≤ 32) ∧ True) ∧ ((True ∧ True) ∧ ((True ∧ True) ∧ (((True ∧ (p0.size ≤ 100000)) ∧ True) ∧ (((0 + 32 ≤ 32) ∧ True) ∧ ((True ∧ True) ∧ ((True ∧ True) ∧ True))))))))
            ([(4, .sc (.b (strEq (bytesOf (((F38 p0 p1).drop 0).take 32)) (bytesOf (((F39 p0 p1).drop 0).take 32)))))], [])
            304 (by kernel_rfl) rfl (by kernel_rfl) (⟨⟨⟨(by first | omega | (rw [adr_eq]; omega) | exact iAnd_nn _ _ | exact iSub_nn _ _ | exact part1_le (by omega) (by first | omega | (simp only [List.length_append]; omega)) | (rw [iMul_i64 (by omega) (by omega)]; omega) | decide), (by first | omega | (rw [adr_eq]; omega) | exact iAnd_nn _ _ | exact iSub_nn _ _ | exact part1_le (by omega) (by first | omega | (simp only [List.length_append]; omega)) | (rw [iMul_i64 (by omega) (by omega)]; omega) | decide)⟩, trivial⟩, ⟨⟨(by first | omega | (rw [adr_eq]; omega) | exact iAnd_nn _ _ | exact iSub_nn _ _ | exact part1_le (by omega) (by first | omega | (simp only [List.length_append]; omega)) | (rw [iMul_i64 (by omega) (by omega)]; omega) | decide), trivial⟩, ⟨⟨trivial, trivial⟩, ⟨⟨trivial, trivial⟩, ⟨⟨⟨trivial, (by first | omega | (rw [adr_eq]; omega) | exact iAnd_nn _ _ | exact iSub_nn _ _ | exact part1_le (by omega) (by first | omega | (simp only [List.length_append]; omega)) | (rw [iMul_i64 (by omega) (by omega)]; omega) | decide)⟩, trivial⟩, ⟨⟨(by first | omega | (rw [adr_eq]; omega) | exact iAnd_nn _ _ | exact iSub_nn _ _ | exact part1_le (by omega) (by first | omega | (simp only [List.length_append]; omega)) | (rw [iMul_i64 (by omega) (by omega)]; omega) | decide), trivial⟩, ⟨⟨trivial, trivial⟩, ⟨⟨trivial, trivial⟩, trivial⟩⟩⟩⟩⟩⟩⟩⟩) ?_
        refine Tri.ret ?_
        repeat (first | refine thenP_ret ?_ | refine blkP_ret ?_ | refine countP_ret ?_ | refine joinP_ret ?_)
        refine endP.conv (r' := ⟨.sc (.b (strEq (bytesOf (((F38 p0 p1).drop 0).take 32)) (bytesOf (((F39 p0 p1).drop 0).take 32)))), []⟩) (by simp only [F8, h1, h2, sel_true, sel_false]) ?_
        exact endP.ret [] (True ∧ True) (by kernel_rfl) (by kernel_rfl) (by kernel_rfl) ⟨trivial, trivial⟩

end Go.Vm
