/- What the functions compute, and that they do: walked by a printed text. -/
import Derived.Test.YtcfpmiiaicfcnaaWkA
set_option linter.unusedVariables false
set_option linter.unusedSimpArgs false
set_option maxRecDepth 4000
namespace Go.Vm
open Go

noncomputable def F29 (p0 : List Int) (p1 : List Int) : Bool :=
  (((F33 p0) : List Int) == (F33 p1))

noncomputable def S29 : List AV → Option (Prop × Ret)
  | [.ints .u64 5 p0, .ints .u64 5 p1] => some (True, ⟨.sc (.b (F29 p0 p1)), []⟩)
  | _ => none

noncomputable def B29 : Bs := { P := Go.Proofs.Try.prog, G := noG, tab := tabOf [(33, ⟨[.val], 0, S33⟩)], n := 10 }

theorem B29.ok : B29.Ok := ⟨tabOk (P := Go.Proofs.Try.prog) (G := noG) (l := [(33, ⟨[.val], 0, S33⟩)]) (And.intro K33 True.intro), mixed⟩

theorem K29 : Known Go.Proofs.Try.prog noG 29 ⟨[.val, .val], 0, S29⟩ := by
  refine Known.walk (B := B29) (fn := Go.Proofs.Try.f29) B29.ok (by kernel_rfl) rfl (by kernel_rfl) (by kernel_rfl) (by decide) ?_ ?_
  · intro vs C r h
    simp only at h
    unfold S29 at h
    split at h
    · cases h; rfl
    · cases h
  · intro E args C r h hC hlen
    simp only at h
    unfold S29 at h
    split at h
    rotate_left
    · cases h
    rename_i p0 p1
    cases h
    simp only [lens] at hlen
    refine ⟨show 2 ≤ 10 from by decide, ?_⟩
    refine Tri.sub (Sub.of_eq (show _ = ([(0, .ints .u64 5 p0), (1, .ints .u64 5 p1)], []) from rfl)) ?_
    refine Tri.seq_region [] none [3, 2] [16, 0] ((True ∧ True) ∧ ((True ∧ True) ∧ ((True ∧ True) ∧ True)))
        ([(3, .sc (.p 16 0)), (2, .sc (.p 0 0))], [(16, .ints .u64 5 p1), (0, .ints .u64 5 p0)])
        48 (by kernel_rfl) rfl (by kernel_rfl) (⟨⟨trivial, trivial⟩, ⟨⟨trivial, trivial⟩, ⟨⟨trivial, trivial⟩, trivial⟩⟩⟩) ?_
    refine Tri.seq_region [] (some [0, 1, 0, 7, 15, 31]) [4] [] ((True ∧ True) ∧ (((True ∧ True) ∧ True) ∧ ((True ∧ True) ∧ (((True ∧ True) ∧ True) ∧ ((True ∧ True) ∧ ((True ∧ True) ∧ True))))))
        ([(4, .sc (.b (((F33 p0) : List Int) == (F33 p1))))], [])
        144 (by kernel_rfl) rfl (by kernel_rfl) (⟨⟨trivial, trivial⟩, ⟨⟨⟨trivial, trivial⟩, trivial⟩, ⟨⟨trivial, trivial⟩, ⟨⟨⟨trivial, trivial⟩, trivial⟩, ⟨⟨trivial, trivial⟩, ⟨⟨trivial, trivial⟩, trivial⟩⟩⟩⟩⟩⟩) ?_
    refine Tri.ret ?_
    exact endP.ret [] (True ∧ True) (by kernel_rfl) (by kernel_rfl) (by kernel_rfl) ⟨trivial, trivial⟩


noncomputable def F32 (p0 : List Int) : Bool :=
  (((iAnd .u64 ((F52 p0).getD 0 0) 1) : Int) == 1)

noncomputable def S32 : List AV → Option (Prop × Ret)
  | [.ints .u64 5 p0] => some (True, ⟨.sc (.b (F32 p0)), []⟩)
  | _ => none

noncomputable def B32 : Bs := { P := Go.Proofs.Try.prog, G := noG, tab := tabOf [(52, ⟨[.val], 0, S52⟩)], n := 9 }

theorem B32.ok : B32.Ok := ⟨tabOk (P := Go.Proofs.Try.prog) (G := noG) (l := [(52, ⟨[.val], 0, S52⟩)]) (And.intro K52 True.intro), mixed⟩

theorem K32 : Known Go.Proofs.Try.prog noG 32 ⟨[.val], 0, S32⟩ := by
  refine Known.walk (B := B32) (fn := Go.Proofs.Try.f32) B32.ok (by kernel_rfl) rfl (by kernel_rfl) (by kernel_rfl) (by decide) ?_ ?_
  · intro vs C r h
    simp only at h
    unfold S32 at h
    split at h
    · cases h; rfl
    · cases h
  · intro E args C r h hC hlen
    simp only at h
    unfold S32 at h
    split at h
    rotate_left
    · cases h
    rename_i p0
    cases h
    simp only [lens] at hlen
    refine ⟨show 1 ≤ 9 from by decide, ?_⟩
    refine Tri.sub (Sub.of_eq (show _ = ([(0, .ints .u64 5 p0)], []) from rfl)) ?_
    refine Tri.seq_region [] none [1] [0] ((True ∧ True) ∧ ((True ∧ True) ∧ True))
        ([(1, .sc (.p 0 0))], [(0, .ints .u64 5 p0)])
        32 (by kernel_rfl) rfl (by kernel_rfl) (⟨⟨trivial, trivial⟩, ⟨⟨trivial, trivial⟩, trivial⟩⟩) ?_
    refine Tri.seq_region [] none [2] [] ((True ∧ True) ∧ (((True ∧ True) ∧ True) ∧ ((True ∧ True) ∧ (((((0 : Int) ≤ 0 ∧ 0 < ((5 : Nat) : Int)) ∧ (0 < 5)) ∧ True) ∧ ((True ∧ True) ∧ ((True ∧ True) ∧ ((True ∧ True) ∧ True)))))))
        ([(2, .sc (.b (((iAnd .u64 ((F52 p0).getD 0 0) 1) : Int) == 1)))], [])
        144 (by kernel_rfl) rfl (by kernel_rfl) (⟨⟨trivial, trivial⟩, ⟨⟨⟨trivial, trivial⟩, trivial⟩, ⟨⟨trivial, trivial⟩, ⟨⟨⟨(by omega), (by omega)⟩, trivial⟩, ⟨⟨trivial, trivial⟩, ⟨⟨trivial, trivial⟩, ⟨⟨trivial, trivial⟩, trivial⟩⟩⟩⟩⟩⟩⟩) ?_
    refine Tri.ret ?_
    exact endP.ret [] (True ∧ True) (by kernel_rfl) (by kernel_rfl) (by kernel_rfl) ⟨trivial, trivial⟩


noncomputable def F34 (p0 : List Int) : List Int :=
  (sel (!(F29 (F20 (F26 p0 (part1 (F50 252 2) 32 0 32)) (F26 p0 (part1 (F50 252 2) 32 0 32))) p0)) (F20 (F26 p0 (part1 (F50 252 2) 32 0 32)) (F26 (F30 2) (part1 (F50 253 5) 32 0 32))) (F26 p0 (part1 (F50 252 2) 32 0 32)))

noncomputable def F34_1 (p0 : List Int) : Bool :=
  (F29 (F20 (sel (!(F29 (F20 (F26 p0 (part1 (F50 252 2) 32 0 32)) (F26 p0 (part1 (F50 252 2) 32 0 32))) p0)) (F20 (F26 p0 (part1 (F50 252 2) 32 0 32)) (F26 (F30 2) (part1 (F50 253 5) 32 0 32))) (F26 p0 (part1 (F50 252 2) 32 0 32))) (sel (!(F29 (F20 (F26 p0 (part1 (F50 252 2) 32 0 32)) (F26 p0 (part1 (F50 252 2) 32 0 32))) p0)) (F20 (F26 p0 (part1 (F50 252 2) 32 0 32)) (F26 (F30 2) (part1 (F50 253 5) 32 0 32))) (F26 p0 (part1 (F50 252 2) 32 0 32)))) p0)

noncomputable def S34 : List AV → Option (Prop × Ret)
  | [.ints .u64 5 p0] => some (True, ⟨.tup [.ints .u64 5 (F34 p0), .sc (.b (F34_1 p0))], []⟩)
  | _ => none

noncomputable def B34 : Bs := { P := Go.Proofs.Try.prog, G := noG, tab := tabOf [(20, ⟨[.val, .val], 0, S20⟩), (26, ⟨[.val, .ro .u8], 0, S26⟩), (29, ⟨[.val, .val], 0, S29⟩), (30, ⟨[.val], 0, S30⟩), (50, ⟨[.val, .val], 1, S50⟩)], n := 25 }

theorem B34.ok : B34.Ok := ⟨tabOk (P := Go.Proofs.Try.prog) (G := noG) (l := [(20, ⟨[.val, .val], 0, S20⟩), (26, ⟨[.val, .ro .u8], 0, S26⟩), (29, ⟨[.val, .val], 0, S29⟩), (30, ⟨[.val], 0, S30⟩), (50, ⟨[.val, .val], 1, S50⟩)]) (And.intro K20 (And.intro K26 (And.intro K29 (And.intro K30 (And.intro K50 True.intro))))), mixed⟩

theorem K34 : Known Go.Proofs.Try.prog noG 34 ⟨[.val], 0, S34⟩ := by
  refine Known.walk (B := B34) (fn := Go.Proofs.Try.f34) B34.ok (by kernel_rfl) rfl (by kernel_rfl) (by kernel_rfl) (by decide) ?_ ?_
  · intro vs C r h
    simp only at h
    unfold S34 at h
    split at h
    · cases h; rfl
    · cases h
  · intro E args C r h hC hlen
    simp only at h
    unfold S34 at h
    split at h
    rotate_left
    · cases h
    rename_i p0
    cases h
    simp only [lens] at hlen
    refine ⟨show 1 ≤ 25 from by decide, ?_⟩
    refine Tri.sub (Sub.of_eq (show _ = ([(0, .ints .u64 5 p0)], []) from rfl)) ?_
    refine Tri.seq_region [] none [2, 1] [16, 0] ((True ∧ True) ∧ ((True ∧ True) ∧ ((True ∧ True) ∧ True)))
        ([(2, .sc (.p 16 0)), (1, .sc (.p 0 0))], [(16, .ints .u64 5 [0, 0, 0, 0, 0]), (0, .ints .u64 5 p0)])
        48 (by kernel_rfl) rfl (by kernel_rfl) (⟨⟨trivial, trivial⟩, ⟨⟨trivial, trivial⟩, ⟨⟨trivial, trivial⟩, trivial⟩⟩⟩) ?_
    refine Tri.seq_region [] (some [0, 0, 3, 0, 15]) [4, 2, 1] [96, 16, 0] ((True ∧ True) ∧ (((True ∧ ((248 : Int) ≤ 252 ∧ 252 ≤ (255 : Int))) ∧ True) ∧ (((((0 + 32 ≤ 32) ∧ True) ∧ ((part1 (F50 252 2) 32 0 32).length ≤ 1000000)) ∧ True) ∧ ((True ∧ True) ∧ (((True ∧ (5 = 5)) ∧ True) ∧ True)))))
        ([(4, .sc (.p 96 0)), (2, .sc (.p 16 0)), (1, .sc (.p 0 0))], [(96, .ints .u64 5 (F26 p0 (part1 (F50 252 2) 32 0 32))), (16, .ints .u64 5 [0, 0, 0, 0, 0]), (0, .ints .u64 5 p0)])
        128 (by kernel_rfl) rfl (by kernel_rfl) (⟨⟨trivial, trivial⟩, ⟨⟨⟨trivial, (by omega)⟩, trivial⟩, ⟨⟨⟨⟨(by omega), trivial⟩, (by rw [part1_all (len50 _ _), len50]; decide)⟩, trivial⟩, ⟨⟨trivial, trivial⟩, ⟨⟨⟨trivial, (rfl)⟩, trivial⟩, trivial⟩⟩⟩⟩⟩) ?_
    refine Tri.seq ?_
    refine Tri.seq_region [] (some [0, 0, 3, 0, 15, 31]) [13, 4, 2, 1] [96, 16, 0] ((True ∧ True) ∧ ((True ∧ True) ∧ (((True ∧ True) ∧ True) ∧ ((True ∧ True) ∧ (((True ∧ True) ∧ True) ∧ ((True ∧ True) ∧ True))))))
        ([(13, .sc (.b (!(F29 (F20 (F26 p0 (part1 (F50 252 2) 32 0 32)) (F26 p0 (part1 (F50 252 2) 32 0 32))) p0)))), (4, .sc (.p 96 0)), (2, .sc (.p 16 0)), (1, .sc (.p 0 0))], [(96, .ints .u64 5 (F26 p0 (part1 (F50 252 2) 32 0 32))), (16, .ints .u64 5 [0, 0, 0, 0, 0]), (0, .ints .u64 5 p0)])
        224 (by kernel_rfl) rfl (by kernel_rfl) (⟨⟨trivial, trivial⟩, ⟨⟨trivial, trivial⟩, ⟨⟨⟨trivial, trivial⟩, trivial⟩, ⟨⟨trivial, trivial⟩, ⟨⟨⟨trivial, trivial⟩, trivial⟩, ⟨⟨trivial, trivial⟩, trivial⟩⟩⟩⟩⟩⟩) ?_
    refine Tri.join (x := (!(F29 (F20 (F26 p0 (part1 (F50 252 2) 32 0 32)) (F26 p0 (part1 (F50 252 2) 32 0 32))) p0))) (fun bb => ([(4, .sc (.p 96 0)), (2, .sc (.p 16 0)), (1, .sc (.p 0 0))], [(96, .ints .u64 5 (sel bb (F20 (F26 p0 (part1 (F50 252 2) 32 0 32)) (F26 (F30 2) (part1 (F50 253 5) 32 0 32))) (F26 p0 (part1 (F50 252 2) 32 0 32)))), (16, .ints .u64 5 [0, 0, 0, 0, 0]), (0, .ints .u64 5 p0)])) 320 (by kernel_rfl) (fun h1 => ?_) (fun h1 => ?_) ?_
    ·
      refine Tri.region' [] (some [0, 0, 2, 6, 15, 31]) [4, 2, 1] [96, 16, 0] ((True ∧ True) ∧ (((True ∧ True) ∧ True) ∧ (((True ∧ ((248 : Int) ≤ 253 ∧ 253 ≤ (255 : Int))) ∧ True) ∧ (((((0 + 32 ≤ 32) ∧ True) ∧ ((part1 (F50 253 5) 32 0 32).length ≤ 1000000)) ∧ True) ∧ (((True ∧ True) ∧ True) ∧ (((True ∧ (5 = 5)) ∧ True) ∧ True))))))
          ([(4, .sc (.p 96 0)), (2, .sc (.p 16 0)), (1, .sc (.p 0 0))], [(96, .ints .u64 5 (F20 (F26 p0 (part1 (F50 252 2) 32 0 32)) (F26 (F30 2) (part1 (F50 253 5) 32 0 32)))), (16, .ints .u64 5 [0, 0, 0, 0, 0]), (0, .ints .u64 5 p0)])
          320 (by kernel_rfl) rfl (by kernel_rfl) (⟨⟨trivial, trivial⟩, ⟨⟨⟨trivial, trivial⟩, trivial⟩, ⟨⟨⟨trivial, (by omega)⟩, trivial⟩, ⟨⟨⟨⟨(by omega), trivial⟩, (by rw [part1_all (len50 _ _), len50]; decide)⟩, trivial⟩, ⟨⟨⟨trivial, trivial⟩, trivial⟩, ⟨⟨⟨trivial, (rfl)⟩, trivial⟩, trivial⟩⟩⟩⟩⟩⟩) ?_
      exact (Sub.ren (ns := [(96, 96), (16, 16), (0, 0)]) (kf := [4, 2, 1]) (s' := ([(4, .sc (.p 96 0)), (2, .sc (.p 16 0)), (1, .sc (.p 0 0))], [(96, .ints .u64 5 (F20 (F26 p0 (part1 (F50 252 2) 32 0 32)) (F26 (F30 2) (part1 (F50 253 5) 32 0 32)))), (16, .ints .u64 5 [0, 0, 0, 0, 0]), (0, .ints .u64 5 p0)])) (by kernel_rfl) (by kernel_rfl)).trans (Sub.of_eq (by simp only [sel_true, sel_false]))
    ·
      refine Tri.skip ?_
      exact (Sub.ren (ns := [(96, 96), (16, 16), (0, 0)]) (kf := [4, 2, 1]) (s' := ([(4, .sc (.p 96 0)), (2, .sc (.p 16 0)), (1, .sc (.p 0 0))], [(96, .ints .u64 5 (F26 p0 (part1 (F50 252 2) 32 0 32))), (16, .ints .u64 5 [0, 0, 0, 0, 0]), (0, .ints .u64 5 p0)])) (by kernel_rfl) (by kernel_rfl)).trans (Sub.of_eq (by simp only [sel_true, sel_false]))
    ·
      change Tri _ _ _ _ _ _
      refine Tri.seq_region [] (some [0, 0, 0, 6, 0, 30, 63, 127]) [3, 2] [16] ((True ∧ True) ∧ ((True ∧ True) ∧ ((True ∧ True) ∧ (((True ∧ True) ∧ True) ∧ ((True ∧ True) ∧ (((True ∧ True) ∧ True) ∧ (((True ∧ (5 = 5)) ∧ True) ∧ ((True ∧ True) ∧ True))))))))
          ([(3, .sc (.b (F29 (F20 (sel (!(F29 (F20 (F26 p0 (part1 (F50 252 2) 32 0 32)) (F26 p0 (part1 (F50 252 2) 32 0 32))) p0)) (F20 (F26 p0 (part1 (F50 252 2) 32 0 32)) (F26 (F30 2) (part1 (F50 253 5) 32 0 32))) (F26 p0 (part1 (F50 252 2) 32 0 32))) (sel (!(F29 (F20 (F26 p0 (part1 (F50 252 2) 32 0 32)) (F26 p0 (part1 (F50 252 2) 32 0 32))) p0)) (F20 (F26 p0 (part1 (F50 252 2) 32 0 32)) (F26 (F30 2) (part1 (F50 253 5) 32 0 32))) (F26 p0 (part1 (F50 252 2) 32 0 32)))) p0))), (2, .sc (.p 16 0))], [(16, .ints .u64 5 (sel (!(F29 (F20 (F26 p0 (part1 (F50 252 2) 32 0 32)) (F26 p0 (part1 (F50 252 2) 32 0 32))) p0)) (F20 (F26 p0 (part1 (F50 252 2) 32 0 32)) (F26 (F30 2) (part1 (F50 253 5) 32 0 32))) (F26 p0 (part1 (F50 252 2) 32 0 32))))])
          448 (by kernel_rfl) rfl (by kernel_rfl) (⟨⟨trivial, trivial⟩, ⟨⟨trivial, trivial⟩, ⟨⟨trivial, trivial⟩, ⟨⟨⟨trivial, trivial⟩, trivial⟩, ⟨⟨trivial, trivial⟩, ⟨⟨⟨trivial, trivial⟩, trivial⟩, ⟨⟨⟨trivial, (rfl)⟩, trivial⟩, ⟨⟨trivial, trivial⟩, trivial⟩⟩⟩⟩⟩⟩⟩⟩) ?_
      refine Tri.ret ?_
      exact endP.ret [] (True ∧ (True ∧ True)) (by kernel_rfl) (by kernel_rfl) (by kernel_rfl) ⟨trivial, ⟨trivial, trivial⟩⟩


noncomputable def F36l0 (p0 : Bool) (p2 : List Int) (k0 : Nat) (z0 : List Int) : List Int :=
  z0.set k0 (iOr .u64 (iAnd .u64 (z0.getD k0 0) (sel p0 18446744073709551615 0)) (iAndNot .u64 (p2.getD k0 0) (sel p0 18446744073709551615 0)))

noncomputable def F36 (p0 : Bool) (p1 : List Int) (p2 : List Int) : List Int :=
  (itr (F36l0 p0 p2) 5 p1)

noncomputable def S36 : List AV → Option (Prop × Ret)
  | [.sc (.b p0), .ints .u64 5 p1, .ints .u64 5 p2] => some (True, ⟨.ints .u64 5 (F36 p0 p1 p2), []⟩)
  | _ => none

noncomputable def B36 : Bs := { P := Go.Proofs.Try.prog, G := noG, tab := tabOf [], n := 33 }

theorem B36.ok : B36.Ok := ⟨tabOk (P := Go.Proofs.Try.prog) (G := noG) (l := []) True.intro, mixed⟩

theorem K36 : Known Go.Proofs.Try.prog noG 36 ⟨[.val, .val, .val], 0, S36⟩ := by
  refine Known.walk (B := B36) (fn := Go.Proofs.Try.f36) B36.ok (by kernel_rfl) rfl (by kernel_rfl) (by kernel_rfl) (by decide) ?_ ?_
  · intro vs C r h
    simp only at h
    unfold S36 at h
    split at h
    · cases h; rfl
    · cases h
  · intro E args C r h hC hlen
    simp only at h
    unfold S36 at h
    split at h
    rotate_left
    · cases h
    rename_i p0 p1 p2
    cases h
    simp only [lens] at hlen
    refine ⟨show 3 ≤ 33 from by decide, ?_⟩
    refine Tri.sub (Sub.of_eq (show _ = ([(0, .sc (.b p0)), (1, .ints .u64 5 p1), (2, .ints .u64 5 p2)], []) from rfl)) ?_
    refine Tri.seq_region [] none [6, 5, 4, 0] [32, 16, 0] ((True ∧ True) ∧ ((True ∧ True) ∧ ((True ∧ True) ∧ True)))
        ([(6, .sc (.p 32 0)), (5, .sc (.p 16 0)), (4, .sc (.p 0 0)), (0, .sc (.b p0))], [(32, .ints .u64 5 [0, 0, 0, 0, 0]), (16, .ints .u64 5 p2), (0, .ints .u64 5 p1)])
        48 (by kernel_rfl) rfl (by kernel_rfl) (⟨⟨trivial, trivial⟩, ⟨⟨trivial, trivial⟩, ⟨⟨trivial, trivial⟩, trivial⟩⟩⟩) ?_
    refine Tri.seq_region [] none [7, 6, 5, 4, 0] [32, 16, 0] ((True ∧ True) ∧ True)
        ([(7, .sc (.i .u64 0)), (6, .sc (.p 32 0)), (5, .sc (.p 16 0)), (4, .sc (.p 0 0)), (0, .sc (.b p0))], [(32, .ints .u64 5 [0, 0, 0, 0, 0]), (16, .ints .u64 5 p2), (0, .ints .u64 5 p1)])
        64 (by kernel_rfl) rfl (by kernel_rfl) (⟨⟨trivial, trivial⟩, trivial⟩) ?_
    refine Tri.seq ?_
    refine Tri.seq_region [] none [9, 7, 6, 5, 4] [32, 16, 0] ((True ∧ True) ∧ True)
        ([(9, .sc (.b p0)), (7, .sc (.i .u64 0)), (6, .sc (.p 32 0)), (5, .sc (.p 16 0)), (4, .sc (.p 0 0))], [(32, .ints .u64 5 [0, 0, 0, 0, 0]), (16, .ints .u64 5 p2), (0, .ints .u64 5 p1)])
        80 (by kernel_rfl) rfl (by kernel_rfl) (⟨⟨trivial, trivial⟩, trivial⟩) ?_
    refine Tri.join (x := p0) (fun bb => ([(7, .sc (.i .u64 (sel bb 18446744073709551615 0))), (6, .sc (.p 32 0)), (5, .sc (.p 16 0)), (4, .sc (.p 0 0))], [(32, .ints .u64 5 [0, 0, 0, 0, 0]), (16, .ints .u64 5 p2), (0, .ints .u64 5 p1)])) 128 (by kernel_rfl) (fun h1 => ?_) (fun h1 => ?_) ?_
    ·
      refine Tri.region' [] none [7, 6, 5, 4] [32, 16, 0] ((True ∧ True) ∧ ((True ∧ True) ∧ ((True ∧ True) ∧ True)))
          ([(7, .sc (.i .u64 18446744073709551615)), (6, .sc (.p 32 0)), (5, .sc (.p 16 0)), (4, .sc (.p 0 0))], [(32, .ints .u64 5 [0, 0, 0, 0, 0]), (16, .ints .u64 5 p2), (0, .ints .u64 5 p1)])
          128 (by kernel_rfl) rfl (by kernel_rfl) (⟨⟨trivial, trivial⟩, ⟨⟨trivial, trivial⟩, ⟨⟨trivial, trivial⟩, trivial⟩⟩⟩) ?_
      exact (Sub.ren (ns := [(32, 32), (16, 16), (0, 0)]) (kf := [7, 6, 5, 4]) (s' := ([(7, .sc (.i .u64 18446744073709551615)), (6, .sc (.p 32 0)), (5, .sc (.p 16 0)), (4, .sc (.p 0 0))], [(32, .ints .u64 5 [0, 0, 0, 0, 0]), (16, .ints .u64 5 p2), (0, .ints .u64 5 p1)])) (by kernel_rfl) (by kernel_rfl)).trans (Sub.of_eq (by simp only [sel_true, sel_false]))
    ·
      refine Tri.skip ?_
      exact (Sub.ren (ns := [(32, 32), (16, 16), (0, 0)]) (kf := [7, 6, 5, 4]) (s' := ([(7, .sc (.i .u64 0)), (6, .sc (.p 32 0)), (5, .sc (.p 16 0)), (4, .sc (.p 0 0))], [(32, .ints .u64 5 [0, 0, 0, 0, 0]), (16, .ints .u64 5 p2), (0, .ints .u64 5 p1)])) (by kernel_rfl) (by kernel_rfl)).trans (Sub.of_eq (by simp only [sel_true, sel_false]))
    ·
      change Tri _ _ _ _ _ _
      refine Tri.seq ?_
      refine Tri.seq_region [] none [12, 7, 6, 5, 4] [32, 16, 0] ((True ∧ True) ∧ True)
          ([(12, .sc (.i .i64 0)), (7, .sc (.i .u64 (sel p0 18446744073709551615 0))), (6, .sc (.p 32 0)), (5, .sc (.p 16 0)), (4, .sc (.p 0 0))], [(32, .ints .u64 5 [0, 0, 0, 0, 0]), (16, .ints .u64 5 p2), (0, .ints .u64 5 p1)])
          144 (by kernel_rfl) rfl (by kernel_rfl) (⟨⟨trivial, trivial⟩, trivial⟩) ?_
      refine Tri.block ?_
      refine Tri.count 144 5 (F36l0 p0 p2) p1 (fun k0 z0 => True) (fun k0 z0 => ([(12, .sc (.i .i64 ((k0 : Nat) : Int))), (7, .sc (.i .u64 (sel p0 18446744073709551615 0))), (6, .sc (.p 32 0)), (5, .sc (.p 16 0)), (4, .sc (.p 0 0))], [(32, .ints .u64 5 [0, 0, 0, 0, 0]), (16, .ints .u64 5 p2), (0, .ints .u64 5 z0)])) trivial (Sub.of_eq (by kernel_rfl)) ?_
      intro k0 z0 hk0 hz0 hJ0
      refine Tri.seq_region [] none [13, 12, 7, 6, 5, 4] [32, 16, 0] ((True ∧ True) ∧ True)
          ([(13, .sc (.b (decide ((((k0 : Nat) : Int) : Int) < 5)))), (12, .sc (.i .i64 ((k0 : Nat) : Int))), (7, .sc (.i .u64 (sel p0 18446744073709551615 0))), (6, .sc (.p 32 0)), (5, .sc (.p 16 0)), (4, .sc (.p 0 0))], [(32, .ints .u64 5 [0, 0, 0, 0, 0]), (16, .ints .u64 5 p2), (0, .ints .u64 5 z0)])
          160 (by kernel_rfl) rfl (by kernel_rfl) (⟨⟨trivial, trivial⟩, trivial⟩) ?_
      refine Tri.seq ?_
      refine Tri.cond (x := (decide ((((k0 : Nat) : Int) : Int) < 5))) (by kernel_rfl) (fun h2 => ?_) (fun h2 => ?_)
      ·
        have h2' := of_decide_eq_true h2
        refine Tri.skip ?_
        change Tri _ _ _ _ _ _
        refine Tri.seq ?_
        refine Tri.block ?_
        refine Tri.seq_region [] none [8, 12, 7, 6, 5, 4] [32, 16, 0] ((True ∧ True) ∧ ((True ∧ True) ∧ True))
            ([(8, .sc (.i .i64 ((k0 : Nat) : Int))), (12, .sc (.i .i64 ((k0 : Nat) : Int))), (7, .sc (.i .u64 (sel p0 18446744073709551615 0))), (6, .sc (.p 32 0)), (5, .sc (.p 16 0)), (4, .sc (.p 0 0))], [(32, .ints .u64 5 [0, 0, 0, 0, 0]), (16, .ints .u64 5 p2), (0, .ints .u64 5 z0)])
            192 (by kernel_rfl) rfl (by kernel_rfl) (⟨⟨trivial, trivial⟩, ⟨⟨trivial, trivial⟩, trivial⟩⟩) ?_
        refine Tri.region' [] (some [0, 0, 0, 6, 14, 0, 62, 0, 0, 384, 896, 0, 3968, 8190, 0, 32767, 65535]) [12, 7, 6, 5, 4] [0, 32, 16] ((True ∧ True) ∧ ((True ∧ True) ∧ ((True ∧ True) ∧ ((((0 : Int) ≤ ((k0 : Nat) : Int) ∧ ((k0 : Nat) : Int) < ((5 : Nat) : Int)) ∧ True) ∧ (((k0 < 5) ∧ True) ∧ ((True ∧ True) ∧ ((True ∧ True) ∧ ((True ∧ True) ∧ ((True ∧ True) ∧ ((((0 : Int) ≤ ((k0 : Nat) : Int) ∧ ((k0 : Nat) : Int) < ((5 : Nat) : Int)) ∧ True) ∧ (((k0 < 5) ∧ True) ∧ ((True ∧ True) ∧ ((True ∧ True) ∧ ((True ∧ True) ∧ ((True ∧ True) ∧ ((((0 : Int) ≤ ((k0 : Nat) : Int) ∧ ((k0 : Nat) : Int) < ((5 : Nat) : Int)) ∧ True) ∧ ((((k0 < 5) ∧ (1 = 1)) ∧ True) ∧ True)))))))))))))))))
            ([(12, .sc (.i .i64 ((k0 : Nat) : Int))), (7, .sc (.i .u64 (sel p0 18446744073709551615 0))), (6, .sc (.p 32 0)), (5, .sc (.p 16 0)), (4, .sc (.p 0 0))], [(0, .ints .u64 5 (z0.set k0 (iOr .u64 (iAnd .u64 (z0.getD k0 0) (sel p0 18446744073709551615 0)) (iAndNot .u64 (p2.getD k0 0) (sel p0 18446744073709551615 0))))), (32, .ints .u64 5 [0, 0, 0, 0, 0]), (16, .ints .u64 5 p2)])
            464 (by kernel_rfl) rfl (by kernel_rfl) (⟨⟨trivial, trivial⟩, ⟨⟨trivial, trivial⟩, ⟨⟨trivial, trivial⟩, ⟨⟨(by omega), trivial⟩, ⟨⟨(by omega), trivial⟩, ⟨⟨trivial, trivial⟩, ⟨⟨trivial, trivial⟩, ⟨⟨trivial, trivial⟩, ⟨⟨trivial, trivial⟩, ⟨⟨(by omega), trivial⟩, ⟨⟨(by omega), trivial⟩, ⟨⟨trivial, trivial⟩, ⟨⟨trivial, trivial⟩, ⟨⟨trivial, trivial⟩, ⟨⟨trivial, trivial⟩, ⟨⟨(by omega), trivial⟩, ⟨⟨⟨(by omega), (rfl)⟩, trivial⟩, trivial⟩⟩⟩⟩⟩⟩⟩⟩⟩⟩⟩⟩⟩⟩⟩⟩⟩) ?_
        change Tri _ _ _ _ _ _
        refine Tri.region' [(31, .i .i64 ((k0 + 1 : Nat) : Int))] none [12, 7, 6, 5, 4] [0, 32, 16] ((True ∧ ((iAdd .i64 ((k0 : Nat) : Int) 1) = ((k0 + 1 : Nat) : Int))) ∧ ((True ∧ True) ∧ True))
            ([(12, .sc (.i .i64 ((k0 + 1 : Nat) : Int))), (7, .sc (.i .u64 (sel p0 18446744073709551615 0))), (6, .sc (.p 32 0)), (5, .sc (.p 16 0)), (4, .sc (.p 0 0))], [(0, .ints .u64 5 (z0.set k0 (iOr .u64 (iAnd .u64 (z0.getD k0 0) (sel p0 18446744073709551615 0)) (iAndNot .u64 (p2.getD k0 0) (sel p0 18446744073709551615 0))))), (32, .ints .u64 5 [0, 0, 0, 0, 0]), (16, .ints .u64 5 p2)])
            496 (by kernel_rfl) rfl (by kernel_rfl) (⟨⟨trivial, (iAdd_nat (a := k0) (b := 1) (by omega))⟩, ⟨⟨trivial, trivial⟩, trivial⟩⟩) ?_
        refine countP_normal (by omega) trivial ?_
        exact Sub.ren (ns := [(32, 32), (16, 16), (0, 0)]) (kf := [12, 7, 6, 5, 4]) (by kernel_rfl) (by kernel_rfl)
      ·
        have h2' := of_decide_eq_false h2
        refine Tri.exit ?_
        have hend0 : k0 = 5 := by (have := of_decide_eq_false h2; omega)
        subst hend0; subst hz0
        change Tri _ _ _ _ _ _
        refine Tri.seq_region [] none [6] [32] ((True ∧ True) ∧ (((True ∧ (5 = 5)) ∧ True) ∧ True))
            ([(6, .sc (.p 32 0))], [(32, .ints .u64 5 (itr (F36l0 p0 p2) 5 p1))])
            192 (by kernel_rfl) rfl (by kernel_rfl) (⟨⟨trivial, trivial⟩, ⟨⟨⟨trivial, (rfl)⟩, trivial⟩, trivial⟩⟩) ?_
        refine Tri.ret ?_
        exact endP.ret [] (True ∧ True) (by kernel_rfl) (by kernel_rfl) (by kernel_rfl) ⟨trivial, trivial⟩


noncomputable def F23l0 (p0 : List Int) (k0 : Nat) (z0 : List Int) : List Int :=
  z0.set (k0 / 51) (iOr .u64 (z0.getD (k0 / 51) 0) (iShl .u64 (IntKind.wrap .u64 (iAnd .u8 (iShr .u8 (p0.getD (k0 / 8) 0) ((k0 % 8 : Nat) : Int)) 1)) ((k0 % 51 : Nat) : Int)))

noncomputable def F23 (p0 : List Int) : List Int :=
  (sel ((((p0.length : Nat) : Int) : Int) != 32) [0, 0, 0, 0, 0] (itr (F23l0 p0) 255 [0, 0, 0, 0, 0]))

noncomputable def F23_1 (p0 : List Int) : Bool :=
  (sel ((((p0.length : Nat) : Int) : Int) != 32) false true)

noncomputable def S23 : List AV → Option (Prop × Ret)
  | [.sc (.ro .u8 p0)] => some (True, ⟨.tup [.ints .u64 5 (F23 p0), .sc (.b (F23_1 p0))], []⟩)
  | _ => none

noncomputable def B23 : Bs := { P := Go.Proofs.Try.prog, G := noG, tab := tabOf [], n := 36 }

theorem B23.ok : B23.Ok := ⟨tabOk (P := Go.Proofs.Try.prog) (G := noG) (l := []) True.intro, mixed⟩

theorem K23 : Known Go.Proofs.Try.prog noG 23 ⟨[.ro .u8], 0, S23⟩ := by
  refine Known.walk (B := B23) (fn := Go.Proofs.Try.f23) B23.ok (by kernel_rfl) rfl (by kernel_rfl) (by kernel_rfl) (by decide) ?_ ?_
  · intro vs C r h
    simp only at h
    unfold S23 at h
    split at h
    · cases h; rfl
    · cases h
  · intro E args C r h hC hlen
    simp only at h
    unfold S23 at h
    split at h
    rotate_left
    · cases h
    rename_i p0
    cases h
    simp only [lens] at hlen
    refine ⟨show 1 ≤ 36 from by decide, ?_⟩
    refine Tri.sub (Sub.of_eq (show _ = ([(0, .sc (.ro .u8 p0))], []) from rfl)) ?_
    refine Tri.seq_region [] none [2, 0] [0] ((True ∧ True) ∧ ((True ∧ True) ∧ True))
        ([(2, .sc (.p 0 0)), (0, .sc (.ro .u8 p0))], [(0, .ints .u64 5 [0, 0, 0, 0, 0])])
        32 (by kernel_rfl) rfl (by kernel_rfl) (⟨⟨trivial, trivial⟩, ⟨⟨trivial, trivial⟩, trivial⟩⟩) ?_
    refine Tri.seq_region [] none [4, 2, 0] [32, 0] ((True ∧ True) ∧ True)
        ([(4, .sc (.p 32 0)), (2, .sc (.p 0 0)), (0, .sc (.ro .u8 p0))], [(32, .ints .u64 5 [0, 0, 0, 0, 0]), (0, .ints .u64 5 [0, 0, 0, 0, 0])])
        48 (by kernel_rfl) rfl (by kernel_rfl) (⟨⟨trivial, trivial⟩, trivial⟩) ?_
    refine Tri.seq ?_
    refine Tri.seq_region [] none [8, 4, 2, 0] [32, 0] ((True ∧ True) ∧ ((True ∧ True) ∧ ((True ∧ True) ∧ True)))
        ([(8, .sc (.b ((((p0.length : Nat) : Int) : Int) != 32))), (4, .sc (.p 32 0)), (2, .sc (.p 0 0)), (0, .sc (.ro .u8 p0))], [(32, .ints .u64 5 [0, 0, 0, 0, 0]), (0, .ints .u64 5 [0, 0, 0, 0, 0])])
        96 (by kernel_rfl) rfl (by kernel_rfl) (⟨⟨trivial, trivial⟩, ⟨⟨trivial, trivial⟩, ⟨⟨trivial, trivial⟩, trivial⟩⟩⟩) ?_
    refine Tri.cond (x := ((((p0.length : Nat) : Int) : Int) != 32)) (by kernel_rfl) (fun h1 => ?_) (fun h1 => ?_)
    ·
      have h1' := ne_true_i h1
      refine Tri.seq_region [] none [3, 2] [0] ((True ∧ True) ∧ (((True ∧ (5 = 5)) ∧ True) ∧ ((True ∧ True) ∧ True)))
          ([(3, .sc (.b false)), (2, .sc (.p 0 0))], [(0, .ints .u64 5 [0, 0, 0, 0, 0])])
          144 (by kernel_rfl) rfl (by kernel_rfl) (⟨⟨trivial, trivial⟩, ⟨⟨⟨trivial, (rfl)⟩, trivial⟩, ⟨⟨trivial, trivial⟩, trivial⟩⟩⟩) ?_
      refine Tri.ret ?_
      repeat (first | refine thenP_ret ?_ | refine blkP_ret ?_ | refine countP_ret ?_ | refine joinP_ret ?_)
      refine endP.conv (r' := ⟨.tup [.ints .u64 5 [0, 0, 0, 0, 0], .sc (.b false)], []⟩) (by simp only [F23, F23_1, h1, sel_true, sel_false]) ?_
      exact endP.ret [] (True ∧ (True ∧ True)) (by kernel_rfl) (by kernel_rfl) (by kernel_rfl) ⟨trivial, ⟨trivial, trivial⟩⟩
    ·
      have h1' := ne_false_i h1
      refine Tri.skip ?_
      change Tri _ _ _ _ _ _
      refine Tri.seq ?_
      refine Tri.seq_region [] none [10, 4, 2, 0] [32, 0] ((True ∧ True) ∧ True)
          ([(10, .sc (.i .i64 0)), (4, .sc (.p 32 0)), (2, .sc (.p 0 0)), (0, .sc (.ro .u8 p0))], [(32, .ints .u64 5 [0, 0, 0, 0, 0]), (0, .ints .u64 5 [0, 0, 0, 0, 0])])
          112 (by kernel_rfl) rfl (by kernel_rfl) (⟨⟨trivial, trivial⟩, trivial⟩) ?_
      refine Tri.block ?_
      refine Tri.count 112 255 (F23l0 p0) [0, 0, 0, 0, 0] (fun k0 z0 => True) (fun k0 z0 => ([(10, .sc (.i .i64 ((k0 : Nat) : Int))), (4, .sc (.p 32 0)), (2, .sc (.p 0 0)), (0, .sc (.ro .u8 p0))], [(32, .ints .u64 5 z0), (0, .ints .u64 5 [0, 0, 0, 0, 0])])) trivial (Sub.of_eq (by kernel_rfl)) ?_
      intro k0 z0 hk0 hz0 hJ0
      refine Tri.seq_region [] none [11, 10, 4, 2, 0] [32, 0] ((True ∧ True) ∧ True)
          ([(11, .sc (.b (decide ((((k0 : Nat) : Int) : Int) < 255)))), (10, .sc (.i .i64 ((k0 : Nat) : Int))), (4, .sc (.p 32 0)), (2, .sc (.p 0 0)), (0, .sc (.ro .u8 p0))], [(32, .ints .u64 5 z0), (0, .ints .u64 5 [0, 0, 0, 0, 0])])
          128 (by kernel_rfl) rfl (by kernel_rfl) (⟨⟨trivial, trivial⟩, trivial⟩) ?_
      refine Tri.seq ?_
      refine Tri.cond (x := (decide ((((k0 : Nat) : Int) : Int) < 255))) (by kernel_rfl) (fun h2 => ?_) (fun h2 => ?_)
      ·
        have h2' := of_decide_eq_true h2
        refine Tri.skip ?_
        change Tri _ _ _ _ _ _
        refine Tri.seq ?_
        refine Tri.block ?_
        refine Tri.seq_region [] none [5, 10, 4, 2, 0] [32, 0] ((True ∧ True) ∧ ((True ∧ True) ∧ True))
            ([(5, .sc (.i .i64 ((k0 : Nat) : Int))), (10, .sc (.i .i64 ((k0 : Nat) : Int))), (4, .sc (.p 32 0)), (2, .sc (.p 0 0)), (0, .sc (.ro .u8 p0))], [(32, .ints .u64 5 z0), (0, .ints .u64 5 [0, 0, 0, 0, 0])])
            160 (by kernel_rfl) rfl (by kernel_rfl) (⟨⟨trivial, trivial⟩, ⟨⟨trivial, trivial⟩, trivial⟩⟩) ?_
        refine Tri.region' [(14, .i .i64 ((k0 / 51 : Nat) : Int)), (20, .i .i64 ((k0 / 8 : Nat) : Int)), (24, .i .i64 ((k0 % 8 : Nat) : Int)), (29, .i .i64 ((k0 % 51 : Nat) : Int))] (some [0, 1, 0, 7, 15, 0, 0, 64, 224, 480, 0, 1024, 4064, 8160, 16352, 0, 32768, 131040, 262143, 0, 1048575, 2097151]) [10, 4, 2, 0] [32, 0] ((True ∧ True) ∧ (((51 ≠ (0 : Int)) ∧ ((iQuo .i64 ((k0 : Nat) : Int) 51) = ((k0 / 51 : Nat) : Int))) ∧ ((True ∧ True) ∧ ((((0 : Int) ≤ ((k0 / 51 : Nat) : Int) ∧ ((k0 / 51 : Nat) : Int) < ((5 : Nat) : Int)) ∧ True) ∧ (((k0 / 51 < 5) ∧ True) ∧ ((True ∧ True) ∧ ((True ∧ True) ∧ (((8 ≠ (0 : Int)) ∧ ((iQuo .i64 ((k0 : Nat) : Int) 8) = ((k0 / 8 : Nat) : Int))) ∧ ((((0 : Int) ≤ ((k0 / 8 : Nat) : Int) ∧ ((k0 / 8 : Nat) : Int) < (p0.length : Int)) ∧ True) ∧ (((k0 / 8 < p0.length) ∧ True) ∧ ((True ∧ True) ∧ (((8 ≠ (0 : Int)) ∧ ((iRem ((k0 : Nat) : Int) 8) = ((k0 % 8 : Nat) : Int))) ∧ ((((0 : Int) ≤ ((k0 % 8 : Nat) : Int)) ∧ True) ∧ ((True ∧ True) ∧ ((True ∧ True) ∧ ((True ∧ True) ∧ (((51 ≠ (0 : Int)) ∧ ((iRem ((k0 : Nat) : Int) 51) = ((k0 % 51 : Nat) : Int))) ∧ ((((0 : Int) ≤ ((k0 % 51 : Nat) : Int)) ∧ True) ∧ ((True ∧ True) ∧ ((True ∧ True) ∧ ((((0 : Int) ≤ ((k0 / 51 : Nat) : Int) ∧ ((k0 / 51 : Nat) : Int) < ((5 : Nat) : Int)) ∧ True) ∧ ((((k0 / 51 < 5) ∧ (1 = 1)) ∧ True) ∧ True))))))))))))))))))))))
            ([(10, .sc (.i .i64 ((k0 : Nat) : Int))), (4, .sc (.p 32 0)), (2, .sc (.p 0 0)), (0, .sc (.ro .u8 p0))], [(32, .ints .u64 5 (z0.set (k0 / 51) (iOr .u64 (z0.getD (k0 / 51) 0) (iShl .u64 (IntKind.wrap .u64 (iAnd .u8 (iShr .u8 (p0.getD (k0 / 8) 0) ((k0 % 8 : Nat) : Int)) 1)) ((k0 % 51 : Nat) : Int))))), (0, .ints .u64 5 [0, 0, 0, 0, 0])])
            512 (by kernel_rfl) rfl (by kernel_rfl) (⟨⟨trivial, trivial⟩, ⟨⟨(by omega), (iQuo_nat (a := k0) (b := 51) (by omega))⟩, ⟨⟨trivial, trivial⟩, ⟨⟨(by omega), trivial⟩, ⟨⟨(by omega), trivial⟩, ⟨⟨trivial, trivial⟩, ⟨⟨trivial, trivial⟩, ⟨⟨(by omega), (iQuo_nat (a := k0) (b := 8) (by omega))⟩, ⟨⟨(by omega), trivial⟩, ⟨⟨(by omega), trivial⟩, ⟨⟨trivial, trivial⟩, ⟨⟨(by omega), (iRem_nat (a := k0) (b := 8))⟩, ⟨⟨(by omega), trivial⟩, ⟨⟨trivial, trivial⟩, ⟨⟨trivial, trivial⟩, ⟨⟨trivial, trivial⟩, ⟨⟨(by omega), (iRem_nat (a := k0) (b := 51))⟩, ⟨⟨(by omega), trivial⟩, ⟨⟨trivial, trivial⟩, ⟨⟨trivial, trivial⟩, ⟨⟨(by omega), trivial⟩, ⟨⟨⟨(by omega), (rfl)⟩, trivial⟩, trivial⟩⟩⟩⟩⟩⟩⟩⟩⟩⟩⟩⟩⟩⟩⟩⟩⟩⟩⟩⟩⟩⟩) ?_
        change Tri _ _ _ _ _ _
        refine Tri.region' [(34, .i .i64 ((k0 + 1 : Nat) : Int))] none [10, 4, 2, 0] [32, 0] ((True ∧ ((iAdd .i64 ((k0 : Nat) : Int) 1) = ((k0 + 1 : Nat) : Int))) ∧ ((True ∧ True) ∧ True))
            ([(10, .sc (.i .i64 ((k0 + 1 : Nat) : Int))), (4, .sc (.p 32 0)), (2, .sc (.p 0 0)), (0, .sc (.ro .u8 p0))], [(32, .ints .u64 5 (z0.set (k0 / 51) (iOr .u64 (z0.getD (k0 / 51) 0) (iShl .u64 (IntKind.wrap .u64 (iAnd .u8 (iShr .u8 (p0.getD (k0 / 8) 0) ((k0 % 8 : Nat) : Int)) 1)) ((k0 % 51 : Nat) : Int))))), (0, .ints .u64 5 [0, 0, 0, 0, 0])])
            544 (by kernel_rfl) rfl (by kernel_rfl) (⟨⟨trivial, (iAdd_nat (a := k0) (b := 1) (by omega))⟩, ⟨⟨trivial, trivial⟩, trivial⟩⟩) ?_
        refine countP_normal (by omega) trivial ?_
        exact Sub.ren (ns := [(32, 32), (0, 0)]) (kf := [10, 4, 2, 0]) (by kernel_rfl) (by kernel_rfl)
      ·
        have h2' := of_decide_eq_false h2
        refine Tri.exit ?_
        have hend0 : k0 = 255 := by (have := of_decide_eq_false h2; omega)
        subst hend0; subst hz0
        change Tri _ _ _ _ _ _
        refine Tri.seq_region [] none [3, 2] [0] ((True ∧ True) ∧ (((True ∧ (5 = 5)) ∧ True) ∧ ((True ∧ True) ∧ True)))
            ([(3, .sc (.b true)), (2, .sc (.p 0 0))], [(0, .ints .u64 5 (itr (F23l0 p0) 255 [0, 0, 0, 0, 0]))])
            176 (by kernel_rfl) rfl (by kernel_rfl) (⟨⟨trivial, trivial⟩, ⟨⟨⟨trivial, (rfl)⟩, trivial⟩, ⟨⟨trivial, trivial⟩, trivial⟩⟩⟩) ?_
        refine Tri.ret ?_
        repeat (first | refine thenP_ret ?_ | refine blkP_ret ?_ | refine countP_ret ?_ | refine joinP_ret ?_)
        refine endP.conv (r' := ⟨.tup [.ints .u64 5 (itr (F23l0 p0) 255 [0, 0, 0, 0, 0]), .sc (.b true)], []⟩) (by simp only [F23, F23_1, h1, sel_true, sel_false]) ?_
        exact endP.ret [] (True ∧ (True ∧ True)) (by kernel_rfl) (by kernel_rfl) (by kernel_rfl) ⟨trivial, ⟨trivial, trivial⟩⟩


theorem len23 {p0 : List Int} (h : F23_1 p0 = true) : p0.length = 32 := by
  unfold F23_1 at h
  cases hb : ((((p0.length : Nat) : Int) : Int) != 32)
  · have := ne_false_i hb
    omega
  · rw [hb, sel_true] at h
    cases h
theorem len23' {p0 : List Int} (h : (!(F23_1 p0)) = false) : p0.length = 32 := len23 (by simpa using h)


noncomputable def F46l1 (k1 : Nat) (z1 : Int × List Int) : Int × List Int :=
  ((iShr .i64 (iAdd .i64 (z1.2.getD k1 0) z1.1) 16), z1.2.set k1 (iSub .i64 (iAdd .i64 (z1.2.getD k1 0) z1.1) (iShl .i64 (iShr .i64 (iAdd .i64 (z1.2.getD k1 0) z1.1) 16) 16)))

noncomputable def F46l0 (k0 : Nat) (z0 : List Int) : List Int :=
  (((itr (F46l1) 16 (0, z0)).2).set 15 (iSub .i64 (((itr (F46l1) 16 (0, z0)).2).getD 15 0) (iShl .i64 (iShr .i64 (((itr (F46l1) 16 (0, z0)).2).getD 15 0) 15) 15))).set 0 (iAdd .i64 ((((itr (F46l1) 16 (0, z0)).2).set 15 (iSub .i64 (((itr (F46l1) 16 (0, z0)).2).getD 15 0) (iShl .i64 (iShr .i64 (((itr (F46l1) 16 (0, z0)).2).getD 15 0) 15) 15))).getD 0 0) (iAdd .i64 (iMul .i64 19 (iShr .i64 (((itr (F46l1) 16 (0, z0)).2).getD 15 0) 15)) (iMul .i64 38 ((itr (F46l1) 16 (0, z0)).1))))

noncomputable def F46l2 (k2 : Nat) (z2 : Int × List Int) : Int × List Int :=
  ((iShr .i64 (iAdd .i64 (z2.2.getD k2 0) z2.1) 16), z2.2.set k2 (iSub .i64 (iAdd .i64 (z2.2.getD k2 0) z2.1) (iShl .i64 (iShr .i64 (iAdd .i64 (z2.2.getD k2 0) z2.1) 16) 16)))

noncomputable def F46 (p0 : List Int) : List Int :=
  (sel (decide ((((itr (F46l2) 16 (0, (itr (F46l0) 4 p0).set 0 (iAdd .i64 ((itr (F46l0) 4 p0).getD 0 0) 19))).2).getD 15 0 : Int) ≥ 32768)) (((itr (F46l2) 16 (0, (itr (F46l0) 4 p0).set 0 (iAdd .i64 ((itr (F46l0) 4 p0).getD 0 0) 19))).2).set 15 (iSub .i64 (((itr (F46l2) 16 (0, (itr (F46l0) 4 p0).set 0 (iAdd .i64 ((itr (F46l0) 4 p0).getD 0 0) 19))).2).getD 15 0) 32768)) (itr (F46l0) 4 p0))

noncomputable def S46 : List AV → Option (Prop × Ret)
  | [.ints .i64 16 p0] => some (True, ⟨.ints .i64 16 (F46 p0), []⟩)
  | _ => none

noncomputable def B46 : Bs := { P := Go.Proofs.Try.prog, G := noG, tab := tabOf [], n := 82 }

theorem B46.ok : B46.Ok := ⟨tabOk (P := Go.Proofs.Try.prog) (G := noG) (l := []) True.intro, mixed⟩

theorem K46 : Known Go.Proofs.Try.prog noG 46 ⟨[.val], 0, S46⟩ := by
  refine Known.walk (B := B46) (fn := Go.Proofs.Try.f46) B46.ok (by kernel_rfl) rfl (by kernel_rfl) (by kernel_rfl) (by decide) ?_ ?_
  · intro vs C r h
    simp only at h
    unfold S46 at h
    split at h
    · cases h; rfl
    · cases h
  · intro E args C r h hC hlen
    simp only at h
    unfold S46 at h
    split at h
    rotate_left
    · cases h
    rename_i p0
    cases h
    simp only [lens] at hlen
    refine ⟨show 1 ≤ 82 from by decide, ?_⟩
    refine Tri.sub (Sub.of_eq (show _ = ([(0, .ints .i64 16 p0)], []) from rfl)) ?_
    refine Tri.seq_region [] none [2, 1] [16, 0] ((True ∧ True) ∧ ((True ∧ True) ∧ True))
        ([(2, .sc (.p 16 0)), (1, .sc (.p 0 0))], [(16, .ints .i64 16 [0, 0, 0, 0, 0, 0, 0, 0, 0, 0, 0, 0, 0, 0, 0, 0]), (0, .ints .i64 16 p0)])
        32 (by kernel_rfl) rfl (by kernel_rfl) (⟨⟨trivial, trivial⟩, ⟨⟨trivial, trivial⟩, trivial⟩⟩) ?_
    refine Tri.seq ?_
    refine Tri.seq_region [] none [3, 2, 1] [16, 0] ((True ∧ True) ∧ True)
        ([(3, .sc (.i .i64 0)), (2, .sc (.p 16 0)), (1, .sc (.p 0 0))], [(16, .ints .i64 16 [0, 0, 0, 0, 0, 0, 0, 0, 0, 0, 0, 0, 0, 0, 0, 0]), (0, .ints .i64 16 p0)])
        48 (by kernel_rfl) rfl (by kernel_rfl) (⟨⟨trivial, trivial⟩, trivial⟩) ?_
    refine Tri.block ?_
    refine Tri.count 48 4 (F46l0) p0 (fun k0 z0 => True) (fun k0 z0 => ([(3, .sc (.i .i64 ((k0 : Nat) : Int))), (2, .sc (.p 16 0)), (1, .sc (.p 0 0))], [(16, .ints .i64 16 [0, 0, 0, 0, 0, 0, 0, 0, 0, 0, 0, 0, 0, 0, 0, 0]), (0, .ints .i64 16 z0)])) trivial (Sub.of_eq (by kernel_rfl)) ?_
    intro k0 z0 hk0 hz0 hJ0
    refine Tri.seq ?_
    refine Tri.seq_region [] none [13, 3, 2, 1] [16, 0] ((True ∧ True) ∧ ((True ∧ True) ∧ True))
        ([(13, .sc (.b (decide ((((k0 : Nat) : Int) : Int) < 4)))), (3, .sc (.i .i64 ((k0 : Nat) : Int))), (2, .sc (.p 16 0)), (1, .sc (.p 0 0))], [(16, .ints .i64 16 [0, 0, 0, 0, 0, 0, 0, 0, 0, 0, 0, 0, 0, 0, 0, 0]), (0, .ints .i64 16 z0)])
        80 (by kernel_rfl) rfl (by kernel_rfl) (⟨⟨trivial, trivial⟩, ⟨⟨trivial, trivial⟩, trivial⟩⟩) ?_
    refine Tri.cond (x := (decide ((((k0 : Nat) : Int) : Int) < 4))) (by kernel_rfl) (fun h1 => ?_) (fun h1 => ?_)
    ·
      have h1' := of_decide_eq_true h1
      refine Tri.skip ?_
      change Tri _ _ _ _ _ _
      refine Tri.seq ?_
      refine Tri.block ?_
      refine Tri.seq_region [] none [4, 3, 2, 1] [16, 0] ((True ∧ True) ∧ True)
          ([(4, .sc (.i .i64 0)), (3, .sc (.i .i64 ((k0 : Nat) : Int))), (2, .sc (.p 16 0)), (1, .sc (.p 0 0))], [(16, .ints .i64 16 [0, 0, 0, 0, 0, 0, 0, 0, 0, 0, 0, 0, 0, 0, 0, 0]), (0, .ints .i64 16 z0)])
          96 (by kernel_rfl) rfl (by kernel_rfl) (⟨⟨trivial, trivial⟩, trivial⟩) ?_
      refine Tri.seq ?_
      refine Tri.seq_region [] none [5, 4, 3, 2, 1] [16, 0] ((True ∧ True) ∧ True)
          ([(5, .sc (.i .i64 0)), (4, .sc (.i .i64 0)), (3, .sc (.i .i64 ((k0 : Nat) : Int))), (2, .sc (.p 16 0)), (1, .sc (.p 0 0))], [(16, .ints .i64 16 [0, 0, 0, 0, 0, 0, 0, 0, 0, 0, 0, 0, 0, 0, 0, 0]), (0, .ints .i64 16 z0)])
          112 (by kernel_rfl) rfl (by kernel_rfl) (⟨⟨trivial, trivial⟩, trivial⟩) ?_
      refine Tri.block ?_
      refine Tri.count 112 16 (F46l1) (0, z0) (fun k1 z1 => True) (fun k1 z1 => ([(5, .sc (.i .i64 ((k1 : Nat) : Int))), (4, .sc (.i .i64 z1.1)), (3, .sc (.i .i64 ((k0 : Nat) : Int))), (2, .sc (.p 16 0)), (1, .sc (.p 0 0))], [(16, .ints .i64 16 [0, 0, 0, 0, 0, 0, 0, 0, 0, 0, 0, 0, 0, 0, 0, 0]), (0, .ints .i64 16 z1.2)])) trivial (Sub.of_eq (by kernel_rfl)) ?_
      intro k1 z1 hk1 hz1 hJ1
      refine Tri.seq ?_
      refine Tri.seq_region [] none [17, 5, 4, 3, 2, 1] [16, 0] ((True ∧ True) ∧ ((True ∧ True) ∧ True))
          ([(17, .sc (.b (decide ((((k1 : Nat) : Int) : Int) < 16)))), (5, .sc (.i .i64 ((k1 : Nat) : Int))), (4, .sc (.i .i64 z1.1)), (3, .sc (.i .i64 ((k0 : Nat) : Int))), (2, .sc (.p 16 0)), (1, .sc (.p 0 0))], [(16, .ints .i64 16 [0, 0, 0, 0, 0, 0, 0, 0, 0, 0, 0, 0, 0, 0, 0, 0]), (0, .ints .i64 16 z1.2)])
          144 (by kernel_rfl) rfl (by kernel_rfl) (⟨⟨trivial, trivial⟩, ⟨⟨trivial, trivial⟩, trivial⟩⟩) ?_
      refine Tri.cond (x := (decide ((((k1 : Nat) : Int) : Int) < 16))) (by kernel_rfl) (fun h2 => ?_) (fun h2 => ?_)
      ·
        have h2' := of_decide_eq_true h2
        refine Tri.skip ?_
        change Tri _ _ _ _ _ _
        refine Tri.seq ?_
        refine Tri.block ?_
        refine Tri.seq_region [] none [6, 5, 3, 2, 1] [16, 0] ((True ∧ True) ∧ ((((0 : Int) ≤ ((k1 : Nat) : Int) ∧ ((k1 : Nat) : Int) < ((16 : Nat) : Int)) ∧ True) ∧ (((k1 < 16) ∧ True) ∧ ((True ∧ True) ∧ ((True ∧ True) ∧ ((True ∧ True) ∧ True))))))
            ([(6, .sc (.i .i64 (iAdd .i64 (z1.2.getD k1 0) z1.1))), (5, .sc (.i .i64 ((k1 : Nat) : Int))), (3, .sc (.i .i64 ((k0 : Nat) : Int))), (2, .sc (.p 16 0)), (1, .sc (.p 0 0))], [(16, .ints .i64 16 [0, 0, 0, 0, 0, 0, 0, 0, 0, 0, 0, 0, 0, 0, 0, 0]), (0, .ints .i64 16 z1.2)])
            240 (by kernel_rfl) rfl (by kernel_rfl) (⟨⟨trivial, trivial⟩, ⟨⟨(by omega), trivial⟩, ⟨⟨(by omega), trivial⟩, ⟨⟨trivial, trivial⟩, ⟨⟨trivial, trivial⟩, ⟨⟨trivial, trivial⟩, trivial⟩⟩⟩⟩⟩⟩) ?_
        refine Tri.seq_region [] none [4, 6, 5, 3, 2, 1] [16, 0] ((True ∧ True) ∧ ((((0 : Int) ≤ 16) ∧ True) ∧ ((True ∧ True) ∧ True)))
            ([(4, .sc (.i .i64 (iShr .i64 (iAdd .i64 (z1.2.getD k1 0) z1.1) 16))), (6, .sc (.i .i64 (iAdd .i64 (z1.2.getD k1 0) z1.1))), (5, .sc (.i .i64 ((k1 : Nat) : Int))), (3, .sc (.i .i64 ((k0 : Nat) : Int))), (2, .sc (.p 16 0)), (1, .sc (.p 0 0))], [(16, .ints .i64 16 [0, 0, 0, 0, 0, 0, 0, 0, 0, 0, 0, 0, 0, 0, 0, 0]), (0, .ints .i64 16 z1.2)])
            288 (by kernel_rfl) rfl (by kernel_rfl) (⟨⟨trivial, trivial⟩, ⟨⟨(by omega), trivial⟩, ⟨⟨trivial, trivial⟩, trivial⟩⟩⟩) ?_
        refine Tri.region' [] none [4, 5, 3, 2, 1] [0, 16] ((True ∧ True) ∧ ((True ∧ True) ∧ ((True ∧ True) ∧ ((((0 : Int) ≤ 16) ∧ True) ∧ ((True ∧ True) ∧ ((((0 : Int) ≤ ((k1 : Nat) : Int) ∧ ((k1 : Nat) : Int) < ((16 : Nat) : Int)) ∧ True) ∧ ((((k1 < 16) ∧ (1 = 1)) ∧ True) ∧ True)))))))
            ([(4, .sc (.i .i64 (iShr .i64 (iAdd .i64 (z1.2.getD k1 0) z1.1) 16))), (5, .sc (.i .i64 ((k1 : Nat) : Int))), (3, .sc (.i .i64 ((k0 : Nat) : Int))), (2, .sc (.p 16 0)), (1, .sc (.p 0 0))], [(0, .ints .i64 16 (z1.2.set k1 (iSub .i64 (iAdd .i64 (z1.2.getD k1 0) z1.1) (iShl .i64 (iShr .i64 (iAdd .i64 (z1.2.getD k1 0) z1.1) 16) 16)))), (16, .ints .i64 16 [0, 0, 0, 0, 0, 0, 0, 0, 0, 0, 0, 0, 0, 0, 0, 0])])
            400 (by kernel_rfl) rfl (by kernel_rfl) (⟨⟨trivial, trivial⟩, ⟨⟨trivial, trivial⟩, ⟨⟨trivial, trivial⟩, ⟨⟨(by omega), trivial⟩, ⟨⟨trivial, trivial⟩, ⟨⟨(by omega), trivial⟩, ⟨⟨⟨(by omega), (rfl)⟩, trivial⟩, trivial⟩⟩⟩⟩⟩⟩⟩) ?_
        change Tri _ _ _ _ _ _
        refine Tri.region' [(19, .i .i64 ((k1 + 1 : Nat) : Int))] none [5, 4, 3, 2, 1] [0, 16] ((True ∧ True) ∧ ((True ∧ ((iAdd .i64 ((k1 : Nat) : Int) 1) = ((k1 + 1 : Nat) : Int))) ∧ ((True ∧ True) ∧ True)))
            ([(5, .sc (.i .i64 ((k1 + 1 : Nat) : Int))), (4, .sc (.i .i64 (iShr .i64 (iAdd .i64 (z1.2.getD k1 0) z1.1) 16))), (3, .sc (.i .i64 ((k0 : Nat) : Int))), (2, .sc (.p 16 0)), (1, .sc (.p 0 0))], [(0, .ints .i64 16 (z1.2.set k1 (iSub .i64 (iAdd .i64 (z1.2.getD k1 0) z1.1) (iShl .i64 (iShr .i64 (iAdd .i64 (z1.2.getD k1 0) z1.1) 16) 16)))), (16, .ints .i64 16 [0, 0, 0, 0, 0, 0, 0, 0, 0, 0, 0, 0, 0, 0, 0, 0])])
            448 (by kernel_rfl) rfl (by kernel_rfl) (⟨⟨trivial, trivial⟩, ⟨⟨trivial, (iAdd_nat (a := k1) (b := 1) (by omega))⟩, ⟨⟨trivial, trivial⟩, trivial⟩⟩⟩) ?_
        refine countP_normal (by omega) trivial ?_
        exact Sub.ren (ns := [(16, 16), (0, 0)]) (kf := [5, 4, 3, 2, 1]) (by kernel_rfl) (by kernel_rfl)
      ·
        have h2' := of_decide_eq_false h2
        refine Tri.exit ?_
        have hend1 : k1 = 16 := by (have := of_decide_eq_false h2; omega)
        subst hend1; subst hz1
        change Tri _ _ _ _ _ _
        refine Tri.seq_region [] none [7, 4, 3, 2, 1] [16, 0] ((((0 : Int) ≤ 15 ∧ 15 < ((16 : Nat) : Int)) ∧ True) ∧ (((15 < 16) ∧ True) ∧ ((((0 : Int) ≤ 15) ∧ True) ∧ ((True ∧ True) ∧ True))))
            ([(7, .sc (.i .i64 (iShr .i64 (((itr (F46l1) 16 (0, z0)).2).getD 15 0) 15))), (4, .sc (.i .i64 ((itr (F46l1) 16 (0, z0)).1))), (3, .sc (.i .i64 ((k0 : Nat) : Int))), (2, .sc (.p 16 0)), (1, .sc (.p 0 0))], [(16, .ints .i64 16 [0, 0, 0, 0, 0, 0, 0, 0, 0, 0, 0, 0, 0, 0, 0, 0]), (0, .ints .i64 16 ((itr (F46l1) 16 (0, z0)).2))])
            208 (by kernel_rfl) rfl (by kernel_rfl) (⟨⟨(by omega), trivial⟩, ⟨⟨(by omega), trivial⟩, ⟨⟨(by omega), trivial⟩, ⟨⟨trivial, trivial⟩, trivial⟩⟩⟩⟩) ?_
        refine Tri.seq_region [] none [7, 4, 3, 2, 1] [0, 16] ((((0 : Int) ≤ 15 ∧ 15 < ((16 : Nat) : Int)) ∧ True) ∧ (((15 < 16) ∧ True) ∧ ((True ∧ True) ∧ ((((0 : Int) ≤ 15) ∧ True) ∧ ((True ∧ True) ∧ ((((0 : Int) ≤ 15 ∧ 15 < ((16 : Nat) : Int)) ∧ True) ∧ ((((15 < 16) ∧ (1 = 1)) ∧ True) ∧ True)))))))
            ([(7, .sc (.i .i64 (iShr .i64 (((itr (F46l1) 16 (0, z0)).2).getD 15 0) 15))), (4, .sc (.i .i64 ((itr (F46l1) 16 (0, z0)).1))), (3, .sc (.i .i64 ((k0 : Nat) : Int))), (2, .sc (.p 16 0)), (1, .sc (.p 0 0))], [(0, .ints .i64 16 (((itr (F46l1) 16 (0, z0)).2).set 15 (iSub .i64 (((itr (F46l1) 16 (0, z0)).2).getD 15 0) (iShl .i64 (iShr .i64 (((itr (F46l1) 16 (0, z0)).2).getD 15 0) 15) 15)))), (16, .ints .i64 16 [0, 0, 0, 0, 0, 0, 0, 0, 0, 0, 0, 0, 0, 0, 0, 0])])
            320 (by kernel_rfl) rfl (by kernel_rfl) (⟨⟨(by omega), trivial⟩, ⟨⟨(by omega), trivial⟩, ⟨⟨trivial, trivial⟩, ⟨⟨(by omega), trivial⟩, ⟨⟨trivial, trivial⟩, ⟨⟨(by omega), trivial⟩, ⟨⟨⟨(by omega), (rfl)⟩, trivial⟩, trivial⟩⟩⟩⟩⟩⟩⟩) ?_
        refine Tri.region' [] none [3, 2, 1] [0, 16] ((((0 : Int) ≤ 0 ∧ 0 < ((16 : Nat) : Int)) ∧ True) ∧ (((0 < 16) ∧ True) ∧ ((True ∧ True) ∧ ((True ∧ True) ∧ ((True ∧ True) ∧ ((True ∧ True) ∧ ((True ∧ True) ∧ ((True ∧ True) ∧ ((((0 : Int) ≤ 0 ∧ 0 < ((16 : Nat) : Int)) ∧ True) ∧ ((((0 < 16) ∧ (1 = 1)) ∧ True) ∧ True))))))))))
            ([(3, .sc (.i .i64 ((k0 : Nat) : Int))), (2, .sc (.p 16 0)), (1, .sc (.p 0 0))], [(0, .ints .i64 16 ((((itr (F46l1) 16 (0, z0)).2).set 15 (iSub .i64 (((itr (F46l1) 16 (0, z0)).2).getD 15 0) (iShl .i64 (iShr .i64 (((itr (F46l1) 16 (0, z0)).2).getD 15 0) 15) 15))).set 0 (iAdd .i64 ((((itr (F46l1) 16 (0, z0)).2).set 15 (iSub .i64 (((itr (F46l1) 16 (0, z0)).2).getD 15 0) (iShl .i64 (iShr .i64 (((itr (F46l1) 16 (0, z0)).2).getD 15 0) 15) 15))).getD 0 0) (iAdd .i64 (iMul .i64 19 (iShr .i64 (((itr (F46l1) 16 (0, z0)).2).getD 15 0) 15)) (iMul .i64 38 ((itr (F46l1) 16 (0, z0)).1)))))), (16, .ints .i64 16 [0, 0, 0, 0, 0, 0, 0, 0, 0, 0, 0, 0, 0, 0, 0, 0])])
            480 (by kernel_rfl) rfl (by kernel_rfl) (⟨⟨(by omega), trivial⟩, ⟨⟨(by omega), trivial⟩, ⟨⟨trivial, trivial⟩, ⟨⟨trivial, trivial⟩, ⟨⟨trivial, trivial⟩, ⟨⟨trivial, trivial⟩, ⟨⟨trivial, trivial⟩, ⟨⟨trivial, trivial⟩, ⟨⟨(by omega), trivial⟩, ⟨⟨⟨(by omega), (rfl)⟩, trivial⟩, trivial⟩⟩⟩⟩⟩⟩⟩⟩⟩⟩) ?_
        change Tri _ _ _ _ _ _
        refine Tri.region' [(15, .i .i64 ((k0 + 1 : Nat) : Int))] none [3, 2, 1] [0, 16] ((True ∧ True) ∧ ((True ∧ ((iAdd .i64 ((k0 : Nat) : Int) 1) = ((k0 + 1 : Nat) : Int))) ∧ ((True ∧ True) ∧ True)))
            ([(3, .sc (.i .i64 ((k0 + 1 : Nat) : Int))), (2, .sc (.p 16 0)), (1, .sc (.p 0 0))], [(0, .ints .i64 16 ((((itr (F46l1) 16 (0, z0)).2).set 15 (iSub .i64 (((itr (F46l1) 16 (0, z0)).2).getD 15 0) (iShl .i64 (iShr .i64 (((itr (F46l1) 16 (0, z0)).2).getD 15 0) 15) 15))).set 0 (iAdd .i64 ((((itr (F46l1) 16 (0, z0)).2).set 15 (iSub .i64 (((itr (F46l1) 16 (0, z0)).2).getD 15 0) (iShl .i64 (iShr .i64 (((itr (F46l1) 16 (0, z0)).2).getD 15 0) 15) 15))).getD 0 0) (iAdd .i64 (iMul .i64 19 (iShr .i64 (((itr (F46l1) 16 (0, z0)).2).getD 15 0) 15)) (iMul .i64 38 ((itr (F46l1) 16 (0, z0)).1)))))), (16, .ints .i64 16 [0, 0, 0, 0, 0, 0, 0, 0, 0, 0, 0, 0, 0, 0, 0, 0])])
            528 (by kernel_rfl) rfl (by kernel_rfl) (⟨⟨trivial, trivial⟩, ⟨⟨trivial, (iAdd_nat (a := k0) (b := 1) (by omega))⟩, ⟨⟨trivial, trivial⟩, trivial⟩⟩⟩) ?_
        refine countP_normal (by omega) trivial ?_
        exact Sub.ren (ns := [(16, 16), (0, 0)]) (kf := [3, 2, 1]) (by kernel_rfl) (by kernel_rfl)
    ·
      have h1' := of_decide_eq_false h1
      refine Tri.exit ?_
      have hend0 : k0 = 4 := by (have := of_decide_eq_false h1; omega)
      subst hend0; subst hz0
      change Tri _ _ _ _ _ _
      refine Tri.seq_region [] none [8, 2, 1] [96, 16, 0] ((True ∧ True) ∧ ((True ∧ True) ∧ (((True ∧ (16 = 16)) ∧ True) ∧ True)))
          ([(8, .sc (.p 96 0)), (2, .sc (.p 16 0)), (1, .sc (.p 0 0))], [(96, .ints .i64 16 (itr (F46l0) 4 p0)), (16, .ints .i64 16 [0, 0, 0, 0, 0, 0, 0, 0, 0, 0, 0, 0, 0, 0, 0, 0]), (0, .ints .i64 16 (itr (F46l0) 4 p0))])
          128 (by kernel_rfl) rfl (by kernel_rfl) (⟨⟨trivial, trivial⟩, ⟨⟨trivial, trivial⟩, ⟨⟨⟨trivial, (rfl)⟩, trivial⟩, trivial⟩⟩⟩) ?_
      refine Tri.seq_region [] none [8, 2, 1] [96, 16, 0] ((((0 : Int) ≤ 0 ∧ 0 < ((16 : Nat) : Int)) ∧ True) ∧ (((0 < 16) ∧ True) ∧ ((True ∧ True) ∧ ((((0 : Int) ≤ 0 ∧ 0 < ((16 : Nat) : Int)) ∧ True) ∧ ((((0 < 16) ∧ (1 = 1)) ∧ True) ∧ True)))))
          ([(8, .sc (.p 96 0)), (2, .sc (.p 16 0)), (1, .sc (.p 0 0))], [(96, .ints .i64 16 ((itr (F46l0) 4 p0).set 0 (iAdd .i64 ((itr (F46l0) 4 p0).getD 0 0) 19))), (16, .ints .i64 16 [0, 0, 0, 0, 0, 0, 0, 0, 0, 0, 0, 0, 0, 0, 0, 0]), (0, .ints .i64 16 (itr (F46l0) 4 p0))])
          208 (by kernel_rfl) rfl (by kernel_rfl) (⟨⟨(by omega), trivial⟩, ⟨⟨(by omega), trivial⟩, ⟨⟨trivial, trivial⟩, ⟨⟨(by omega), trivial⟩, ⟨⟨⟨(by omega), (rfl)⟩, trivial⟩, trivial⟩⟩⟩⟩⟩) ?_
      refine Tri.seq_region [] none [9, 8, 2, 1] [96, 16, 0] ((True ∧ True) ∧ True)
          ([(9, .sc (.i .i64 0)), (8, .sc (.p 96 0)), (2, .sc (.p 16 0)), (1, .sc (.p 0 0))], [(96, .ints .i64 16 ((itr (F46l0) 4 p0).set 0 (iAdd .i64 ((itr (F46l0) 4 p0).getD 0 0) 19))), (16, .ints .i64 16 [0, 0, 0, 0, 0, 0, 0, 0, 0, 0, 0, 0, 0, 0, 0, 0]), (0, .ints .i64 16 (itr (F46l0) 4 p0))])
          224 (by kernel_rfl) rfl (by kernel_rfl) (⟨⟨trivial, trivial⟩, trivial⟩) ?_
      refine Tri.seq ?_
      refine Tri.seq_region [] none [10, 9, 8, 2, 1] [96, 16, 0] ((True ∧ True) ∧ True)
          ([(10, .sc (.i .i64 0)), (9, .sc (.i .i64 0)), (8, .sc (.p 96 0)), (2, .sc (.p 16 0)), (1, .sc (.p 0 0))], [(96, .ints .i64 16 ((itr (F46l0) 4 p0).set 0 (iAdd .i64 ((itr (F46l0) 4 p0).getD 0 0) 19))), (16, .ints .i64 16 [0, 0, 0, 0, 0, 0, 0, 0, 0, 0, 0, 0, 0, 0, 0, 0]), (0, .ints .i64 16 (itr (F46l0) 4 p0))])
          240 (by kernel_rfl) rfl (by kernel_rfl) (⟨⟨trivial, trivial⟩, trivial⟩) ?_
      refine Tri.block ?_
      refine Tri.count 240 16 (F46l2) (0, (itr (F46l0) 4 p0).set 0 (iAdd .i64 ((itr (F46l0) 4 p0).getD 0 0) 19)) (fun k2 z2 => True) (fun k2 z2 => ([(10, .sc (.i .i64 ((k2 : Nat) : Int))), (9, .sc (.i .i64 z2.1)), (8, .sc (.p 96 0)), (2, .sc (.p 16 0)), (1, .sc (.p 0 0))], [(96, .ints .i64 16 z2.2), (16, .ints .i64 16 [0, 0, 0, 0, 0, 0, 0, 0, 0, 0, 0, 0, 0, 0, 0, 0]), (0, .ints .i64 16 (itr (F46l0) 4 p0))])) trivial (Sub.of_eq (by kernel_rfl)) ?_
      intro k2 z2 hk2 hz2 hJ2
      refine Tri.seq ?_
      refine Tri.seq_region [] none [57, 10, 9, 8, 2, 1] [96, 16, 0] ((True ∧ True) ∧ ((True ∧ True) ∧ True))
          ([(57, .sc (.b (decide ((((k2 : Nat) : Int) : Int) < 16)))), (10, .sc (.i .i64 ((k2 : Nat) : Int))), (9, .sc (.i .i64 z2.1)), (8, .sc (.p 96 0)), (2, .sc (.p 16 0)), (1, .sc (.p 0 0))], [(96, .ints .i64 16 z2.2), (16, .ints .i64 16 [0, 0, 0, 0, 0, 0, 0, 0, 0, 0, 0, 0, 0, 0, 0, 0]), (0, .ints .i64 16 (itr (F46l0) 4 p0))])
          272 (by kernel_rfl) rfl (by kernel_rfl) (⟨⟨trivial, trivial⟩, ⟨⟨trivial, trivial⟩, trivial⟩⟩) ?_
      refine Tri.cond (x := (decide ((((k2 : Nat) : Int) : Int) < 16))) (by kernel_rfl) (fun h3 => ?_) (fun h3 => ?_)
      ·
        have h3' := of_decide_eq_true h3
        refine Tri.skip ?_
        change Tri _ _ _ _ _ _
        refine Tri.seq ?_
        refine Tri.block ?_
        refine Tri.seq_region [] none [11, 10, 8, 2, 1] [96, 16, 0] ((True ∧ True) ∧ ((((0 : Int) ≤ ((k2 : Nat) : Int) ∧ ((k2 : Nat) : Int) < ((16 : Nat) : Int)) ∧ True) ∧ (((k2 < 16) ∧ True) ∧ ((True ∧ True) ∧ ((True ∧ True) ∧ ((True ∧ True) ∧ True))))))
            ([(11, .sc (.i .i64 (iAdd .i64 (z2.2.getD k2 0) z2.1))), (10, .sc (.i .i64 ((k2 : Nat) : Int))), (8, .sc (.p 96 0)), (2, .sc (.p 16 0)), (1, .sc (.p 0 0))], [(96, .ints .i64 16 z2.2), (16, .ints .i64 16 [0, 0, 0, 0, 0, 0, 0, 0, 0, 0, 0, 0, 0, 0, 0, 0]), (0, .ints .i64 16 (itr (F46l0) 4 p0))])
            368 (by kernel_rfl) rfl (by kernel_rfl) (⟨⟨trivial, trivial⟩, ⟨⟨(by omega), trivial⟩, ⟨⟨(by omega), trivial⟩, ⟨⟨trivial, trivial⟩, ⟨⟨trivial, trivial⟩, ⟨⟨trivial, trivial⟩, trivial⟩⟩⟩⟩⟩⟩) ?_
        refine Tri.seq_region [] none [9, 11, 10, 8, 2, 1] [96, 16, 0] ((True ∧ True) ∧ ((((0 : Int) ≤ 16) ∧ True) ∧ ((True ∧ True) ∧ True)))
            ([(9, .sc (.i .i64 (iShr .i64 (iAdd .i64 (z2.2.getD k2 0) z2.1) 16))), (11, .sc (.i .i64 (iAdd .i64 (z2.2.getD k2 0) z2.1))), (10, .sc (.i .i64 ((k2 : Nat) : Int))), (8, .sc (.p 96 0)), (2, .sc (.p 16 0)), (1, .sc (.p 0 0))], [(96, .ints .i64 16 z2.2), (16, .ints .i64 16 [0, 0, 0, 0, 0, 0, 0, 0, 0, 0, 0, 0, 0, 0, 0, 0]), (0, .ints .i64 16 (itr (F46l0) 4 p0))])
            416 (by kernel_rfl) rfl (by kernel_rfl) (⟨⟨trivial, trivial⟩, ⟨⟨(by omega), trivial⟩, ⟨⟨trivial, trivial⟩, trivial⟩⟩⟩) ?_
        refine Tri.region' [] none [9, 10, 8, 2, 1] [96, 16, 0] ((True ∧ True) ∧ ((True ∧ True) ∧ ((True ∧ True) ∧ ((((0 : Int) ≤ 16) ∧ True) ∧ ((True ∧ True) ∧ ((((0 : Int) ≤ ((k2 : Nat) : Int) ∧ ((k2 : Nat) : Int) < ((16 : Nat) : Int)) ∧ True) ∧ ((((k2 < 16) ∧ (1 = 1)) ∧ True) ∧ True)))))))
            ([(9, .sc (.i .i64 (iShr .i64 (iAdd .i64 (z2.2.getD k2 0) z2.1) 16))), (10, .sc (.i .i64 ((k2 : Nat) : Int))), (8, .sc (.p 96 0)), (2, .sc (.p 16 0)), (1, .sc (.p 0 0))], [(96, .ints .i64 16 (z2.2.set k2 (iSub .i64 (iAdd .i64 (z2.2.getD k2 0) z2.1) (iShl .i64 (iShr .i64 (iAdd .i64 (z2.2.getD k2 0) z2.1) 16) 16)))), (16, .ints .i64 16 [0, 0, 0, 0, 0, 0, 0, 0, 0, 0, 0, 0, 0, 0, 0, 0]), (0, .ints .i64 16 (itr (F46l0) 4 p0))])
            528 (by kernel_rfl) rfl (by kernel_rfl) (⟨⟨trivial, trivial⟩, ⟨⟨trivial, trivial⟩, ⟨⟨trivial, trivial⟩, ⟨⟨(by omega), trivial⟩, ⟨⟨trivial, trivial⟩, ⟨⟨(by omega), trivial⟩, ⟨⟨⟨(by omega), (rfl)⟩, trivial⟩, trivial⟩⟩⟩⟩⟩⟩⟩) ?_
        change Tri _ _ _ _ _ _
        refine Tri.region' [(59, .i .i64 ((k2 + 1 : Nat) : Int))] none [10, 9, 8, 2, 1] [96, 16, 0] ((True ∧ True) ∧ ((True ∧ ((iAdd .i64 ((k2 : Nat) : Int) 1) = ((k2 + 1 : Nat) : Int))) ∧ ((True ∧ True) ∧ True)))
            ([(10, .sc (.i .i64 ((k2 + 1 : Nat) : Int))), (9, .sc (.i .i64 (iShr .i64 (iAdd .i64 (z2.2.getD k2 0) z2.1) 16))), (8, .sc (.p 96 0)), (2, .sc (.p 16 0)), (1, .sc (.p 0 0))], [(96, .ints .i64 16 (z2.2.set k2 (iSub .i64 (iAdd .i64 (z2.2.getD k2 0) z2.1) (iShl .i64 (iShr .i64 (iAdd .i64 (z2.2.getD k2 0) z2.1) 16) 16)))), (16, .ints .i64 16 [0, 0, 0, 0, 0, 0, 0, 0, 0, 0, 0, 0, 0, 0, 0, 0]), (0, .ints .i64 16 (itr (F46l0) 4 p0))])
            576 (by kernel_rfl) rfl (by kernel_rfl) (⟨⟨trivial, trivial⟩, ⟨⟨trivial, (iAdd_nat (a := k2) (b := 1) (by omega))⟩, ⟨⟨trivial, trivial⟩, trivial⟩⟩⟩) ?_
        refine countP_normal (by omega) trivial ?_
        exact Sub.ren (ns := [(96, 96), (16, 16), (0, 0)]) (kf := [10, 9, 8, 2, 1]) (by kernel_rfl) (by kernel_rfl)
      ·
        have h3' := of_decide_eq_false h3
        refine Tri.exit ?_
        have hend2 : k2 = 16 := by (have := of_decide_eq_false h3; omega)
        subst hend2; subst hz2
        change Tri _ _ _ _ _ _
        refine Tri.seq ?_
        refine Tri.seq_region [] none [75, 8, 2, 1] [96, 16, 0] ((((0 : Int) ≤ 15 ∧ 15 < ((16 : Nat) : Int)) ∧ True) ∧ (((15 < 16) ∧ True) ∧ ((True ∧ True) ∧ True)))
            ([(75, .sc (.b (decide ((((itr (F46l2) 16 (0, (itr (F46l0) 4 p0).set 0 (iAdd .i64 ((itr (F46l0) 4 p0).getD 0 0) 19))).2).getD 15 0 : Int) ≥ 32768)))), (8, .sc (.p 96 0)), (2, .sc (.p 16 0)), (1, .sc (.p 0 0))], [(96, .ints .i64 16 ((itr (F46l2) 16 (0, (itr (F46l0) 4 p0).set 0 (iAdd .i64 ((itr (F46l0) 4 p0).getD 0 0) 19))).2)), (16, .ints .i64 16 [0, 0, 0, 0, 0, 0, 0, 0, 0, 0, 0, 0, 0, 0, 0, 0]), (0, .ints .i64 16 (itr (F46l0) 4 p0))])
            320 (by kernel_rfl) rfl (by kernel_rfl) (⟨⟨(by omega), trivial⟩, ⟨⟨(by omega), trivial⟩, ⟨⟨trivial, trivial⟩, trivial⟩⟩⟩) ?_
        refine Tri.cond (x := (decide ((((itr (F46l2) 16 (0, (itr (F46l0) 4 p0).set 0 (iAdd .i64 ((itr (F46l0) 4 p0).getD 0 0) 19))).2).getD 15 0 : Int) ≥ 32768))) (by kernel_rfl) (fun h4 => ?_) (fun h4 => ?_)
        ·
          have h4' := of_decide_eq_true h4
          refine Tri.seq_region [] none [8, 2] [96, 16] ((((0 : Int) ≤ 15 ∧ 15 < ((16 : Nat) : Int)) ∧ True) ∧ (((15 < 16) ∧ True) ∧ ((True ∧ True) ∧ ((((0 : Int) ≤ 15 ∧ 15 < ((16 : Nat) : Int)) ∧ True) ∧ ((((15 < 16) ∧ (1 = 1)) ∧ True) ∧ True)))))
              ([(8, .sc (.p 96 0)), (2, .sc (.p 16 0))], [(96, .ints .i64 16 (((itr (F46l2) 16 (0, (itr (F46l0) 4 p0).set 0 (iAdd .i64 ((itr (F46l0) 4 p0).getD 0 0) 19))).2).set 15 (iSub .i64 (((itr (F46l2) 16 (0, (itr (F46l0) 4 p0).set 0 (iAdd .i64 ((itr (F46l0) 4 p0).getD 0 0) 19))).2).getD 15 0) 32768))), (16, .ints .i64 16 [0, 0, 0, 0, 0, 0, 0, 0, 0, 0, 0, 0, 0, 0, 0, 0])])
              400 (by kernel_rfl) rfl (by kernel_rfl) (⟨⟨(by omega), trivial⟩, ⟨⟨(by omega), trivial⟩, ⟨⟨trivial, trivial⟩, ⟨⟨(by omega), trivial⟩, ⟨⟨⟨(by omega), (rfl)⟩, trivial⟩, trivial⟩⟩⟩⟩⟩) ?_
          refine Tri.seq_region [] none [2] [16] ((True ∧ True) ∧ (((True ∧ (16 = 16)) ∧ True) ∧ True))
              ([(2, .sc (.p 16 0))], [(16, .ints .i64 16 (((itr (F46l2) 16 (0, (itr (F46l0) 4 p0).set 0 (iAdd .i64 ((itr (F46l0) 4 p0).getD 0 0) 19))).2).set 15 (iSub .i64 (((itr (F46l2) 16 (0, (itr (F46l0) 4 p0).set 0 (iAdd .i64 ((itr (F46l0) 4 p0).getD 0 0) 19))).2).getD 15 0) 32768)))])
              432 (by kernel_rfl) rfl (by kernel_rfl) (⟨⟨trivial, trivial⟩, ⟨⟨⟨trivial, (rfl)⟩, trivial⟩, trivial⟩⟩) ?_
          refine Tri.ret ?_
          repeat (first | refine thenP_ret ?_ | refine blkP_ret ?_ | refine countP_ret ?_ | refine joinP_ret ?_)
          refine endP.conv (r' := ⟨.ints .i64 16 (((itr (F46l2) 16 (0, (itr (F46l0) 4 p0).set 0 (iAdd .i64 ((itr (F46l0) 4 p0).getD 0 0) 19))).2).set 15 (iSub .i64 (((itr (F46l2) 16 (0, (itr (F46l0) 4 p0).set 0 (iAdd .i64 ((itr (F46l0) 4 p0).getD 0 0) 19))).2).getD 15 0) 32768)), []⟩) (by simp only [F46, h4, sel_true, sel_false]) ?_
          exact endP.ret [] (True ∧ True) (by kernel_rfl) (by kernel_rfl) (by kernel_rfl) ⟨trivial, trivial⟩
        ·
          have h4' := of_decide_eq_false h4
          refine Tri.skip ?_
          change Tri _ _ _ _ _ _
          refine Tri.seq_region [] none [2] [16] ((True ∧ True) ∧ (((True ∧ (16 = 16)) ∧ True) ∧ True))
              ([(2, .sc (.p 16 0))], [(16, .ints .i64 16 (itr (F46l0) 4 p0))])
              352 (by kernel_rfl) rfl (by kernel_rfl) (⟨⟨trivial, trivial⟩, ⟨⟨⟨trivial, (rfl)⟩, trivial⟩, trivial⟩⟩) ?_
          refine Tri.ret ?_
          repeat (first | refine thenP_ret ?_ | refine blkP_ret ?_ | refine countP_ret ?_ | refine joinP_ret ?_)
          refine endP.conv (r' := ⟨.ints .i64 16 (itr (F46l0) 4 p0), []⟩) (by simp only [F46, h4, sel_true, sel_false]) ?_
          exact endP.ret [] (True ∧ True) (by kernel_rfl) (by kernel_rfl) (by kernel_rfl) ⟨trivial, trivial⟩


noncomputable def F17l0 (p1 : List Int) (k0 : Nat) (z0 : List Int) : List Int :=
  z0.set k0 (iAdd .i64 (z0.getD k0 0) (p1.getD k0 0))

noncomputable def F17 (p0 : List Int) (p1 : List Int) : List Int :=
  (F46 (itr (F17l0 p1) 16 p0))

noncomputable def S17 : List AV → Option (Prop × Ret)
  | [.ints .i64 16 p0, .ints .i64 16 p1] => some (True, ⟨.ints .i64 16 (F17 p0 p1), []⟩)
  | _ => none

noncomputable def B17 : Bs := { P := Go.Proofs.Try.prog, G := noG, tab := tabOf [(46, ⟨[.val], 0, S46⟩)], n := 20 }

theorem B17.ok : B17.Ok := ⟨tabOk (P := Go.Proofs.Try.prog) (G := noG) (l := [(46, ⟨[.val], 0, S46⟩)]) (And.intro K46 True.intro), mixed⟩

theorem K17 : Known Go.Proofs.Try.prog noG 17 ⟨[.val, .val], 0, S17⟩ := by
  refine Known.walk (B := B17) (fn := Go.Proofs.Try.f17) B17.ok (by kernel_rfl) rfl (by kernel_rfl) (by kernel_rfl) (by decide) ?_ ?_
  · intro vs C r h
    simp only at h
    unfold S17 at h
    split at h
    · cases h; rfl
    · cases h
  · intro E args C r h hC hlen
    simp only at h
    unfold S17 at h
    split at h
    rotate_left
    · cases h
    rename_i p0 p1
    cases h
    simp only [lens] at hlen
    refine ⟨show 2 ≤ 20 from by decide, ?_⟩
    refine Tri.sub (Sub.of_eq (show _ = ([(0, .ints .i64 16 p0), (1, .ints .i64 16 p1)], []) from rfl)) ?_
    refine Tri.seq_region [] none [4, 3, 2] [32, 16, 0] ((True ∧ True) ∧ ((True ∧ True) ∧ ((True ∧ True) ∧ True)))
        ([(4, .sc (.p 32 0)), (3, .sc (.p 16 0)), (2, .sc (.p 0 0))], [(32, .ints .i64 16 [0, 0, 0, 0, 0, 0, 0, 0, 0, 0, 0, 0, 0, 0, 0, 0]), (16, .ints .i64 16 p1), (0, .ints .i64 16 p0)])
        48 (by kernel_rfl) rfl (by kernel_rfl) (⟨⟨trivial, trivial⟩, ⟨⟨trivial, trivial⟩, ⟨⟨trivial, trivial⟩, trivial⟩⟩⟩) ?_
    refine Tri.seq ?_
    refine Tri.seq_region [] none [5, 4, 3, 2] [32, 16, 0] ((True ∧ True) ∧ True)
        ([(5, .sc (.i .i64 0)), (4, .sc (.p 32 0)), (3, .sc (.p 16 0)), (2, .sc (.p 0 0))], [(32, .ints .i64 16 [0, 0, 0, 0, 0, 0, 0, 0, 0, 0, 0, 0, 0, 0, 0, 0]), (16, .ints .i64 16 p1), (0, .ints .i64 16 p0)])
        64 (by kernel_rfl) rfl (by kernel_rfl) (⟨⟨trivial, trivial⟩, trivial⟩) ?_
    refine Tri.block ?_
    refine Tri.count 64 16 (F17l0 p1) p0 (fun k0 z0 => True) (fun k0 z0 => ([(5, .sc (.i .i64 ((k0 : Nat) : Int))), (4, .sc (.p 32 0)), (3, .sc (.p 16 0)), (2, .sc (.p 0 0))], [(32, .ints .i64 16 [0, 0, 0, 0, 0, 0, 0, 0, 0, 0, 0, 0, 0, 0, 0, 0]), (16, .ints .i64 16 p1), (0, .ints .i64 16 z0)])) trivial (Sub.of_eq (by kernel_rfl)) ?_
    intro k0 z0 hk0 hz0 hJ0
    refine Tri.seq ?_
    refine Tri.seq_region [] none [7, 5, 4, 3, 2] [32, 16, 0] ((True ∧ True) ∧ ((True ∧ True) ∧ True))
        ([(7, .sc (.b (decide ((((k0 : Nat) : Int) : Int) < 16)))), (5, .sc (.i .i64 ((k0 : Nat) : Int))), (4, .sc (.p 32 0)), (3, .sc (.p 16 0)), (2, .sc (.p 0 0))], [(32, .ints .i64 16 [0, 0, 0, 0, 0, 0, 0, 0, 0, 0, 0, 0, 0, 0, 0, 0]), (16, .ints .i64 16 p1), (0, .ints .i64 16 z0)])
        96 (by kernel_rfl) rfl (by kernel_rfl) (⟨⟨trivial, trivial⟩, ⟨⟨trivial, trivial⟩, trivial⟩⟩) ?_
    refine Tri.cond (x := (decide ((((k0 : Nat) : Int) : Int) < 16))) (by kernel_rfl) (fun h1 => ?_) (fun h1 => ?_)
    ·
      have h1' := of_decide_eq_true h1
      refine Tri.skip ?_
      change Tri _ _ _ _ _ _
      refine Tri.seq ?_
      refine Tri.block ?_
      refine Tri.region' [] (some [0, 1, 3, 0, 8, 24, 63, 127, 255]) [5, 4, 3, 2] [0, 32, 16] ((True ∧ True) ∧ ((((0 : Int) ≤ ((k0 : Nat) : Int) ∧ ((k0 : Nat) : Int) < ((16 : Nat) : Int)) ∧ True) ∧ (((k0 < 16) ∧ True) ∧ ((True ∧ True) ∧ ((((0 : Int) ≤ ((k0 : Nat) : Int) ∧ ((k0 : Nat) : Int) < ((16 : Nat) : Int)) ∧ True) ∧ (((k0 < 16) ∧ True) ∧ ((True ∧ True) ∧ ((((0 : Int) ≤ ((k0 : Nat) : Int) ∧ ((k0 : Nat) : Int) < ((16 : Nat) : Int)) ∧ True) ∧ ((((k0 < 16) ∧ (1 = 1)) ∧ True) ∧ True)))))))))
          ([(5, .sc (.i .i64 ((k0 : Nat) : Int))), (4, .sc (.p 32 0)), (3, .sc (.p 16 0)), (2, .sc (.p 0 0))], [(0, .ints .i64 16 (z0.set k0 (iAdd .i64 (z0.getD k0 0) (p1.getD k0 0)))), (32, .ints .i64 16 [0, 0, 0, 0, 0, 0, 0, 0, 0, 0, 0, 0, 0, 0, 0, 0]), (16, .ints .i64 16 p1)])
          240 (by kernel_rfl) rfl (by kernel_rfl) (⟨⟨trivial, trivial⟩, ⟨⟨(by omega), trivial⟩, ⟨⟨(by omega), trivial⟩, ⟨⟨trivial, trivial⟩, ⟨⟨(by omega), trivial⟩, ⟨⟨(by omega), trivial⟩, ⟨⟨trivial, trivial⟩, ⟨⟨(by omega), trivial⟩, ⟨⟨⟨(by omega), (rfl)⟩, trivial⟩, trivial⟩⟩⟩⟩⟩⟩⟩⟩⟩) ?_
      change Tri _ _ _ _ _ _
      refine Tri.region' [(9, .i .i64 ((k0 + 1 : Nat) : Int))] none [5, 4, 3, 2] [0, 32, 16] ((True ∧ True) ∧ ((True ∧ ((iAdd .i64 ((k0 : Nat) : Int) 1) = ((k0 + 1 : Nat) : Int))) ∧ ((True ∧ True) ∧ True)))
          ([(5, .sc (.i .i64 ((k0 + 1 : Nat) : Int))), (4, .sc (.p 32 0)), (3, .sc (.p 16 0)), (2, .sc (.p 0 0))], [(0, .ints .i64 16 (z0.set k0 (iAdd .i64 (z0.getD k0 0) (p1.getD k0 0)))), (32, .ints .i64 16 [0, 0, 0, 0, 0, 0, 0, 0, 0, 0, 0, 0, 0, 0, 0, 0]), (16, .ints .i64 16 p1)])
          288 (by kernel_rfl) rfl (by kernel_rfl) (⟨⟨trivial, trivial⟩, ⟨⟨trivial, (iAdd_nat (a := k0) (b := 1) (by omega))⟩, ⟨⟨trivial, trivial⟩, trivial⟩⟩⟩) ?_
      refine countP_normal (by omega) trivial ?_
      exact Sub.ren (ns := [(32, 32), (16, 16), (0, 0)]) (kf := [5, 4, 3, 2]) (by kernel_rfl) (by kernel_rfl)
    ·
      have h1' := of_decide_eq_false h1
      refine Tri.exit ?_
      have hend0 : k0 = 16 := by (have := of_decide_eq_false h1; omega)
      subst hend0; subst hz0
      change Tri _ _ _ _ _ _
      refine Tri.seq_region [] none [4] [32] ((True ∧ True) ∧ (((True ∧ True) ∧ True) ∧ (((True ∧ (16 = 16)) ∧ True) ∧ True)))
          ([(4, .sc (.p 32 0))], [(32, .ints .i64 16 (F46 (itr (F17l0 p1) 16 p0)))])
          144 (by kernel_rfl) rfl (by kernel_rfl) (⟨⟨trivial, trivial⟩, ⟨⟨⟨trivial, trivial⟩, trivial⟩, ⟨⟨⟨trivial, (rfl)⟩, trivial⟩, trivial⟩⟩⟩) ?_
      refine Tri.ret ?_
      exact endP.ret [] (True ∧ True) (by kernel_rfl) (by kernel_rfl) (by kernel_rfl) ⟨trivial, trivial⟩


noncomputable def F19l0 (p1 : List Int) (k0 : Nat) (z0 : List Int) : List Int :=
  z0.set k0 (iSub .i64 (z0.getD k0 0) (p1.getD k0 0))

noncomputable def F19l1 (k1 : Nat) (z1 : List Int) : List Int :=
  z1.set (k1 + 1) (iAdd .i64 (z1.getD (k1 + 1) 0) 131070)

noncomputable def F19 (p0 : List Int) (p1 : List Int) : List Int :=
  (F46 ((itr (F19l1) 14 ((itr (F19l0 p1) 16 p0).set 0 (iAdd .i64 ((itr (F19l0 p1) 16 p0).getD 0 0) 131034))).set 15 (iAdd .i64 ((itr (F19l1) 14 ((itr (F19l0 p1) 16 p0).set 0 (iAdd .i64 ((itr (F19l0 p1) 16 p0).getD 0 0) 131034))).getD 15 0) 65534)))

noncomputable def S19 : List AV → Option (Prop × Ret)
  | [.ints .i64 16 p0, .ints .i64 16 p1] => some (True, ⟨.ints .i64 16 (F19 p0 p1), []⟩)
  | _ => none

noncomputable def B19 : Bs := { P := Go.Proofs.Try.prog, G := noG, tab := tabOf [(46, ⟨[.val], 0, S46⟩)], n := 38 }

theorem B19.ok : B19.Ok := ⟨tabOk (P := Go.Proofs.Try.prog) (G := noG) (l := [(46, ⟨[.val], 0, S46⟩)]) (And.intro K46 True.intro), mixed⟩

theorem K19 : Known Go.Proofs.Try.prog noG 19 ⟨[.val, .val], 0, S19⟩ := by
  refine Known.walk (B := B19) (fn := Go.Proofs.Try.f19) B19.ok (by kernel_rfl) rfl (by kernel_rfl) (by kernel_rfl) (by decide) ?_ ?_
  · intro vs C r h
    simp only at h
    unfold S19 at h
    split at h
    · cases h; rfl
    · cases h
  · intro E args C r h hC hlen
    simp only at h
    unfold S19 at h
    split at h
    rotate_left
    · cases h
    rename_i p0 p1
    cases h
    simp only [lens] at hlen
    refine ⟨show 2 ≤ 38 from by decide, ?_⟩
    refine Tri.sub (Sub.of_eq (show _ = ([(0, .ints .i64 16 p0), (1, .ints .i64 16 p1)], []) from rfl)) ?_
    refine Tri.seq_region [] none [4, 3, 2] [32, 16, 0] ((True ∧ True) ∧ ((True ∧ True) ∧ ((True ∧ True) ∧ True)))
        ([(4, .sc (.p 32 0)), (3, .sc (.p 16 0)), (2, .sc (.p 0 0))], [(32, .ints .i64 16 [0, 0, 0, 0, 0, 0, 0, 0, 0, 0, 0, 0, 0, 0, 0, 0]), (16, .ints .i64 16 p1), (0, .ints .i64 16 p0)])
        48 (by kernel_rfl) rfl (by kernel_rfl) (⟨⟨trivial, trivial⟩, ⟨⟨trivial, trivial⟩, ⟨⟨trivial, trivial⟩, trivial⟩⟩⟩) ?_
    refine Tri.seq ?_
    refine Tri.seq_region [] none [5, 4, 3, 2] [32, 16, 0] ((True ∧ True) ∧ True)
        ([(5, .sc (.i .i64 0)), (4, .sc (.p 32 0)), (3, .sc (.p 16 0)), (2, .sc (.p 0 0))], [(32, .ints .i64 16 [0, 0, 0, 0, 0, 0, 0, 0, 0, 0, 0, 0, 0, 0, 0, 0]), (16, .ints .i64 16 p1), (0, .ints .i64 16 p0)])
        64 (by kernel_rfl) rfl (by kernel_rfl) (⟨⟨trivial, trivial⟩, trivial⟩) ?_
    refine Tri.block ?_
    refine Tri.count 64 16 (F19l0 p1) p0 (fun k0 z0 => True) (fun k0 z0 => ([(5, .sc (.i .i64 ((k0 : Nat) : Int))), (4, .sc (.p 32 0)), (3, .sc (.p 16 0)), (2, .sc (.p 0 0))], [(32, .ints .i64 16 [0, 0, 0, 0, 0, 0, 0, 0, 0, 0, 0, 0, 0, 0, 0, 0]), (16, .ints .i64 16 p1), (0, .ints .i64 16 z0)])) trivial (Sub.of_eq (by kernel_rfl)) ?_
    intro k0 z0 hk0 hz0 hJ0
    refine Tri.seq ?_
    refine Tri.seq_region [] none [8, 5, 4, 3, 2] [32, 16, 0] ((True ∧ True) ∧ ((True ∧ True) ∧ True))
        ([(8, .sc (.b (decide ((((k0 : Nat) : Int) : Int) < 16)))), (5, .sc (.i .i64 ((k0 : Nat) : Int))), (4, .sc (.p 32 0)), (3, .sc (.p 16 0)), (2, .sc (.p 0 0))], [(32, .ints .i64 16 [0, 0, 0, 0, 0, 0, 0, 0, 0, 0, 0, 0, 0, 0, 0, 0]), (16, .ints .i64 16 p1), (0, .ints .i64 16 z0)])
        96 (by kernel_rfl) rfl (by kernel_rfl) (⟨⟨trivial, trivial⟩, ⟨⟨trivial, trivial⟩, trivial⟩⟩) ?_
    refine Tri.cond (x := (decide ((((k0 : Nat) : Int) : Int) < 16))) (by kernel_rfl) (fun h1 => ?_) (fun h1 => ?_)
    ·
      have h1' := of_decide_eq_true h1
      refine Tri.skip ?_
      change Tri _ _ _ _ _ _
      refine Tri.seq ?_
      refine Tri.block ?_
      refine Tri.region' [] (some [0, 1, 3, 0, 8, 24, 63, 127, 255]) [5, 4, 3, 2] [0, 32, 16] ((True ∧ True) ∧ ((((0 : Int) ≤ ((k0 : Nat) : Int) ∧ ((k0 : Nat) : Int) < ((16 : Nat) : Int)) ∧ True) ∧ (((k0 < 16) ∧ True) ∧ ((True ∧ True) ∧ ((((0 : Int) ≤ ((k0 : Nat) : Int) ∧ ((k0 : Nat) : Int) < ((16 : Nat) : Int)) ∧ True) ∧ (((k0 < 16) ∧ True) ∧ ((True ∧ True) ∧ ((((0 : Int) ≤ ((k0 : Nat) : Int) ∧ ((k0 : Nat) : Int) < ((16 : Nat) : Int)) ∧ True) ∧ ((((k0 < 16) ∧ (1 = 1)) ∧ True) ∧ True)))))))))
          ([(5, .sc (.i .i64 ((k0 : Nat) : Int))), (4, .sc (.p 32 0)), (3, .sc (.p 16 0)), (2, .sc (.p 0 0))], [(0, .ints .i64 16 (z0.set k0 (iSub .i64 (z0.getD k0 0) (p1.getD k0 0)))), (32, .ints .i64 16 [0, 0, 0, 0, 0, 0, 0, 0, 0, 0, 0, 0, 0, 0, 0, 0]), (16, .ints .i64 16 p1)])
          240 (by kernel_rfl) rfl (by kernel_rfl) (⟨⟨trivial, trivial⟩, ⟨⟨(by omega), trivial⟩, ⟨⟨(by omega), trivial⟩, ⟨⟨trivial, trivial⟩, ⟨⟨(by omega), trivial⟩, ⟨⟨(by omega), trivial⟩, ⟨⟨trivial, trivial⟩, ⟨⟨(by omega), trivial⟩, ⟨⟨⟨(by omega), (rfl)⟩, trivial⟩, trivial⟩⟩⟩⟩⟩⟩⟩⟩⟩) ?_
      change Tri _ _ _ _ _ _
      refine Tri.region' [(10, .i .i64 ((k0 + 1 : Nat) : Int))] none [5, 4, 3, 2] [0, 32, 16] ((True ∧ True) ∧ ((True ∧ ((iAdd .i64 ((k0 : Nat) : Int) 1) = ((k0 + 1 : Nat) : Int))) ∧ ((True ∧ True) ∧ True)))
          ([(5, .sc (.i .i64 ((k0 + 1 : Nat) : Int))), (4, .sc (.p 32 0)), (3, .sc (.p 16 0)), (2, .sc (.p 0 0))], [(0, .ints .i64 16 (z0.set k0 (iSub .i64 (z0.getD k0 0) (p1.getD k0 0)))), (32, .ints .i64 16 [0, 0, 0, 0, 0, 0, 0, 0, 0, 0, 0, 0, 0, 0, 0, 0]), (16, .ints .i64 16 p1)])
          288 (by kernel_rfl) rfl (by kernel_rfl) (⟨⟨trivial, trivial⟩, ⟨⟨trivial, (iAdd_nat (a := k0) (b := 1) (by omega))⟩, ⟨⟨trivial, trivial⟩, trivial⟩⟩⟩) ?_
      refine countP_normal (by omega) trivial ?_
      exact Sub.ren (ns := [(32, 32), (16, 16), (0, 0)]) (kf := [5, 4, 3, 2]) (by kernel_rfl) (by kernel_rfl)
    ·
      have h1' := of_decide_eq_false h1
      refine Tri.exit ?_
      have hend0 : k0 = 16 := by (have := of_decide_eq_false h1; omega)
      subst hend0; subst hz0
      change Tri _ _ _ _ _ _
      refine Tri.seq_region [] none [4, 2] [0, 32] ((((0 : Int) ≤ 0 ∧ 0 < ((16 : Nat) : Int)) ∧ True) ∧ (((0 < 16) ∧ True) ∧ ((True ∧ True) ∧ ((((0 : Int) ≤ 0 ∧ 0 < ((16 : Nat) : Int)) ∧ True) ∧ ((((0 < 16) ∧ (1 = 1)) ∧ True) ∧ True)))))
          ([(4, .sc (.p 32 0)), (2, .sc (.p 0 0))], [(0, .ints .i64 16 ((itr (F19l0 p1) 16 p0).set 0 (iAdd .i64 ((itr (F19l0 p1) 16 p0).getD 0 0) 131034))), (32, .ints .i64 16 [0, 0, 0, 0, 0, 0, 0, 0, 0, 0, 0, 0, 0, 0, 0, 0])])
          176 (by kernel_rfl) rfl (by kernel_rfl) (⟨⟨(by omega), trivial⟩, ⟨⟨(by omega), trivial⟩, ⟨⟨trivial, trivial⟩, ⟨⟨(by omega), trivial⟩, ⟨⟨⟨(by omega), (rfl)⟩, trivial⟩, trivial⟩⟩⟩⟩⟩) ?_
      refine Tri.seq ?_
      refine Tri.seq_region [] none [6, 4, 2] [0, 32] ((True ∧ True) ∧ True)
          ([(6, .sc (.i .i64 1)), (4, .sc (.p 32 0)), (2, .sc (.p 0 0))], [(0, .ints .i64 16 ((itr (F19l0 p1) 16 p0).set 0 (iAdd .i64 ((itr (F19l0 p1) 16 p0).getD 0 0) 131034))), (32, .ints .i64 16 [0, 0, 0, 0, 0, 0, 0, 0, 0, 0, 0, 0, 0, 0, 0, 0])])
          192 (by kernel_rfl) rfl (by kernel_rfl) (⟨⟨trivial, trivial⟩, trivial⟩) ?_
      refine Tri.block ?_
      refine Tri.count 192 14 (F19l1) ((itr (F19l0 p1) 16 p0).set 0 (iAdd .i64 ((itr (F19l0 p1) 16 p0).getD 0 0) 131034)) (fun k1 z1 => True) (fun k1 z1 => ([(6, .sc (.i .i64 ((k1 + 1 : Nat) : Int))), (4, .sc (.p 32 0)), (2, .sc (.p 0 0))], [(0, .ints .i64 16 z1), (32, .ints .i64 16 [0, 0, 0, 0, 0, 0, 0, 0, 0, 0, 0, 0, 0, 0, 0, 0])])) trivial (Sub.of_eq (by kernel_rfl)) ?_
      intro k1 z1 hk1 hz1 hJ1
      refine Tri.seq ?_
      refine Tri.seq_region [] none [24, 6, 4, 2] [0, 32] ((True ∧ True) ∧ ((True ∧ True) ∧ True))
          ([(24, .sc (.b (decide ((((k1 + 1 : Nat) : Int) : Int) < 15)))), (6, .sc (.i .i64 ((k1 + 1 : Nat) : Int))), (4, .sc (.p 32 0)), (2, .sc (.p 0 0))], [(0, .ints .i64 16 z1), (32, .ints .i64 16 [0, 0, 0, 0, 0, 0, 0, 0, 0, 0, 0, 0, 0, 0, 0, 0])])
          224 (by kernel_rfl) rfl (by kernel_rfl) (⟨⟨trivial, trivial⟩, ⟨⟨trivial, trivial⟩, trivial⟩⟩) ?_
      refine Tri.cond (x := (decide ((((k1 + 1 : Nat) : Int) : Int) < 15))) (by kernel_rfl) (fun h2 => ?_) (fun h2 => ?_)
      ·
        have h2' := of_decide_eq_true h2
        refine Tri.skip ?_
        change Tri _ _ _ _ _ _
        refine Tri.seq ?_
        refine Tri.block ?_
        refine Tri.region' [] none [6, 4, 2] [0, 32] ((True ∧ True) ∧ ((((0 : Int) ≤ ((k1 + 1 : Nat) : Int) ∧ ((k1 + 1 : Nat) : Int) < ((16 : Nat) : Int)) ∧ True) ∧ (((k1 + 1 < 16) ∧ True) ∧ ((True ∧ True) ∧ ((((0 : Int) ≤ ((k1 + 1 : Nat) : Int) ∧ ((k1 + 1 : Nat) : Int) < ((16 : Nat) : Int)) ∧ True) ∧ ((((k1 + 1 < 16) ∧ (1 = 1)) ∧ True) ∧ True))))))
            ([(6, .sc (.i .i64 ((k1 + 1 : Nat) : Int))), (4, .sc (.p 32 0)), (2, .sc (.p 0 0))], [(0, .ints .i64 16 (z1.set (k1 + 1) (iAdd .i64 (z1.getD (k1 + 1) 0) 131070))), (32, .ints .i64 16 [0, 0, 0, 0, 0, 0, 0, 0, 0, 0, 0, 0, 0, 0, 0, 0])])
            320 (by kernel_rfl) rfl (by kernel_rfl) (⟨⟨trivial, trivial⟩, ⟨⟨(by omega), trivial⟩, ⟨⟨(by omega), trivial⟩, ⟨⟨trivial, trivial⟩, ⟨⟨(by omega), trivial⟩, ⟨⟨⟨(by omega), (rfl)⟩, trivial⟩, trivial⟩⟩⟩⟩⟩⟩) ?_
        change Tri _ _ _ _ _ _
        refine Tri.region' [(26, .i .i64 (((k1 + 1) + 1 : Nat) : Int))] none [6, 4, 2] [0, 32] ((True ∧ True) ∧ ((True ∧ ((iAdd .i64 ((k1 + 1 : Nat) : Int) 1) = (((k1 + 1) + 1 : Nat) : Int))) ∧ ((True ∧ True) ∧ True)))
            ([(6, .sc (.i .i64 (((k1 + 1) + 1 : Nat) : Int))), (4, .sc (.p 32 0)), (2, .sc (.p 0 0))], [(0, .ints .i64 16 (z1.set (k1 + 1) (iAdd .i64 (z1.getD (k1 + 1) 0) 131070))), (32, .ints .i64 16 [0, 0, 0, 0, 0, 0, 0, 0, 0, 0, 0, 0, 0, 0, 0, 0])])
            368 (by kernel_rfl) rfl (by kernel_rfl) (⟨⟨trivial, trivial⟩, ⟨⟨trivial, (iAdd_nat (a := k1 + 1) (b := 1) (by omega))⟩, ⟨⟨trivial, trivial⟩, trivial⟩⟩⟩) ?_
        refine countP_normal (by omega) trivial ?_
        exact Sub.ren (ns := [(0, 0), (32, 32)]) (kf := [6, 4, 2]) (by kernel_rfl) (by kernel_rfl)
      ·
        have h2' := of_decide_eq_false h2
        refine Tri.exit ?_
        have hend1 : k1 = 14 := by (have := of_decide_eq_false h2; omega)
        subst hend1; subst hz1
        change Tri _ _ _ _ _ _
        refine Tri.seq_region [] none [4, 2] [0, 32] ((((0 : Int) ≤ 15 ∧ 15 < ((16 : Nat) : Int)) ∧ True) ∧ (((15 < 16) ∧ True) ∧ ((True ∧ True) ∧ ((((0 : Int) ≤ 15 ∧ 15 < ((16 : Nat) : Int)) ∧ True) ∧ ((((15 < 16) ∧ (1 = 1)) ∧ True) ∧ True)))))
            ([(4, .sc (.p 32 0)), (2, .sc (.p 0 0))], [(0, .ints .i64 16 ((itr (F19l1) 14 ((itr (F19l0 p1) 16 p0).set 0 (iAdd .i64 ((itr (F19l0 p1) 16 p0).getD 0 0) 131034))).set 15 (iAdd .i64 ((itr (F19l1) 14 ((itr (F19l0 p1) 16 p0).set 0 (iAdd .i64 ((itr (F19l0 p1) 16 p0).getD 0 0) 131034))).getD 15 0) 65534))), (32, .ints .i64 16 [0, 0, 0, 0, 0, 0, 0, 0, 0, 0, 0, 0, 0, 0, 0, 0])])
            304 (by kernel_rfl) rfl (by kernel_rfl) (⟨⟨(by omega), trivial⟩, ⟨⟨(by omega), trivial⟩, ⟨⟨trivial, trivial⟩, ⟨⟨(by omega), trivial⟩, ⟨⟨⟨(by omega), (rfl)⟩, trivial⟩, trivial⟩⟩⟩⟩⟩) ?_
        refine Tri.seq_region [] none [4] [32] ((True ∧ True) ∧ (((True ∧ True) ∧ True) ∧ (((True ∧ (16 = 16)) ∧ True) ∧ True)))
            ([(4, .sc (.p 32 0))], [(32, .ints .i64 16 (F46 ((itr (F19l1) 14 ((itr (F19l0 p1) 16 p0).set 0 (iAdd .i64 ((itr (F19l0 p1) 16 p0).getD 0 0) 131034))).set 15 (iAdd .i64 ((itr (F19l1) 14 ((itr (F19l0 p1) 16 p0).set 0 (iAdd .i64 ((itr (F19l0 p1) 16 p0).getD 0 0) 131034))).getD 15 0) 65534))))])
            352 (by kernel_rfl) rfl (by kernel_rfl) (⟨⟨trivial, trivial⟩, ⟨⟨⟨trivial, trivial⟩, trivial⟩, ⟨⟨⟨trivial, (rfl)⟩, trivial⟩, trivial⟩⟩⟩) ?_
        refine Tri.ret ?_
        exact endP.ret [] (True ∧ True) (by kernel_rfl) (by kernel_rfl) (by kernel_rfl) ⟨trivial, trivial⟩


noncomputable def F21l1 (p0 : List Int) (p1 : List Int) (k0 : Nat) (k1 : Nat) (z1 : List Int) : List Int :=
  z1.set (k0 + k1) (iAdd .i64 (z1.getD (k0 + k1) 0) (iMul .i64 (p0.getD k0 0) (p1.getD k1 0)))

noncomputable def F21l0 (p0 : List Int) (p1 : List Int) (k0 : Nat) (z0 : List Int) : List Int :=
  (itr (F21l1 p0 p1 k0) 16 z0)

noncomputable def F21l2 (k2 : Nat) (z2 : Int × List Int) : Int × List Int :=
  ((iShr .i64 (iAdd .i64 (z2.2.getD k2 0) z2.1) 16), z2.2.set k2 (iSub .i64 (iAdd .i64 (z2.2.getD k2 0) z2.1) (iShl .i64 (iShr .i64 (iAdd .i64 (z2.2.getD k2 0) z2.1) 16) 16)))

noncomputable def F21l3 (p0 : List Int) (p1 : List Int) (k3 : Nat) (z3 : List Int) : List Int :=
  z3.set k3 (iAdd .i64 (((itr (F21l2) 32 (0, (itr (F21l0 p0 p1) 16 [0, 0, 0, 0, 0, 0, 0, 0, 0, 0, 0, 0, 0, 0, 0, 0, 0, 0, 0, 0, 0, 0, 0, 0, 0, 0, 0, 0, 0, 0, 0, 0]))).2).getD k3 0) (iMul .i64 38 (((itr (F21l2) 32 (0, (itr (F21l0 p0 p1) 16 [0, 0, 0, 0, 0, 0, 0, 0, 0, 0, 0, 0, 0, 0, 0, 0, 0, 0, 0, 0, 0, 0, 0, 0, 0, 0, 0, 0, 0, 0, 0, 0]))).2).getD (k3 + 16) 0)))

noncomputable def F21 (p0 : List Int) (p1 : List Int) : List Int :=
  (F46 (itr (F21l3 p0 p1) 16 [0, 0, 0, 0, 0, 0, 0, 0, 0, 0, 0, 0, 0, 0, 0, 0]))

noncomputable def S21 : List AV → Option (Prop × Ret)
  | [.ints .i64 16 p0, .ints .i64 16 p1] => some (True, ⟨.ints .i64 16 (F21 p0 p1), []⟩)
  | _ => none

noncomputable def B21 : Bs := { P := Go.Proofs.Try.prog, G := noG, tab := tabOf [(46, ⟨[.val], 0, S46⟩)], n := 69 }

theorem B21.ok : B21.Ok := ⟨tabOk (P := Go.Proofs.Try.prog) (G := noG) (l := [(46, ⟨[.val], 0, S46⟩)]) (And.intro K46 True.intro), mixed⟩

theorem K21 : Known Go.Proofs.Try.prog noG 21 ⟨[.val, .val], 0, S21⟩ := by
  refine Known.walk (B := B21) (fn := Go.Proofs.Try.f21) B21.ok (by kernel_rfl) rfl (by kernel_rfl) (by kernel_rfl) (by decide) ?_ ?_
  · intro vs C r h
    simp only at h
    unfold S21 at h
    split at h
    · cases h; rfl
    · cases h
  · intro E args C r h hC hlen
    simp only at h
    unfold S21 at h
    split at h
    rotate_left
    · cases h
    rename_i p0 p1
    cases h
    simp only [lens] at hlen
    refine ⟨show 2 ≤ 69 from by decide, ?_⟩
    refine Tri.sub (Sub.of_eq (show _ = ([(0, .ints .i64 16 p0), (1, .ints .i64 16 p1)], []) from rfl)) ?_
    refine Tri.seq_region [] none [4, 3, 2] [32, 16, 0] ((True ∧ True) ∧ ((True ∧ True) ∧ ((True ∧ True) ∧ True)))
        ([(4, .sc (.p 32 0)), (3, .sc (.p 16 0)), (2, .sc (.p 0 0))], [(32, .ints .i64 16 [0, 0, 0, 0, 0, 0, 0, 0, 0, 0, 0, 0, 0, 0, 0, 0]), (16, .ints .i64 16 p1), (0, .ints .i64 16 p0)])
        48 (by kernel_rfl) rfl (by kernel_rfl) (⟨⟨trivial, trivial⟩, ⟨⟨trivial, trivial⟩, ⟨⟨trivial, trivial⟩, trivial⟩⟩⟩) ?_
    refine Tri.seq_region [] none [5, 4, 3, 2] [48, 32, 16, 0] ((True ∧ True) ∧ True)
        ([(5, .sc (.p 48 0)), (4, .sc (.p 32 0)), (3, .sc (.p 16 0)), (2, .sc (.p 0 0))], [(48, .ints .i64 32 [0, 0, 0, 0, 0, 0, 0, 0, 0, 0, 0, 0, 0, 0, 0, 0, 0, 0, 0, 0, 0, 0, 0, 0, 0, 0, 0, 0, 0, 0, 0, 0]), (32, .ints .i64 16 [0, 0, 0, 0, 0, 0, 0, 0, 0, 0, 0, 0, 0, 0, 0, 0]), (16, .ints .i64 16 p1), (0, .ints .i64 16 p0)])
        64 (by kernel_rfl) rfl (by kernel_rfl) (⟨⟨trivial, trivial⟩, trivial⟩) ?_
    refine Tri.seq ?_
    refine Tri.seq_region [] none [6, 5, 4, 3, 2] [48, 32, 16, 0] ((True ∧ True) ∧ True)
        ([(6, .sc (.i .i64 0)), (5, .sc (.p 48 0)), (4, .sc (.p 32 0)), (3, .sc (.p 16 0)), (2, .sc (.p 0 0))], [(48, .ints .i64 32 [0, 0, 0, 0, 0, 0, 0, 0, 0, 0, 0, 0, 0, 0, 0, 0, 0, 0, 0, 0, 0, 0, 0, 0, 0, 0, 0, 0, 0, 0, 0, 0]), (32, .ints .i64 16 [0, 0, 0, 0, 0, 0, 0, 0, 0, 0, 0, 0, 0, 0, 0, 0]), (16, .ints .i64 16 p1), (0, .ints .i64 16 p0)])
        80 (by kernel_rfl) rfl (by kernel_rfl) (⟨⟨trivial, trivial⟩, trivial⟩) ?_
    refine Tri.block ?_
    refine Tri.count 80 16 (F21l0 p0 p1) [0, 0, 0, 0, 0, 0, 0, 0, 0, 0, 0, 0, 0, 0, 0, 0, 0, 0, 0, 0, 0, 0, 0, 0, 0, 0, 0, 0, 0, 0, 0, 0] (fun k0 z0 => True) (fun k0 z0 => ([(6, .sc (.i .i64 ((k0 : Nat) : Int))), (5, .sc (.p 48 0)), (4, .sc (.p 32 0)), (3, .sc (.p 16 0)), (2, .sc (.p 0 0))], [(48, .ints .i64 32 z0), (32, .ints .i64 16 [0, 0, 0, 0, 0, 0, 0, 0, 0, 0, 0, 0, 0, 0, 0, 0]), (16, .ints .i64 16 p1), (0, .ints .i64 16 p0)])) trivial (Sub.of_eq (by kernel_rfl)) ?_
    intro k0 z0 hk0 hz0 hJ0
    refine Tri.seq ?_
    refine Tri.seq_region [] none [14, 6, 5, 4, 3, 2] [48, 32, 16, 0] ((True ∧ True) ∧ ((True ∧ True) ∧ True))
        ([(14, .sc (.b (decide ((((k0 : Nat) : Int) : Int) < 16)))), (6, .sc (.i .i64 ((k0 : Nat) : Int))), (5, .sc (.p 48 0)), (4, .sc (.p 32 0)), (3, .sc (.p 16 0)), (2, .sc (.p 0 0))], [(48, .ints .i64 32 z0), (32, .ints .i64 16 [0, 0, 0, 0, 0, 0, 0, 0, 0, 0, 0, 0, 0, 0, 0, 0]), (16, .ints .i64 16 p1), (0, .ints .i64 16 p0)])
        112 (by kernel_rfl) rfl (by kernel_rfl) (⟨⟨trivial, trivial⟩, ⟨⟨trivial, trivial⟩, trivial⟩⟩) ?_
    refine Tri.cond (x := (decide ((((k0 : Nat) : Int) : Int) < 16))) (by kernel_rfl) (fun h1 => ?_) (fun h1 => ?_)
    ·
      have h1' := of_decide_eq_true h1
      refine Tri.skip ?_
      change Tri _ _ _ _ _ _
      refine Tri.seq ?_
      refine Tri.block ?_
      refine Tri.seq_region [] none [7, 6, 5, 4, 3, 2] [48, 32, 16, 0] ((True ∧ True) ∧ True)
          ([(7, .sc (.i .i64 0)), (6, .sc (.i .i64 ((k0 : Nat) : Int))), (5, .sc (.p 48 0)), (4, .sc (.p 32 0)), (3, .sc (.p 16 0)), (2, .sc (.p 0 0))], [(48, .ints .i64 32 z0), (32, .ints .i64 16 [0, 0, 0, 0, 0, 0, 0, 0, 0, 0, 0, 0, 0, 0, 0, 0]), (16, .ints .i64 16 p1), (0, .ints .i64 16 p0)])
          128 (by kernel_rfl) rfl (by kernel_rfl) (⟨⟨trivial, trivial⟩, trivial⟩) ?_
      refine Tri.block ?_
      refine Tri.count 128 16 (F21l1 p0 p1 k0) z0 (fun k1 z1 => True) (fun k1 z1 => ([(7, .sc (.i .i64 ((k1 : Nat) : Int))), (6, .sc (.i .i64 ((k0 : Nat) : Int))), (5, .sc (.p 48 0)), (4, .sc (.p 32 0)), (3, .sc (.p 16 0)), (2, .sc (.p 0 0))], [(48, .ints .i64 32 z1), (32, .ints .i64 16 [0, 0, 0, 0, 0, 0, 0, 0, 0, 0, 0, 0, 0, 0, 0, 0]), (16, .ints .i64 16 p1), (0, .ints .i64 16 p0)])) trivial (Sub.of_eq (by kernel_rfl)) ?_
      intro k1 z1 hk1 hz1 hJ1
      refine Tri.seq ?_
      refine Tri.seq_region [] none [18, 7, 6, 5, 4, 3, 2] [48, 32, 16, 0] ((True ∧ True) ∧ ((True ∧ True) ∧ True))
          ([(18, .sc (.b (decide ((((k1 : Nat) : Int) : Int) < 16)))), (7, .sc (.i .i64 ((k1 : Nat) : Int))), (6, .sc (.i .i64 ((k0 : Nat) : Int))), (5, .sc (.p 48 0)), (4, .sc (.p 32 0)), (3, .sc (.p 16 0)), (2, .sc (.p 0 0))], [(48, .ints .i64 32 z1), (32, .ints .i64 16 [0, 0, 0, 0, 0, 0, 0, 0, 0, 0, 0, 0, 0, 0, 0, 0]), (16, .ints .i64 16 p1), (0, .ints .i64 16 p0)])
          160 (by kernel_rfl) rfl (by kernel_rfl) (⟨⟨trivial, trivial⟩, ⟨⟨trivial, trivial⟩, trivial⟩⟩) ?_
      refine Tri.cond (x := (decide ((((k1 : Nat) : Int) : Int) < 16))) (by kernel_rfl) (fun h2 => ?_) (fun h2 => ?_)
      ·
        have h2' := of_decide_eq_true h2
        refine Tri.skip ?_
        change Tri _ _ _ _ _ _
        refine Tri.seq ?_
        refine Tri.block ?_
        refine Tri.region' [(23, .i .i64 ((k0 + k1 : Nat) : Int))] (some [0, 0, 3, 7, 15, 0, 32, 96, 0, 256, 768, 2016, 4095, 8191, 16383]) [7, 6, 5, 4, 3, 2] [48, 32, 16, 0] ((True ∧ True) ∧ ((True ∧ True) ∧ ((True ∧ ((iAdd .i64 ((k0 : Nat) : Int) ((k1 : Nat) : Int)) = ((k0 + k1 : Nat) : Int))) ∧ ((((0 : Int) ≤ ((k0 + k1 : Nat) : Int) ∧ ((k0 + k1 : Nat) : Int) < ((32 : Nat) : Int)) ∧ True) ∧ (((k0 + k1 < 32) ∧ True) ∧ ((True ∧ True) ∧ ((((0 : Int) ≤ ((k0 : Nat) : Int) ∧ ((k0 : Nat) : Int) < ((16 : Nat) : Int)) ∧ True) ∧ (((k0 < 16) ∧ True) ∧ ((True ∧ True) ∧ ((((0 : Int) ≤ ((k1 : Nat) : Int) ∧ ((k1 : Nat) : Int) < ((16 : Nat) : Int)) ∧ True) ∧ (((k1 < 16) ∧ True) ∧ ((True ∧ True) ∧ ((True ∧ True) ∧ ((((0 : Int) ≤ ((k0 + k1 : Nat) : Int) ∧ ((k0 + k1 : Nat) : Int) < ((32 : Nat) : Int)) ∧ True) ∧ ((((k0 + k1 < 32) ∧ (1 = 1)) ∧ True) ∧ True)))))))))))))))
            ([(7, .sc (.i .i64 ((k1 : Nat) : Int))), (6, .sc (.i .i64 ((k0 : Nat) : Int))), (5, .sc (.p 48 0)), (4, .sc (.p 32 0)), (3, .sc (.p 16 0)), (2, .sc (.p 0 0))], [(48, .ints .i64 32 (z1.set (k0 + k1) (iAdd .i64 (z1.getD (k0 + k1) 0) (iMul .i64 (p0.getD k0 0) (p1.getD k1 0))))), (32, .ints .i64 16 [0, 0, 0, 0, 0, 0, 0, 0, 0, 0, 0, 0, 0, 0, 0, 0]), (16, .ints .i64 16 p1), (0, .ints .i64 16 p0)])
            400 (by kernel_rfl) rfl (by kernel_rfl) (⟨⟨trivial, trivial⟩, ⟨⟨trivial, trivial⟩, ⟨⟨trivial, (iAdd_nat (a := k0) (b := k1) (by omega))⟩, ⟨⟨(by omega), trivial⟩, ⟨⟨(by omega), trivial⟩, ⟨⟨trivial, trivial⟩, ⟨⟨(by omega), trivial⟩, ⟨⟨(by omega), trivial⟩, ⟨⟨trivial, trivial⟩, ⟨⟨(by omega), trivial⟩, ⟨⟨(by omega), trivial⟩, ⟨⟨trivial, trivial⟩, ⟨⟨trivial, trivial⟩, ⟨⟨(by omega), trivial⟩, ⟨⟨⟨(by omega), (rfl)⟩, trivial⟩, trivial⟩⟩⟩⟩⟩⟩⟩⟩⟩⟩⟩⟩⟩⟩⟩) ?_
        change Tri _ _ _ _ _ _
        refine Tri.region' [(20, .i .i64 ((k1 + 1 : Nat) : Int))] none [7, 6, 5, 4, 3, 2] [48, 32, 16, 0] ((True ∧ True) ∧ ((True ∧ ((iAdd .i64 ((k1 : Nat) : Int) 1) = ((k1 + 1 : Nat) : Int))) ∧ ((True ∧ True) ∧ True)))
            ([(7, .sc (.i .i64 ((k1 + 1 : Nat) : Int))), (6, .sc (.i .i64 ((k0 : Nat) : Int))), (5, .sc (.p 48 0)), (4, .sc (.p 32 0)), (3, .sc (.p 16 0)), (2, .sc (.p 0 0))], [(48, .ints .i64 32 (z1.set (k0 + k1) (iAdd .i64 (z1.getD (k0 + k1) 0) (iMul .i64 (p0.getD k0 0) (p1.getD k1 0))))), (32, .ints .i64 16 [0, 0, 0, 0, 0, 0, 0, 0, 0, 0, 0, 0, 0, 0, 0, 0]), (16, .ints .i64 16 p1), (0, .ints .i64 16 p0)])
            448 (by kernel_rfl) rfl (by kernel_rfl) (⟨⟨trivial, trivial⟩, ⟨⟨trivial, (iAdd_nat (a := k1) (b := 1) (by omega))⟩, ⟨⟨trivial, trivial⟩, trivial⟩⟩⟩) ?_
        refine countP_normal (by omega) trivial ?_
        exact Sub.ren (ns := [(48, 48), (32, 32), (16, 16), (0, 0)]) (kf := [7, 6, 5, 4, 3, 2]) (by kernel_rfl) (by kernel_rfl)
      ·
        have h2' := of_decide_eq_false h2
        refine Tri.exit ?_
        have hend1 : k1 = 16 := by (have := of_decide_eq_false h2; omega)
        subst hend1; subst hz1
        change Tri _ _ _ _ _ _
        refine Tri.region' [(16, .i .i64 ((k0 + 1 : Nat) : Int))] none [6, 5, 4, 3, 2] [48, 32, 16, 0] ((True ∧ True) ∧ ((True ∧ ((iAdd .i64 ((k0 : Nat) : Int) 1) = ((k0 + 1 : Nat) : Int))) ∧ ((True ∧ True) ∧ True)))
            ([(6, .sc (.i .i64 ((k0 + 1 : Nat) : Int))), (5, .sc (.p 48 0)), (4, .sc (.p 32 0)), (3, .sc (.p 16 0)), (2, .sc (.p 0 0))], [(48, .ints .i64 32 (itr (F21l1 p0 p1 k0) 16 z0)), (32, .ints .i64 16 [0, 0, 0, 0, 0, 0, 0, 0, 0, 0, 0, 0, 0, 0, 0, 0]), (16, .ints .i64 16 p1), (0, .ints .i64 16 p0)])
            208 (by kernel_rfl) rfl (by kernel_rfl) (⟨⟨trivial, trivial⟩, ⟨⟨trivial, (iAdd_nat (a := k0) (b := 1) (by omega))⟩, ⟨⟨trivial, trivial⟩, trivial⟩⟩⟩) ?_
        refine countP_normal (by omega) trivial ?_
        exact Sub.ren (ns := [(48, 48), (32, 32), (16, 16), (0, 0)]) (kf := [6, 5, 4, 3, 2]) (by kernel_rfl) (by kernel_rfl)
    ·
      have h1' := of_decide_eq_false h1
      refine Tri.exit ?_
      have hend0 : k0 = 16 := by (have := of_decide_eq_false h1; omega)
      subst hend0; subst hz0
      change Tri _ _ _ _ _ _
      refine Tri.seq_region [] none [8, 5, 4] [48, 32] ((True ∧ True) ∧ True)
          ([(8, .sc (.i .i64 0)), (5, .sc (.p 48 0)), (4, .sc (.p 32 0))], [(48, .ints .i64 32 (itr (F21l0 p0 p1) 16 [0, 0, 0, 0, 0, 0, 0, 0, 0, 0, 0, 0, 0, 0, 0, 0, 0, 0, 0, 0, 0, 0, 0, 0, 0, 0, 0, 0, 0, 0, 0, 0])), (32, .ints .i64 16 [0, 0, 0, 0, 0, 0, 0, 0, 0, 0, 0, 0, 0, 0, 0, 0])])
          128 (by kernel_rfl) rfl (by kernel_rfl) (⟨⟨trivial, trivial⟩, trivial⟩) ?_
      refine Tri.seq ?_
      refine Tri.seq_region [] none [9, 8, 5, 4] [48, 32] ((True ∧ True) ∧ True)
          ([(9, .sc (.i .i64 0)), (8, .sc (.i .i64 0)), (5, .sc (.p 48 0)), (4, .sc (.p 32 0))], [(48, .ints .i64 32 (itr (F21l0 p0 p1) 16 [0, 0, 0, 0, 0, 0, 0, 0, 0, 0, 0, 0, 0, 0, 0, 0, 0, 0, 0, 0, 0, 0, 0, 0, 0, 0, 0, 0, 0, 0, 0, 0])), (32, .ints .i64 16 [0, 0, 0, 0, 0, 0, 0, 0, 0, 0, 0, 0, 0, 0, 0, 0])])
          144 (by kernel_rfl) rfl (by kernel_rfl) (⟨⟨trivial, trivial⟩, trivial⟩) ?_
      refine Tri.block ?_
      refine Tri.count 144 32 (F21l2) (0, (itr (F21l0 p0 p1) 16 [0, 0, 0, 0, 0, 0, 0, 0, 0, 0, 0, 0, 0, 0, 0, 0, 0, 0, 0, 0, 0, 0, 0, 0, 0, 0, 0, 0, 0, 0, 0, 0])) (fun k2 z2 => True) (fun k2 z2 => ([(9, .sc (.i .i64 ((k2 : Nat) : Int))), (8, .sc (.i .i64 z2.1)), (5, .sc (.p 48 0)), (4, .sc (.p 32 0))], [(48, .ints .i64 32 z2.2), (32, .ints .i64 16 [0, 0, 0, 0, 0, 0, 0, 0, 0, 0, 0, 0, 0, 0, 0, 0])])) trivial (Sub.of_eq (by kernel_rfl)) ?_
      intro k2 z2 hk2 hz2 hJ2
      refine Tri.seq ?_
      refine Tri.seq_region [] none [36, 9, 8, 5, 4] [48, 32] ((True ∧ True) ∧ ((True ∧ True) ∧ True))
          ([(36, .sc (.b (decide ((((k2 : Nat) : Int) : Int) < 32)))), (9, .sc (.i .i64 ((k2 : Nat) : Int))), (8, .sc (.i .i64 z2.1)), (5, .sc (.p 48 0)), (4, .sc (.p 32 0))], [(48, .ints .i64 32 z2.2), (32, .ints .i64 16 [0, 0, 0, 0, 0, 0, 0, 0, 0, 0, 0, 0, 0, 0, 0, 0])])
          176 (by kernel_rfl) rfl (by kernel_rfl) (⟨⟨trivial, trivial⟩, ⟨⟨trivial, trivial⟩, trivial⟩⟩) ?_
      refine Tri.cond (x := (decide ((((k2 : Nat) : Int) : Int) < 32))) (by kernel_rfl) (fun h3 => ?_) (fun h3 => ?_)
      ·
        have h3' := of_decide_eq_true h3
        refine Tri.skip ?_
        change Tri _ _ _ _ _ _
        refine Tri.seq ?_
        refine Tri.block ?_
        refine Tri.seq_region [] none [10, 9, 5, 4] [48, 32] ((True ∧ True) ∧ ((((0 : Int) ≤ ((k2 : Nat) : Int) ∧ ((k2 : Nat) : Int) < ((32 : Nat) : Int)) ∧ True) ∧ (((k2 < 32) ∧ True) ∧ ((True ∧ True) ∧ ((True ∧ True) ∧ ((True ∧ True) ∧ True))))))
            ([(10, .sc (.i .i64 (iAdd .i64 (z2.2.getD k2 0) z2.1))), (9, .sc (.i .i64 ((k2 : Nat) : Int))), (5, .sc (.p 48 0)), (4, .sc (.p 32 0))], [(48, .ints .i64 32 z2.2), (32, .ints .i64 16 [0, 0, 0, 0, 0, 0, 0, 0, 0, 0, 0, 0, 0, 0, 0, 0])])
            272 (by kernel_rfl) rfl (by kernel_rfl) (⟨⟨trivial, trivial⟩, ⟨⟨(by omega), trivial⟩, ⟨⟨(by omega), trivial⟩, ⟨⟨trivial, trivial⟩, ⟨⟨trivial, trivial⟩, ⟨⟨trivial, trivial⟩, trivial⟩⟩⟩⟩⟩⟩) ?_
        refine Tri.seq_region [] none [8, 10, 9, 5, 4] [48, 32] ((True ∧ True) ∧ ((((0 : Int) ≤ 16) ∧ True) ∧ ((True ∧ True) ∧ True)))
            ([(8, .sc (.i .i64 (iShr .i64 (iAdd .i64 (z2.2.getD k2 0) z2.1) 16))), (10, .sc (.i .i64 (iAdd .i64 (z2.2.getD k2 0) z2.1))), (9, .sc (.i .i64 ((k2 : Nat) : Int))), (5, .sc (.p 48 0)), (4, .sc (.p 32 0))], [(48, .ints .i64 32 z2.2), (32, .ints .i64 16 [0, 0, 0, 0, 0, 0, 0, 0, 0, 0, 0, 0, 0, 0, 0, 0])])
            320 (by kernel_rfl) rfl (by kernel_rfl) (⟨⟨trivial, trivial⟩, ⟨⟨(by omega), trivial⟩, ⟨⟨trivial, trivial⟩, trivial⟩⟩⟩) ?_
        refine Tri.region' [] none [8, 9, 5, 4] [48, 32] ((True ∧ True) ∧ ((True ∧ True) ∧ ((True ∧ True) ∧ ((((0 : Int) ≤ 16) ∧ True) ∧ ((True ∧ True) ∧ ((((0 : Int) ≤ ((k2 : Nat) : Int) ∧ ((k2 : Nat) : Int) < ((32 : Nat) : Int)) ∧ True) ∧ ((((k2 < 32) ∧ (1 = 1)) ∧ True) ∧ True)))))))
            ([(8, .sc (.i .i64 (iShr .i64 (iAdd .i64 (z2.2.getD k2 0) z2.1) 16))), (9, .sc (.i .i64 ((k2 : Nat) : Int))), (5, .sc (.p 48 0)), (4, .sc (.p 32 0))], [(48, .ints .i64 32 (z2.2.set k2 (iSub .i64 (iAdd .i64 (z2.2.getD k2 0) z2.1) (iShl .i64 (iShr .i64 (iAdd .i64 (z2.2.getD k2 0) z2.1) 16) 16)))), (32, .ints .i64 16 [0, 0, 0, 0, 0, 0, 0, 0, 0, 0, 0, 0, 0, 0, 0, 0])])
            432 (by kernel_rfl) rfl (by kernel_rfl) (⟨⟨trivial, trivial⟩, ⟨⟨trivial, trivial⟩, ⟨⟨trivial, trivial⟩, ⟨⟨(by omega), trivial⟩, ⟨⟨trivial, trivial⟩, ⟨⟨(by omega), trivial⟩, ⟨⟨⟨(by omega), (rfl)⟩, trivial⟩, trivial⟩⟩⟩⟩⟩⟩⟩) ?_
        change Tri _ _ _ _ _ _
        refine Tri.region' [(38, .i .i64 ((k2 + 1 : Nat) : Int))] none [9, 8, 5, 4] [48, 32] ((True ∧ True) ∧ ((True ∧ ((iAdd .i64 ((k2 : Nat) : Int) 1) = ((k2 + 1 : Nat) : Int))) ∧ ((True ∧ True) ∧ True)))
            ([(9, .sc (.i .i64 ((k2 + 1 : Nat) : Int))), (8, .sc (.i .i64 (iShr .i64 (iAdd .i64 (z2.2.getD k2 0) z2.1) 16))), (5, .sc (.p 48 0)), (4, .sc (.p 32 0))], [(48, .ints .i64 32 (z2.2.set k2 (iSub .i64 (iAdd .i64 (z2.2.getD k2 0) z2.1) (iShl .i64 (iShr .i64 (iAdd .i64 (z2.2.getD k2 0) z2.1) 16) 16)))), (32, .ints .i64 16 [0, 0, 0, 0, 0, 0, 0, 0, 0, 0, 0, 0, 0, 0, 0, 0])])
            480 (by kernel_rfl) rfl (by kernel_rfl) (⟨⟨trivial, trivial⟩, ⟨⟨trivial, (iAdd_nat (a := k2) (b := 1) (by omega))⟩, ⟨⟨trivial, trivial⟩, trivial⟩⟩⟩) ?_
        refine countP_normal (by omega) trivial ?_
        exact Sub.ren (ns := [(48, 48), (32, 32)]) (kf := [9, 8, 5, 4]) (by kernel_rfl) (by kernel_rfl)
      ·
        have h3' := of_decide_eq_false h3
        refine Tri.exit ?_
        have hend2 : k2 = 32 := by (have := of_decide_eq_false h3; omega)
        subst hend2; subst hz2
        change Tri _ _ _ _ _ _
        refine Tri.seq_region [] none [11, 5, 4] [176, 48, 32] ((True ∧ True) ∧ True)
            ([(11, .sc (.p 176 0)), (5, .sc (.p 48 0)), (4, .sc (.p 32 0))], [(176, .ints .i64 16 [0, 0, 0, 0, 0, 0, 0, 0, 0, 0, 0, 0, 0, 0, 0, 0]), (48, .ints .i64 32 ((itr (F21l2) 32 (0, (itr (F21l0 p0 p1) 16 [0, 0, 0, 0, 0, 0, 0, 0, 0, 0, 0, 0, 0, 0, 0, 0, 0, 0, 0, 0, 0, 0, 0, 0, 0, 0, 0, 0, 0, 0, 0, 0]))).2)), (32, .ints .i64 16 [0, 0, 0, 0, 0, 0, 0, 0, 0, 0, 0, 0, 0, 0, 0, 0])])
            192 (by kernel_rfl) rfl (by kernel_rfl) (⟨⟨trivial, trivial⟩, trivial⟩) ?_
        refine Tri.seq ?_
        refine Tri.seq_region [] none [12, 11, 5, 4] [176, 48, 32] ((True ∧ True) ∧ True)
            ([(12, .sc (.i .i64 0)), (11, .sc (.p 176 0)), (5, .sc (.p 48 0)), (4, .sc (.p 32 0))], [(176, .ints .i64 16 [0, 0, 0, 0, 0, 0, 0, 0, 0, 0, 0, 0, 0, 0, 0, 0]), (48, .ints .i64 32 ((itr (F21l2) 32 (0, (itr (F21l0 p0 p1) 16 [0, 0, 0, 0, 0, 0, 0, 0, 0, 0, 0, 0, 0, 0, 0, 0, 0, 0, 0, 0, 0, 0, 0, 0, 0, 0, 0, 0, 0, 0, 0, 0]))).2)), (32, .ints .i64 16 [0, 0, 0, 0, 0, 0, 0, 0, 0, 0, 0, 0, 0, 0, 0, 0])])
            208 (by kernel_rfl) rfl (by kernel_rfl) (⟨⟨trivial, trivial⟩, trivial⟩) ?_
        refine Tri.block ?_
        refine Tri.count 208 16 (F21l3 p0 p1) [0, 0, 0, 0, 0, 0, 0, 0, 0, 0, 0, 0, 0, 0, 0, 0] (fun k3 z3 => True) (fun k3 z3 => ([(12, .sc (.i .i64 ((k3 : Nat) : Int))), (11, .sc (.p 176 0)), (5, .sc (.p 48 0)), (4, .sc (.p 32 0))], [(176, .ints .i64 16 z3), (48, .ints .i64 32 ((itr (F21l2) 32 (0, (itr (F21l0 p0 p1) 16 [0, 0, 0, 0, 0, 0, 0, 0, 0, 0, 0, 0, 0, 0, 0, 0, 0, 0, 0, 0, 0, 0, 0, 0, 0, 0, 0, 0, 0, 0, 0, 0]))).2)), (32, .ints .i64 16 [0, 0, 0, 0, 0, 0, 0, 0, 0, 0, 0, 0, 0, 0, 0, 0])])) trivial (Sub.of_eq (by kernel_rfl)) ?_
        intro k3 z3 hk3 hz3 hJ3
        refine Tri.seq ?_
        refine Tri.seq_region [] none [53, 12, 11, 5, 4] [176, 48, 32] ((True ∧ True) ∧ ((True ∧ True) ∧ True))
            ([(53, .sc (.b (decide ((((k3 : Nat) : Int) : Int) < 16)))), (12, .sc (.i .i64 ((k3 : Nat) : Int))), (11, .sc (.p 176 0)), (5, .sc (.p 48 0)), (4, .sc (.p 32 0))], [(176, .ints .i64 16 z3), (48, .ints .i64 32 ((itr (F21l2) 32 (0, (itr (F21l0 p0 p1) 16 [0, 0, 0, 0, 0, 0, 0, 0, 0, 0, 0, 0, 0, 0, 0, 0, 0, 0, 0, 0, 0, 0, 0, 0, 0, 0, 0, 0, 0, 0, 0, 0]))).2)), (32, .ints .i64 16 [0, 0, 0, 0, 0, 0, 0, 0, 0, 0, 0, 0, 0, 0, 0, 0])])
            240 (by kernel_rfl) rfl (by kernel_rfl) (⟨⟨trivial, trivial⟩, ⟨⟨trivial, trivial⟩, trivial⟩⟩) ?_
        refine Tri.cond (x := (decide ((((k3 : Nat) : Int) : Int) < 16))) (by kernel_rfl) (fun h4 => ?_) (fun h4 => ?_)
        ·
          have h4' := of_decide_eq_true h4
          refine Tri.skip ?_
          change Tri _ _ _ _ _ _
          refine Tri.seq ?_
          refine Tri.block ?_
          refine Tri.region' [(61, .i .i64 ((k3 + 16 : Nat) : Int))] (some [0, 0, 2, 6, 0, 16, 48, 112, 240, 510, 1023, 2047]) [12, 11, 5, 4] [176, 48, 32] ((True ∧ True) ∧ ((True ∧ True) ∧ ((((0 : Int) ≤ ((k3 : Nat) : Int) ∧ ((k3 : Nat) : Int) < ((32 : Nat) : Int)) ∧ True) ∧ (((k3 < 32) ∧ True) ∧ ((True ∧ True) ∧ ((True ∧ ((iAdd .i64 ((k3 : Nat) : Int) 16) = ((k3 + 16 : Nat) : Int))) ∧ ((((0 : Int) ≤ ((k3 + 16 : Nat) : Int) ∧ ((k3 + 16 : Nat) : Int) < ((32 : Nat) : Int)) ∧ True) ∧ (((k3 + 16 < 32) ∧ True) ∧ ((True ∧ True) ∧ ((True ∧ True) ∧ ((((0 : Int) ≤ ((k3 : Nat) : Int) ∧ ((k3 : Nat) : Int) < ((16 : Nat) : Int)) ∧ True) ∧ ((((k3 < 16) ∧ (1 = 1)) ∧ True) ∧ True))))))))))))
              ([(12, .sc (.i .i64 ((k3 : Nat) : Int))), (11, .sc (.p 176 0)), (5, .sc (.p 48 0)), (4, .sc (.p 32 0))], [(176, .ints .i64 16 (z3.set k3 (iAdd .i64 (((itr (F21l2) 32 (0, (itr (F21l0 p0 p1) 16 [0, 0, 0, 0, 0, 0, 0, 0, 0, 0, 0, 0, 0, 0, 0, 0, 0, 0, 0, 0, 0, 0, 0, 0, 0, 0, 0, 0, 0, 0, 0, 0]))).2).getD k3 0) (iMul .i64 38 (((itr (F21l2) 32 (0, (itr (F21l0 p0 p1) 16 [0, 0, 0, 0, 0, 0, 0, 0, 0, 0, 0, 0, 0, 0, 0, 0, 0, 0, 0, 0, 0, 0, 0, 0, 0, 0, 0, 0, 0, 0, 0, 0]))).2).getD (k3 + 16) 0))))), (48, .ints .i64 32 ((itr (F21l2) 32 (0, (itr (F21l0 p0 p1) 16 [0, 0, 0, 0, 0, 0, 0, 0, 0, 0, 0, 0, 0, 0, 0, 0, 0, 0, 0, 0, 0, 0, 0, 0, 0, 0, 0, 0, 0, 0, 0, 0]))).2)), (32, .ints .i64 16 [0, 0, 0, 0, 0, 0, 0, 0, 0, 0, 0, 0, 0, 0, 0, 0])])
              432 (by kernel_rfl) rfl (by kernel_rfl) (⟨⟨trivial, trivial⟩, ⟨⟨trivial, trivial⟩, ⟨⟨(by omega), trivial⟩, ⟨⟨(by omega), trivial⟩, ⟨⟨trivial, trivial⟩, ⟨⟨trivial, (iAdd_nat (a := k3) (b := 16) (by omega))⟩, ⟨⟨(by omega), trivial⟩, ⟨⟨(by omega), trivial⟩, ⟨⟨trivial, trivial⟩, ⟨⟨trivial, trivial⟩, ⟨⟨(by omega), trivial⟩, ⟨⟨⟨(by omega), (rfl)⟩, trivial⟩, trivial⟩⟩⟩⟩⟩⟩⟩⟩⟩⟩⟩⟩) ?_
          change Tri _ _ _ _ _ _
          refine Tri.region' [(55, .i .i64 ((k3 + 1 : Nat) : Int))] none [12, 11, 5, 4] [176, 48, 32] ((True ∧ True) ∧ ((True ∧ ((iAdd .i64 ((k3 : Nat) : Int) 1) = ((k3 + 1 : Nat) : Int))) ∧ ((True ∧ True) ∧ True)))
              ([(12, .sc (.i .i64 ((k3 + 1 : Nat) : Int))), (11, .sc (.p 176 0)), (5, .sc (.p 48 0)), (4, .sc (.p 32 0))], [(176, .ints .i64 16 (z3.set k3 (iAdd .i64 (((itr (F21l2) 32 (0, (itr (F21l0 p0 p1) 16 [0, 0, 0, 0, 0, 0, 0, 0, 0, 0, 0, 0, 0, 0, 0, 0, 0, 0, 0, 0, 0, 0, 0, 0, 0, 0, 0, 0, 0, 0, 0, 0]))).2).getD k3 0) (iMul .i64 38 (((itr (F21l2) 32 (0, (itr (F21l0 p0 p1) 16 [0, 0, 0, 0, 0, 0, 0, 0, 0, 0, 0, 0, 0, 0, 0, 0, 0, 0, 0, 0, 0, 0, 0, 0, 0, 0, 0, 0, 0, 0, 0, 0]))).2).getD (k3 + 16) 0))))), (48, .ints .i64 32 ((itr (F21l2) 32 (0, (itr (F21l0 p0 p1) 16 [0, 0, 0, 0, 0, 0, 0, 0, 0, 0, 0, 0, 0, 0, 0, 0, 0, 0, 0, 0, 0, 0, 0, 0, 0, 0, 0, 0, 0, 0, 0, 0]))).2)), (32, .ints .i64 16 [0, 0, 0, 0, 0, 0, 0, 0, 0, 0, 0, 0, 0, 0, 0, 0])])
              480 (by kernel_rfl) rfl (by kernel_rfl) (⟨⟨trivial, trivial⟩, ⟨⟨trivial, (iAdd_nat (a := k3) (b := 1) (by omega))⟩, ⟨⟨trivial, trivial⟩, trivial⟩⟩⟩) ?_
          refine countP_normal (by omega) trivial ?_
          exact Sub.ren (ns := [(176, 176), (48, 48), (32, 32)]) (kf := [12, 11, 5, 4]) (by kernel_rfl) (by kernel_rfl)
        ·
          have h4' := of_decide_eq_false h4
          refine Tri.exit ?_
          have hend3 : k3 = 16 := by (have := of_decide_eq_false h4; omega)
          subst hend3; subst hz3
          change Tri _ _ _ _ _ _
          refine Tri.seq_region [] none [4] [32] ((True ∧ True) ∧ (((True ∧ True) ∧ True) ∧ (((True ∧ (16 = 16)) ∧ True) ∧ True)))
              ([(4, .sc (.p 32 0))], [(32, .ints .i64 16 (F46 (itr (F21l3 p0 p1) 16 [0, 0, 0, 0, 0, 0, 0, 0, 0, 0, 0, 0, 0, 0, 0, 0])))])
              288 (by kernel_rfl) rfl (by kernel_rfl) (⟨⟨trivial, trivial⟩, ⟨⟨⟨trivial, trivial⟩, trivial⟩, ⟨⟨⟨trivial, (rfl)⟩, trivial⟩, trivial⟩⟩⟩) ?_
          refine Tri.ret ?_
          exact endP.ret [] (True ∧ True) (by kernel_rfl) (by kernel_rfl) (by kernel_rfl) ⟨trivial, trivial⟩


noncomputable def F24l0 (p0 : List Int) (k0 : Nat) (z0 : List Int) : List Int :=
  z0.set k0 (iAdd .i64 (IntKind.wrap .i64 (p0.getD (2 * k0) 0)) (iMul .i64 256 (IntKind.wrap .i64 (p0.getD ((2 * k0) + 1) 0))))

noncomputable def F24 (p0 : List Int) : List Int :=
  (F46 ((itr (F24l0 p0) 16 [0, 0, 0, 0, 0, 0, 0, 0, 0, 0, 0, 0, 0, 0, 0, 0]).set 15 (iRem ((itr (F24l0 p0) 16 [0, 0, 0, 0, 0, 0, 0, 0, 0, 0, 0, 0, 0, 0, 0, 0]).getD 15 0) 32768)))

noncomputable def S24 : List AV → Option (Prop × Ret)
  | [.sc (.ro .u8 p0)] => some (p0.length = 32, ⟨.ints .i64 16 (F24 p0), []⟩)
  | _ => none

noncomputable def B24 : Bs := { P := Go.Proofs.Try.prog, G := noG, tab := tabOf [(46, ⟨[.val], 0, S46⟩)], n := 32 }

theorem B24.ok : B24.Ok := ⟨tabOk (P := Go.Proofs.Try.prog) (G := noG) (l := [(46, ⟨[.val], 0, S46⟩)]) (And.intro K46 True.intro), mixed⟩

theorem K24 : Known Go.Proofs.Try.prog noG 24 ⟨[.ro .u8], 0, S24⟩ := by
  refine Known.walk (B := B24) (fn := Go.Proofs.Try.f24) B24.ok (by kernel_rfl) rfl (by kernel_rfl) (by kernel_rfl) (by decide) ?_ ?_
  · intro vs C r h
    simp only at h
    unfold S24 at h
    split at h
    · cases h; rfl
    · cases h
  · intro E args C r h hC hlen
    simp only at h
    unfold S24 at h
    split at h
    rotate_left
    · cases h
    rename_i p0
    cases h
    simp only [lens] at hlen
    refine ⟨show 1 ≤ 32 from by decide, ?_⟩
    refine Tri.sub (Sub.of_eq (show _ = ([(0, .sc (.ro .u8 p0))], []) from rfl)) ?_
    refine Tri.seq_region [] none [2, 0] [0] ((True ∧ True) ∧ True)
        ([(2, .sc (.p 0 0)), (0, .sc (.ro .u8 p0))], [(0, .ints .i64 16 [0, 0, 0, 0, 0, 0, 0, 0, 0, 0, 0, 0, 0, 0, 0, 0])])
        16 (by kernel_rfl) rfl (by kernel_rfl) (⟨⟨trivial, trivial⟩, trivial⟩) ?_
    refine Tri.seq_region [] none [3, 2, 0] [16, 0] ((True ∧ True) ∧ True)
        ([(3, .sc (.p 16 0)), (2, .sc (.p 0 0)), (0, .sc (.ro .u8 p0))], [(16, .ints .i64 16 [0, 0, 0, 0, 0, 0, 0, 0, 0, 0, 0, 0, 0, 0, 0, 0]), (0, .ints .i64 16 [0, 0, 0, 0, 0, 0, 0, 0, 0, 0, 0, 0, 0, 0, 0, 0])])
        32 (by kernel_rfl) rfl (by kernel_rfl) (⟨⟨trivial, trivial⟩, trivial⟩) ?_
    refine Tri.seq ?_
    refine Tri.seq_region [] none [4, 3, 2, 0] [16, 0] ((True ∧ True) ∧ True)
        ([(4, .sc (.i .i64 0)), (3, .sc (.p 16 0)), (2, .sc (.p 0 0)), (0, .sc (.ro .u8 p0))], [(16, .ints .i64 16 [0, 0, 0, 0, 0, 0, 0, 0, 0, 0, 0, 0, 0, 0, 0, 0]), (0, .ints .i64 16 [0, 0, 0, 0, 0, 0, 0, 0, 0, 0, 0, 0, 0, 0, 0, 0])])
        48 (by kernel_rfl) rfl (by kernel_rfl) (⟨⟨trivial, trivial⟩, trivial⟩) ?_
    refine Tri.block ?_
    refine Tri.count 48 16 (F24l0 p0) [0, 0, 0, 0, 0, 0, 0, 0, 0, 0, 0, 0, 0, 0, 0, 0] (fun k0 z0 => True) (fun k0 z0 => ([(4, .sc (.i .i64 ((k0 : Nat) : Int))), (3, .sc (.p 16 0)), (2, .sc (.p 0 0)), (0, .sc (.ro .u8 p0))], [(16, .ints .i64 16 z0), (0, .ints .i64 16 [0, 0, 0, 0, 0, 0, 0, 0, 0, 0, 0, 0, 0, 0, 0, 0])])) trivial (Sub.of_eq (by kernel_rfl)) ?_
    intro k0 z0 hk0 hz0 hJ0
    refine Tri.seq ?_
    refine Tri.seq_region [] none [6, 4, 3, 2, 0] [16, 0] ((True ∧ True) ∧ ((True ∧ True) ∧ True))
        ([(6, .sc (.b (decide ((((k0 : Nat) : Int) : Int) < 16)))), (4, .sc (.i .i64 ((k0 : Nat) : Int))), (3, .sc (.p 16 0)), (2, .sc (.p 0 0)), (0, .sc (.ro .u8 p0))], [(16, .ints .i64 16 z0), (0, .ints .i64 16 [0, 0, 0, 0, 0, 0, 0, 0, 0, 0, 0, 0, 0, 0, 0, 0])])
        80 (by kernel_rfl) rfl (by kernel_rfl) (⟨⟨trivial, trivial⟩, ⟨⟨trivial, trivial⟩, trivial⟩⟩) ?_
    refine Tri.cond (x := (decide ((((k0 : Nat) : Int) : Int) < 16))) (by kernel_rfl) (fun h1 => ?_) (fun h1 => ?_)
    ·
      have h1' := of_decide_eq_true h1
      refine Tri.skip ?_
      change Tri _ _ _ _ _ _
      refine Tri.seq ?_
      refine Tri.block ?_
      refine Tri.region' [(12, .i .i64 ((2 * k0 : Nat) : Int)), (18, .i .i64 ((2 * k0 : Nat) : Int)), (19, .i .i64 (((2 * k0) + 1 : Nat) : Int))] (some [0, 0, 0, 4, 14, 30, 62, 0, 0, 256, 768, 1920, 3968, 8064, 16256, 32766, 65535, 131071]) [4, 3, 2, 0] [16, 0] ((True ∧ True) ∧ ((True ∧ True) ∧ ((True ∧ True) ∧ ((True ∧ ((iMul .i64 2 ((k0 : Nat) : Int)) = ((2 * k0 : Nat) : Int))) ∧ ((((0 : Int) ≤ ((2 * k0 : Nat) : Int) ∧ ((2 * k0 : Nat) : Int) < (p0.length : Int)) ∧ True) ∧ (((2 * k0 < p0.length) ∧ True) ∧ ((True ∧ True) ∧ ((True ∧ True) ∧ ((True ∧ True) ∧ ((True ∧ ((iMul .i64 2 ((k0 : Nat) : Int)) = ((2 * k0 : Nat) : Int))) ∧ ((True ∧ ((iAdd .i64 ((2 * k0 : Nat) : Int) 1) = (((2 * k0) + 1 : Nat) : Int))) ∧ ((((0 : Int) ≤ (((2 * k0) + 1 : Nat) : Int) ∧ (((2 * k0) + 1 : Nat) : Int) < (p0.length : Int)) ∧ True) ∧ ((((2 * k0) + 1 < p0.length) ∧ True) ∧ ((True ∧ True) ∧ ((True ∧ True) ∧ ((True ∧ True) ∧ ((((0 : Int) ≤ ((k0 : Nat) : Int) ∧ ((k0 : Nat) : Int) < ((16 : Nat) : Int)) ∧ True) ∧ ((((k0 < 16) ∧ (1 = 1)) ∧ True) ∧ True))))))))))))))))))
          ([(4, .sc (.i .i64 ((k0 : Nat) : Int))), (3, .sc (.p 16 0)), (2, .sc (.p 0 0)), (0, .sc (.ro .u8 p0))], [(16, .ints .i64 16 (z0.set k0 (iAdd .i64 (IntKind.wrap .i64 (p0.getD (2 * k0) 0)) (iMul .i64 256 (IntKind.wrap .i64 (p0.getD ((2 * k0) + 1) 0)))))), (0, .ints .i64 16 [0, 0, 0, 0, 0, 0, 0, 0, 0, 0, 0, 0, 0, 0, 0, 0])])
          368 (by kernel_rfl) rfl (by kernel_rfl) (⟨⟨trivial, trivial⟩, ⟨⟨trivial, trivial⟩, ⟨⟨trivial, trivial⟩, ⟨⟨trivial, (iMul_nat (a := 2) (b := k0) (by omega))⟩, ⟨⟨(by omega), trivial⟩, ⟨⟨(by omega), trivial⟩, ⟨⟨trivial, trivial⟩, ⟨⟨trivial, trivial⟩, ⟨⟨trivial, trivial⟩, ⟨⟨trivial, (iMul_nat (a := 2) (b := k0) (by omega))⟩, ⟨⟨trivial, (iAdd_nat (a := 2 * k0) (b := 1) (by omega))⟩, ⟨⟨(by omega), trivial⟩, ⟨⟨(by omega), trivial⟩, ⟨⟨trivial, trivial⟩, ⟨⟨trivial, trivial⟩, ⟨⟨trivial, trivial⟩, ⟨⟨(by omega), trivial⟩, ⟨⟨⟨(by omega), (rfl)⟩, trivial⟩, trivial⟩⟩⟩⟩⟩⟩⟩⟩⟩⟩⟩⟩⟩⟩⟩⟩⟩⟩) ?_
      change Tri _ _ _ _ _ _
      refine Tri.region' [(8, .i .i64 ((k0 + 1 : Nat) : Int))] none [4, 3, 2, 0] [16, 0] ((True ∧ True) ∧ ((True ∧ ((iAdd .i64 ((k0 : Nat) : Int) 1) = ((k0 + 1 : Nat) : Int))) ∧ ((True ∧ True) ∧ True)))
          ([(4, .sc (.i .i64 ((k0 + 1 : Nat) : Int))), (3, .sc (.p 16 0)), (2, .sc (.p 0 0)), (0, .sc (.ro .u8 p0))], [(16, .ints .i64 16 (z0.set k0 (iAdd .i64 (IntKind.wrap .i64 (p0.getD (2 * k0) 0)) (iMul .i64 256 (IntKind.wrap .i64 (p0.getD ((2 * k0) + 1) 0)))))), (0, .ints .i64 16 [0, 0, 0, 0, 0, 0, 0, 0, 0, 0, 0, 0, 0, 0, 0, 0])])
          416 (by kernel_rfl) rfl (by kernel_rfl) (⟨⟨trivial, trivial⟩, ⟨⟨trivial, (iAdd_nat (a := k0) (b := 1) (by omega))⟩, ⟨⟨trivial, trivial⟩, trivial⟩⟩⟩) ?_
      refine countP_normal (by omega) trivial ?_
      exact Sub.ren (ns := [(16, 16), (0, 0)]) (kf := [4, 3, 2, 0]) (by kernel_rfl) (by kernel_rfl)
    ·
      have h1' := of_decide_eq_false h1
      refine Tri.exit ?_
      have hend0 : k0 = 16 := by (have := of_decide_eq_false h1; omega)
      subst hend0; subst hz0
      change Tri _ _ _ _ _ _
      refine Tri.seq_region [] none [3, 2] [16, 0] ((((0 : Int) ≤ 15 ∧ 15 < ((16 : Nat) : Int)) ∧ True) ∧ (((15 < 16) ∧ True) ∧ (((32768 ≠ (0 : Int)) ∧ True) ∧ ((((0 : Int) ≤ 15 ∧ 15 < ((16 : Nat) : Int)) ∧ True) ∧ ((((15 < 16) ∧ (1 = 1)) ∧ True) ∧ True)))))
          ([(3, .sc (.p 16 0)), (2, .sc (.p 0 0))], [(16, .ints .i64 16 ((itr (F24l0 p0) 16 [0, 0, 0, 0, 0, 0, 0, 0, 0, 0, 0, 0, 0, 0, 0, 0]).set 15 (iRem ((itr (F24l0 p0) 16 [0, 0, 0, 0, 0, 0, 0, 0, 0, 0, 0, 0, 0, 0, 0, 0]).getD 15 0) 32768))), (0, .ints .i64 16 [0, 0, 0, 0, 0, 0, 0, 0, 0, 0, 0, 0, 0, 0, 0, 0])])
          160 (by kernel_rfl) rfl (by kernel_rfl) (⟨⟨(by omega), trivial⟩, ⟨⟨(by omega), trivial⟩, ⟨⟨(by omega), trivial⟩, ⟨⟨(by omega), trivial⟩, ⟨⟨⟨(by omega), (rfl)⟩, trivial⟩, trivial⟩⟩⟩⟩⟩) ?_
      refine Tri.seq_region [] none [2] [0] ((True ∧ True) ∧ (((True ∧ True) ∧ True) ∧ (((True ∧ (16 = 16)) ∧ True) ∧ True)))
          ([(2, .sc (.p 0 0))], [(0, .ints .i64 16 (F46 ((itr (F24l0 p0) 16 [0, 0, 0, 0, 0, 0, 0, 0, 0, 0, 0, 0, 0, 0, 0, 0]).set 15 (iRem ((itr (F24l0 p0) 16 [0, 0, 0, 0, 0, 0, 0, 0, 0, 0, 0, 0, 0, 0, 0, 0]).getD 15 0) 32768))))])
          208 (by kernel_rfl) rfl (by kernel_rfl) (⟨⟨trivial, trivial⟩, ⟨⟨⟨trivial, trivial⟩, trivial⟩, ⟨⟨⟨trivial, (rfl)⟩, trivial⟩, trivial⟩⟩⟩) ?_
      refine Tri.ret ?_
      exact endP.ret [] (True ∧ True) (by kernel_rfl) (by kernel_rfl) (by kernel_rfl) ⟨trivial, trivial⟩


noncomputable def F31 (p0 : Int) : List Int :=
  (F46 [p0, 0, 0, 0, 0, 0, 0, 0, 0, 0, 0, 0, 0, 0, 0, 0])

noncomputable def S31 : List AV → Option (Prop × Ret)
  | [.sc (.i .i64 p0)] => some (True, ⟨.ints .i64 16 (F31 p0), []⟩)
  | _ => none

noncomputable def B31 : Bs := { P := Go.Proofs.Try.prog, G := noG, tab := tabOf [(46, ⟨[.val], 0, S46⟩)], n := 6 }

theorem B31.ok : B31.Ok := ⟨tabOk (P := Go.Proofs.Try.prog) (G := noG) (l := [(46, ⟨[.val], 0, S46⟩)]) (And.intro K46 True.intro), mixed⟩

theorem K31 : Known Go.Proofs.Try.prog noG 31 ⟨[.val], 0, S31⟩ := by
  refine Known.walk (B := B31) (fn := Go.Proofs.Try.f31) B31.ok (by kernel_rfl) rfl (by kernel_rfl) (by kernel_rfl) (by decide) ?_ ?_
  · intro vs C r h
    simp only at h
    unfold S31 at h
    split at h
    · cases h; rfl
    · cases h
  · intro E args C r h hC hlen
    simp only at h
    unfold S31 at h
    split at h
    rotate_left
    · cases h
    rename_i p0
    cases h
    simp only [lens] at hlen
    refine ⟨show 1 ≤ 6 from by decide, ?_⟩
    refine Tri.sub (Sub.of_eq (show _ = ([(0, .sc (.i .i64 p0))], []) from rfl)) ?_
    refine Tri.seq_region [] none [2, 0] [0] ((True ∧ True) ∧ True)
        ([(2, .sc (.p 0 0)), (0, .sc (.i .i64 p0))], [(0, .ints .i64 16 [0, 0, 0, 0, 0, 0, 0, 0, 0, 0, 0, 0, 0, 0, 0, 0])])
        16 (by kernel_rfl) rfl (by kernel_rfl) (⟨⟨trivial, trivial⟩, trivial⟩) ?_
    refine Tri.seq_region [] none [2] [0] ((True ∧ True) ∧ (((((0 < 16) ∧ (1 = 1)) ∧ True) ∧ True) ∧ (((True ∧ True) ∧ True) ∧ (((True ∧ (16 = 16)) ∧ True) ∧ True))))
        ([(2, .sc (.p 0 0))], [(0, .ints .i64 16 (F46 [p0, 0, 0, 0, 0, 0, 0, 0, 0, 0, 0, 0, 0, 0, 0, 0]))])
        80 (by kernel_rfl) rfl (by kernel_rfl) (⟨⟨trivial, trivial⟩, ⟨⟨⟨⟨(by omega), (rfl)⟩, trivial⟩, trivial⟩, ⟨⟨⟨trivial, trivial⟩, trivial⟩, ⟨⟨⟨trivial, (rfl)⟩, trivial⟩, trivial⟩⟩⟩⟩) ?_
    refine Tri.ret ?_
    exact endP.ret [] (True ∧ True) (by kernel_rfl) (by kernel_rfl) (by kernel_rfl) ⟨trivial, trivial⟩


noncomputable def F27l1 (p1 : List Int) (k0 : Nat) (k1 : Nat) (z1 : List Int × List Int) : List Int × List Int :=
  ((sel (((iRem (iShr .u8 (p1.getD k0 0) ((k1 : Nat) : Int)) 2) : Int) == 1) (F21 z1.1 z1.2) z1.1), (F21 z1.2 z1.2))

noncomputable def F27l0 (p1 : List Int) (k0 : Nat) (z0 : List Int × List Int) : List Int × List Int :=
  ((itr (F27l1 p1 k0) 8 (z0.1, z0.2)).1, (itr (F27l1 p1 k0) 8 (z0.1, z0.2)).2)

noncomputable def F27 (p0 : List Int) (p1 : List Int) : List Int :=
  (itr (F27l0 p1) (p1.length - 0) ((F31 1), p0)).1

noncomputable def S27 : List AV → Option (Prop × Ret)
  | [.ints .i64 16 p0, .sc (.ro .u8 p1)] => some (p1.length ≤ 1000000, ⟨.ints .i64 16 (F27 p0 p1), []⟩)
  | _ => none

noncomputable def B27 : Bs := { P := Go.Proofs.Try.prog, G := noG, tab := tabOf [(21, ⟨[.val, .val], 0, S21⟩), (31, ⟨[.val], 0, S31⟩)], n := 34 }

theorem B27.ok : B27.Ok := ⟨tabOk (P := Go.Proofs.Try.prog) (G := noG) (l := [(21, ⟨[.val, .val], 0, S21⟩), (31, ⟨[.val], 0, S31⟩)]) (And.intro K21 (And.intro K31 True.intro)), mixed⟩

theorem K27 : Known Go.Proofs.Try.prog noG 27 ⟨[.val, .ro .u8], 0, S27⟩ := by
  refine Known.walk (B := B27) (fn := Go.Proofs.Try.f27) B27.ok (by kernel_rfl) rfl (by kernel_rfl) (by kernel_rfl) (by decide) ?_ ?_
  · intro vs C r h
    simp only at h
    unfold S27 at h
    split at h
    · cases h; rfl
    · cases h
  · intro E args C r h hC hlen
    simp only at h
    unfold S27 at h
    split at h
    rotate_left
    · cases h
    rename_i p0 p1
    cases h
    simp only [lens] at hlen
    refine ⟨show 2 ≤ 34 from by decide, ?_⟩
    refine Tri.sub (Sub.of_eq (show _ = ([(0, .ints .i64 16 p0), (1, .sc (.ro .u8 p1))], []) from rfl)) ?_
    refine Tri.seq_region [] none [4, 2, 1] [16, 0] ((True ∧ True) ∧ ((True ∧ True) ∧ True))
        ([(4, .sc (.p 16 0)), (2, .sc (.p 0 0)), (1, .sc (.ro .u8 p1))], [(16, .ints .i64 16 [0, 0, 0, 0, 0, 0, 0, 0, 0, 0, 0, 0, 0, 0, 0, 0]), (0, .ints .i64 16 p0)])
        32 (by kernel_rfl) rfl (by kernel_rfl) (⟨⟨trivial, trivial⟩, ⟨⟨trivial, trivial⟩, trivial⟩⟩) ?_
    refine Tri.seq_region [] none [5, 4, 2, 1] [48, 16, 0] (((True ∧ True) ∧ True) ∧ ((True ∧ True) ∧ (((True ∧ (16 = 16)) ∧ True) ∧ True)))
        ([(5, .sc (.p 48 0)), (4, .sc (.p 16 0)), (2, .sc (.p 0 0)), (1, .sc (.ro .u8 p1))], [(48, .ints .i64 16 (F31 1)), (16, .ints .i64 16 [0, 0, 0, 0, 0, 0, 0, 0, 0, 0, 0, 0, 0, 0, 0, 0]), (0, .ints .i64 16 p0)])
        80 (by kernel_rfl) rfl (by kernel_rfl) (⟨⟨⟨trivial, trivial⟩, trivial⟩, ⟨⟨trivial, trivial⟩, ⟨⟨⟨trivial, (rfl)⟩, trivial⟩, trivial⟩⟩⟩) ?_
    refine Tri.seq ?_
    refine Tri.seq_region [] none [6, 5, 4, 2, 1] [48, 16, 0] ((True ∧ True) ∧ True)
        ([(6, .sc (.i .i64 0)), (5, .sc (.p 48 0)), (4, .sc (.p 16 0)), (2, .sc (.p 0 0)), (1, .sc (.ro .u8 p1))], [(48, .ints .i64 16 (F31 1)), (16, .ints .i64 16 [0, 0, 0, 0, 0, 0, 0, 0, 0, 0, 0, 0, 0, 0, 0, 0]), (0, .ints .i64 16 p0)])
        96 (by kernel_rfl) rfl (by kernel_rfl) (⟨⟨trivial, trivial⟩, trivial⟩) ?_
    refine Tri.block ?_
    refine Tri.count 96 (p1.length - 0) (F27l0 p1) ((F31 1), p0) (fun k0 z0 => True) (fun k0 z0 => ([(6, .sc (.i .i64 ((k0 : Nat) : Int))), (5, .sc (.p 48 0)), (4, .sc (.p 16 0)), (2, .sc (.p 0 0)), (1, .sc (.ro .u8 p1))], [(48, .ints .i64 16 z0.1), (16, .ints .i64 16 [0, 0, 0, 0, 0, 0, 0, 0, 0, 0, 0, 0, 0, 0, 0, 0]), (0, .ints .i64 16 z0.2)])) trivial (Sub.of_eq (by kernel_rfl)) ?_
    intro k0 z0 hk0 hz0 hJ0
    refine Tri.seq ?_
    refine Tri.seq_region [] none [12, 6, 5, 4, 2, 1] [48, 16, 0] ((True ∧ True) ∧ ((True ∧ True) ∧ ((True ∧ True) ∧ ((True ∧ True) ∧ True))))
        ([(12, .sc (.b (decide ((((k0 : Nat) : Int) : Int) < ((p1.length : Nat) : Int))))), (6, .sc (.i .i64 ((k0 : Nat) : Int))), (5, .sc (.p 48 0)), (4, .sc (.p 16 0)), (2, .sc (.p 0 0)), (1, .sc (.ro .u8 p1))], [(48, .ints .i64 16 z0.1), (16, .ints .i64 16 [0, 0, 0, 0, 0, 0, 0, 0, 0, 0, 0, 0, 0, 0, 0, 0]), (0, .ints .i64 16 z0.2)])
        160 (by kernel_rfl) rfl (by kernel_rfl) (⟨⟨trivial, trivial⟩, ⟨⟨trivial, trivial⟩, ⟨⟨trivial, trivial⟩, ⟨⟨trivial, trivial⟩, trivial⟩⟩⟩⟩) ?_
    refine Tri.cond (x := (decide ((((k0 : Nat) : Int) : Int) < ((p1.length : Nat) : Int)))) (by kernel_rfl) (fun h1 => ?_) (fun h1 => ?_)
    ·
      have h1' := of_decide_eq_true h1
      refine Tri.skip ?_
      change Tri _ _ _ _ _ _
      refine Tri.seq ?_
      refine Tri.block ?_
      refine Tri.seq_region [] none [7, 6, 5, 4, 2, 1] [48, 16, 0] ((True ∧ True) ∧ True)
          ([(7, .sc (.i .i64 0)), (6, .sc (.i .i64 ((k0 : Nat) : Int))), (5, .sc (.p 48 0)), (4, .sc (.p 16 0)), (2, .sc (.p 0 0)), (1, .sc (.ro .u8 p1))], [(48, .ints .i64 16 z0.1), (16, .ints .i64 16 [0, 0, 0, 0, 0, 0, 0, 0, 0, 0, 0, 0, 0, 0, 0, 0]), (0, .ints .i64 16 z0.2)])
          176 (by kernel_rfl) rfl (by kernel_rfl) (⟨⟨trivial, trivial⟩, trivial⟩) ?_
      refine Tri.block ?_
      refine Tri.count 176 8 (F27l1 p1 k0) (z0.1, z0.2) (fun k1 z1 => True) (fun k1 z1 => ([(7, .sc (.i .i64 ((k1 : Nat) : Int))), (6, .sc (.i .i64 ((k0 : Nat) : Int))), (5, .sc (.p 48 0)), (4, .sc (.p 16 0)), (2, .sc (.p 0 0)), (1, .sc (.ro .u8 p1))], [(48, .ints .i64 16 z1.1), (16, .ints .i64 16 [0, 0, 0, 0, 0, 0, 0, 0, 0, 0, 0, 0, 0, 0, 0, 0]), (0, .ints .i64 16 z1.2)])) trivial (Sub.of_eq (by kernel_rfl)) ?_
      intro k1 z1 hk1 hz1 hJ1
      refine Tri.seq ?_
      refine Tri.seq_region [] none [16, 7, 6, 5, 4, 2, 1] [48, 16, 0] ((True ∧ True) ∧ ((True ∧ True) ∧ True))
          ([(16, .sc (.b (decide ((((k1 : Nat) : Int) : Int) < 8)))), (7, .sc (.i .i64 ((k1 : Nat) : Int))), (6, .sc (.i .i64 ((k0 : Nat) : Int))), (5, .sc (.p 48 0)), (4, .sc (.p 16 0)), (2, .sc (.p 0 0)), (1, .sc (.ro .u8 p1))], [(48, .ints .i64 16 z1.1), (16, .ints .i64 16 [0, 0, 0, 0, 0, 0, 0, 0, 0, 0, 0, 0, 0, 0, 0, 0]), (0, .ints .i64 16 z1.2)])
          208 (by kernel_rfl) rfl (by kernel_rfl) (⟨⟨trivial, trivial⟩, ⟨⟨trivial, trivial⟩, trivial⟩⟩) ?_
      refine Tri.cond (x := (decide ((((k1 : Nat) : Int) : Int) < 8))) (by kernel_rfl) (fun h2 => ?_) (fun h2 => ?_)
      ·
        have h2' := of_decide_eq_true h2
        refine Tri.skip ?_
        change Tri _ _ _ _ _ _
        refine Tri.seq ?_
        refine Tri.block ?_
        refine Tri.seq ?_
        refine Tri.seq_region [] none [26, 7, 6, 5, 4, 2, 1] [48, 16, 0] ((True ∧ True) ∧ ((True ∧ True) ∧ ((((0 : Int) ≤ ((k0 : Nat) : Int) ∧ ((k0 : Nat) : Int) < (p1.length : Int)) ∧ True) ∧ (((k0 < p1.length) ∧ True) ∧ ((True ∧ True) ∧ ((((0 : Int) ≤ ((k1 : Nat) : Int)) ∧ True) ∧ (((2 ≠ (0 : Int)) ∧ True) ∧ ((True ∧ True) ∧ True))))))))
            ([(26, .sc (.b (((iRem (iShr .u8 (p1.getD k0 0) ((k1 : Nat) : Int)) 2) : Int) == 1))), (7, .sc (.i .i64 ((k1 : Nat) : Int))), (6, .sc (.i .i64 ((k0 : Nat) : Int))), (5, .sc (.p 48 0)), (4, .sc (.p 16 0)), (2, .sc (.p 0 0)), (1, .sc (.ro .u8 p1))], [(48, .ints .i64 16 z1.1), (16, .ints .i64 16 [0, 0, 0, 0, 0, 0, 0, 0, 0, 0, 0, 0, 0, 0, 0, 0]), (0, .ints .i64 16 z1.2)])
            336 (by kernel_rfl) rfl (by kernel_rfl) (⟨⟨trivial, trivial⟩, ⟨⟨trivial, trivial⟩, ⟨⟨(by omega), trivial⟩, ⟨⟨(by omega), trivial⟩, ⟨⟨trivial, trivial⟩, ⟨⟨(by omega), trivial⟩, ⟨⟨(by omega), trivial⟩, ⟨⟨trivial, trivial⟩, trivial⟩⟩⟩⟩⟩⟩⟩⟩) ?_
        refine Tri.join (x := (((iRem (iShr .u8 (p1.getD k0 0) ((k1 : Nat) : Int)) 2) : Int) == 1)) (fun bb => ([(7, .sc (.i .i64 ((k1 : Nat) : Int))), (6, .sc (.i .i64 ((k0 : Nat) : Int))), (5, .sc (.p 48 0)), (4, .sc (.p 16 0)), (2, .sc (.p 0 0)), (1, .sc (.ro .u8 p1))], [(48, .ints .i64 16 (sel bb (F21 z1.1 z1.2) z1.1)), (16, .ints .i64 16 [0, 0, 0, 0, 0, 0, 0, 0, 0, 0, 0, 0, 0, 0, 0, 0]), (0, .ints .i64 16 z1.2)])) 400 (by kernel_rfl) (fun h3 => ?_) (fun h3 => ?_) ?_
        ·
          have h3' := eq_true_i h3
          refine Tri.region' [] none [7, 6, 5, 4, 2, 1] [48, 16, 0] ((True ∧ True) ∧ ((True ∧ True) ∧ (((True ∧ True) ∧ True) ∧ (((True ∧ (16 = 16)) ∧ True) ∧ True))))
              ([(7, .sc (.i .i64 ((k1 : Nat) : Int))), (6, .sc (.i .i64 ((k0 : Nat) : Int))), (5, .sc (.p 48 0)), (4, .sc (.p 16 0)), (2, .sc (.p 0 0)), (1, .sc (.ro .u8 p1))], [(48, .ints .i64 16 (F21 z1.1 z1.2)), (16, .ints .i64 16 [0, 0, 0, 0, 0, 0, 0, 0, 0, 0, 0, 0, 0, 0, 0, 0]), (0, .ints .i64 16 z1.2)])
              400 (by kernel_rfl) rfl (by kernel_rfl) (⟨⟨trivial, trivial⟩, ⟨⟨trivial, trivial⟩, ⟨⟨⟨trivial, trivial⟩, trivial⟩, ⟨⟨⟨trivial, (rfl)⟩, trivial⟩, trivial⟩⟩⟩⟩) ?_
          exact (Sub.ren (ns := [(48, 48), (16, 16), (0, 0)]) (kf := [7, 6, 5, 4, 2, 1]) (s' := ([(7, .sc (.i .i64 ((k1 : Nat) : Int))), (6, .sc (.i .i64 ((k0 : Nat) : Int))), (5, .sc (.p 48 0)), (4, .sc (.p 16 0)), (2, .sc (.p 0 0)), (1, .sc (.ro .u8 p1))], [(48, .ints .i64 16 (F21 z1.1 z1.2)), (16, .ints .i64 16 [0, 0, 0, 0, 0, 0, 0, 0, 0, 0, 0, 0, 0, 0, 0, 0]), (0, .ints .i64 16 z1.2)])) (by kernel_rfl) (by kernel_rfl)).trans (Sub.of_eq (by simp only [sel_true, sel_false]))
        ·
          have h3' := eq_false_i h3
          refine Tri.skip ?_
          exact (Sub.ren (ns := [(48, 48), (16, 16), (0, 0)]) (kf := [7, 6, 5, 4, 2, 1]) (s' := ([(7, .sc (.i .i64 ((k1 : Nat) : Int))), (6, .sc (.i .i64 ((k0 : Nat) : Int))), (5, .sc (.p 48 0)), (4, .sc (.p 16 0)), (2, .sc (.p 0 0)), (1, .sc (.ro .u8 p1))], [(48, .ints .i64 16 z1.1), (16, .ints .i64 16 [0, 0, 0, 0, 0, 0, 0, 0, 0, 0, 0, 0, 0, 0, 0, 0]), (0, .ints .i64 16 z1.2)])) (by kernel_rfl) (by kernel_rfl)).trans (Sub.of_eq (by simp only [sel_true, sel_false]))
        ·
          change Tri _ _ _ _ _ _
          refine Tri.region' [] none [7, 6, 5, 4, 2, 1] [0, 48, 16] ((True ∧ True) ∧ ((True ∧ True) ∧ (((True ∧ True) ∧ True) ∧ (((True ∧ (16 = 16)) ∧ True) ∧ True))))
              ([(7, .sc (.i .i64 ((k1 : Nat) : Int))), (6, .sc (.i .i64 ((k0 : Nat) : Int))), (5, .sc (.p 48 0)), (4, .sc (.p 16 0)), (2, .sc (.p 0 0)), (1, .sc (.ro .u8 p1))], [(0, .ints .i64 16 (F21 z1.2 z1.2)), (48, .ints .i64 16 (sel (((iRem (iShr .u8 (p1.getD k0 0) ((k1 : Nat) : Int)) 2) : Int) == 1) (F21 z1.1 z1.2) z1.1)), (16, .ints .i64 16 [0, 0, 0, 0, 0, 0, 0, 0, 0, 0, 0, 0, 0, 0, 0, 0])])
              464 (by kernel_rfl) rfl (by kernel_rfl) (⟨⟨trivial, trivial⟩, ⟨⟨trivial, trivial⟩, ⟨⟨⟨trivial, trivial⟩, trivial⟩, ⟨⟨⟨trivial, (rfl)⟩, trivial⟩, trivial⟩⟩⟩⟩) ?_
          change Tri _ _ _ _ _ _
          refine Tri.region' [(18, .i .i64 ((k1 + 1 : Nat) : Int))] none [7, 6, 5, 4, 2, 1] [0, 48, 16] ((True ∧ True) ∧ ((True ∧ ((iAdd .i64 ((k1 : Nat) : Int) 1) = ((k1 + 1 : Nat) : Int))) ∧ ((True ∧ True) ∧ True)))
              ([(7, .sc (.i .i64 ((k1 + 1 : Nat) : Int))), (6, .sc (.i .i64 ((k0 : Nat) : Int))), (5, .sc (.p 48 0)), (4, .sc (.p 16 0)), (2, .sc (.p 0 0)), (1, .sc (.ro .u8 p1))], [(0, .ints .i64 16 (F21 z1.2 z1.2)), (48, .ints .i64 16 (sel (((iRem (iShr .u8 (p1.getD k0 0) ((k1 : Nat) : Int)) 2) : Int) == 1) (F21 z1.1 z1.2) z1.1)), (16, .ints .i64 16 [0, 0, 0, 0, 0, 0, 0, 0, 0, 0, 0, 0, 0, 0, 0, 0])])
              512 (by kernel_rfl) rfl (by kernel_rfl) (⟨⟨trivial, trivial⟩, ⟨⟨trivial, (iAdd_nat (a := k1) (b := 1) (by omega))⟩, ⟨⟨trivial, trivial⟩, trivial⟩⟩⟩) ?_
          refine countP_normal (by omega) trivial ?_
          exact Sub.ren (ns := [(48, 48), (16, 16), (0, 0)]) (kf := [7, 6, 5, 4, 2, 1]) (by kernel_rfl) (by kernel_rfl)
      ·
        have h2' := of_decide_eq_false h2
        refine Tri.exit ?_
        have hend1 : k1 = 8 := by (have := of_decide_eq_false h2; omega)
        subst hend1; subst hz1
        change Tri _ _ _ _ _ _
        refine Tri.region' [(14, .i .i64 ((k0 + 1 : Nat) : Int))] none [6, 5, 4, 2, 1] [48, 16, 0] ((True ∧ True) ∧ ((True ∧ ((iAdd .i64 ((k0 : Nat) : Int) 1) = ((k0 + 1 : Nat) : Int))) ∧ ((True ∧ True) ∧ True)))
            ([(6, .sc (.i .i64 ((k0 + 1 : Nat) : Int))), (5, .sc (.p 48 0)), (4, .sc (.p 16 0)), (2, .sc (.p 0 0)), (1, .sc (.ro .u8 p1))], [(48, .ints .i64 16 ((itr (F27l1 p1 k0) 8 (z0.1, z0.2)).1)), (16, .ints .i64 16 [0, 0, 0, 0, 0, 0, 0, 0, 0, 0, 0, 0, 0, 0, 0, 0]), (0, .ints .i64 16 ((itr (F27l1 p1 k0) 8 (z0.1, z0.2)).2))])
            256 (by kernel_rfl) rfl (by kernel_rfl) (⟨⟨trivial, trivial⟩, ⟨⟨trivial, (iAdd_nat (a := k0) (b := 1) (by omega))⟩, ⟨⟨trivial, trivial⟩, trivial⟩⟩⟩) ?_
        refine countP_normal (by omega) trivial ?_
        exact Sub.ren (ns := [(48, 48), (16, 16), (0, 0)]) (kf := [6, 5, 4, 2, 1]) (by kernel_rfl) (by kernel_rfl)
    ·
      have h1' := of_decide_eq_false h1
      refine Tri.exit ?_
      have hend0 : k0 = (p1.length - 0) := by (have := of_decide_eq_false h1; omega)
      subst hend0; subst hz0
      change Tri _ _ _ _ _ _
      refine Tri.seq_region [] none [4] [16] ((True ∧ True) ∧ (((True ∧ (16 = 16)) ∧ True) ∧ True))
          ([(4, .sc (.p 16 0))], [(16, .ints .i64 16 ((itr (F27l0 p1) (p1.length - 0) ((F31 1), p0)).1))])
          192 (by kernel_rfl) rfl (by kernel_rfl) (⟨⟨trivial, trivial⟩, ⟨⟨⟨trivial, (rfl)⟩, trivial⟩, trivial⟩⟩) ?_
      refine Tri.ret ?_
      exact endP.ret [] (True ∧ True) (by kernel_rfl) (by kernel_rfl) (by kernel_rfl) ⟨trivial, trivial⟩


noncomputable def F51l0 (k0 : Nat) (z0 : List Int) : List Int :=
  z0.set k0 255

noncomputable def F51 (p0 : Int) (p1 : Int) : List Int :=
  ((itr (F51l0) 31 (List.replicate 32 0)).set 0 (iAdd .u8 (iSub .u8 255 p1) 1)).set 31 (iSub .u8 (iShl .u8 1 (iSub .i64 p0 248)) 1)

noncomputable def S51 : List AV → Option (Prop × Ret)
  | [.sc (.i .i64 p0), .sc (.i .u8 p1)] => some ((248 : Int) ≤ p0 ∧ p0 ≤ (255 : Int), ⟨.sc (.sl 0 0 32 1 none), [.ints .u8 32 (F51 p0 p1)]⟩)
  | _ => none

noncomputable def B51 : Bs := { P := Go.Proofs.Try.prog, G := noG, tab := tabOf [], n := 27 }

theorem B51.ok : B51.Ok := ⟨tabOk (P := Go.Proofs.Try.prog) (G := noG) (l := []) True.intro, mixed⟩

theorem K51 : Known Go.Proofs.Try.prog noG 51 ⟨[.val, .val], 1, S51⟩ := by
  refine Known.walk (B := B51) (fn := Go.Proofs.Try.f51) B51.ok (by kernel_rfl) rfl (by kernel_rfl) (by kernel_rfl) (by decide) ?_ ?_
  · intro vs C r h
    simp only at h
    unfold S51 at h
    split at h
    · cases h; rfl
    · cases h
  · intro E args C r h hC hlen
    simp only at h
    unfold S51 at h
    split at h
    rotate_left
    · cases h
    rename_i p0 p1
    cases h
    simp only [lens] at hlen
    refine ⟨show 2 ≤ 27 from by decide, ?_⟩
    refine Tri.sub (Sub.of_eq (show _ = ([(0, .sc (.i .i64 p0)), (1, .sc (.i .u8 p1))], []) from rfl)) ?_
    refine Tri.seq_region [] none [0, 1] [] ((True ∧ True) ∧ True)
        ([(0, .sc (.i .i64 p0)), (1, .sc (.i .u8 p1))], [])
        16 (by kernel_rfl) rfl (by kernel_rfl) (⟨⟨trivial, trivial⟩, trivial⟩) ?_
    refine Tri.seq_region [] none [5, 0, 1] [16] (((((0 : Int) ≤ 32 ∧ (32 : Int) = 32) ∧ ((32 ≤ (140737488355328 : Int)) ∧ (((1 : Nat) : Int) * 32 ≤ 281474976710656))) ∧ True) ∧ ((True ∧ True) ∧ True))
        ([(5, .sc (.sl 16 0 32 1 none)), (0, .sc (.i .i64 p0)), (1, .sc (.i .u8 p1))], [(16, .ints .u8 32 (List.replicate 32 0))])
        48 (by kernel_rfl) rfl (by kernel_rfl) (⟨⟨⟨(by omega), ⟨(by omega), (by omega)⟩⟩, trivial⟩, ⟨⟨trivial, trivial⟩, trivial⟩⟩) ?_
    refine Tri.seq ?_
    refine Tri.seq_region [] none [6, 5, 0, 1] [16] ((True ∧ True) ∧ True)
        ([(6, .sc (.i .i64 0)), (5, .sc (.sl 16 0 32 1 none)), (0, .sc (.i .i64 p0)), (1, .sc (.i .u8 p1))], [(16, .ints .u8 32 (List.replicate 32 0))])
        64 (by kernel_rfl) rfl (by kernel_rfl) (⟨⟨trivial, trivial⟩, trivial⟩) ?_
    refine Tri.block ?_
    refine Tri.count 64 31 (F51l0) (List.replicate 32 0) (fun k0 z0 => True) (fun k0 z0 => ([(6, .sc (.i .i64 ((k0 : Nat) : Int))), (5, .sc (.sl 16 0 32 1 none)), (0, .sc (.i .i64 p0)), (1, .sc (.i .u8 p1))], [(16, .ints .u8 32 z0)])) trivial (Sub.of_eq (by kernel_rfl)) ?_
    intro k0 z0 hk0 hz0 hJ0
    refine Tri.seq ?_
    refine Tri.seq_region [] none [9, 6, 5, 0, 1] [16] ((True ∧ True) ∧ ((True ∧ True) ∧ True))
        ([(9, .sc (.b (decide ((((k0 : Nat) : Int) : Int) < 31)))), (6, .sc (.i .i64 ((k0 : Nat) : Int))), (5, .sc (.sl 16 0 32 1 none)), (0, .sc (.i .i64 p0)), (1, .sc (.i .u8 p1))], [(16, .ints .u8 32 z0)])
        96 (by kernel_rfl) rfl (by kernel_rfl) (⟨⟨trivial, trivial⟩, ⟨⟨trivial, trivial⟩, trivial⟩⟩) ?_
    refine Tri.cond (x := (decide ((((k0 : Nat) : Int) : Int) < 31))) (by kernel_rfl) (fun h1 => ?_) (fun h1 => ?_)
    ·
      have h1' := of_decide_eq_true h1
      refine Tri.skip ?_
      change Tri _ _ _ _ _ _
      refine Tri.seq ?_
      refine Tri.block ?_
      refine Tri.region' [] none [6, 5, 0, 1] [16] ((True ∧ True) ∧ ((True ∧ True) ∧ ((((0 : Int) ≤ ((k0 : Nat) : Int) ∧ ((k0 : Nat) : Int) < ((32 : Nat) : Int)) ∧ True) ∧ ((((k0 < 32) ∧ (1 = 1)) ∧ True) ∧ True))))
          ([(6, .sc (.i .i64 ((k0 : Nat) : Int))), (5, .sc (.sl 16 0 32 1 none)), (0, .sc (.i .i64 p0)), (1, .sc (.i .u8 p1))], [(16, .ints .u8 32 (z0.set k0 255))])
          160 (by kernel_rfl) rfl (by kernel_rfl) (⟨⟨trivial, trivial⟩, ⟨⟨trivial, trivial⟩, ⟨⟨(by omega), trivial⟩, ⟨⟨⟨(by omega), (rfl)⟩, trivial⟩, trivial⟩⟩⟩⟩) ?_
      change Tri _ _ _ _ _ _
      refine Tri.region' [(11, .i .i64 ((k0 + 1 : Nat) : Int))] none [6, 5, 0, 1] [16] ((True ∧ True) ∧ ((True ∧ ((iAdd .i64 ((k0 : Nat) : Int) 1) = ((k0 + 1 : Nat) : Int))) ∧ ((True ∧ True) ∧ True)))
          ([(6, .sc (.i .i64 ((k0 + 1 : Nat) : Int))), (5, .sc (.sl 16 0 32 1 none)), (0, .sc (.i .i64 p0)), (1, .sc (.i .u8 p1))], [(16, .ints .u8 32 (z0.set k0 255))])
          208 (by kernel_rfl) rfl (by kernel_rfl) (⟨⟨trivial, trivial⟩, ⟨⟨trivial, (iAdd_nat (a := k0) (b := 1) (by omega))⟩, ⟨⟨trivial, trivial⟩, trivial⟩⟩⟩) ?_
      refine countP_normal (by omega) trivial ?_
      exact Sub.ren (ns := [(16, 16)]) (kf := [6, 5, 0, 1]) (by kernel_rfl) (by kernel_rfl)
    ·
      have h1' := of_decide_eq_false h1
      refine Tri.exit ?_
      have hend0 : k0 = 31 := by (have := of_decide_eq_false h1; omega)
      subst hend0; subst hz0
      change Tri _ _ _ _ _ _
      refine Tri.seq_region [] none [5, 0] [16] ((True ∧ True) ∧ ((True ∧ True) ∧ ((True ∧ True) ∧ ((True ∧ True) ∧ ((((0 : Int) ≤ 0 ∧ 0 < ((32 : Nat) : Int)) ∧ True) ∧ ((((0 < 32) ∧ (1 = 1)) ∧ True) ∧ True))))))
          ([(5, .sc (.sl 16 0 32 1 none)), (0, .sc (.i .i64 p0))], [(16, .ints .u8 32 ((itr (F51l0) 31 (List.replicate 32 0)).set 0 (iAdd .u8 (iSub .u8 255 p1) 1)))])
          192 (by kernel_rfl) rfl (by kernel_rfl) (⟨⟨trivial, trivial⟩, ⟨⟨trivial, trivial⟩, ⟨⟨trivial, trivial⟩, ⟨⟨trivial, trivial⟩, ⟨⟨(by omega), trivial⟩, ⟨⟨⟨(by omega), (rfl)⟩, trivial⟩, trivial⟩⟩⟩⟩⟩⟩) ?_
      refine Tri.seq_region [] none [5] [16] ((True ∧ True) ∧ ((True ∧ True) ∧ ((True ∧ True) ∧ ((((0 : Int) ≤ (iSub .i64 p0 248)) ∧ True) ∧ ((True ∧ True) ∧ ((((0 : Int) ≤ 31 ∧ 31 < ((32 : Nat) : Int)) ∧ True) ∧ ((((31 < 32) ∧ (1 = 1)) ∧ True) ∧ True)))))))
          ([(5, .sc (.sl 16 0 32 1 none))], [(16, .ints .u8 32 (((itr (F51l0) 31 (List.replicate 32 0)).set 0 (iAdd .u8 (iSub .u8 255 p1) 1)).set 31 (iSub .u8 (iShl .u8 1 (iSub .i64 p0 248)) 1)))])
          304 (by kernel_rfl) rfl (by kernel_rfl) (⟨⟨trivial, trivial⟩, ⟨⟨trivial, trivial⟩, ⟨⟨trivial, trivial⟩, ⟨⟨(by first | omega | (unfold iSub; rw [wrap_small (by omega) (by omega)]; omega)), trivial⟩, ⟨⟨trivial, trivial⟩, ⟨⟨(by omega), trivial⟩, ⟨⟨⟨(by omega), (rfl)⟩, trivial⟩, trivial⟩⟩⟩⟩⟩⟩⟩) ?_
      refine Tri.seq_region [] none [4] [16] ((True ∧ True) ∧ ((True ∧ True) ∧ True))
          ([(4, .sc (.sl 16 0 32 1 none))], [(16, .ints .u8 32 (((itr (F51l0) 31 (List.replicate 32 0)).set 0 (iAdd .u8 (iSub .u8 255 p1) 1)).set 31 (iSub .u8 (iShl .u8 1 (iSub .i64 p0 248)) 1)))])
          336 (by kernel_rfl) rfl (by kernel_rfl) (⟨⟨trivial, trivial⟩, ⟨⟨trivial, trivial⟩, trivial⟩⟩) ?_
      refine Tri.ret ?_
      exact endP.ret [(16, 0)] (True ∧ True) (by kernel_rfl) (by kernel_rfl) (by kernel_rfl) ⟨trivial, trivial⟩


theorem len51 (a b : Int) : (F51 a b).length = 32 := by
  have h : ∀ (n : Nat) (z : List Int), z.length = 32 → (itr F51l0 n z).length = 32 := by
    intro n z hz
    induction n with
    | zero => rw [itr_zero]; exact hz
    | succ n ih => rw [itr_succ]; show (List.set _ _ _).length = 32; rw [List.length_set]; exact ih
  unfold F51
  simp [h]


noncomputable def F28 (p0 : List Int) : List Int :=
  (F27 p0 (part1 (F51 255 21) 32 0 32))

noncomputable def S28 : List AV → Option (Prop × Ret)
  | [.ints .i64 16 p0] => some (True, ⟨.ints .i64 16 (F28 p0), []⟩)
  | _ => none

noncomputable def B28 : Bs := { P := Go.Proofs.Try.prog, G := noG, tab := tabOf [(27, ⟨[.val, .ro .u8], 0, S27⟩), (51, ⟨[.val, .val], 1, S51⟩)], n := 6 }

theorem B28.ok : B28.Ok := ⟨tabOk (P := Go.Proofs.Try.prog) (G := noG) (l := [(27, ⟨[.val, .ro .u8], 0, S27⟩), (51, ⟨[.val, .val], 1, S51⟩)]) (And.intro K27 (And.intro K51 True.intro)), mixed⟩

theorem K28 : Known Go.Proofs.Try.prog noG 28 ⟨[.val], 0, S28⟩ := by
  refine Known.walk (B := B28) (fn := Go.Proofs.Try.f28) B28.ok (by kernel_rfl) rfl (by kernel_rfl) (by kernel_rfl) (by decide) ?_ ?_
  · intro vs C r h
    simp only at h
    unfold S28 at h
    split at h
    · cases h; rfl
    · cases h
  · intro E args C r h hC hlen
    simp only at h
    unfold S28 at h
    split at h
    rotate_left
    · cases h
    rename_i p0
    cases h
    simp only [lens] at hlen
    refine ⟨show 1 ≤ 6 from by decide, ?_⟩
    refine Tri.sub (Sub.of_eq (show _ = ([(0, .ints .i64 16 p0)], []) from rfl)) ?_
    refine Tri.seq_region [] none [2, 1] [16, 0] ((True ∧ True) ∧ ((True ∧ True) ∧ True))
        ([(2, .sc (.p 16 0)), (1, .sc (.p 0 0))], [(16, .ints .i64 16 [0, 0, 0, 0, 0, 0, 0, 0, 0, 0, 0, 0, 0, 0, 0, 0]), (0, .ints .i64 16 p0)])
        32 (by kernel_rfl) rfl (by kernel_rfl) (⟨⟨trivial, trivial⟩, ⟨⟨trivial, trivial⟩, trivial⟩⟩) ?_
    refine Tri.seq_region [] (some [0, 0, 3, 7]) [2] [16] ((True ∧ True) ∧ (((True ∧ ((248 : Int) ≤ 255 ∧ 255 ≤ (255 : Int))) ∧ True) ∧ (((((0 + 32 ≤ 32) ∧ True) ∧ ((part1 (F51 255 21) 32 0 32).length ≤ 1000000)) ∧ True) ∧ (((True ∧ (16 = 16)) ∧ True) ∧ True))))
        ([(2, .sc (.p 16 0))], [(16, .ints .i64 16 (F27 p0 (part1 (F51 255 21) 32 0 32)))])
        96 (by kernel_rfl) rfl (by kernel_rfl) (⟨⟨trivial, trivial⟩, ⟨⟨⟨trivial, (by omega)⟩, trivial⟩, ⟨⟨⟨⟨(by omega), trivial⟩, (by rw [part1_all (len51 _ _), len51]; decide)⟩, trivial⟩, ⟨⟨⟨trivial, (rfl)⟩, trivial⟩, trivial⟩⟩⟩⟩) ?_
    refine Tri.ret ?_
    exact endP.ret [] (True ∧ True) (by kernel_rfl) (by kernel_rfl) (by kernel_rfl) ⟨trivial, trivial⟩


noncomputable def F49l0 (p0 : List Int) (k0 : Nat) (z0 : Nat × List Int) : Nat × List Int :=
  (z0.1 + 2, z0.2 ++ [(IntKind.wrap .u8 (iRem (p0.getD k0 0) 256)), (IntKind.wrap .u8 (iQuo .i64 (p0.getD k0 0) 256))])

noncomputable def F49 (p0 : List Int) : List Int :=
  (itr (F49l0 p0) 16 (0, [])).2

noncomputable def S49 : List AV → Option (Prop × Ret)
  | [.ints .i64 16 p0] => some (True, ⟨.sc (.sl 0 0 ((itr (F49l0 p0) 16 (0, [])).1) 1 none), [.ints .u8 ((itr (F49l0 p0) 16 (0, [])).1) (F49 p0)]⟩)
  | _ => none

noncomputable def B49 : Bs := { P := Go.Proofs.Try.prog, G := noG, tab := tabOf [], n := 23 }

theorem B49.ok : B49.Ok := ⟨tabOk (P := Go.Proofs.Try.prog) (G := noG) (l := []) True.intro, mixed⟩

theorem K49 : Known Go.Proofs.Try.prog noG 49 ⟨[.val], 1, S49⟩ := by
  refine Known.walk (B := B49) (fn := Go.Proofs.Try.f49) B49.ok (by kernel_rfl) rfl (by kernel_rfl) (by kernel_rfl) (by decide) ?_ ?_
  · intro vs C r h
    simp only at h
    unfold S49 at h
    split at h
    · cases h; rfl
    · cases h
  · intro E args C r h hC hlen
    simp only at h
    unfold S49 at h
    split at h
    rotate_left
    · cases h
    rename_i p0
    cases h
    simp only [lens] at hlen
    refine ⟨show 1 ≤ 23 from by decide, ?_⟩
    refine Tri.sub (Sub.of_eq (show _ = ([(0, .ints .i64 16 p0)], []) from rfl)) ?_
    refine Tri.seq_region [] none [1] [0] ((True ∧ True) ∧ ((True ∧ True) ∧ True))
        ([(1, .sc (.p 0 0))], [(0, .ints .i64 16 p0)])
        32 (by kernel_rfl) rfl (by kernel_rfl) (⟨⟨trivial, trivial⟩, ⟨⟨trivial, trivial⟩, trivial⟩⟩) ?_
    refine Tri.seq_region [] none [3, 1] [0] ((True ∧ True) ∧ True)
        ([(3, .sc (.nils)), (1, .sc (.p 0 0))], [(0, .ints .i64 16 p0)])
        48 (by kernel_rfl) rfl (by kernel_rfl) (⟨⟨trivial, trivial⟩, trivial⟩) ?_
    refine Tri.seq ?_
    refine Tri.seq_region [] none [4, 3, 1] [0] ((True ∧ True) ∧ True)
        ([(4, .sc (.i .i64 0)), (3, .sc (.nils)), (1, .sc (.p 0 0))], [(0, .ints .i64 16 p0)])
        64 (by kernel_rfl) rfl (by kernel_rfl) (⟨⟨trivial, trivial⟩, trivial⟩) ?_
    refine Tri.block ?_
    refine Tri.sub (Sub.openNil (U := 64) (U' := 80) 3 64 1 .u8 none (.inl rfl) (by decide) (by decide) (by kernel_rfl) (by kernel_rfl)) ?_
    refine Tri.count 80 16 (F49l0 p0) (0, []) (fun k0 z0 => z0.1 = 2 * k0) (fun k0 z0 => ([(3, .sc (.sl 64 0 z0.1 1 none)), (4, .sc (.i .i64 ((k0 : Nat) : Int))), (1, .sc (.p 0 0))], [(64, .ints .u8 z0.1 z0.2), (0, .ints .i64 16 p0)])) rfl (Sub.of_eq (by kernel_rfl)) ?_
    intro k0 z0 hk0 hz0 hJ0
    refine Tri.seq ?_
    refine Tri.seq_region [] none [6, 3, 4, 1] [64, 0] ((True ∧ True) ∧ ((True ∧ True) ∧ True))
        ([(6, .sc (.b (decide ((((k0 : Nat) : Int) : Int) < 16)))), (3, .sc (.sl 64 0 z0.1 1 none)), (4, .sc (.i .i64 ((k0 : Nat) : Int))), (1, .sc (.p 0 0))], [(64, .ints .u8 z0.1 z0.2), (0, .ints .i64 16 p0)])
        112 (by kernel_rfl) rfl (by kernel_rfl) (⟨⟨trivial, trivial⟩, ⟨⟨trivial, trivial⟩, trivial⟩⟩) ?_
    refine Tri.cond (x := (decide ((((k0 : Nat) : Int) : Int) < 16))) (by kernel_rfl) (fun h1 => ?_) (fun h1 => ?_)
    ·
      have h1' := of_decide_eq_true h1
      refine Tri.skip ?_
      change Tri _ _ _ _ _ _
      refine Tri.seq ?_
      refine Tri.block ?_
      refine Tri.region' [] (some [0, 0, 2, 6, 14, 30, 0, 64, 192, 448, 960, 2046, 4095, 8191]) [3, 4, 1] [304, 0] ((True ∧ True) ∧ ((True ∧ True) ∧ ((((0 : Int) ≤ ((k0 : Nat) : Int) ∧ ((k0 : Nat) : Int) < ((16 : Nat) : Int)) ∧ True) ∧ (((k0 < 16) ∧ True) ∧ (((256 ≠ (0 : Int)) ∧ True) ∧ ((True ∧ True) ∧ ((True ∧ True) ∧ ((((0 : Int) ≤ ((k0 : Nat) : Int) ∧ ((k0 : Nat) : Int) < ((16 : Nat) : Int)) ∧ True) ∧ (((k0 < 16) ∧ True) ∧ (((256 ≠ (0 : Int)) ∧ True) ∧ ((True ∧ True) ∧ ((((((0 < 2) ∧ (1 = 1)) ∧ (((1 < 2) ∧ (1 = 1)) ∧ True)) ∧ ((2 * 1 ≤ 16777216) ∧ (1 = 1))) ∧ True) ∧ ((((((True ∧ (1 = 1)) ∧ ((0 < 1) ∧ (((z0.1 + 2) * 1 ≤ 140737488355328) ∧ (z0.1 + 2 ≤ 140737488355328)))) ∧ (2 = 2 * 1)) ∧ ((1 = 1) ∧ (0 + z0.1 * 1 = z0.1))) ∧ True) ∧ ((True ∧ True) ∧ True))))))))))))))
          ([(3, .sc (.sl 304 0 (z0.1 + 2) 1 none)), (4, .sc (.i .i64 ((k0 : Nat) : Int))), (1, .sc (.p 0 0))], [(304, .ints .u8 (z0.1 + 2) (z0.2 ++ [(IntKind.wrap .u8 (iRem (p0.getD k0 0) 256)), (IntKind.wrap .u8 (iQuo .i64 (p0.getD k0 0) 256))])), (0, .ints .i64 16 p0)])
          336 (by kernel_rfl) rfl (by kernel_rfl) (⟨⟨trivial, trivial⟩, ⟨⟨trivial, trivial⟩, ⟨⟨(by omega), trivial⟩, ⟨⟨(by omega), trivial⟩, ⟨⟨(by omega), trivial⟩, ⟨⟨trivial, trivial⟩, ⟨⟨trivial, trivial⟩, ⟨⟨(by omega), trivial⟩, ⟨⟨(by omega), trivial⟩, ⟨⟨(by omega), trivial⟩, ⟨⟨trivial, trivial⟩, ⟨⟨⟨⟨⟨(by omega), (rfl)⟩, ⟨⟨(by omega), (rfl)⟩, trivial⟩⟩, ⟨(by omega), (rfl)⟩⟩, trivial⟩, ⟨⟨⟨⟨⟨⟨trivial, (rfl)⟩, ⟨(by omega), ⟨(by omega), (by omega)⟩⟩⟩, (by omega)⟩, ⟨(rfl), (by omega)⟩⟩, trivial⟩, ⟨⟨trivial, trivial⟩, trivial⟩⟩⟩⟩⟩⟩⟩⟩⟩⟩⟩⟩⟩⟩) ?_
      change Tri _ _ _ _ _ _
      refine Tri.region' [(8, .i .i64 ((k0 + 1 : Nat) : Int))] none [4, 3, 1] [304, 0] ((True ∧ True) ∧ ((True ∧ ((iAdd .i64 ((k0 : Nat) : Int) 1) = ((k0 + 1 : Nat) : Int))) ∧ ((True ∧ True) ∧ True)))
          ([(4, .sc (.i .i64 ((k0 + 1 : Nat) : Int))), (3, .sc (.sl 304 0 (z0.1 + 2) 1 none)), (1, .sc (.p 0 0))], [(304, .ints .u8 (z0.1 + 2) (z0.2 ++ [(IntKind.wrap .u8 (iRem (p0.getD k0 0) 256)), (IntKind.wrap .u8 (iQuo .i64 (p0.getD k0 0) 256))])), (0, .ints .i64 16 p0)])
          384 (by kernel_rfl) rfl (by kernel_rfl) (⟨⟨trivial, trivial⟩, ⟨⟨trivial, (iAdd_nat (a := k0) (b := 1) (by omega))⟩, ⟨⟨trivial, trivial⟩, trivial⟩⟩⟩) ?_
      refine countP_normal (by omega) (show z0.1 + 2 = 2 * (k0 + 1) by omega) ?_
      exact Sub.ren (ns := [(304, 64), (0, 0)]) (kf := [3, 4, 1]) (by kernel_rfl) (by kernel_rfl)
    ·
      have h1' := of_decide_eq_false h1
      refine Tri.exit ?_
      have hend0 : k0 = 16 := by (have := of_decide_eq_false h1; omega)
      subst hend0; subst hz0
      change Tri _ _ _ _ _ _
      refine Tri.seq_region [] none [2] [64] ((True ∧ True) ∧ ((True ∧ True) ∧ True))
          ([(2, .sc (.sl 64 0 ((itr (F49l0 p0) 16 (0, [])).1) 1 none))], [(64, .ints .u8 ((itr (F49l0 p0) 16 (0, [])).1) ((itr (F49l0 p0) 16 (0, [])).2))])
          144 (by kernel_rfl) rfl (by kernel_rfl) (⟨⟨trivial, trivial⟩, ⟨⟨trivial, trivial⟩, trivial⟩⟩) ?_
      refine Tri.ret ?_
      exact endP.ret [(64, 0)] (True ∧ True) (by kernel_rfl) (by kernel_rfl) (by kernel_rfl) ⟨trivial, trivial⟩


noncomputable def F35 (p0 : List Int) : List Int :=
  (sel (!(((F21 (F27 p0 (part1 (F51 252 2) 32 0 32)) (F27 p0 (part1 (F51 252 2) 32 0 32))) : List Int) == p0)) (F21 (F27 p0 (part1 (F51 252 2) 32 0 32)) (F27 (F31 2) (part1 (F51 253 5) 32 0 32))) (F27 p0 (part1 (F51 252 2) 32 0 32)))

noncomputable def F35_1 (p0 : List Int) : Bool :=
  (((F21 (sel (!(((F21 (F27 p0 (part1 (F51 252 2) 32 0 32)) (F27 p0 (part1 (F51 252 2) 32 0 32))) : List Int) == p0)) (F21 (F27 p0 (part1 (F51 252 2) 32 0 32)) (F27 (F31 2) (part1 (F51 253 5) 32 0 32))) (F27 p0 (part1 (F51 252 2) 32 0 32))) (sel (!(((F21 (F27 p0 (part1 (F51 252 2) 32 0 32)) (F27 p0 (part1 (F51 252 2) 32 0 32))) : List Int) == p0)) (F21 (F27 p0 (part1 (F51 252 2) 32 0 32)) (F27 (F31 2) (part1 (F51 253 5) 32 0 32))) (F27 p0 (part1 (F51 252 2) 32 0 32)))) : List Int) == p0)

noncomputable def S35 : List AV → Option (Prop × Ret)
  | [.ints .i64 16 p0] => some (True, ⟨.tup [.ints .i64 16 (F35 p0), .sc (.b (F35_1 p0))], []⟩)
  | _ => none

noncomputable def B35 : Bs := { P := Go.Proofs.Try.prog, G := noG, tab := tabOf [(21, ⟨[.val, .val], 0, S21⟩), (27, ⟨[.val, .ro .u8], 0, S27⟩), (31, ⟨[.val], 0, S31⟩), (51, ⟨[.val, .val], 1, S51⟩)], n := 24 }

theorem B35.ok : B35.Ok := ⟨tabOk (P := Go.Proofs.Try.prog) (G := noG) (l := [(21, ⟨[.val, .val], 0, S21⟩), (27, ⟨[.val, .ro .u8], 0, S27⟩), (31, ⟨[.val], 0, S31⟩), (51, ⟨[.val, .val], 1, S51⟩)]) (And.intro K21 (And.intro K27 (And.intro K31 (And.intro K51 True.intro)))), mixed⟩

theorem K35 : Known Go.Proofs.Try.prog noG 35 ⟨[.val], 0, S35⟩ := by
  refine Known.walk (B := B35) (fn := Go.Proofs.Try.f35) B35.ok (by kernel_rfl) rfl (by kernel_rfl) (by kernel_rfl) (by decide) ?_ ?_
  · intro vs C r h
    simp only at h
    unfold S35 at h
    split at h
    · cases h; rfl
    · cases h
  · intro E args C r h hC hlen
    simp only at h
    unfold S35 at h
    split at h
    rotate_left
    · cases h
    rename_i p0
    cases h
    simp only [lens] at hlen
    refine ⟨show 1 ≤ 24 from by decide, ?_⟩
    refine Tri.sub (Sub.of_eq (show _ = ([(0, .ints .i64 16 p0)], []) from rfl)) ?_
    refine Tri.seq_region [] none [2, 1] [16, 0] ((True ∧ True) ∧ ((True ∧ True) ∧ ((True ∧ True) ∧ True)))
        ([(2, .sc (.p 16 0)), (1, .sc (.p 0 0))], [(16, .ints .i64 16 [0, 0, 0, 0, 0, 0, 0, 0, 0, 0, 0, 0, 0, 0, 0, 0]), (0, .ints .i64 16 p0)])
        48 (by kernel_rfl) rfl (by kernel_rfl) (⟨⟨trivial, trivial⟩, ⟨⟨trivial, trivial⟩, ⟨⟨trivial, trivial⟩, trivial⟩⟩⟩) ?_
    refine Tri.seq_region [] (some [0, 0, 3, 0, 15]) [4, 2, 1] [96, 16, 0] ((True ∧ True) ∧ (((True ∧ ((248 : Int) ≤ 252 ∧ 252 ≤ (255 : Int))) ∧ True) ∧ (((((0 + 32 ≤ 32) ∧ True) ∧ ((part1 (F51 252 2) 32 0 32).length ≤ 1000000)) ∧ True) ∧ ((True ∧ True) ∧ (((True ∧ (16 = 16)) ∧ True) ∧ True)))))
        ([(4, .sc (.p 96 0)), (2, .sc (.p 16 0)), (1, .sc (.p 0 0))], [(96, .ints .i64 16 (F27 p0 (part1 (F51 252 2) 32 0 32))), (16, .ints .i64 16 [0, 0, 0, 0, 0, 0, 0, 0, 0, 0, 0, 0, 0, 0, 0, 0]), (0, .ints .i64 16 p0)])
        128 (by kernel_rfl) rfl (by kernel_rfl) (⟨⟨trivial, trivial⟩, ⟨⟨⟨trivial, (by omega)⟩, trivial⟩, ⟨⟨⟨⟨(by omega), trivial⟩, (by rw [part1_all (len51 _ _), len51]; decide)⟩, trivial⟩, ⟨⟨trivial, trivial⟩, ⟨⟨⟨trivial, (rfl)⟩, trivial⟩, trivial⟩⟩⟩⟩⟩) ?_
    refine Tri.seq ?_
    refine Tri.seq_region [] (some [0, 0, 3, 0, 15]) [12, 4, 2, 1] [96, 16, 0] ((True ∧ True) ∧ ((True ∧ True) ∧ (((True ∧ True) ∧ True) ∧ ((True ∧ True) ∧ ((True ∧ True) ∧ True)))))
        ([(12, .sc (.b (!(((F21 (F27 p0 (part1 (F51 252 2) 32 0 32)) (F27 p0 (part1 (F51 252 2) 32 0 32))) : List Int) == p0)))), (4, .sc (.p 96 0)), (2, .sc (.p 16 0)), (1, .sc (.p 0 0))], [(96, .ints .i64 16 (F27 p0 (part1 (F51 252 2) 32 0 32))), (16, .ints .i64 16 [0, 0, 0, 0, 0, 0, 0, 0, 0, 0, 0, 0, 0, 0, 0, 0]), (0, .ints .i64 16 p0)])
        208 (by kernel_rfl) rfl (by kernel_rfl) (⟨⟨trivial, trivial⟩, ⟨⟨trivial, trivial⟩, ⟨⟨⟨trivial, trivial⟩, trivial⟩, ⟨⟨trivial, trivial⟩, ⟨⟨trivial, trivial⟩, trivial⟩⟩⟩⟩⟩) ?_
    refine Tri.join (x := (!(((F21 (F27 p0 (part1 (F51 252 2) 32 0 32)) (F27 p0 (part1 (F51 252 2) 32 0 32))) : List Int) == p0))) (fun bb => ([(4, .sc (.p 96 0)), (2, .sc (.p 16 0)), (1, .sc (.p 0 0))], [(96, .ints .i64 16 (sel bb (F21 (F27 p0 (part1 (F51 252 2) 32 0 32)) (F27 (F31 2) (part1 (F51 253 5) 32 0 32))) (F27 p0 (part1 (F51 252 2) 32 0 32)))), (16, .ints .i64 16 [0, 0, 0, 0, 0, 0, 0, 0, 0, 0, 0, 0, 0, 0, 0, 0]), (0, .ints .i64 16 p0)])) 304 (by kernel_rfl) (fun h1 => ?_) (fun h1 => ?_) ?_
    ·
      refine Tri.region' [] (some [0, 0, 2, 6, 15, 31]) [4, 2, 1] [96, 16, 0] ((True ∧ True) ∧ (((True ∧ True) ∧ True) ∧ (((True ∧ ((248 : Int) ≤ 253 ∧ 253 ≤ (255 : Int))) ∧ True) ∧ (((((0 + 32 ≤ 32) ∧ True) ∧ ((part1 (F51 253 5) 32 0 32).length ≤ 1000000)) ∧ True) ∧ (((True ∧ True) ∧ True) ∧ (((True ∧ (16 = 16)) ∧ True) ∧ True))))))
          ([(4, .sc (.p 96 0)), (2, .sc (.p 16 0)), (1, .sc (.p 0 0))], [(96, .ints .i64 16 (F21 (F27 p0 (part1 (F51 252 2) 32 0 32)) (F27 (F31 2) (part1 (F51 253 5) 32 0 32)))), (16, .ints .i64 16 [0, 0, 0, 0, 0, 0, 0, 0, 0, 0, 0, 0, 0, 0, 0, 0]), (0, .ints .i64 16 p0)])
          304 (by kernel_rfl) rfl (by kernel_rfl) (⟨⟨trivial, trivial⟩, ⟨⟨⟨trivial, trivial⟩, trivial⟩, ⟨⟨⟨trivial, (by omega)⟩, trivial⟩, ⟨⟨⟨⟨(by omega), trivial⟩, (by rw [part1_all (len51 _ _), len51]; decide)⟩, trivial⟩, ⟨⟨⟨trivial, trivial⟩, trivial⟩, ⟨⟨⟨trivial, (rfl)⟩, trivial⟩, trivial⟩⟩⟩⟩⟩⟩) ?_
      exact (Sub.ren (ns := [(96, 96), (16, 16), (0, 0)]) (kf := [4, 2, 1]) (s' := ([(4, .sc (.p 96 0)), (2, .sc (.p 16 0)), (1, .sc (.p 0 0))], [(96, .ints .i64 16 (F21 (F27 p0 (part1 (F51 252 2) 32 0 32)) (F27 (F31 2) (part1 (F51 253 5) 32 0 32)))), (16, .ints .i64 16 [0, 0, 0, 0, 0, 0, 0, 0, 0, 0, 0, 0, 0, 0, 0, 0]), (0, .ints .i64 16 p0)])) (by kernel_rfl) (by kernel_rfl)).trans (Sub.of_eq (by simp only [sel_true, sel_false]))
    ·
      refine Tri.skip ?_
      exact (Sub.ren (ns := [(96, 96), (16, 16), (0, 0)]) (kf := [4, 2, 1]) (s' := ([(4, .sc (.p 96 0)), (2, .sc (.p 16 0)), (1, .sc (.p 0 0))], [(96, .ints .i64 16 (F27 p0 (part1 (F51 252 2) 32 0 32))), (16, .ints .i64 16 [0, 0, 0, 0, 0, 0, 0, 0, 0, 0, 0, 0, 0, 0, 0, 0]), (0, .ints .i64 16 p0)])) (by kernel_rfl) (by kernel_rfl)).trans (Sub.of_eq (by simp only [sel_true, sel_false]))
    ·
      change Tri _ _ _ _ _ _
      refine Tri.seq_region [] (some [0, 0, 0, 6, 0, 30, 15, 127]) [3, 2] [16] ((True ∧ True) ∧ ((True ∧ True) ∧ ((True ∧ True) ∧ (((True ∧ True) ∧ True) ∧ ((True ∧ True) ∧ ((True ∧ True) ∧ (((True ∧ (16 = 16)) ∧ True) ∧ ((True ∧ True) ∧ True))))))))
          ([(3, .sc (.b (((F21 (sel (!(((F21 (F27 p0 (part1 (F51 252 2) 32 0 32)) (F27 p0 (part1 (F51 252 2) 32 0 32))) : List Int) == p0)) (F21 (F27 p0 (part1 (F51 252 2) 32 0 32)) (F27 (F31 2) (part1 (F51 253 5) 32 0 32))) (F27 p0 (part1 (F51 252 2) 32 0 32))) (sel (!(((F21 (F27 p0 (part1 (F51 252 2) 32 0 32)) (F27 p0 (part1 (F51 252 2) 32 0 32))) : List Int) == p0)) (F21 (F27 p0 (part1 (F51 252 2) 32 0 32)) (F27 (F31 2) (part1 (F51 253 5) 32 0 32))) (F27 p0 (part1 (F51 252 2) 32 0 32)))) : List Int) == p0))), (2, .sc (.p 16 0))], [(16, .ints .i64 16 (sel (!(((F21 (F27 p0 (part1 (F51 252 2) 32 0 32)) (F27 p0 (part1 (F51 252 2) 32 0 32))) : List Int) == p0)) (F21 (F27 p0 (part1 (F51 252 2) 32 0 32)) (F27 (F31 2) (part1 (F51 253 5) 32 0 32))) (F27 p0 (part1 (F51 252 2) 32 0 32))))])
          432 (by kernel_rfl) rfl (by kernel_rfl) (⟨⟨trivial, trivial⟩, ⟨⟨trivial, trivial⟩, ⟨⟨trivial, trivial⟩, ⟨⟨⟨trivial, trivial⟩, trivial⟩, ⟨⟨trivial, trivial⟩, ⟨⟨trivial, trivial⟩, ⟨⟨⟨trivial, (rfl)⟩, trivial⟩, ⟨⟨trivial, trivial⟩, trivial⟩⟩⟩⟩⟩⟩⟩⟩) ?_
      refine Tri.ret ?_
      exact endP.ret [] (True ∧ (True ∧ True)) (by kernel_rfl) (by kernel_rfl) (by kernel_rfl) ⟨trivial, ⟨trivial, trivial⟩⟩

end Go.Vm
