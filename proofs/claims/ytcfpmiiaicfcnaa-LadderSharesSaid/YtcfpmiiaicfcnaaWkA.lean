/- What the functions compute, and that they do: walked by a printed text. -/
import Derived.Test.YtcfpmiiaicfcnaaChecked
import Derived.Test.YtcfpmiiaicfcnaaVmU
set_option linter.unusedVariables false
set_option linter.unusedSimpArgs false
set_option maxRecDepth 4000
namespace Go.Vm
open Go
theorem mixed : Go.Proofs.Try.prog.follows .mixedOrders = true := by kernel_rfl
theorem K48 {G : Globs} : Known Go.Proofs.Try.prog G 48 ⟨[.val, .val, .val], 0, specAdd64⟩ := known_add64 (fn := Go.Proofs.Try.f48) (by kernel_rfl) (by kernel_rfl) (by kernel_rfl) rfl rfl

noncomputable def F45l0 (k0 : Nat) (z0 : Int × List Int) : Int × List Int :=
  ((iShr .u64 ((z0.2.set k0 (iAdd .u64 (z0.2.getD k0 0) z0.1)).getD k0 0) 51), (z0.2.set k0 (iAdd .u64 (z0.2.getD k0 0) z0.1)).set k0 (iAnd .u64 ((z0.2.set k0 (iAdd .u64 (z0.2.getD k0 0) z0.1)).getD k0 0) 2251799813685247))

noncomputable def F45 (p0 : List Int) : List Int :=
  ((itr (F45l0) 5 (0, p0)).2).set 0 (iAdd .u64 (((itr (F45l0) 5 (0, p0)).2).getD 0 0) (iMul .u64 19 ((itr (F45l0) 5 (0, p0)).1)))

noncomputable def S45 : List AV → Option (Prop × Ret)
  | [.ints .u64 5 p0] => some (True, ⟨.ints .u64 5 (F45 p0), []⟩)
  | _ => none

noncomputable def B45 : Bs := { P := Go.Proofs.Try.prog, G := noG, tab := tabOf [], n := 38 }

theorem B45.ok : B45.Ok := ⟨tabOk (P := Go.Proofs.Try.prog) (G := noG) (l := []) True.intro, mixed⟩

theorem K45 : Known Go.Proofs.Try.prog noG 45 ⟨[.val], 0, S45⟩ := by
  refine Known.walk (B := B45) (fn := Go.Proofs.Try.f45) B45.ok (by kernel_rfl) rfl (by kernel_rfl) (by kernel_rfl) (by decide) ?_ ?_
  · intro vs C r h
    simp only at h
    unfold S45 at h
    split at h
    · cases h; rfl
    · cases h
  · intro E args C r h hC hlen
    simp only at h
    unfold S45 at h
    split at h
    rotate_left
    · cases h
    rename_i p0
    cases h
    simp only [lens] at hlen
    refine ⟨show 1 ≤ 38 from by decide, ?_⟩
    refine Tri.sub (Sub.of_eq (show _ = ([(0, .ints .u64 5 p0)], []) from rfl)) ?_
    refine Tri.seq_region [] none [2, 1] [16, 0] ((True ∧ True) ∧ ((True ∧ True) ∧ True))
        ([(2, .sc (.p 16 0)), (1, .sc (.p 0 0))], [(16, .ints .u64 5 [0, 0, 0, 0, 0]), (0, .ints .u64 5 p0)])
        32 (by kernel_rfl) rfl (by kernel_rfl) (⟨⟨trivial, trivial⟩, ⟨⟨trivial, trivial⟩, trivial⟩⟩) ?_
    refine Tri.seq_region [] none [3, 2, 1] [16, 0] ((True ∧ True) ∧ True)
        ([(3, .sc (.i .u64 0)), (2, .sc (.p 16 0)), (1, .sc (.p 0 0))], [(16, .ints .u64 5 [0, 0, 0, 0, 0]), (0, .ints .u64 5 p0)])
        48 (by kernel_rfl) rfl (by kernel_rfl) (⟨⟨trivial, trivial⟩, trivial⟩) ?_
    refine Tri.seq ?_
    refine Tri.seq_region [] none [5, 3, 2, 1] [16, 0] ((True ∧ True) ∧ True)
        ([(5, .sc (.i .i64 0)), (3, .sc (.i .u64 0)), (2, .sc (.p 16 0)), (1, .sc (.p 0 0))], [(16, .ints .u64 5 [0, 0, 0, 0, 0]), (0, .ints .u64 5 p0)])
        64 (by kernel_rfl) rfl (by kernel_rfl) (⟨⟨trivial, trivial⟩, trivial⟩) ?_
    refine Tri.block ?_
    refine Tri.count 64 5 (F45l0) (0, p0) (fun k0 z0 => True) (fun k0 z0 => ([(5, .sc (.i .i64 ((k0 : Nat) : Int))), (3, .sc (.i .u64 z0.1)), (2, .sc (.p 16 0)), (1, .sc (.p 0 0))], [(16, .ints .u64 5 [0, 0, 0, 0, 0]), (0, .ints .u64 5 z0.2)])) trivial (Sub.of_eq (by kernel_rfl)) ?_
    intro k0 z0 hk0 hz0 hJ0
    refine Tri.seq_region [] none [6, 5, 3, 2, 1] [16, 0] ((True ∧ True) ∧ True)
        ([(6, .sc (.b (decide ((((k0 : Nat) : Int) : Int) < 5)))), (5, .sc (.i .i64 ((k0 : Nat) : Int))), (3, .sc (.i .u64 z0.1)), (2, .sc (.p 16 0)), (1, .sc (.p 0 0))], [(16, .ints .u64 5 [0, 0, 0, 0, 0]), (0, .ints .u64 5 z0.2)])
        80 (by kernel_rfl) rfl (by kernel_rfl) (⟨⟨trivial, trivial⟩, trivial⟩) ?_
    refine Tri.seq ?_
    refine Tri.cond (x := (decide ((((k0 : Nat) : Int) : Int) < 5))) (by kernel_rfl) (fun h1 => ?_) (fun h1 => ?_)
    ·
      have h1' := of_decide_eq_true h1
      refine Tri.skip ?_
      change Tri _ _ _ _ _ _
      refine Tri.seq ?_
      refine Tri.block ?_
      refine Tri.seq_region [] none [4, 5, 3, 2, 1] [16, 0] ((True ∧ True) ∧ ((True ∧ True) ∧ True))
          ([(4, .sc (.i .i64 ((k0 : Nat) : Int))), (5, .sc (.i .i64 ((k0 : Nat) : Int))), (3, .sc (.i .u64 z0.1)), (2, .sc (.p 16 0)), (1, .sc (.p 0 0))], [(16, .ints .u64 5 [0, 0, 0, 0, 0]), (0, .ints .u64 5 z0.2)])
          112 (by kernel_rfl) rfl (by kernel_rfl) (⟨⟨trivial, trivial⟩, ⟨⟨trivial, trivial⟩, trivial⟩⟩) ?_
      refine Tri.seq_region [] none [4, 5, 2, 1] [0, 16] ((True ∧ True) ∧ ((True ∧ True) ∧ ((((0 : Int) ≤ ((k0 : Nat) : Int) ∧ ((k0 : Nat) : Int) < ((5 : Nat) : Int)) ∧ True) ∧ (((k0 < 5) ∧ True) ∧ ((True ∧ True) ∧ ((True ∧ True) ∧ ((True ∧ True) ∧ ((((0 : Int) ≤ ((k0 : Nat) : Int) ∧ ((k0 : Nat) : Int) < ((5 : Nat) : Int)) ∧ True) ∧ ((((k0 < 5) ∧ (1 = 1)) ∧ True) ∧ True)))))))))
          ([(4, .sc (.i .i64 ((k0 : Nat) : Int))), (5, .sc (.i .i64 ((k0 : Nat) : Int))), (2, .sc (.p 16 0)), (1, .sc (.p 0 0))], [(0, .ints .u64 5 (z0.2.set k0 (iAdd .u64 (z0.2.getD k0 0) z0.1))), (16, .ints .u64 5 [0, 0, 0, 0, 0])])
          256 (by kernel_rfl) rfl (by kernel_rfl) (⟨⟨trivial, trivial⟩, ⟨⟨trivial, trivial⟩, ⟨⟨(by omega), trivial⟩, ⟨⟨(by omega), trivial⟩, ⟨⟨trivial, trivial⟩, ⟨⟨trivial, trivial⟩, ⟨⟨trivial, trivial⟩, ⟨⟨(by omega), trivial⟩, ⟨⟨⟨(by omega), (rfl)⟩, trivial⟩, trivial⟩⟩⟩⟩⟩⟩⟩⟩⟩) ?_
      refine Tri.seq_region [] none [3, 4, 5, 2, 1] [0, 16] ((True ∧ True) ∧ ((True ∧ True) ∧ ((((0 : Int) ≤ ((k0 : Nat) : Int) ∧ ((k0 : Nat) : Int) < ((5 : Nat) : Int)) ∧ True) ∧ (((k0 < 5) ∧ True) ∧ ((((0 : Int) ≤ 51) ∧ True) ∧ ((True ∧ True) ∧ True))))))
          ([(3, .sc (.i .u64 (iShr .u64 ((z0.2.set k0 (iAdd .u64 (z0.2.getD k0 0) z0.1)).getD k0 0) 51))), (4, .sc (.i .i64 ((k0 : Nat) : Int))), (5, .sc (.i .i64 ((k0 : Nat) : Int))), (2, .sc (.p 16 0)), (1, .sc (.p 0 0))], [(0, .ints .u64 5 (z0.2.set k0 (iAdd .u64 (z0.2.getD k0 0) z0.1))), (16, .ints .u64 5 [0, 0, 0, 0, 0])])
          352 (by kernel_rfl) rfl (by kernel_rfl) (⟨⟨trivial, trivial⟩, ⟨⟨trivial, trivial⟩, ⟨⟨(by omega), trivial⟩, ⟨⟨(by omega), trivial⟩, ⟨⟨(by omega), trivial⟩, ⟨⟨trivial, trivial⟩, trivial⟩⟩⟩⟩⟩⟩) ?_
      refine Tri.region' [] none [3, 5, 2, 1] [0, 16] ((True ∧ True) ∧ ((True ∧ True) ∧ ((((0 : Int) ≤ ((k0 : Nat) : Int) ∧ ((k0 : Nat) : Int) < ((5 : Nat) : Int)) ∧ True) ∧ (((k0 < 5) ∧ True) ∧ ((True ∧ True) ∧ ((True ∧ True) ∧ ((((0 : Int) ≤ ((k0 : Nat) : Int) ∧ ((k0 : Nat) : Int) < ((5 : Nat) : Int)) ∧ True) ∧ ((((k0 < 5) ∧ (1 = 1)) ∧ True) ∧ True))))))))
          ([(3, .sc (.i .u64 (iShr .u64 ((z0.2.set k0 (iAdd .u64 (z0.2.getD k0 0) z0.1)).getD k0 0) 51))), (5, .sc (.i .i64 ((k0 : Nat) : Int))), (2, .sc (.p 16 0)), (1, .sc (.p 0 0))], [(0, .ints .u64 5 ((z0.2.set k0 (iAdd .u64 (z0.2.getD k0 0) z0.1)).set k0 (iAnd .u64 ((z0.2.set k0 (iAdd .u64 (z0.2.getD k0 0) z0.1)).getD k0 0) 2251799813685247))), (16, .ints .u64 5 [0, 0, 0, 0, 0])])
          480 (by kernel_rfl) rfl (by kernel_rfl) (⟨⟨trivial, trivial⟩, ⟨⟨trivial, trivial⟩, ⟨⟨(by omega), trivial⟩, ⟨⟨(by omega), trivial⟩, ⟨⟨trivial, trivial⟩, ⟨⟨trivial, trivial⟩, ⟨⟨(by omega), trivial⟩, ⟨⟨⟨(by omega), (rfl)⟩, trivial⟩, trivial⟩⟩⟩⟩⟩⟩⟩⟩) ?_
      change Tri _ _ _ _ _ _
      refine Tri.region' [(28, .i .i64 ((k0 + 1 : Nat) : Int))] none [5, 3, 2, 1] [0, 16] ((True ∧ ((iAdd .i64 ((k0 : Nat) : Int) 1) = ((k0 + 1 : Nat) : Int))) ∧ ((True ∧ True) ∧ True))
          ([(5, .sc (.i .i64 ((k0 + 1 : Nat) : Int))), (3, .sc (.i .u64 (iShr .u64 ((z0.2.set k0 (iAdd .u64 (z0.2.getD k0 0) z0.1)).getD k0 0) 51))), (2, .sc (.p 16 0)), (1, .sc (.p 0 0))], [(0, .ints .u64 5 ((z0.2.set k0 (iAdd .u64 (z0.2.getD k0 0) z0.1)).set k0 (iAnd .u64 ((z0.2.set k0 (iAdd .u64 (z0.2.getD k0 0) z0.1)).getD k0 0) 2251799813685247))), (16, .ints .u64 5 [0, 0, 0, 0, 0])])
          512 (by kernel_rfl) rfl (by kernel_rfl) (⟨⟨trivial, (iAdd_nat (a := k0) (b := 1) (by omega))⟩, ⟨⟨trivial, trivial⟩, trivial⟩⟩) ?_
      refine countP_normal (by omega) trivial ?_
      exact Sub.ren (ns := [(16, 16), (0, 0)]) (kf := [5, 3, 2, 1]) (by kernel_rfl) (by kernel_rfl)
    ·
      have h1' := of_decide_eq_false h1
      refine Tri.exit ?_
      have hend0 : k0 = 5 := by (have := of_decide_eq_false h1; omega)
      subst hend0; subst hz0
      change Tri _ _ _ _ _ _
      refine Tri.seq_region [] none [2, 1] [0, 16] ((True ∧ True) ∧ ((((0 : Int) ≤ 0 ∧ 0 < ((5 : Nat) : Int)) ∧ True) ∧ (((0 < 5) ∧ True) ∧ ((True ∧ True) ∧ ((True ∧ True) ∧ ((True ∧ True) ∧ ((True ∧ True) ∧ ((((0 : Int) ≤ 0 ∧ 0 < ((5 : Nat) : Int)) ∧ True) ∧ ((((0 < 5) ∧ (1 = 1)) ∧ True) ∧ True)))))))))
          ([(2, .sc (.p 16 0)), (1, .sc (.p 0 0))], [(0, .ints .u64 5 (((itr (F45l0) 5 (0, p0)).2).set 0 (iAdd .u64 (((itr (F45l0) 5 (0, p0)).2).getD 0 0) (iMul .u64 19 ((itr (F45l0) 5 (0, p0)).1))))), (16, .ints .u64 5 [0, 0, 0, 0, 0])])
          224 (by kernel_rfl) rfl (by kernel_rfl) (⟨⟨trivial, trivial⟩, ⟨⟨(by omega), trivial⟩, ⟨⟨(by omega), trivial⟩, ⟨⟨trivial, trivial⟩, ⟨⟨trivial, trivial⟩, ⟨⟨trivial, trivial⟩, ⟨⟨trivial, trivial⟩, ⟨⟨(by omega), trivial⟩, ⟨⟨⟨(by omega), (rfl)⟩, trivial⟩, trivial⟩⟩⟩⟩⟩⟩⟩⟩⟩) ?_
      refine Tri.seq_region [] none [2] [16] ((True ∧ True) ∧ (((True ∧ (5 = 5)) ∧ True) ∧ True))
          ([(2, .sc (.p 16 0))], [(16, .ints .u64 5 (((itr (F45l0) 5 (0, p0)).2).set 0 (iAdd .u64 (((itr (F45l0) 5 (0, p0)).2).getD 0 0) (iMul .u64 19 ((itr (F45l0) 5 (0, p0)).1)))))])
          256 (by kernel_rfl) rfl (by kernel_rfl) (⟨⟨trivial, trivial⟩, ⟨⟨⟨trivial, (rfl)⟩, trivial⟩, trivial⟩⟩) ?_
      refine Tri.ret ?_
      exact endP.ret [] (True ∧ True) (by kernel_rfl) (by kernel_rfl) (by kernel_rfl) ⟨trivial, trivial⟩


noncomputable def F16l0 (p1 : List Int) (k0 : Nat) (z0 : List Int) : List Int :=
  z0.set k0 (iAdd .u64 (z0.getD k0 0) (p1.getD k0 0))

noncomputable def F16 (p0 : List Int) (p1 : List Int) : List Int :=
  (F45 (itr (F16l0 p1) 5 p0))

noncomputable def S16 : List AV → Option (Prop × Ret)
  | [.ints .u64 5 p0, .ints .u64 5 p1] => some (True, ⟨.ints .u64 5 (F16 p0 p1), []⟩)
  | _ => none

noncomputable def B16 : Bs := { P := Go.Proofs.Try.prog, G := noG, tab := tabOf [(45, ⟨[.val], 0, S45⟩)], n := 23 }

theorem B16.ok : B16.Ok := ⟨tabOk (P := Go.Proofs.Try.prog) (G := noG) (l := [(45, ⟨[.val], 0, S45⟩)]) (And.intro K45 True.intro), mixed⟩

theorem K16 : Known Go.Proofs.Try.prog noG 16 ⟨[.val, .val], 0, S16⟩ := by
  refine Known.walk (B := B16) (fn := Go.Proofs.Try.f16) B16.ok (by kernel_rfl) rfl (by kernel_rfl) (by kernel_rfl) (by decide) ?_ ?_
  · intro vs C r h
    simp only at h
    unfold S16 at h
    split at h
    · cases h; rfl
    · cases h
  · intro E args C r h hC hlen
    simp only at h
    unfold S16 at h
    split at h
    rotate_left
    · cases h
    rename_i p0 p1
    cases h
    simp only [lens] at hlen
    refine ⟨show 2 ≤ 23 from by decide, ?_⟩
    refine Tri.sub (Sub.of_eq (show _ = ([(0, .ints .u64 5 p0), (1, .ints .u64 5 p1)], []) from rfl)) ?_
    refine Tri.seq_region [] none [4, 3, 2] [32, 16, 0] ((True ∧ True) ∧ ((True ∧ True) ∧ ((True ∧ True) ∧ True)))
        ([(4, .sc (.p 32 0)), (3, .sc (.p 16 0)), (2, .sc (.p 0 0))], [(32, .ints .u64 5 [0, 0, 0, 0, 0]), (16, .ints .u64 5 p1), (0, .ints .u64 5 p0)])
        48 (by kernel_rfl) rfl (by kernel_rfl) (⟨⟨trivial, trivial⟩, ⟨⟨trivial, trivial⟩, ⟨⟨trivial, trivial⟩, trivial⟩⟩⟩) ?_
    refine Tri.seq ?_
    refine Tri.seq_region [] none [6, 4, 3, 2] [32, 16, 0] ((True ∧ True) ∧ True)
        ([(6, .sc (.i .i64 0)), (4, .sc (.p 32 0)), (3, .sc (.p 16 0)), (2, .sc (.p 0 0))], [(32, .ints .u64 5 [0, 0, 0, 0, 0]), (16, .ints .u64 5 p1), (0, .ints .u64 5 p0)])
        64 (by kernel_rfl) rfl (by kernel_rfl) (⟨⟨trivial, trivial⟩, trivial⟩) ?_
    refine Tri.block ?_
    refine Tri.count 64 5 (F16l0 p1) p0 (fun k0 z0 => True) (fun k0 z0 => ([(6, .sc (.i .i64 ((k0 : Nat) : Int))), (4, .sc (.p 32 0)), (3, .sc (.p 16 0)), (2, .sc (.p 0 0))], [(32, .ints .u64 5 [0, 0, 0, 0, 0]), (16, .ints .u64 5 p1), (0, .ints .u64 5 z0)])) trivial (Sub.of_eq (by kernel_rfl)) ?_
    intro k0 z0 hk0 hz0 hJ0
    refine Tri.seq_region [] none [7, 6, 4, 3, 2] [32, 16, 0] ((True ∧ True) ∧ True)
        ([(7, .sc (.b (decide ((((k0 : Nat) : Int) : Int) < 5)))), (6, .sc (.i .i64 ((k0 : Nat) : Int))), (4, .sc (.p 32 0)), (3, .sc (.p 16 0)), (2, .sc (.p 0 0))], [(32, .ints .u64 5 [0, 0, 0, 0, 0]), (16, .ints .u64 5 p1), (0, .ints .u64 5 z0)])
        80 (by kernel_rfl) rfl (by kernel_rfl) (⟨⟨trivial, trivial⟩, trivial⟩) ?_
    refine Tri.seq ?_
    refine Tri.cond (x := (decide ((((k0 : Nat) : Int) : Int) < 5))) (by kernel_rfl) (fun h1 => ?_) (fun h1 => ?_)
    ·
      have h1' := of_decide_eq_true h1
      refine Tri.skip ?_
      change Tri _ _ _ _ _ _
      refine Tri.seq ?_
      refine Tri.block ?_
      refine Tri.seq_region [] none [5, 6, 4, 3, 2] [32, 16, 0] ((True ∧ True) ∧ ((True ∧ True) ∧ True))
          ([(5, .sc (.i .i64 ((k0 : Nat) : Int))), (6, .sc (.i .i64 ((k0 : Nat) : Int))), (4, .sc (.p 32 0)), (3, .sc (.p 16 0)), (2, .sc (.p 0 0))], [(32, .ints .u64 5 [0, 0, 0, 0, 0]), (16, .ints .u64 5 p1), (0, .ints .u64 5 z0)])
          112 (by kernel_rfl) rfl (by kernel_rfl) (⟨⟨trivial, trivial⟩, ⟨⟨trivial, trivial⟩, trivial⟩⟩) ?_
      refine Tri.region' [] (some [0, 0, 3, 7, 0, 0, 48, 112, 255, 0, 1023, 2047]) [6, 4, 3, 2] [0, 32, 16] ((True ∧ True) ∧ ((True ∧ True) ∧ ((((0 : Int) ≤ ((k0 : Nat) : Int) ∧ ((k0 : Nat) : Int) < ((5 : Nat) : Int)) ∧ True) ∧ (((k0 < 5) ∧ True) ∧ ((True ∧ True) ∧ ((True ∧ True) ∧ ((((0 : Int) ≤ ((k0 : Nat) : Int) ∧ ((k0 : Nat) : Int) < ((5 : Nat) : Int)) ∧ True) ∧ (((k0 < 5) ∧ True) ∧ ((True ∧ True) ∧ ((True ∧ True) ∧ ((((0 : Int) ≤ ((k0 : Nat) : Int) ∧ ((k0 : Nat) : Int) < ((5 : Nat) : Int)) ∧ True) ∧ ((((k0 < 5) ∧ (1 = 1)) ∧ True) ∧ True))))))))))))
          ([(6, .sc (.i .i64 ((k0 : Nat) : Int))), (4, .sc (.p 32 0)), (3, .sc (.p 16 0)), (2, .sc (.p 0 0))], [(0, .ints .u64 5 (z0.set k0 (iAdd .u64 (z0.getD k0 0) (p1.getD k0 0)))), (32, .ints .u64 5 [0, 0, 0, 0, 0]), (16, .ints .u64 5 p1)])
          304 (by kernel_rfl) rfl (by kernel_rfl) (⟨⟨trivial, trivial⟩, ⟨⟨trivial, trivial⟩, ⟨⟨(by omega), trivial⟩, ⟨⟨(by omega), trivial⟩, ⟨⟨trivial, trivial⟩, ⟨⟨trivial, trivial⟩, ⟨⟨(by omega), trivial⟩, ⟨⟨(by omega), trivial⟩, ⟨⟨trivial, trivial⟩, ⟨⟨trivial, trivial⟩, ⟨⟨(by omega), trivial⟩, ⟨⟨⟨(by omega), (rfl)⟩, trivial⟩, trivial⟩⟩⟩⟩⟩⟩⟩⟩⟩⟩⟩⟩) ?_
      change Tri _ _ _ _ _ _
      refine Tri.region' [(20, .i .i64 ((k0 + 1 : Nat) : Int))] none [6, 4, 3, 2] [0, 32, 16] ((True ∧ ((iAdd .i64 ((k0 : Nat) : Int) 1) = ((k0 + 1 : Nat) : Int))) ∧ ((True ∧ True) ∧ True))
          ([(6, .sc (.i .i64 ((k0 + 1 : Nat) : Int))), (4, .sc (.p 32 0)), (3, .sc (.p 16 0)), (2, .sc (.p 0 0))], [(0, .ints .u64 5 (z0.set k0 (iAdd .u64 (z0.getD k0 0) (p1.getD k0 0)))), (32, .ints .u64 5 [0, 0, 0, 0, 0]), (16, .ints .u64 5 p1)])
          336 (by kernel_rfl) rfl (by kernel_rfl) (⟨⟨trivial, (iAdd_nat (a := k0) (b := 1) (by omega))⟩, ⟨⟨trivial, trivial⟩, trivial⟩⟩) ?_
      refine countP_normal (by omega) trivial ?_
      exact Sub.ren (ns := [(32, 32), (16, 16), (0, 0)]) (kf := [6, 4, 3, 2]) (by kernel_rfl) (by kernel_rfl)
    ·
      have h1' := of_decide_eq_false h1
      refine Tri.exit ?_
      have hend0 : k0 = 5 := by (have := of_decide_eq_false h1; omega)
      subst hend0; subst hz0
      change Tri _ _ _ _ _ _
      refine Tri.seq_region [] none [4] [32] ((True ∧ True) ∧ (((True ∧ True) ∧ True) ∧ (((True ∧ (5 = 5)) ∧ True) ∧ True)))
          ([(4, .sc (.p 32 0))], [(32, .ints .u64 5 (F45 (itr (F16l0 p1) 5 p0)))])
          128 (by kernel_rfl) rfl (by kernel_rfl) (⟨⟨trivial, trivial⟩, ⟨⟨⟨trivial, trivial⟩, trivial⟩, ⟨⟨⟨trivial, (rfl)⟩, trivial⟩, trivial⟩⟩⟩) ?_
      refine Tri.ret ?_
      exact endP.ret [] (True ∧ True) (by kernel_rfl) (by kernel_rfl) (by kernel_rfl) ⟨trivial, trivial⟩


noncomputable def F18l0 (p1 : List Int) (k0 : Nat) (z0 : List Int) : List Int :=
  z0.set (k0 + 1) (iAdd .u64 (z0.getD (k0 + 1) 0) (iSub .u64 9007199254740988 ((F45 p1).getD (k0 + 1) 0)))

noncomputable def F18 (p0 : List Int) (p1 : List Int) : List Int :=
  (F45 (itr (F18l0 p1) 4 (p0.set 0 (iAdd .u64 (p0.getD 0 0) (iSub .u64 9007199254740916 ((F45 p1).getD 0 0))))))

noncomputable def S18 : List AV → Option (Prop × Ret)
  | [.ints .u64 5 p0, .ints .u64 5 p1] => some (True, ⟨.ints .u64 5 (F18 p0 p1), []⟩)
  | _ => none

noncomputable def B18 : Bs := { P := Go.Proofs.Try.prog, G := noG, tab := tabOf [(45, ⟨[.val], 0, S45⟩)], n := 36 }

theorem B18.ok : B18.Ok := ⟨tabOk (P := Go.Proofs.Try.prog) (G := noG) (l := [(45, ⟨[.val], 0, S45⟩)]) (And.intro K45 True.intro), mixed⟩

theorem K18 : Known Go.Proofs.Try.prog noG 18 ⟨[.val, .val], 0, S18⟩ := by
  refine Known.walk (B := B18) (fn := Go.Proofs.Try.f18) B18.ok (by kernel_rfl) rfl (by kernel_rfl) (by kernel_rfl) (by decide) ?_ ?_
  · intro vs C r h
    simp only at h
    unfold S18 at h
    split at h
    · cases h; rfl
    · cases h
  · intro E args C r h hC hlen
    simp only at h
    unfold S18 at h
    split at h
    rotate_left
    · cases h
    rename_i p0 p1
    cases h
    simp only [lens] at hlen
    refine ⟨show 2 ≤ 36 from by decide, ?_⟩
    refine Tri.sub (Sub.of_eq (show _ = ([(0, .ints .u64 5 p0), (1, .ints .u64 5 p1)], []) from rfl)) ?_
    refine Tri.seq_region [] none [4, 3, 2] [32, 16, 0] ((True ∧ True) ∧ ((True ∧ True) ∧ ((True ∧ True) ∧ True)))
        ([(4, .sc (.p 32 0)), (3, .sc (.p 16 0)), (2, .sc (.p 0 0))], [(32, .ints .u64 5 [0, 0, 0, 0, 0]), (16, .ints .u64 5 p1), (0, .ints .u64 5 p0)])
        48 (by kernel_rfl) rfl (by kernel_rfl) (⟨⟨trivial, trivial⟩, ⟨⟨trivial, trivial⟩, ⟨⟨trivial, trivial⟩, trivial⟩⟩⟩) ?_
    refine Tri.seq_region [] none [4, 3, 2] [16, 32, 0] ((True ∧ True) ∧ (((True ∧ True) ∧ True) ∧ (((True ∧ (5 = 5)) ∧ True) ∧ True)))
        ([(4, .sc (.p 32 0)), (3, .sc (.p 16 0)), (2, .sc (.p 0 0))], [(16, .ints .u64 5 (F45 p1)), (32, .ints .u64 5 [0, 0, 0, 0, 0]), (0, .ints .u64 5 p0)])
        96 (by kernel_rfl) rfl (by kernel_rfl) (⟨⟨trivial, trivial⟩, ⟨⟨⟨trivial, trivial⟩, trivial⟩, ⟨⟨⟨trivial, (rfl)⟩, trivial⟩, trivial⟩⟩⟩) ?_
    refine Tri.seq_region [] none [4, 3, 2] [0, 16, 32] ((True ∧ True) ∧ ((((0 : Int) ≤ 0 ∧ 0 < ((5 : Nat) : Int)) ∧ True) ∧ (((0 < 5) ∧ True) ∧ ((True ∧ True) ∧ ((((0 : Int) ≤ 0 ∧ 0 < ((5 : Nat) : Int)) ∧ True) ∧ (((0 < 5) ∧ True) ∧ ((True ∧ True) ∧ ((True ∧ True) ∧ ((True ∧ True) ∧ ((((0 : Int) ≤ 0 ∧ 0 < ((5 : Nat) : Int)) ∧ True) ∧ ((((0 < 5) ∧ (1 = 1)) ∧ True) ∧ True)))))))))))
        ([(4, .sc (.p 32 0)), (3, .sc (.p 16 0)), (2, .sc (.p 0 0))], [(0, .ints .u64 5 (p0.set 0 (iAdd .u64 (p0.getD 0 0) (iSub .u64 9007199254740916 ((F45 p1).getD 0 0))))), (16, .ints .u64 5 (F45 p1)), (32, .ints .u64 5 [0, 0, 0, 0, 0])])
        272 (by kernel_rfl) rfl (by kernel_rfl) (⟨⟨trivial, trivial⟩, ⟨⟨(by omega), trivial⟩, ⟨⟨(by omega), trivial⟩, ⟨⟨trivial, trivial⟩, ⟨⟨(by omega), trivial⟩, ⟨⟨(by omega), trivial⟩, ⟨⟨trivial, trivial⟩, ⟨⟨trivial, trivial⟩, ⟨⟨trivial, trivial⟩, ⟨⟨(by omega), trivial⟩, ⟨⟨⟨(by omega), (rfl)⟩, trivial⟩, trivial⟩⟩⟩⟩⟩⟩⟩⟩⟩⟩⟩) ?_
    refine Tri.seq ?_
    refine Tri.seq_region [] none [5, 4, 3, 2] [0, 16, 32] ((True ∧ True) ∧ True)
        ([(5, .sc (.i .i64 1)), (4, .sc (.p 32 0)), (3, .sc (.p 16 0)), (2, .sc (.p 0 0))], [(0, .ints .u64 5 (p0.set 0 (iAdd .u64 (p0.getD 0 0) (iSub .u64 9007199254740916 ((F45 p1).getD 0 0))))), (16, .ints .u64 5 (F45 p1)), (32, .ints .u64 5 [0, 0, 0, 0, 0])])
        288 (by kernel_rfl) rfl (by kernel_rfl) (⟨⟨trivial, trivial⟩, trivial⟩) ?_
    refine Tri.block ?_
    refine Tri.count 288 4 (F18l0 p1) (p0.set 0 (iAdd .u64 (p0.getD 0 0) (iSub .u64 9007199254740916 ((F45 p1).getD 0 0)))) (fun k0 z0 => True) (fun k0 z0 => ([(5, .sc (.i .i64 ((k0 + 1 : Nat) : Int))), (4, .sc (.p 32 0)), (3, .sc (.p 16 0)), (2, .sc (.p 0 0))], [(0, .ints .u64 5 z0), (16, .ints .u64 5 (F45 p1)), (32, .ints .u64 5 [0, 0, 0, 0, 0])])) trivial (Sub.of_eq (by kernel_rfl)) ?_
    intro k0 z0 hk0 hz0 hJ0
    refine Tri.seq ?_
    refine Tri.seq_region [] none [19, 5, 4, 3, 2] [0, 16, 32] ((True ∧ True) ∧ ((True ∧ True) ∧ True))
        ([(19, .sc (.b (decide ((((k0 + 1 : Nat) : Int) : Int) < 5)))), (5, .sc (.i .i64 ((k0 + 1 : Nat) : Int))), (4, .sc (.p 32 0)), (3, .sc (.p 16 0)), (2, .sc (.p 0 0))], [(0, .ints .u64 5 z0), (16, .ints .u64 5 (F45 p1)), (32, .ints .u64 5 [0, 0, 0, 0, 0])])
        320 (by kernel_rfl) rfl (by kernel_rfl) (⟨⟨trivial, trivial⟩, ⟨⟨trivial, trivial⟩, trivial⟩⟩) ?_
    refine Tri.cond (x := (decide ((((k0 + 1 : Nat) : Int) : Int) < 5))) (by kernel_rfl) (fun h1 => ?_) (fun h1 => ?_)
    ·
      have h1' := of_decide_eq_true h1
      refine Tri.skip ?_
      change Tri _ _ _ _ _ _
      refine Tri.seq ?_
      refine Tri.block ?_
      refine Tri.region' [] (some [0, 0, 3, 7, 0, 0, 48, 112, 240, 511, 0, 2047, 4095]) [5, 4, 3, 2] [0, 16, 32] ((True ∧ True) ∧ ((True ∧ True) ∧ ((((0 : Int) ≤ ((k0 + 1 : Nat) : Int) ∧ ((k0 + 1 : Nat) : Int) < ((5 : Nat) : Int)) ∧ True) ∧ (((k0 + 1 < 5) ∧ True) ∧ ((True ∧ True) ∧ ((True ∧ True) ∧ ((((0 : Int) ≤ ((k0 + 1 : Nat) : Int) ∧ ((k0 + 1 : Nat) : Int) < ((5 : Nat) : Int)) ∧ True) ∧ (((k0 + 1 < 5) ∧ True) ∧ ((True ∧ True) ∧ ((True ∧ True) ∧ ((True ∧ True) ∧ ((((0 : Int) ≤ ((k0 + 1 : Nat) : Int) ∧ ((k0 + 1 : Nat) : Int) < ((5 : Nat) : Int)) ∧ True) ∧ ((((k0 + 1 < 5) ∧ (1 = 1)) ∧ True) ∧ True)))))))))))))
          ([(5, .sc (.i .i64 ((k0 + 1 : Nat) : Int))), (4, .sc (.p 32 0)), (3, .sc (.p 16 0)), (2, .sc (.p 0 0))], [(0, .ints .u64 5 (z0.set (k0 + 1) (iAdd .u64 (z0.getD (k0 + 1) 0) (iSub .u64 9007199254740988 ((F45 p1).getD (k0 + 1) 0))))), (16, .ints .u64 5 (F45 p1)), (32, .ints .u64 5 [0, 0, 0, 0, 0])])
          528 (by kernel_rfl) rfl (by kernel_rfl) (⟨⟨trivial, trivial⟩, ⟨⟨trivial, trivial⟩, ⟨⟨(by omega), trivial⟩, ⟨⟨(by omega), trivial⟩, ⟨⟨trivial, trivial⟩, ⟨⟨trivial, trivial⟩, ⟨⟨(by omega), trivial⟩, ⟨⟨(by omega), trivial⟩, ⟨⟨trivial, trivial⟩, ⟨⟨trivial, trivial⟩, ⟨⟨trivial, trivial⟩, ⟨⟨(by omega), trivial⟩, ⟨⟨⟨(by omega), (rfl)⟩, trivial⟩, trivial⟩⟩⟩⟩⟩⟩⟩⟩⟩⟩⟩⟩⟩) ?_
      change Tri _ _ _ _ _ _
      refine Tri.region' [(21, .i .i64 (((k0 + 1) + 1 : Nat) : Int))] none [5, 4, 3, 2] [0, 16, 32] ((True ∧ True) ∧ ((True ∧ ((iAdd .i64 ((k0 + 1 : Nat) : Int) 1) = (((k0 + 1) + 1 : Nat) : Int))) ∧ ((True ∧ True) ∧ True)))
          ([(5, .sc (.i .i64 (((k0 + 1) + 1 : Nat) : Int))), (4, .sc (.p 32 0)), (3, .sc (.p 16 0)), (2, .sc (.p 0 0))], [(0, .ints .u64 5 (z0.set (k0 + 1) (iAdd .u64 (z0.getD (k0 + 1) 0) (iSub .u64 9007199254740988 ((F45 p1).getD (k0 + 1) 0))))), (16, .ints .u64 5 (F45 p1)), (32, .ints .u64 5 [0, 0, 0, 0, 0])])
          576 (by kernel_rfl) rfl (by kernel_rfl) (⟨⟨trivial, trivial⟩, ⟨⟨trivial, (iAdd_nat (a := k0 + 1) (b := 1) (by omega))⟩, ⟨⟨trivial, trivial⟩, trivial⟩⟩⟩) ?_
      refine countP_normal (by omega) trivial ?_
      exact Sub.ren (ns := [(0, 0), (16, 16), (32, 32)]) (kf := [5, 4, 3, 2]) (by kernel_rfl) (by kernel_rfl)
    ·
      have h1' := of_decide_eq_false h1
      refine Tri.exit ?_
      have hend0 : k0 = 4 := by (have := of_decide_eq_false h1; omega)
      subst hend0; subst hz0
      change Tri _ _ _ _ _ _
      refine Tri.seq_region [] none [4] [32] ((True ∧ True) ∧ (((True ∧ True) ∧ True) ∧ (((True ∧ (5 = 5)) ∧ True) ∧ True)))
          ([(4, .sc (.p 32 0))], [(32, .ints .u64 5 (F45 (itr (F18l0 p1) 4 (p0.set 0 (iAdd .u64 (p0.getD 0 0) (iSub .u64 9007199254740916 ((F45 p1).getD 0 0)))))))])
          368 (by kernel_rfl) rfl (by kernel_rfl) (⟨⟨trivial, trivial⟩, ⟨⟨⟨trivial, trivial⟩, trivial⟩, ⟨⟨⟨trivial, (rfl)⟩, trivial⟩, trivial⟩⟩⟩) ?_
      refine Tri.ret ?_
      exact endP.ret [] (True ∧ True) (by kernel_rfl) (by kernel_rfl) (by kernel_rfl) ⟨trivial, trivial⟩


noncomputable def F55 (p0 : Int) (p1 : Int) : Int :=
  (iAdd .u64 (iAdd .u64 (iMul .u64 (iShr .u64 p0 32) (iShr .u64 p1 32)) (iShr .u64 (iAdd .u64 (iMul .u64 (iShr .u64 p0 32) (iAnd .u64 p1 4294967295)) (iShr .u64 (iMul .u64 (iAnd .u64 p0 4294967295) (iAnd .u64 p1 4294967295)) 32)) 32)) (iShr .u64 (iAdd .u64 (iAnd .u64 (iAdd .u64 (iMul .u64 (iShr .u64 p0 32) (iAnd .u64 p1 4294967295)) (iShr .u64 (iMul .u64 (iAnd .u64 p0 4294967295) (iAnd .u64 p1 4294967295)) 32)) 4294967295) (iMul .u64 (iAnd .u64 p0 4294967295) (iShr .u64 p1 32))) 32))

noncomputable def F55_1 (p0 : Int) (p1 : Int) : Int :=
  (iMul .u64 p0 p1)

noncomputable def S55 : List AV → Option (Prop × Ret)
  | [.sc (.i .u64 p0), .sc (.i .u64 p1)] => some (True, ⟨.tup [.sc (.i .u64 (F55 p0 p1)), .sc (.i .u64 (F55_1 p0 p1))], []⟩)
  | _ => none

noncomputable def B55 : Bs := { P := Go.Proofs.Try.prog, G := noG, tab := tabOf [], n := 51 }

theorem B55.ok : B55.Ok := ⟨tabOk (P := Go.Proofs.Try.prog) (G := noG) (l := []) True.intro, mixed⟩

theorem K55 : Known Go.Proofs.Try.prog noG 55 ⟨[.val, .val], 0, S55⟩ := by
  refine Known.walk (B := B55) (fn := Go.Proofs.Try.f55) B55.ok (by kernel_rfl) rfl (by kernel_rfl) (by kernel_rfl) (by decide) ?_ ?_
  · intro vs C r h
    simp only at h
    unfold S55 at h
    split at h
    · cases h; rfl
    · cases h
  · intro E args C r h hC hlen
    simp only at h
    unfold S55 at h
    split at h
    rotate_left
    · cases h
    rename_i p0 p1
    cases h
    simp only [lens] at hlen
    refine ⟨show 2 ≤ 51 from by decide, ?_⟩
    refine Tri.sub (Sub.of_eq (show _ = ([(0, .sc (.i .u64 p0)), (1, .sc (.i .u64 p1))], []) from rfl)) ?_
    refine Tri.seq_region [] none [0, 1] [] ((True ∧ True) ∧ ((True ∧ True) ∧ True))
        ([(0, .sc (.i .u64 p0)), (1, .sc (.i .u64 p1))], [])
        32 (by kernel_rfl) rfl (by kernel_rfl) (⟨⟨trivial, trivial⟩, ⟨⟨trivial, trivial⟩, trivial⟩⟩) ?_
    refine Tri.seq_region [] none [6, 0, 1] [] ((True ∧ True) ∧ ((True ∧ True) ∧ ((True ∧ True) ∧ True)))
        ([(6, .sc (.i .u64 (iAnd .u64 p0 4294967295))), (0, .sc (.i .u64 p0)), (1, .sc (.i .u64 p1))], [])
        80 (by kernel_rfl) rfl (by kernel_rfl) (⟨⟨trivial, trivial⟩, ⟨⟨trivial, trivial⟩, ⟨⟨trivial, trivial⟩, trivial⟩⟩⟩) ?_
    refine Tri.seq_region [] none [7, 6, 0, 1] [] ((True ∧ True) ∧ ((((0 : Int) ≤ 32) ∧ True) ∧ ((True ∧ True) ∧ True)))
        ([(7, .sc (.i .u64 (iShr .u64 p0 32))), (6, .sc (.i .u64 (iAnd .u64 p0 4294967295))), (0, .sc (.i .u64 p0)), (1, .sc (.i .u64 p1))], [])
        128 (by kernel_rfl) rfl (by kernel_rfl) (⟨⟨trivial, trivial⟩, ⟨⟨(by omega), trivial⟩, ⟨⟨trivial, trivial⟩, trivial⟩⟩⟩) ?_
    refine Tri.seq_region [] none [8, 7, 6, 0, 1] [] ((True ∧ True) ∧ ((True ∧ True) ∧ ((True ∧ True) ∧ True)))
        ([(8, .sc (.i .u64 (iAnd .u64 p1 4294967295))), (7, .sc (.i .u64 (iShr .u64 p0 32))), (6, .sc (.i .u64 (iAnd .u64 p0 4294967295))), (0, .sc (.i .u64 p0)), (1, .sc (.i .u64 p1))], [])
        176 (by kernel_rfl) rfl (by kernel_rfl) (⟨⟨trivial, trivial⟩, ⟨⟨trivial, trivial⟩, ⟨⟨trivial, trivial⟩, trivial⟩⟩⟩) ?_
    refine Tri.seq_region [] none [9, 8, 7, 6, 0, 1] [] ((True ∧ True) ∧ ((((0 : Int) ≤ 32) ∧ True) ∧ ((True ∧ True) ∧ True)))
        ([(9, .sc (.i .u64 (iShr .u64 p1 32))), (8, .sc (.i .u64 (iAnd .u64 p1 4294967295))), (7, .sc (.i .u64 (iShr .u64 p0 32))), (6, .sc (.i .u64 (iAnd .u64 p0 4294967295))), (0, .sc (.i .u64 p0)), (1, .sc (.i .u64 p1))], [])
        224 (by kernel_rfl) rfl (by kernel_rfl) (⟨⟨trivial, trivial⟩, ⟨⟨(by omega), trivial⟩, ⟨⟨trivial, trivial⟩, trivial⟩⟩⟩) ?_
    refine Tri.seq_region [] none [10, 9, 8, 7, 6, 0, 1] [] ((True ∧ True) ∧ ((True ∧ True) ∧ ((True ∧ True) ∧ ((True ∧ True) ∧ True))))
        ([(10, .sc (.i .u64 (iMul .u64 (iAnd .u64 p0 4294967295) (iAnd .u64 p1 4294967295)))), (9, .sc (.i .u64 (iShr .u64 p1 32))), (8, .sc (.i .u64 (iAnd .u64 p1 4294967295))), (7, .sc (.i .u64 (iShr .u64 p0 32))), (6, .sc (.i .u64 (iAnd .u64 p0 4294967295))), (0, .sc (.i .u64 p0)), (1, .sc (.i .u64 p1))], [])
        288 (by kernel_rfl) rfl (by kernel_rfl) (⟨⟨trivial, trivial⟩, ⟨⟨trivial, trivial⟩, ⟨⟨trivial, trivial⟩, ⟨⟨trivial, trivial⟩, trivial⟩⟩⟩⟩) ?_
    refine Tri.seq_region [] none [11, 9, 7, 6, 0, 1] [] ((True ∧ True) ∧ ((True ∧ True) ∧ ((True ∧ True) ∧ ((True ∧ True) ∧ ((((0 : Int) ≤ 32) ∧ True) ∧ ((True ∧ True) ∧ ((True ∧ True) ∧ True)))))))
        ([(11, .sc (.i .u64 (iAdd .u64 (iMul .u64 (iShr .u64 p0 32) (iAnd .u64 p1 4294967295)) (iShr .u64 (iMul .u64 (iAnd .u64 p0 4294967295) (iAnd .u64 p1 4294967295)) 32)))), (9, .sc (.i .u64 (iShr .u64 p1 32))), (7, .sc (.i .u64 (iShr .u64 p0 32))), (6, .sc (.i .u64 (iAnd .u64 p0 4294967295))), (0, .sc (.i .u64 p0)), (1, .sc (.i .u64 p1))], [])
        400 (by kernel_rfl) rfl (by kernel_rfl) (⟨⟨trivial, trivial⟩, ⟨⟨trivial, trivial⟩, ⟨⟨trivial, trivial⟩, ⟨⟨trivial, trivial⟩, ⟨⟨(by omega), trivial⟩, ⟨⟨trivial, trivial⟩, ⟨⟨trivial, trivial⟩, trivial⟩⟩⟩⟩⟩⟩⟩) ?_
    refine Tri.seq_region [] none [12, 11, 9, 7, 6, 0, 1] [] ((True ∧ True) ∧ ((True ∧ True) ∧ ((True ∧ True) ∧ True)))
        ([(12, .sc (.i .u64 (iAnd .u64 (iAdd .u64 (iMul .u64 (iShr .u64 p0 32) (iAnd .u64 p1 4294967295)) (iShr .u64 (iMul .u64 (iAnd .u64 p0 4294967295) (iAnd .u64 p1 4294967295)) 32)) 4294967295))), (11, .sc (.i .u64 (iAdd .u64 (iMul .u64 (iShr .u64 p0 32) (iAnd .u64 p1 4294967295)) (iShr .u64 (iMul .u64 (iAnd .u64 p0 4294967295) (iAnd .u64 p1 4294967295)) 32)))), (9, .sc (.i .u64 (iShr .u64 p1 32))), (7, .sc (.i .u64 (iShr .u64 p0 32))), (6, .sc (.i .u64 (iAnd .u64 p0 4294967295))), (0, .sc (.i .u64 p0)), (1, .sc (.i .u64 p1))], [])
        448 (by kernel_rfl) rfl (by kernel_rfl) (⟨⟨trivial, trivial⟩, ⟨⟨trivial, trivial⟩, ⟨⟨trivial, trivial⟩, trivial⟩⟩⟩) ?_
    refine Tri.seq_region [] none [13, 12, 9, 7, 6, 0, 1] [] ((True ∧ True) ∧ ((((0 : Int) ≤ 32) ∧ True) ∧ ((True ∧ True) ∧ True)))
        ([(13, .sc (.i .u64 (iShr .u64 (iAdd .u64 (iMul .u64 (iShr .u64 p0 32) (iAnd .u64 p1 4294967295)) (iShr .u64 (iMul .u64 (iAnd .u64 p0 4294967295) (iAnd .u64 p1 4294967295)) 32)) 32))), (12, .sc (.i .u64 (iAnd .u64 (iAdd .u64 (iMul .u64 (iShr .u64 p0 32) (iAnd .u64 p1 4294967295)) (iShr .u64 (iMul .u64 (iAnd .u64 p0 4294967295) (iAnd .u64 p1 4294967295)) 32)) 4294967295))), (9, .sc (.i .u64 (iShr .u64 p1 32))), (7, .sc (.i .u64 (iShr .u64 p0 32))), (6, .sc (.i .u64 (iAnd .u64 p0 4294967295))), (0, .sc (.i .u64 p0)), (1, .sc (.i .u64 p1))], [])
        496 (by kernel_rfl) rfl (by kernel_rfl) (⟨⟨trivial, trivial⟩, ⟨⟨(by omega), trivial⟩, ⟨⟨trivial, trivial⟩, trivial⟩⟩⟩) ?_
    refine Tri.seq_region [] none [12, 13, 9, 7, 0, 1] [] ((True ∧ True) ∧ ((True ∧ True) ∧ ((True ∧ True) ∧ ((True ∧ True) ∧ ((True ∧ True) ∧ ((True ∧ True) ∧ True))))))
        ([(12, .sc (.i .u64 (iAdd .u64 (iAnd .u64 (iAdd .u64 (iMul .u64 (iShr .u64 p0 32) (iAnd .u64 p1 4294967295)) (iShr .u64 (iMul .u64 (iAnd .u64 p0 4294967295) (iAnd .u64 p1 4294967295)) 32)) 4294967295) (iMul .u64 (iAnd .u64 p0 4294967295) (iShr .u64 p1 32))))), (13, .sc (.i .u64 (iShr .u64 (iAdd .u64 (iMul .u64 (iShr .u64 p0 32) (iAnd .u64 p1 4294967295)) (iShr .u64 (iMul .u64 (iAnd .u64 p0 4294967295) (iAnd .u64 p1 4294967295)) 32)) 32))), (9, .sc (.i .u64 (iShr .u64 p1 32))), (7, .sc (.i .u64 (iShr .u64 p0 32))), (0, .sc (.i .u64 p0)), (1, .sc (.i .u64 p1))], [])
        592 (by kernel_rfl) rfl (by kernel_rfl) (⟨⟨trivial, trivial⟩, ⟨⟨trivial, trivial⟩, ⟨⟨trivial, trivial⟩, ⟨⟨trivial, trivial⟩, ⟨⟨trivial, trivial⟩, ⟨⟨trivial, trivial⟩, trivial⟩⟩⟩⟩⟩⟩) ?_
    refine Tri.seq_region [] none [4, 0, 1] [] ((True ∧ True) ∧ ((True ∧ True) ∧ ((True ∧ True) ∧ ((True ∧ True) ∧ ((True ∧ True) ∧ ((True ∧ True) ∧ ((((0 : Int) ≤ 32) ∧ True) ∧ ((True ∧ True) ∧ ((True ∧ True) ∧ True)))))))))
        ([(4, .sc (.i .u64 (iAdd .u64 (iAdd .u64 (iMul .u64 (iShr .u64 p0 32) (iShr .u64 p1 32)) (iShr .u64 (iAdd .u64 (iMul .u64 (iShr .u64 p0 32) (iAnd .u64 p1 4294967295)) (iShr .u64 (iMul .u64 (iAnd .u64 p0 4294967295) (iAnd .u64 p1 4294967295)) 32)) 32)) (iShr .u64 (iAdd .u64 (iAnd .u64 (iAdd .u64 (iMul .u64 (iShr .u64 p0 32) (iAnd .u64 p1 4294967295)) (iShr .u64 (iMul .u64 (iAnd .u64 p0 4294967295) (iAnd .u64 p1 4294967295)) 32)) 4294967295) (iMul .u64 (iAnd .u64 p0 4294967295) (iShr .u64 p1 32))) 32)))), (0, .sc (.i .u64 p0)), (1, .sc (.i .u64 p1))], [])
        736 (by kernel_rfl) rfl (by kernel_rfl) (⟨⟨trivial, trivial⟩, ⟨⟨trivial, trivial⟩, ⟨⟨trivial, trivial⟩, ⟨⟨trivial, trivial⟩, ⟨⟨trivial, trivial⟩, ⟨⟨trivial, trivial⟩, ⟨⟨(by omega), trivial⟩, ⟨⟨trivial, trivial⟩, ⟨⟨trivial, trivial⟩, trivial⟩⟩⟩⟩⟩⟩⟩⟩⟩) ?_
    refine Tri.seq_region [] none [5, 4] [] ((True ∧ True) ∧ ((True ∧ True) ∧ ((True ∧ True) ∧ ((True ∧ True) ∧ True))))
        ([(5, .sc (.i .u64 (iMul .u64 p0 p1))), (4, .sc (.i .u64 (iAdd .u64 (iAdd .u64 (iMul .u64 (iShr .u64 p0 32) (iShr .u64 p1 32)) (iShr .u64 (iAdd .u64 (iMul .u64 (iShr .u64 p0 32) (iAnd .u64 p1 4294967295)) (iShr .u64 (iMul .u64 (iAnd .u64 p0 4294967295) (iAnd .u64 p1 4294967295)) 32)) 32)) (iShr .u64 (iAdd .u64 (iAnd .u64 (iAdd .u64 (iMul .u64 (iShr .u64 p0 32) (iAnd .u64 p1 4294967295)) (iShr .u64 (iMul .u64 (iAnd .u64 p0 4294967295) (iAnd .u64 p1 4294967295)) 32)) 4294967295) (iMul .u64 (iAnd .u64 p0 4294967295) (iShr .u64 p1 32))) 32))))], [])
        800 (by kernel_rfl) rfl (by kernel_rfl) (⟨⟨trivial, trivial⟩, ⟨⟨trivial, trivial⟩, ⟨⟨trivial, trivial⟩, ⟨⟨trivial, trivial⟩, trivial⟩⟩⟩⟩) ?_
    refine Tri.ret ?_
    exact endP.ret [] (True ∧ (True ∧ True)) (by kernel_rfl) (by kernel_rfl) (by kernel_rfl) ⟨trivial, ⟨trivial, trivial⟩⟩


noncomputable def T55 : List AV → Option (Prop × Ret)
  | [.sc (.i .u64 p0), .sc (.i .u64 p1)] => some (0 ≤ p0 ∧ p0 < 18446744073709551616 ∧ 0 ≤ p1 ∧ p1 < 18446744073709551616, ⟨.tup [.sc (.i .u64 (mulHi p0 p1)), .sc (.i .u64 (mulLo p0 p1))], []⟩)
  | _ => none

theorem K55m : Known Go.Proofs.Try.prog noG 55 ⟨[.val, .val], 0, T55⟩ := by
  refine Known.same K55 rfl ?_ ?_
  · intro vs C r h hC
    simp only at h
    unfold T55 at h
    split at h
    rotate_left
    · cases h
    rename_i p0 p1
    cases h
    obtain ⟨h1, h2, h3, h4⟩ := hC
    refine ⟨True, ?_, trivial⟩
    show some (True, _) = some (True, _)
    have e1 : F55 p0 p1 = mulHi p0 p1 := mul64_hi p0 p1 h1 h2 h3 h4
    have e2 : F55_1 p0 p1 = mulLo p0 p1 := iMul_u64 p0 p1
    rw [e1, e2]
  · intro vs C r h
    simp only at h
    unfold T55 at h
    split at h
    · cases h; rfl
    · cases h


def rng (xs : List Int) : Prop := ∀ j, 0 ≤ xs.getD j 0 ∧ xs.getD j 0 < 18446744073709551616

theorem rng_of_all {xs : List Int} (h : ∀ x ∈ xs, 0 ≤ x ∧ x < 18446744073709551616) : rng xs := by
  intro j
  rw [List.getD_eq_getElem?_getD]
  cases hj : xs[j]? with
  | none => simp
  | some v => exact h v (List.mem_of_getElem? hj)
theorem rng.all {xs : List Int} (h : rng xs) : ∀ x ∈ xs, 0 ≤ x ∧ x < 18446744073709551616 := by
  intro x hx
  obtain ⟨j, hj⟩ := List.mem_iff_getElem?.1 hx
  have := h j
  rw [List.getD_eq_getElem?_getD, hj] at this
  exact this
theorem rng_part {z : List Int} (h : rng z) (a b : Nat) : rng ((z.drop a).take b) :=
  rng_of_all fun x hx => h.all x (List.mem_of_mem_drop (List.mem_of_mem_take hx))
theorem rng_set {z : List Int} (h : rng z) {i : Nat} {v : Int} (hv : 0 ≤ v ∧ v < 18446744073709551616) : rng (z.set i v) := by
  refine rng_of_all fun x hx => ?_
  rcases List.mem_or_eq_of_mem_set hx with h1 | h1
  · exact h.all x h1
  · rw [h1]; exact hv
theorem rng_splice {z ys : List Int} (h : rng z) (h' : rng ys) {o : Nat} : rng (splice z o ys) := by
  refine rng_of_all fun x hx => ?_
  unfold splice at hx
  rcases List.mem_append.1 hx with h1 | h1
  · rcases List.mem_append.1 h1 with h2 | h2
    · exact h.all x (List.mem_of_mem_take h2)
    · exact h'.all x h2
  · exact h.all x (List.mem_of_mem_drop h1)
theorem mod64 (x : Int) : 0 ≤ x % 18446744073709551616 ∧ x % 18446744073709551616 < 18446744073709551616 := by omega
theorem add64_rng (x y c : Int) : 0 ≤ add64 x y c ∧ add64 x y c < 18446744073709551616 := mod64 _
theorem wrap64_rng (x : Int) : 0 ≤ IntKind.wrap .u64 x ∧ IntKind.wrap .u64 x < 18446744073709551616 := by rw [wrap_u64]; exact mod64 _


noncomputable def F47 (p0 : List Int) (p1 : Int) (p2 : Int) : List Int :=
  (p0.set 1 (add64 (p0.getD 1 0) (mulLo p1 p2) 0)).set 0 (add64 ((p0.set 1 (add64 (p0.getD 1 0) (mulLo p1 p2) 0)).getD 0 0) (mulHi p1 p2) (add64c (p0.getD 1 0) (mulLo p1 p2) 0))

noncomputable def S47 : List AV → Option (Prop × Ret)
  | [.ints .u64 2 p0, .sc (.i .u64 p1), .sc (.i .u64 p2)] => some (rng p0 ∧ 0 ≤ p1 ∧ p1 < 18446744073709551616 ∧ 0 ≤ p2 ∧ p2 < 18446744073709551616, ⟨.ints .u64 2 (F47 p0 p1 p2), []⟩)
  | _ => none

noncomputable def B47 : Bs := { P := Go.Proofs.Try.prog, G := noG, tab := tabOf [(48, ⟨[.val, .val, .val], 0, specAdd64⟩), (55, ⟨[.val, .val], 0, T55⟩)], n := 34 }

theorem B47.ok : B47.Ok := ⟨tabOk (P := Go.Proofs.Try.prog) (G := noG) (l := [(48, ⟨[.val, .val, .val], 0, specAdd64⟩), (55, ⟨[.val, .val], 0, T55⟩)]) (And.intro K48 (And.intro K55m True.intro)), mixed⟩

theorem K47 : Known Go.Proofs.Try.prog noG 47 ⟨[.val, .val, .val], 0, S47⟩ := by
  refine Known.walk (B := B47) (fn := Go.Proofs.Try.f47) B47.ok (by kernel_rfl) rfl (by kernel_rfl) (by kernel_rfl) (by decide) ?_ ?_
  · intro vs C r h
    simp only at h
    unfold S47 at h
    split at h
    · cases h; rfl
    · cases h
  · intro E args C r h hC hlen
    simp only at h
    unfold S47 at h
    split at h
    rotate_left
    · cases h
    rename_i p0 p1 p2
    cases h
    simp only [lens] at hlen
    have hf1 := mulHi_nonneg hC.2.1 hC.2.2.2.1
    have hf2 := hC.1 0
    have hf3 := hC.1 1
    refine ⟨show 3 ≤ 34 from by decide, ?_⟩
    refine Tri.sub (Sub.of_eq (show _ = ([(0, .ints .u64 2 p0), (1, .sc (.i .u64 p1)), (2, .sc (.i .u64 p2))], []) from rfl)) ?_
    refine Tri.seq_region [] none [6, 3, 1, 2] [16, 0] ((True ∧ True) ∧ ((True ∧ True) ∧ True))
        ([(6, .sc (.p 16 0)), (3, .sc (.p 0 0)), (1, .sc (.i .u64 p1)), (2, .sc (.i .u64 p2))], [(16, .ints .u64 2 [0, 0]), (0, .ints .u64 2 p0)])
        32 (by kernel_rfl) rfl (by kernel_rfl) (⟨⟨trivial, trivial⟩, ⟨⟨trivial, trivial⟩, trivial⟩⟩) ?_
    refine Tri.seq_region [] none [8, 7, 6, 3] [16, 0] ((True ∧ True) ∧ ((True ∧ True) ∧ (((True ∧ (0 ≤ p1 ∧ p1 < 18446744073709551616 ∧ 0 ≤ p2 ∧ p2 < 18446744073709551616)) ∧ True) ∧ ((True ∧ True) ∧ ((True ∧ True) ∧ ((True ∧ True) ∧ ((True ∧ True) ∧ ((True ∧ True) ∧ True))))))))
        ([(8, .sc (.i .u64 (mulLo p1 p2))), (7, .sc (.i .u64 (mulHi p1 p2))), (6, .sc (.p 16 0)), (3, .sc (.p 0 0))], [(16, .ints .u64 2 [0, 0]), (0, .ints .u64 2 p0)])
        160 (by kernel_rfl) rfl (by kernel_rfl) (⟨⟨trivial, trivial⟩, ⟨⟨trivial, trivial⟩, ⟨⟨⟨trivial, (by omega)⟩, trivial⟩, ⟨⟨trivial, trivial⟩, ⟨⟨trivial, trivial⟩, ⟨⟨trivial, trivial⟩, ⟨⟨trivial, trivial⟩, ⟨⟨trivial, trivial⟩, trivial⟩⟩⟩⟩⟩⟩⟩⟩) ?_
    refine Tri.seq_region [] none [8, 7, 6, 3] [16, 0] ((True ∧ True) ∧ True)
        ([(8, .sc (.i .u64 (mulLo p1 p2))), (7, .sc (.i .u64 (mulHi p1 p2))), (6, .sc (.p 16 0)), (3, .sc (.p 0 0))], [(16, .ints .u64 2 [0, 0]), (0, .ints .u64 2 p0)])
        176 (by kernel_rfl) rfl (by kernel_rfl) (⟨⟨trivial, trivial⟩, trivial⟩) ?_
    refine Tri.seq_region [] none [9, 7, 6, 3] [0, 16] ((True ∧ True) ∧ (((1 < 2) ∧ True) ∧ ((True ∧ True) ∧ (((True ∧ ((0 : Int) ≤ (p0.getD 1 0) ∧ (0 : Int) ≤ (mulLo p1 p2) ∧ (0 : Int) ≤ 0 ∧ (0 : Int) ≤ 1)) ∧ True) ∧ ((True ∧ True) ∧ ((True ∧ True) ∧ ((True ∧ True) ∧ ((True ∧ True) ∧ ((((1 < 2) ∧ (1 = 1)) ∧ True) ∧ ((True ∧ True) ∧ True))))))))))
        ([(9, .sc (.i .u64 (add64c (p0.getD 1 0) (mulLo p1 p2) 0))), (7, .sc (.i .u64 (mulHi p1 p2))), (6, .sc (.p 16 0)), (3, .sc (.p 0 0))], [(0, .ints .u64 2 (p0.set 1 (add64 (p0.getD 1 0) (mulLo p1 p2) 0))), (16, .ints .u64 2 [0, 0])])
        336 (by kernel_rfl) rfl (by kernel_rfl) (⟨⟨trivial, trivial⟩, ⟨⟨(by omega), trivial⟩, ⟨⟨trivial, trivial⟩, ⟨⟨⟨trivial, (by first | omega | (simp only [mulLo, add64c] at *; omega) | (rw [getD_set_ne (by decide)]; simp only [mulLo, add64c] at *; omega))⟩, trivial⟩, ⟨⟨trivial, trivial⟩, ⟨⟨trivial, trivial⟩, ⟨⟨trivial, trivial⟩, ⟨⟨trivial, trivial⟩, ⟨⟨⟨(by omega), (rfl)⟩, trivial⟩, ⟨⟨trivial, trivial⟩, trivial⟩⟩⟩⟩⟩⟩⟩⟩⟩⟩) ?_
    refine Tri.seq_region [] none [6, 3] [0, 16] ((True ∧ True) ∧ (((0 < 2) ∧ True) ∧ ((True ∧ True) ∧ ((True ∧ True) ∧ (((True ∧ ((0 : Int) ≤ ((p0.set 1 (add64 (p0.getD 1 0) (mulLo p1 p2) 0)).getD 0 0) ∧ (0 : Int) ≤ (mulHi p1 p2) ∧ (0 : Int) ≤ (add64c (p0.getD 1 0) (mulLo p1 p2) 0) ∧ ((add64c (p0.getD 1 0) (mulLo p1 p2) 0) : Int) ≤ 1)) ∧ True) ∧ ((True ∧ True) ∧ ((True ∧ True) ∧ ((True ∧ True) ∧ ((True ∧ True) ∧ ((((0 < 2) ∧ (1 = 1)) ∧ True) ∧ True))))))))))
        ([(6, .sc (.p 16 0)), (3, .sc (.p 0 0))], [(0, .ints .u64 2 ((p0.set 1 (add64 (p0.getD 1 0) (mulLo p1 p2) 0)).set 0 (add64 ((p0.set 1 (add64 (p0.getD 1 0) (mulLo p1 p2) 0)).getD 0 0) (mulHi p1 p2) (add64c (p0.getD 1 0) (mulLo p1 p2) 0)))), (16, .ints .u64 2 [0, 0])])
        496 (by kernel_rfl) rfl (by kernel_rfl) (⟨⟨trivial, trivial⟩, ⟨⟨(by omega), trivial⟩, ⟨⟨trivial, trivial⟩, ⟨⟨trivial, trivial⟩, ⟨⟨⟨trivial, (by first | omega | (simp only [mulLo, add64c] at *; omega) | (rw [getD_set_ne (by decide)]; simp only [mulLo, add64c] at *; omega))⟩, trivial⟩, ⟨⟨trivial, trivial⟩, ⟨⟨trivial, trivial⟩, ⟨⟨trivial, trivial⟩, ⟨⟨trivial, trivial⟩, ⟨⟨⟨(by omega), (rfl)⟩, trivial⟩, trivial⟩⟩⟩⟩⟩⟩⟩⟩⟩⟩) ?_
    refine Tri.seq_region [] none [6] [16] ((True ∧ True) ∧ (((True ∧ (2 = 2)) ∧ True) ∧ True))
        ([(6, .sc (.p 16 0))], [(16, .ints .u64 2 ((p0.set 1 (add64 (p0.getD 1 0) (mulLo p1 p2) 0)).set 0 (add64 ((p0.set 1 (add64 (p0.getD 1 0) (mulLo p1 p2) 0)).getD 0 0) (mulHi p1 p2) (add64c (p0.getD 1 0) (mulLo p1 p2) 0))))])
        528 (by kernel_rfl) rfl (by kernel_rfl) (⟨⟨trivial, trivial⟩, ⟨⟨⟨trivial, (rfl)⟩, trivial⟩, trivial⟩⟩) ?_
    refine Tri.ret ?_
    exact endP.ret [] (True ∧ True) (by kernel_rfl) (by kernel_rfl) (by kernel_rfl) ⟨trivial, trivial⟩


theorem rng47 {p0 : List Int} (h : rng p0) (a b : Int) : rng (F47 p0 a b) := rng_set (rng_set h (add64_rng _ _ _)) (add64_rng _ _ _)

theorem five {xs : List Int} (h : xs.length = 5) : ∃ a b c d e, xs = [a, b, c, d, e] := by
  match xs, h with
  | [a, b, c, d, e], _ => exact ⟨a, b, c, d, e, rfl⟩

/-- What is left over of five limbs, one behind the other. -/
def t1 (a : Int) : Int := iAdd .u64 a 0
def t2 (a b : Int) : Int := iAdd .u64 b (iShr .u64 (t1 a) 51)
def t3 (a b c : Int) : Int := iAdd .u64 c (iShr .u64 (t2 a b) 51)
def t4 (a b c d : Int) : Int := iAdd .u64 d (iShr .u64 (t3 a b c) 51)
def t5 (a b c d e : Int) : Int := iAdd .u64 e (iShr .u64 (t4 a b c d) 51)
def lo51 (x : Int) : Int := iAnd .u64 x 2251799813685247

theorem F45_eq (a b c d e : Int) : F45 [a, b, c, d, e] = [iAdd .u64 (lo51 (t1 a)) (iMul .u64 19 (iShr .u64 (t5 a b c d e) 51)), lo51 (t2 a b), lo51 (t3 a b c), lo51 (t4 a b c d), lo51 (t5 a b c d e)] := by kernel_rfl

theorem rng45 {p0 : List Int} (h : p0.length = 5) : rng (F45 p0) := by
  obtain ⟨a, b, c, d, e, rfl⟩ := five h
  rw [F45_eq]
  refine rng_of_all fun x hx => ?_
  simp only [List.mem_cons, List.not_mem_nil, or_false] at hx
  rcases hx with rfl | rfl | rfl | rfl | rfl <;> exact wrap64_rng _

theorem pre47 {z x y : List Int} {i j o : Nat} {b : Bool} (hz : rng z) (hx : rng x) (hy : rng y) : rng ((z.drop o).take 2) ∧ 0 ≤ x.getD i 0 ∧ x.getD i 0 < 18446744073709551616 ∧ 0 ≤ (sel b (iMul .u64 (y.getD j 0) 19) (y.getD j 0)) ∧ (sel b (iMul .u64 (y.getD j 0) 19) (y.getD j 0)) < 18446744073709551616 := by
  refine ⟨rng_part hz _ _, (hx i).1, (hx i).2, ?_, ?_⟩ <;> cases b
  · exact (hy j).1
  · exact (wrap64_rng _).1
  · exact (hy j).2
  · exact (wrap64_rng _).2


noncomputable def F20l1 (p0 : List Int) (p1 : List Int) (k0 : Nat) (k1 : Nat) (z1 : List Int) : List Int :=
  splice z1 (((k0 + k1) % 5) * 2) (F47 ((z1.drop (((k0 + k1) % 5) * 2)).take 2) ((F45 p0).getD k0 0) (sel (decide ((((k0 + k1 : Nat) : Int) : Int) > 4)) (iMul .u64 ((F45 p1).getD k1 0) 19) ((F45 p1).getD k1 0)))

noncomputable def F20l0 (p0 : List Int) (p1 : List Int) (k0 : Nat) (z0 : List Int) : List Int :=
  (itr (F20l1 p0 p1 k0) 5 z0)

noncomputable def F20l2 (p0 : List Int) (p1 : List Int) (k2 : Nat) (z2 : Int × List Int) : Int × List Int :=
  ((iOr .u64 (iShl .u64 (iAdd .u64 ((((itr (F20l0 p0 p1) 5 [0, 0, 0, 0, 0, 0, 0, 0, 0, 0]).drop (k2 * 2)).take 2).getD 0 0) (add64c ((((itr (F20l0 p0 p1) 5 [0, 0, 0, 0, 0, 0, 0, 0, 0, 0]).drop (k2 * 2)).take 2).getD 1 0) z2.1 0)) 13) (iShr .u64 (add64 ((((itr (F20l0 p0 p1) 5 [0, 0, 0, 0, 0, 0, 0, 0, 0, 0]).drop (k2 * 2)).take 2).getD 1 0) z2.1 0) 51)), z2.2.set k2 (iAnd .u64 (add64 ((((itr (F20l0 p0 p1) 5 [0, 0, 0, 0, 0, 0, 0, 0, 0, 0]).drop (k2 * 2)).take 2).getD 1 0) z2.1 0) 2251799813685247))

noncomputable def F20 (p0 : List Int) (p1 : List Int) : List Int :=
  (F45 (((itr (F20l2 p0 p1) 5 (0, [0, 0, 0, 0, 0])).2).set 0 (iAdd .u64 (((itr (F20l2 p0 p1) 5 (0, [0, 0, 0, 0, 0])).2).getD 0 0) (iMul .u64 19 ((itr (F20l2 p0 p1) 5 (0, [0, 0, 0, 0, 0])).1)))))

noncomputable def S20 : List AV → Option (Prop × Ret)
  | [.ints .u64 5 p0, .ints .u64 5 p1] => some (True, ⟨.ints .u64 5 (F20 p0 p1), []⟩)
  | _ => none

noncomputable def B20 : Bs := { P := Go.Proofs.Try.prog, G := noG, tab := tabOf [(45, ⟨[.val], 0, S45⟩), (47, ⟨[.val, .val, .val], 0, S47⟩), (48, ⟨[.val, .val, .val], 0, specAdd64⟩)], n := 92 }

theorem B20.ok : B20.Ok := ⟨tabOk (P := Go.Proofs.Try.prog) (G := noG) (l := [(45, ⟨[.val], 0, S45⟩), (47, ⟨[.val, .val, .val], 0, S47⟩), (48, ⟨[.val, .val, .val], 0, specAdd64⟩)]) (And.intro K45 (And.intro K47 (And.intro K48 True.intro))), mixed⟩

theorem K20 : Known Go.Proofs.Try.prog noG 20 ⟨[.val, .val], 0, S20⟩ := by
  refine Known.walk (B := B20) (fn := Go.Proofs.Try.f20) B20.ok (by kernel_rfl) rfl (by kernel_rfl) (by kernel_rfl) (by decide) ?_ ?_
  · intro vs C r h
    simp only at h
    unfold S20 at h
    split at h
    · cases h; rfl
    · cases h
  · intro E args C r h hC hlen
    simp only at h
    unfold S20 at h
    split at h
    rotate_left
    · cases h
    rename_i p0 p1
    cases h
    simp only [lens] at hlen
    refine ⟨show 2 ≤ 92 from by decide, ?_⟩
    refine Tri.sub (Sub.of_eq (show _ = ([(0, .ints .u64 5 p0), (1, .ints .u64 5 p1)], []) from rfl)) ?_
    refine Tri.seq_region [] none [4, 3, 2] [32, 16, 0] ((True ∧ True) ∧ ((True ∧ True) ∧ ((True ∧ True) ∧ True)))
        ([(4, .sc (.p 32 0)), (3, .sc (.p 16 0)), (2, .sc (.p 0 0))], [(32, .ints .u64 5 [0, 0, 0, 0, 0]), (16, .ints .u64 5 p1), (0, .ints .u64 5 p0)])
        48 (by kernel_rfl) rfl (by kernel_rfl) (⟨⟨trivial, trivial⟩, ⟨⟨trivial, trivial⟩, ⟨⟨trivial, trivial⟩, trivial⟩⟩⟩) ?_
    refine Tri.seq_region [] (some [0, 1, 0, 7, 15, 31]) [4, 3, 2] [16, 0, 32] ((True ∧ True) ∧ (((True ∧ True) ∧ True) ∧ ((True ∧ True) ∧ (((True ∧ True) ∧ True) ∧ (((True ∧ (5 = 5)) ∧ True) ∧ (((True ∧ (5 = 5)) ∧ True) ∧ True))))))
        ([(4, .sc (.p 32 0)), (3, .sc (.p 16 0)), (2, .sc (.p 0 0))], [(16, .ints .u64 5 (F45 p1)), (0, .ints .u64 5 (F45 p0)), (32, .ints .u64 5 [0, 0, 0, 0, 0])])
        144 (by kernel_rfl) rfl (by kernel_rfl) (⟨⟨trivial, trivial⟩, ⟨⟨⟨trivial, trivial⟩, trivial⟩, ⟨⟨trivial, trivial⟩, ⟨⟨⟨trivial, trivial⟩, trivial⟩, ⟨⟨⟨trivial, (rfl)⟩, trivial⟩, ⟨⟨⟨trivial, (rfl)⟩, trivial⟩, trivial⟩⟩⟩⟩⟩⟩) ?_
    refine Tri.seq_region [] none [5, 4, 3, 2] [144, 16, 0, 32] ((True ∧ True) ∧ True)
        ([(5, .sc (.p 144 0)), (4, .sc (.p 32 0)), (3, .sc (.p 16 0)), (2, .sc (.p 0 0))], [(144, .ints .u64 10 [0, 0, 0, 0, 0, 0, 0, 0, 0, 0]), (16, .ints .u64 5 (F45 p1)), (0, .ints .u64 5 (F45 p0)), (32, .ints .u64 5 [0, 0, 0, 0, 0])])
        160 (by kernel_rfl) rfl (by kernel_rfl) (⟨⟨trivial, trivial⟩, trivial⟩) ?_
    refine Tri.seq ?_
    refine Tri.seq_region [] none [20, 5, 4, 3, 2] [144, 16, 0, 32] ((True ∧ True) ∧ True)
        ([(20, .sc (.i .i64 0)), (5, .sc (.p 144 0)), (4, .sc (.p 32 0)), (3, .sc (.p 16 0)), (2, .sc (.p 0 0))], [(144, .ints .u64 10 [0, 0, 0, 0, 0, 0, 0, 0, 0, 0]), (16, .ints .u64 5 (F45 p1)), (0, .ints .u64 5 (F45 p0)), (32, .ints .u64 5 [0, 0, 0, 0, 0])])
        176 (by kernel_rfl) rfl (by kernel_rfl) (⟨⟨trivial, trivial⟩, trivial⟩) ?_
    refine Tri.block ?_
    refine Tri.count 176 5 (F20l0 p0 p1) [0, 0, 0, 0, 0, 0, 0, 0, 0, 0] (fun k0 z0 => rng z0) (fun k0 z0 => ([(20, .sc (.i .i64 ((k0 : Nat) : Int))), (5, .sc (.p 144 0)), (4, .sc (.p 32 0)), (3, .sc (.p 16 0)), (2, .sc (.p 0 0))], [(144, .ints .u64 10 z0), (16, .ints .u64 5 (F45 p1)), (0, .ints .u64 5 (F45 p0)), (32, .ints .u64 5 [0, 0, 0, 0, 0])])) (rng_of_all (by decide)) (Sub.of_eq (by kernel_rfl)) ?_
    intro k0 z0 hk0 hz0 hJ0
    refine Tri.seq_region [] none [21, 20, 5, 4, 3, 2] [144, 16, 0, 32] ((True ∧ True) ∧ True)
        ([(21, .sc (.b (decide ((((k0 : Nat) : Int) : Int) < 5)))), (20, .sc (.i .i64 ((k0 : Nat) : Int))), (5, .sc (.p 144 0)), (4, .sc (.p 32 0)), (3, .sc (.p 16 0)), (2, .sc (.p 0 0))], [(144, .ints .u64 10 z0), (16, .ints .u64 5 (F45 p1)), (0, .ints .u64 5 (F45 p0)), (32, .ints .u64 5 [0, 0, 0, 0, 0])])
        192 (by kernel_rfl) rfl (by kernel_rfl) (⟨⟨trivial, trivial⟩, trivial⟩) ?_
    refine Tri.seq ?_
    refine Tri.cond (x := (decide ((((k0 : Nat) : Int) : Int) < 5))) (by kernel_rfl) (fun h1 => ?_) (fun h1 => ?_)
    ·
      have h1' := of_decide_eq_true h1
      refine Tri.skip ?_
      change Tri _ _ _ _ _ _
      refine Tri.seq ?_
      refine Tri.block ?_
      refine Tri.seq_region [] none [6, 20, 5, 4, 3, 2] [144, 16, 0, 32] ((True ∧ True) ∧ ((True ∧ True) ∧ True))
          ([(6, .sc (.i .i64 ((k0 : Nat) : Int))), (20, .sc (.i .i64 ((k0 : Nat) : Int))), (5, .sc (.p 144 0)), (4, .sc (.p 32 0)), (3, .sc (.p 16 0)), (2, .sc (.p 0 0))], [(144, .ints .u64 10 z0), (16, .ints .u64 5 (F45 p1)), (0, .ints .u64 5 (F45 p0)), (32, .ints .u64 5 [0, 0, 0, 0, 0])])
          224 (by kernel_rfl) rfl (by kernel_rfl) (⟨⟨trivial, trivial⟩, ⟨⟨trivial, trivial⟩, trivial⟩⟩) ?_
      refine Tri.seq_region [] none [23, 6, 20, 5, 4, 3, 2] [144, 16, 0, 32] ((True ∧ True) ∧ True)
          ([(23, .sc (.i .i64 0)), (6, .sc (.i .i64 ((k0 : Nat) : Int))), (20, .sc (.i .i64 ((k0 : Nat) : Int))), (5, .sc (.p 144 0)), (4, .sc (.p 32 0)), (3, .sc (.p 16 0)), (2, .sc (.p 0 0))], [(144, .ints .u64 10 z0), (16, .ints .u64 5 (F45 p1)), (0, .ints .u64 5 (F45 p0)), (32, .ints .u64 5 [0, 0, 0, 0, 0])])
          240 (by kernel_rfl) rfl (by kernel_rfl) (⟨⟨trivial, trivial⟩, trivial⟩) ?_
      refine Tri.block ?_
      refine Tri.count 240 5 (F20l1 p0 p1 k0) z0 (fun k1 z1 => rng z1) (fun k1 z1 => ([(23, .sc (.i .i64 ((k1 : Nat) : Int))), (6, .sc (.i .i64 ((k0 : Nat) : Int))), (20, .sc (.i .i64 ((k0 : Nat) : Int))), (5, .sc (.p 144 0)), (4, .sc (.p 32 0)), (3, .sc (.p 16 0)), (2, .sc (.p 0 0))], [(144, .ints .u64 10 z1), (16, .ints .u64 5 (F45 p1)), (0, .ints .u64 5 (F45 p0)), (32, .ints .u64 5 [0, 0, 0, 0, 0])])) hJ0 (Sub.of_eq (by kernel_rfl)) ?_
      intro k1 z1 hk1 hz1 hJ1
      refine Tri.seq_region [] none [24, 23, 6, 20, 5, 4, 3, 2] [144, 16, 0, 32] ((True ∧ True) ∧ True)
          ([(24, .sc (.b (decide ((((k1 : Nat) : Int) : Int) < 5)))), (23, .sc (.i .i64 ((k1 : Nat) : Int))), (6, .sc (.i .i64 ((k0 : Nat) : Int))), (20, .sc (.i .i64 ((k0 : Nat) : Int))), (5, .sc (.p 144 0)), (4, .sc (.p 32 0)), (3, .sc (.p 16 0)), (2, .sc (.p 0 0))], [(144, .ints .u64 10 z1), (16, .ints .u64 5 (F45 p1)), (0, .ints .u64 5 (F45 p0)), (32, .ints .u64 5 [0, 0, 0, 0, 0])])
          256 (by kernel_rfl) rfl (by kernel_rfl) (⟨⟨trivial, trivial⟩, trivial⟩) ?_
      refine Tri.seq ?_
      refine Tri.cond (x := (decide ((((k1 : Nat) : Int) : Int) < 5))) (by kernel_rfl) (fun h2 => ?_) (fun h2 => ?_)
      ·
        have h2' := of_decide_eq_true h2
        refine Tri.skip ?_
        change Tri _ _ _ _ _ _
        refine Tri.seq ?_
        refine Tri.block ?_
        refine Tri.seq_region [] none [7, 23, 6, 20, 5, 4, 3, 2] [144, 16, 0, 32] ((True ∧ True) ∧ ((True ∧ True) ∧ True))
            ([(7, .sc (.i .i64 ((k1 : Nat) : Int))), (23, .sc (.i .i64 ((k1 : Nat) : Int))), (6, .sc (.i .i64 ((k0 : Nat) : Int))), (20, .sc (.i .i64 ((k0 : Nat) : Int))), (5, .sc (.p 144 0)), (4, .sc (.p 32 0)), (3, .sc (.p 16 0)), (2, .sc (.p 0 0))], [(144, .ints .u64 10 z1), (16, .ints .u64 5 (F45 p1)), (0, .ints .u64 5 (F45 p0)), (32, .ints .u64 5 [0, 0, 0, 0, 0])])
            288 (by kernel_rfl) rfl (by kernel_rfl) (⟨⟨trivial, trivial⟩, ⟨⟨trivial, trivial⟩, trivial⟩⟩) ?_
        refine Tri.seq_region [] none [8, 7, 23, 6, 20, 5, 4, 3, 2] [144, 16, 0, 32] ((True ∧ True) ∧ ((True ∧ True) ∧ ((((0 : Int) ≤ ((k1 : Nat) : Int) ∧ ((k1 : Nat) : Int) < ((5 : Nat) : Int)) ∧ True) ∧ (((k1 < 5) ∧ True) ∧ ((True ∧ True) ∧ True)))))
            ([(8, .sc (.i .u64 ((F45 p1).getD k1 0))), (7, .sc (.i .i64 ((k1 : Nat) : Int))), (23, .sc (.i .i64 ((k1 : Nat) : Int))), (6, .sc (.i .i64 ((k0 : Nat) : Int))), (20, .sc (.i .i64 ((k0 : Nat) : Int))), (5, .sc (.p 144 0)), (4, .sc (.p 32 0)), (3, .sc (.p 16 0)), (2, .sc (.p 0 0))], [(144, .ints .u64 10 z1), (16, .ints .u64 5 (F45 p1)), (0, .ints .u64 5 (F45 p0)), (32, .ints .u64 5 [0, 0, 0, 0, 0])])
            368 (by kernel_rfl) rfl (by kernel_rfl) (⟨⟨trivial, trivial⟩, ⟨⟨trivial, trivial⟩, ⟨⟨(by omega), trivial⟩, ⟨⟨(by omega), trivial⟩, ⟨⟨trivial, trivial⟩, trivial⟩⟩⟩⟩⟩) ?_
        refine Tri.seq ?_
        refine Tri.seq_region [(32, .i .i64 ((k0 + k1 : Nat) : Int))] none [33, 8, 7, 23, 6, 20, 5, 4, 3, 2] [144, 16, 0, 32] ((True ∧ True) ∧ ((True ∧ True) ∧ ((True ∧ ((iAdd .i64 ((k0 : Nat) : Int) ((k1 : Nat) : Int)) = ((k0 + k1 : Nat) : Int))) ∧ ((True ∧ True) ∧ True))))
            ([(33, .sc (.b (decide ((((k0 + k1 : Nat) : Int) : Int) > 4)))), (8, .sc (.i .u64 ((F45 p1).getD k1 0))), (7, .sc (.i .i64 ((k1 : Nat) : Int))), (23, .sc (.i .i64 ((k1 : Nat) : Int))), (6, .sc (.i .i64 ((k0 : Nat) : Int))), (20, .sc (.i .i64 ((k0 : Nat) : Int))), (5, .sc (.p 144 0)), (4, .sc (.p 32 0)), (3, .sc (.p 16 0)), (2, .sc (.p 0 0))], [(144, .ints .u64 10 z1), (16, .ints .u64 5 (F45 p1)), (0, .ints .u64 5 (F45 p0)), (32, .ints .u64 5 [0, 0, 0, 0, 0])])
            432 (by kernel_rfl) rfl (by kernel_rfl) (⟨⟨trivial, trivial⟩, ⟨⟨trivial, trivial⟩, ⟨⟨trivial, (iAdd_nat (a := k0) (b := k1) (by omega))⟩, ⟨⟨trivial, trivial⟩, trivial⟩⟩⟩⟩) ?_
        refine Tri.join (x := (decide ((((k0 + k1 : Nat) : Int) : Int) > 4))) (fun bb => ([(8, .sc (.i .u64 (sel bb (iMul .u64 ((F45 p1).getD k1 0) 19) ((F45 p1).getD k1 0)))), (7, .sc (.i .i64 ((k1 : Nat) : Int))), (23, .sc (.i .i64 ((k1 : Nat) : Int))), (6, .sc (.i .i64 ((k0 : Nat) : Int))), (20, .sc (.i .i64 ((k0 : Nat) : Int))), (5, .sc (.p 144 0)), (4, .sc (.p 32 0)), (3, .sc (.p 16 0)), (2, .sc (.p 0 0))], [(144, .ints .u64 10 z1), (16, .ints .u64 5 (F45 p1)), (0, .ints .u64 5 (F45 p0)), (32, .ints .u64 5 [0, 0, 0, 0, 0])])) 480 (by kernel_rfl) (fun h3 => ?_) (fun h3 => ?_) ?_
        ·
          have h3' := of_decide_eq_true h3
          refine Tri.region' [] none [8, 7, 23, 6, 20, 5, 4, 3, 2] [144, 16, 0, 32] ((True ∧ True) ∧ ((True ∧ True) ∧ ((True ∧ True) ∧ True)))
              ([(8, .sc (.i .u64 (iMul .u64 ((F45 p1).getD k1 0) 19))), (7, .sc (.i .i64 ((k1 : Nat) : Int))), (23, .sc (.i .i64 ((k1 : Nat) : Int))), (6, .sc (.i .i64 ((k0 : Nat) : Int))), (20, .sc (.i .i64 ((k0 : Nat) : Int))), (5, .sc (.p 144 0)), (4, .sc (.p 32 0)), (3, .sc (.p 16 0)), (2, .sc (.p 0 0))], [(144, .ints .u64 10 z1), (16, .ints .u64 5 (F45 p1)), (0, .ints .u64 5 (F45 p0)), (32, .ints .u64 5 [0, 0, 0, 0, 0])])
              480 (by kernel_rfl) rfl (by kernel_rfl) (⟨⟨trivial, trivial⟩, ⟨⟨trivial, trivial⟩, ⟨⟨trivial, trivial⟩, trivial⟩⟩⟩) ?_
          exact (Sub.ren (ns := [(144, 144), (16, 16), (0, 0), (32, 32)]) (kf := [8, 7, 23, 6, 20, 5, 4, 3, 2]) (s' := ([(8, .sc (.i .u64 (iMul .u64 ((F45 p1).getD k1 0) 19))), (7, .sc (.i .i64 ((k1 : Nat) : Int))), (23, .sc (.i .i64 ((k1 : Nat) : Int))), (6, .sc (.i .i64 ((k0 : Nat) : Int))), (20, .sc (.i .i64 ((k0 : Nat) : Int))), (5, .sc (.p 144 0)), (4, .sc (.p 32 0)), (3, .sc (.p 16 0)), (2, .sc (.p 0 0))], [(144, .ints .u64 10 z1), (16, .ints .u64 5 (F45 p1)), (0, .ints .u64 5 (F45 p0)), (32, .ints .u64 5 [0, 0, 0, 0, 0])])) (by kernel_rfl) (by kernel_rfl)).trans (Sub.of_eq (by simp only [sel_true, sel_false]))
        ·
          have h3' := of_decide_eq_false h3
          refine Tri.skip ?_
          exact (Sub.ren (ns := [(144, 144), (16, 16), (0, 0), (32, 32)]) (kf := [8, 7, 23, 6, 20, 5, 4, 3, 2]) (s' := ([(8, .sc (.i .u64 ((F45 p1).getD k1 0))), (7, .sc (.i .i64 ((k1 : Nat) : Int))), (23, .sc (.i .i64 ((k1 : Nat) : Int))), (6, .sc (.i .i64 ((k0 : Nat) : Int))), (20, .sc (.i .i64 ((k0 : Nat) : Int))), (5, .sc (.p 144 0)), (4, .sc (.p 32 0)), (3, .sc (.p 16 0)), (2, .sc (.p 0 0))], [(144, .ints .u64 10 z1), (16, .ints .u64 5 (F45 p1)), (0, .ints .u64 5 (F45 p0)), (32, .ints .u64 5 [0, 0, 0, 0, 0])])) (by kernel_rfl) (by kernel_rfl)).trans (Sub.of_eq (by simp only [sel_true, sel_false]))
        ·
          change Tri _ _ _ _ _ _
          refine Tri.region' [(38, .i .i64 ((k0 + k1 : Nat) : Int)), (39, .i .i64 (((k0 + k1) % 5 : Nat) : Int)), (42, .i .i64 ((k0 + k1 : Nat) : Int)), (43, .i .i64 (((k0 + k1) % 5 : Nat) : Int))] (some [0, 0, 3, 7, 0, 0, 48, 112, 240, 496, 0, 0, 3072, 7168, 0, 32752, 65535, 131071]) [23, 6, 20, 5, 4, 3, 2] [144, 16, 0, 32] ((True ∧ True) ∧ ((True ∧ True) ∧ ((True ∧ ((iAdd .i64 ((k0 : Nat) : Int) ((k1 : Nat) : Int)) = ((k0 + k1 : Nat) : Int))) ∧ (((5 ≠ (0 : Int)) ∧ ((iRem ((k0 + k1 : Nat) : Int) 5) = (((k0 + k1) % 5 : Nat) : Int))) ∧ ((True ∧ True) ∧ ((True ∧ True) ∧ ((True ∧ ((iAdd .i64 ((k0 : Nat) : Int) ((k1 : Nat) : Int)) = ((k0 + k1 : Nat) : Int))) ∧ (((5 ≠ (0 : Int)) ∧ ((iRem ((k0 + k1 : Nat) : Int) 5) = (((k0 + k1) % 5 : Nat) : Int))) ∧ ((((0 : Int) ≤ (((k0 + k1) % 5 : Nat) : Int) ∧ (((k0 + k1) % 5 : Nat) : Int) < ((5 : Nat) : Int)) ∧ True) ∧ ((((((k0 + k1) % 5) * 2) + 2 ≤ 10) ∧ True) ∧ ((True ∧ True) ∧ ((True ∧ True) ∧ ((((0 : Int) ≤ ((k0 : Nat) : Int) ∧ ((k0 : Nat) : Int) < ((5 : Nat) : Int)) ∧ True) ∧ (((k0 < 5) ∧ True) ∧ ((True ∧ True) ∧ (((True ∧ (rng ((z1.drop (((k0 + k1) % 5) * 2)).take 2) ∧ 0 ≤ ((F45 p0).getD k0 0) ∧ ((F45 p0).getD k0 0) < 18446744073709551616 ∧ 0 ≤ (sel (decide ((((k0 + k1 : Nat) : Int) : Int) > 4)) (iMul .u64 ((F45 p1).getD k1 0) 19) ((F45 p1).getD k1 0)) ∧ (sel (decide ((((k0 + k1 : Nat) : Int) : Int) > 4)) (iMul .u64 ((F45 p1).getD k1 0) 19) ((F45 p1).getD k1 0)) < 18446744073709551616)) ∧ True) ∧ ((((0 : Int) ≤ (((k0 + k1) % 5 : Nat) : Int) ∧ (((k0 + k1) % 5 : Nat) : Int) < ((5 : Nat) : Int)) ∧ True) ∧ (((((((k0 + k1) % 5) * 2) + 2 ≤ 10) ∧ (2 = 2)) ∧ True) ∧ True))))))))))))))))))
              ([(23, .sc (.i .i64 ((k1 : Nat) : Int))), (6, .sc (.i .i64 ((k0 : Nat) : Int))), (20, .sc (.i .i64 ((k0 : Nat) : Int))), (5, .sc (.p 144 0)), (4, .sc (.p 32 0)), (3, .sc (.p 16 0)), (2, .sc (.p 0 0))], [(144, .ints .u64 10 (splice z1 (((k0 + k1) % 5) * 2) (F47 ((z1.drop (((k0 + k1) % 5) * 2)).take 2) ((F45 p0).getD k0 0) (sel (decide ((((k0 + k1 : Nat) : Int) : Int) > 4)) (iMul .u64 ((F45 p1).getD k1 0) 19) ((F45 p1).getD k1 0))))), (16, .ints .u64 5 (F45 p1)), (0, .ints .u64 5 (F45 p0)), (32, .ints .u64 5 [0, 0, 0, 0, 0])])
              768 (by kernel_rfl) rfl (by kernel_rfl) (⟨⟨trivial, trivial⟩, ⟨⟨trivial, trivial⟩, ⟨⟨trivial, (iAdd_nat (a := k0) (b := k1) (by omega))⟩, ⟨⟨(by omega), (iRem_nat (a := k0 + k1) (b := 5))⟩, ⟨⟨trivial, trivial⟩, ⟨⟨trivial, trivial⟩, ⟨⟨trivial, (iAdd_nat (a := k0) (b := k1) (by omega))⟩, ⟨⟨(by omega), (iRem_nat (a := k0 + k1) (b := 5))⟩, ⟨⟨(by omega), trivial⟩, ⟨⟨(by omega), trivial⟩, ⟨⟨trivial, trivial⟩, ⟨⟨trivial, trivial⟩, ⟨⟨(by omega), trivial⟩, ⟨⟨(by omega), trivial⟩, ⟨⟨trivial, trivial⟩, ⟨⟨⟨trivial, (pre47 hJ1 (rng45 hlen.1) (rng45 hlen.2.1))⟩, trivial⟩, ⟨⟨(by omega), trivial⟩, ⟨⟨⟨(by omega), (rfl)⟩, trivial⟩, trivial⟩⟩⟩⟩⟩⟩⟩⟩⟩⟩⟩⟩⟩⟩⟩⟩⟩⟩) ?_
          change Tri _ _ _ _ _ _
          refine Tri.region' [(53, .i .i64 ((k1 + 1 : Nat) : Int))] none [23, 6, 20, 5, 4, 3, 2] [144, 16, 0, 32] ((True ∧ ((iAdd .i64 ((k1 : Nat) : Int) 1) = ((k1 + 1 : Nat) : Int))) ∧ ((True ∧ True) ∧ True))
              ([(23, .sc (.i .i64 ((k1 + 1 : Nat) : Int))), (6, .sc (.i .i64 ((k0 : Nat) : Int))), (20, .sc (.i .i64 ((k0 : Nat) : Int))), (5, .sc (.p 144 0)), (4, .sc (.p 32 0)), (3, .sc (.p 16 0)), (2, .sc (.p 0 0))], [(144, .ints .u64 10 (splice z1 (((k0 + k1) % 5) * 2) (F47 ((z1.drop (((k0 + k1) % 5) * 2)).take 2) ((F45 p0).getD k0 0) (sel (decide ((((k0 + k1 : Nat) : Int) : Int) > 4)) (iMul .u64 ((F45 p1).getD k1 0) 19) ((F45 p1).getD k1 0))))), (16, .ints .u64 5 (F45 p1)), (0, .ints .u64 5 (F45 p0)), (32, .ints .u64 5 [0, 0, 0, 0, 0])])
              800 (by kernel_rfl) rfl (by kernel_rfl) (⟨⟨trivial, (iAdd_nat (a := k1) (b := 1) (by omega))⟩, ⟨⟨trivial, trivial⟩, trivial⟩⟩) ?_
          refine countP_normal (by omega) (show rng (F20l1 p0 p1 k0 k1 z1) from rng_splice hJ1 (rng47 (rng_part hJ1 _ _) _ _)) ?_
          exact Sub.ren (ns := [(144, 144), (16, 16), (0, 0), (32, 32)]) (kf := [23, 6, 20, 5, 4, 3, 2]) (by kernel_rfl) (by kernel_rfl)
      ·
        have h2' := of_decide_eq_false h2
        refine Tri.exit ?_
        have hend1 : k1 = 5 := by (have := of_decide_eq_false h2; omega)
        subst hend1; subst hz1
        change Tri _ _ _ _ _ _
        refine Tri.region' [(54, .i .i64 ((k0 + 1 : Nat) : Int))] none [20, 5, 4, 3, 2] [144, 16, 0, 32] ((True ∧ ((iAdd .i64 ((k0 : Nat) : Int) 1) = ((k0 + 1 : Nat) : Int))) ∧ ((True ∧ True) ∧ True))
            ([(20, .sc (.i .i64 ((k0 + 1 : Nat) : Int))), (5, .sc (.p 144 0)), (4, .sc (.p 32 0)), (3, .sc (.p 16 0)), (2, .sc (.p 0 0))], [(144, .ints .u64 10 (itr (F20l1 p0 p1 k0) 5 z0)), (16, .ints .u64 5 (F45 p1)), (0, .ints .u64 5 (F45 p0)), (32, .ints .u64 5 [0, 0, 0, 0, 0])])
            288 (by kernel_rfl) rfl (by kernel_rfl) (⟨⟨trivial, (iAdd_nat (a := k0) (b := 1) (by omega))⟩, ⟨⟨trivial, trivial⟩, trivial⟩⟩) ?_
        refine countP_normal (by omega) hJ1 ?_
        exact Sub.ren (ns := [(144, 144), (16, 16), (0, 0), (32, 32)]) (kf := [20, 5, 4, 3, 2]) (by kernel_rfl) (by kernel_rfl)
    ·
      have h1' := of_decide_eq_false h1
      refine Tri.exit ?_
      have hend0 : k0 = 5 := by (have := of_decide_eq_false h1; omega)
      subst hend0; subst hz0
      change Tri _ _ _ _ _ _
      refine Tri.seq_region [] none [9, 5, 4] [192, 144, 32] ((True ∧ True) ∧ True)
          ([(9, .sc (.p 192 0)), (5, .sc (.p 144 0)), (4, .sc (.p 32 0))], [(192, .ints .u64 5 [0, 0, 0, 0, 0]), (144, .ints .u64 10 (itr (F20l0 p0 p1) 5 [0, 0, 0, 0, 0, 0, 0, 0, 0, 0])), (32, .ints .u64 5 [0, 0, 0, 0, 0])])
          208 (by kernel_rfl) rfl (by kernel_rfl) (⟨⟨trivial, trivial⟩, trivial⟩) ?_
      refine Tri.seq_region [] none [10, 9, 5, 4] [192, 144, 32] ((True ∧ True) ∧ True)
          ([(10, .sc (.i .u64 0)), (9, .sc (.p 192 0)), (5, .sc (.p 144 0)), (4, .sc (.p 32 0))], [(192, .ints .u64 5 [0, 0, 0, 0, 0]), (144, .ints .u64 10 (itr (F20l0 p0 p1) 5 [0, 0, 0, 0, 0, 0, 0, 0, 0, 0])), (32, .ints .u64 5 [0, 0, 0, 0, 0])])
          224 (by kernel_rfl) rfl (by kernel_rfl) (⟨⟨trivial, trivial⟩, trivial⟩) ?_
      refine Tri.seq ?_
      refine Tri.seq_region [] none [56, 55, 10, 9, 4] [192, 32] ((True ∧ True) ∧ ((True ∧ True) ∧ True))
          ([(56, .sc (.i .i64 0)), (55, .ints .u64 10 (itr (F20l0 p0 p1) 5 [0, 0, 0, 0, 0, 0, 0, 0, 0, 0])), (10, .sc (.i .u64 0)), (9, .sc (.p 192 0)), (4, .sc (.p 32 0))], [(192, .ints .u64 5 [0, 0, 0, 0, 0]), (32, .ints .u64 5 [0, 0, 0, 0, 0])])
          256 (by kernel_rfl) rfl (by kernel_rfl) (⟨⟨trivial, trivial⟩, ⟨⟨trivial, trivial⟩, trivial⟩⟩) ?_
      refine Tri.block ?_
      refine Tri.count 256 5 (F20l2 p0 p1) (0, [0, 0, 0, 0, 0]) (fun k2 z2 => 0 ≤ z2.1) (fun k2 z2 => ([(56, .sc (.i .i64 ((k2 : Nat) : Int))), (55, .ints .u64 10 (itr (F20l0 p0 p1) 5 [0, 0, 0, 0, 0, 0, 0, 0, 0, 0])), (10, .sc (.i .u64 z2.1)), (9, .sc (.p 192 0)), (4, .sc (.p 32 0))], [(192, .ints .u64 5 z2.2), (32, .ints .u64 5 [0, 0, 0, 0, 0])])) (Int.le_refl 0) (Sub.of_eq (by kernel_rfl)) ?_
      intro k2 z2 hk2 hz2 hJ2
      refine Tri.seq_region [] none [57, 56, 55, 10, 9, 4] [192, 32] ((True ∧ True) ∧ True)
          ([(57, .sc (.b (decide ((((k2 : Nat) : Int) : Int) < 5)))), (56, .sc (.i .i64 ((k2 : Nat) : Int))), (55, .ints .u64 10 (itr (F20l0 p0 p1) 5 [0, 0, 0, 0, 0, 0, 0, 0, 0, 0])), (10, .sc (.i .u64 z2.1)), (9, .sc (.p 192 0)), (4, .sc (.p 32 0))], [(192, .ints .u64 5 z2.2), (32, .ints .u64 5 [0, 0, 0, 0, 0])])
          272 (by kernel_rfl) rfl (by kernel_rfl) (⟨⟨trivial, trivial⟩, trivial⟩) ?_
      refine Tri.seq ?_
      refine Tri.cond (x := (decide ((((k2 : Nat) : Int) : Int) < 5))) (by kernel_rfl) (fun h4 => ?_) (fun h4 => ?_)
      ·
        have h4' := of_decide_eq_true h4
        refine Tri.skip ?_
        change Tri _ _ _ _ _ _
        refine Tri.seq ?_
        refine Tri.block ?_
        refine Tri.seq_region [] none [11, 12, 56, 55, 10, 9, 4] [304, 192, 32] ((True ∧ True) ∧ (((((0 : Int) ≤ ((k2 : Nat) : Int) ∧ ((k2 : Nat) : Int) < ((5 : Nat) : Int)) ∧ ((k2 * 2) + 2 ≤ 10)) ∧ True) ∧ ((True ∧ True) ∧ ((True ∧ True) ∧ (((True ∧ (2 = 2)) ∧ True) ∧ True)))))
            ([(11, .sc (.i .i64 ((k2 : Nat) : Int))), (12, .sc (.p 304 0)), (56, .sc (.i .i64 ((k2 : Nat) : Int))), (55, .ints .u64 10 (itr (F20l0 p0 p1) 5 [0, 0, 0, 0, 0, 0, 0, 0, 0, 0])), (10, .sc (.i .u64 z2.1)), (9, .sc (.p 192 0)), (4, .sc (.p 32 0))], [(304, .ints .u64 2 (((itr (F20l0 p0 p1) 5 [0, 0, 0, 0, 0, 0, 0, 0, 0, 0]).drop (k2 * 2)).take 2)), (192, .ints .u64 5 z2.2), (32, .ints .u64 5 [0, 0, 0, 0, 0])])
            352 (by kernel_rfl) rfl (by kernel_rfl) (⟨⟨trivial, trivial⟩, ⟨⟨⟨(by omega), (by omega)⟩, trivial⟩, ⟨⟨trivial, trivial⟩, ⟨⟨trivial, trivial⟩, ⟨⟨⟨trivial, (rfl)⟩, trivial⟩, trivial⟩⟩⟩⟩⟩) ?_
        refine Tri.seq_region [] none [14, 13, 11, 12, 56, 55, 9, 4] [304, 192, 32] ((True ∧ True) ∧ (((1 < 2) ∧ True) ∧ ((True ∧ True) ∧ (((True ∧ ((0 : Int) ≤ ((((itr (F20l0 p0 p1) 5 [0, 0, 0, 0, 0, 0, 0, 0, 0, 0]).drop (k2 * 2)).take 2).getD 1 0) ∧ (0 : Int) ≤ z2.1 ∧ (0 : Int) ≤ 0 ∧ (0 : Int) ≤ 1)) ∧ True) ∧ ((True ∧ True) ∧ ((True ∧ True) ∧ ((True ∧ True) ∧ ((True ∧ True) ∧ ((True ∧ True) ∧ True)))))))))
            ([(14, .sc (.i .u64 (add64c ((((itr (F20l0 p0 p1) 5 [0, 0, 0, 0, 0, 0, 0, 0, 0, 0]).drop (k2 * 2)).take 2).getD 1 0) z2.1 0))), (13, .sc (.i .u64 (add64 ((((itr (F20l0 p0 p1) 5 [0, 0, 0, 0, 0, 0, 0, 0, 0, 0]).drop (k2 * 2)).take 2).getD 1 0) z2.1 0))), (11, .sc (.i .i64 ((k2 : Nat) : Int))), (12, .sc (.p 304 0)), (56, .sc (.i .i64 ((k2 : Nat) : Int))), (55, .ints .u64 10 (itr (F20l0 p0 p1) 5 [0, 0, 0, 0, 0, 0, 0, 0, 0, 0])), (9, .sc (.p 192 0)), (4, .sc (.p 32 0))], [(304, .ints .u64 2 (((itr (F20l0 p0 p1) 5 [0, 0, 0, 0, 0, 0, 0, 0, 0, 0]).drop (k2 * 2)).take 2)), (192, .ints .u64 5 z2.2), (32, .ints .u64 5 [0, 0, 0, 0, 0])])
            496 (by kernel_rfl) rfl (by kernel_rfl) (⟨⟨trivial, trivial⟩, ⟨⟨(by omega), trivial⟩, ⟨⟨trivial, trivial⟩, ⟨⟨⟨trivial, (⟨(rng_part hJ0 _ _ 1).1, hJ2, by omega, by omega⟩)⟩, trivial⟩, ⟨⟨trivial, trivial⟩, ⟨⟨trivial, trivial⟩, ⟨⟨trivial, trivial⟩, ⟨⟨trivial, trivial⟩, ⟨⟨trivial, trivial⟩, trivial⟩⟩⟩⟩⟩⟩⟩⟩⟩) ?_
        refine Tri.seq_region [] none [15, 13, 11, 56, 55, 9, 4] [192, 32] ((True ∧ True) ∧ (((0 < 2) ∧ True) ∧ ((True ∧ True) ∧ ((True ∧ True) ∧ ((True ∧ True) ∧ True)))))
            ([(15, .sc (.i .u64 (iAdd .u64 ((((itr (F20l0 p0 p1) 5 [0, 0, 0, 0, 0, 0, 0, 0, 0, 0]).drop (k2 * 2)).take 2).getD 0 0) (add64c ((((itr (F20l0 p0 p1) 5 [0, 0, 0, 0, 0, 0, 0, 0, 0, 0]).drop (k2 * 2)).take 2).getD 1 0) z2.1 0)))), (13, .sc (.i .u64 (add64 ((((itr (F20l0 p0 p1) 5 [0, 0, 0, 0, 0, 0, 0, 0, 0, 0]).drop (k2 * 2)).take 2).getD 1 0) z2.1 0))), (11, .sc (.i .i64 ((k2 : Nat) : Int))), (56, .sc (.i .i64 ((k2 : Nat) : Int))), (55, .ints .u64 10 (itr (F20l0 p0 p1) 5 [0, 0, 0, 0, 0, 0, 0, 0, 0, 0])), (9, .sc (.p 192 0)), (4, .sc (.p 32 0))], [(192, .ints .u64 5 z2.2), (32, .ints .u64 5 [0, 0, 0, 0, 0])])
            576 (by kernel_rfl) rfl (by kernel_rfl) (⟨⟨trivial, trivial⟩, ⟨⟨(by omega), trivial⟩, ⟨⟨trivial, trivial⟩, ⟨⟨trivial, trivial⟩, ⟨⟨trivial, trivial⟩, trivial⟩⟩⟩⟩⟩) ?_
        refine Tri.seq_region [] none [15, 13, 56, 55, 9, 4] [192, 32] ((True ∧ True) ∧ ((True ∧ True) ∧ ((True ∧ True) ∧ ((True ∧ True) ∧ ((((0 : Int) ≤ ((k2 : Nat) : Int) ∧ ((k2 : Nat) : Int) < ((5 : Nat) : Int)) ∧ True) ∧ ((((k2 < 5) ∧ (1 = 1)) ∧ True) ∧ True))))))
            ([(15, .sc (.i .u64 (iAdd .u64 ((((itr (F20l0 p0 p1) 5 [0, 0, 0, 0, 0, 0, 0, 0, 0, 0]).drop (k2 * 2)).take 2).getD 0 0) (add64c ((((itr (F20l0 p0 p1) 5 [0, 0, 0, 0, 0, 0, 0, 0, 0, 0]).drop (k2 * 2)).take 2).getD 1 0) z2.1 0)))), (13, .sc (.i .u64 (add64 ((((itr (F20l0 p0 p1) 5 [0, 0, 0, 0, 0, 0, 0, 0, 0, 0]).drop (k2 * 2)).take 2).getD 1 0) z2.1 0))), (56, .sc (.i .i64 ((k2 : Nat) : Int))), (55, .ints .u64 10 (itr (F20l0 p0 p1) 5 [0, 0, 0, 0, 0, 0, 0, 0, 0, 0])), (9, .sc (.p 192 0)), (4, .sc (.p 32 0))], [(192, .ints .u64 5 (z2.2.set k2 (iAnd .u64 (add64 ((((itr (F20l0 p0 p1) 5 [0, 0, 0, 0, 0, 0, 0, 0, 0, 0]).drop (k2 * 2)).take 2).getD 1 0) z2.1 0) 2251799813685247))), (32, .ints .u64 5 [0, 0, 0, 0, 0])])
            672 (by kernel_rfl) rfl (by kernel_rfl) (⟨⟨trivial, trivial⟩, ⟨⟨trivial, trivial⟩, ⟨⟨trivial, trivial⟩, ⟨⟨trivial, trivial⟩, ⟨⟨(by omega), trivial⟩, ⟨⟨⟨(by omega), (rfl)⟩, trivial⟩, trivial⟩⟩⟩⟩⟩⟩) ?_
        refine Tri.region' [] none [10, 56, 55, 9, 4] [192, 32] ((True ∧ True) ∧ ((((0 : Int) ≤ 13) ∧ True) ∧ ((True ∧ True) ∧ ((((0 : Int) ≤ 51) ∧ True) ∧ ((True ∧ True) ∧ ((True ∧ True) ∧ True))))))
            ([(10, .sc (.i .u64 (iOr .u64 (iShl .u64 (iAdd .u64 ((((itr (F20l0 p0 p1) 5 [0, 0, 0, 0, 0, 0, 0, 0, 0, 0]).drop (k2 * 2)).take 2).getD 0 0) (add64c ((((itr (F20l0 p0 p1) 5 [0, 0, 0, 0, 0, 0, 0, 0, 0, 0]).drop (k2 * 2)).take 2).getD 1 0) z2.1 0)) 13) (iShr .u64 (add64 ((((itr (F20l0 p0 p1) 5 [0, 0, 0, 0, 0, 0, 0, 0, 0, 0]).drop (k2 * 2)).take 2).getD 1 0) z2.1 0) 51)))), (56, .sc (.i .i64 ((k2 : Nat) : Int))), (55, .ints .u64 10 (itr (F20l0 p0 p1) 5 [0, 0, 0, 0, 0, 0, 0, 0, 0, 0])), (9, .sc (.p 192 0)), (4, .sc (.p 32 0))], [(192, .ints .u64 5 (z2.2.set k2 (iAnd .u64 (add64 ((((itr (F20l0 p0 p1) 5 [0, 0, 0, 0, 0, 0, 0, 0, 0, 0]).drop (k2 * 2)).take 2).getD 1 0) z2.1 0) 2251799813685247))), (32, .ints .u64 5 [0, 0, 0, 0, 0])])
            768 (by kernel_rfl) rfl (by kernel_rfl) (⟨⟨trivial, trivial⟩, ⟨⟨(by omega), trivial⟩, ⟨⟨trivial, trivial⟩, ⟨⟨(by omega), trivial⟩, ⟨⟨trivial, trivial⟩, ⟨⟨trivial, trivial⟩, trivial⟩⟩⟩⟩⟩⟩) ?_
        change Tri _ _ _ _ _ _
        refine Tri.region' [(81, .i .i64 ((k2 + 1 : Nat) : Int))] none [56, 10, 55, 9, 4] [192, 32] ((True ∧ ((iAdd .i64 ((k2 : Nat) : Int) 1) = ((k2 + 1 : Nat) : Int))) ∧ ((True ∧ True) ∧ True))
            ([(56, .sc (.i .i64 ((k2 + 1 : Nat) : Int))), (10, .sc (.i .u64 (iOr .u64 (iShl .u64 (iAdd .u64 ((((itr (F20l0 p0 p1) 5 [0, 0, 0, 0, 0, 0, 0, 0, 0, 0]).drop (k2 * 2)).take 2).getD 0 0) (add64c ((((itr (F20l0 p0 p1) 5 [0, 0, 0, 0, 0, 0, 0, 0, 0, 0]).drop (k2 * 2)).take 2).getD 1 0) z2.1 0)) 13) (iShr .u64 (add64 ((((itr (F20l0 p0 p1) 5 [0, 0, 0, 0, 0, 0, 0, 0, 0, 0]).drop (k2 * 2)).take 2).getD 1 0) z2.1 0) 51)))), (55, .ints .u64 10 (itr (F20l0 p0 p1) 5 [0, 0, 0, 0, 0, 0, 0, 0, 0, 0])), (9, .sc (.p 192 0)), (4, .sc (.p 32 0))], [(192, .ints .u64 5 (z2.2.set k2 (iAnd .u64 (add64 ((((itr (F20l0 p0 p1) 5 [0, 0, 0, 0, 0, 0, 0, 0, 0, 0]).drop (k2 * 2)).take 2).getD 1 0) z2.1 0) 2251799813685247))), (32, .ints .u64 5 [0, 0, 0, 0, 0])])
            800 (by kernel_rfl) rfl (by kernel_rfl) (⟨⟨trivial, (iAdd_nat (a := k2) (b := 1) (by omega))⟩, ⟨⟨trivial, trivial⟩, trivial⟩⟩) ?_
        refine countP_normal (by omega) (show 0 ≤ IntKind.wrap .u64 _ from (wrap64_rng _).1) ?_
        exact Sub.ren (ns := [(192, 192), (32, 32)]) (kf := [56, 55, 10, 9, 4]) (by kernel_rfl) (by kernel_rfl)
      ·
        have h4' := of_decide_eq_false h4
        refine Tri.exit ?_
        have hend2 : k2 = 5 := by (have := of_decide_eq_false h4; omega)
        subst hend2; subst hz2
        change Tri _ _ _ _ _ _
        refine Tri.seq_region [] none [9, 4] [192, 32] ((True ∧ True) ∧ ((((0 : Int) ≤ 0 ∧ 0 < ((5 : Nat) : Int)) ∧ True) ∧ (((0 < 5) ∧ True) ∧ ((True ∧ True) ∧ ((True ∧ True) ∧ ((True ∧ True) ∧ ((True ∧ True) ∧ ((((0 : Int) ≤ 0 ∧ 0 < ((5 : Nat) : Int)) ∧ True) ∧ ((((0 < 5) ∧ (1 = 1)) ∧ True) ∧ True)))))))))
            ([(9, .sc (.p 192 0)), (4, .sc (.p 32 0))], [(192, .ints .u64 5 (((itr (F20l2 p0 p1) 5 (0, [0, 0, 0, 0, 0])).2).set 0 (iAdd .u64 (((itr (F20l2 p0 p1) 5 (0, [0, 0, 0, 0, 0])).2).getD 0 0) (iMul .u64 19 ((itr (F20l2 p0 p1) 5 (0, [0, 0, 0, 0, 0])).1))))), (32, .ints .u64 5 [0, 0, 0, 0, 0])])
            416 (by kernel_rfl) rfl (by kernel_rfl) (⟨⟨trivial, trivial⟩, ⟨⟨(by omega), trivial⟩, ⟨⟨(by omega), trivial⟩, ⟨⟨trivial, trivial⟩, ⟨⟨trivial, trivial⟩, ⟨⟨trivial, trivial⟩, ⟨⟨trivial, trivial⟩, ⟨⟨(by omega), trivial⟩, ⟨⟨⟨(by omega), (rfl)⟩, trivial⟩, trivial⟩⟩⟩⟩⟩⟩⟩⟩⟩) ?_
        refine Tri.seq_region [] none [4] [32] ((True ∧ True) ∧ (((True ∧ True) ∧ True) ∧ (((True ∧ (5 = 5)) ∧ True) ∧ True)))
            ([(4, .sc (.p 32 0))], [(32, .ints .u64 5 (F45 (((itr (F20l2 p0 p1) 5 (0, [0, 0, 0, 0, 0])).2).set 0 (iAdd .u64 (((itr (F20l2 p0 p1) 5 (0, [0, 0, 0, 0, 0])).2).getD 0 0) (iMul .u64 19 ((itr (F20l2 p0 p1) 5 (0, [0, 0, 0, 0, 0])).1))))))])
            464 (by kernel_rfl) rfl (by kernel_rfl) (⟨⟨trivial, trivial⟩, ⟨⟨⟨trivial, trivial⟩, trivial⟩, ⟨⟨⟨trivial, (rfl)⟩, trivial⟩, trivial⟩⟩⟩) ?_
        refine Tri.ret ?_
        exact endP.ret [] (True ∧ True) (by kernel_rfl) (by kernel_rfl) (by kernel_rfl) ⟨trivial, trivial⟩


noncomputable def F30 (p0 : Int) : List Int :=
  [(IntKind.wrap .u64 p0), 0, 0, 0, 0]

noncomputable def S30 : List AV → Option (Prop × Ret)
  | [.sc (.i .u32 p0)] => some (True, ⟨.ints .u64 5 (F30 p0), []⟩)
  | _ => none

noncomputable def B30 : Bs := { P := Go.Proofs.Try.prog, G := noG, tab := tabOf [], n := 7 }

theorem B30.ok : B30.Ok := ⟨tabOk (P := Go.Proofs.Try.prog) (G := noG) (l := []) True.intro, mixed⟩

theorem K30 : Known Go.Proofs.Try.prog noG 30 ⟨[.val], 0, S30⟩ := by
  refine Known.walk (B := B30) (fn := Go.Proofs.Try.f30) B30.ok (by kernel_rfl) rfl (by kernel_rfl) (by kernel_rfl) (by decide) ?_ ?_
  · intro vs C r h
    simp only at h
    unfold S30 at h
    split at h
    · cases h; rfl
    · cases h
  · intro E args C r h hC hlen
    simp only at h
    unfold S30 at h
    split at h
    rotate_left
    · cases h
    rename_i p0
    cases h
    simp only [lens] at hlen
    refine ⟨show 1 ≤ 7 from by decide, ?_⟩
    refine Tri.sub (Sub.of_eq (show _ = ([(0, .sc (.i .u32 p0))], []) from rfl)) ?_
    refine Tri.seq_region [] none [2, 0] [0] ((True ∧ True) ∧ True)
        ([(2, .sc (.p 0 0)), (0, .sc (.i .u32 p0))], [(0, .ints .u64 5 [0, 0, 0, 0, 0])])
        16 (by kernel_rfl) rfl (by kernel_rfl) (⟨⟨trivial, trivial⟩, trivial⟩) ?_
    refine Tri.seq_region [] none [2] [0] ((True ∧ True) ∧ ((True ∧ True) ∧ (((((0 < 5) ∧ (1 = 1)) ∧ True) ∧ True) ∧ ((((True ∧ (5 = 5)) ∧ True) ∧ True) ∧ (((True ∧ (5 = 5)) ∧ True) ∧ True)))))
        ([(2, .sc (.p 0 0))], [(0, .ints .u64 5 [(IntKind.wrap .u64 p0), 0, 0, 0, 0])])
        96 (by kernel_rfl) rfl (by kernel_rfl) (⟨⟨trivial, trivial⟩, ⟨⟨trivial, trivial⟩, ⟨⟨⟨⟨(by omega), (rfl)⟩, trivial⟩, trivial⟩, ⟨⟨⟨⟨trivial, (rfl)⟩, trivial⟩, trivial⟩, ⟨⟨⟨trivial, (rfl)⟩, trivial⟩, trivial⟩⟩⟩⟩⟩) ?_
    refine Tri.ret ?_
    exact endP.ret [] (True ∧ True) (by kernel_rfl) (by kernel_rfl) (by kernel_rfl) ⟨trivial, trivial⟩


noncomputable def F50l0 (k0 : Nat) (z0 : List Int) : List Int :=
  z0.set k0 255

noncomputable def F50 (p0 : Int) (p1 : Int) : List Int :=
  ((itr (F50l0) 32 (List.replicate 32 0)).set 0 (iSub .u8 0 p1)).set 31 (iSub .u8 (iShl .u8 1 (iSub .i64 p0 248)) 1)

noncomputable def S50 : List AV → Option (Prop × Ret)
  | [.sc (.i .i64 p0), .sc (.i .u8 p1)] => some ((248 : Int) ≤ p0 ∧ p0 ≤ (255 : Int), ⟨.sc (.sl 0 0 32 1 none), [.ints .u8 32 (F50 p0 p1)]⟩)
  | _ => none

noncomputable def B50 : Bs := { P := Go.Proofs.Try.prog, G := noG, tab := tabOf [], n := 28 }

theorem B50.ok : B50.Ok := ⟨tabOk (P := Go.Proofs.Try.prog) (G := noG) (l := []) True.intro, mixed⟩

theorem K50 : Known Go.Proofs.Try.prog noG 50 ⟨[.val, .val], 1, S50⟩ := by
  refine Known.walk (B := B50) (fn := Go.Proofs.Try.f50) B50.ok (by kernel_rfl) rfl (by kernel_rfl) (by kernel_rfl) (by decide) ?_ ?_
  · intro vs C r h
    simp only at h
    unfold S50 at h
    split at h
    · cases h; rfl
    · cases h
  · intro E args C r h hC hlen
    simp only at h
    unfold S50 at h
    split at h
    rotate_left
    · cases h
    rename_i p0 p1
    cases h
    simp only [lens] at hlen
    refine ⟨show 2 ≤ 28 from by decide, ?_⟩
    refine Tri.sub (Sub.of_eq (show _ = ([(0, .sc (.i .i64 p0)), (1, .sc (.i .u8 p1))], []) from rfl)) ?_
    refine Tri.seq_region [] none [0, 1] [] ((True ∧ True) ∧ True)
        ([(0, .sc (.i .i64 p0)), (1, .sc (.i .u8 p1))], [])
        16 (by kernel_rfl) rfl (by kernel_rfl) (⟨⟨trivial, trivial⟩, trivial⟩) ?_
    refine Tri.seq_region [] none [5, 0, 1] [16] (((((0 : Int) ≤ 32 ∧ (32 : Int) = 32) ∧ ((32 ≤ (140737488355328 : Int)) ∧ (((1 : Nat) : Int) * 32 ≤ 281474976710656))) ∧ True) ∧ ((True ∧ True) ∧ True))
        ([(5, .sc (.sl 16 0 32 1 none)), (0, .sc (.i .i64 p0)), (1, .sc (.i .u8 p1))], [(16, .ints .u8 32 (List.replicate 32 0))])
        48 (by kernel_rfl) rfl (by kernel_rfl) (⟨⟨⟨(by omega), ⟨(by omega), (by omega)⟩⟩, trivial⟩, ⟨⟨trivial, trivial⟩, trivial⟩⟩) ?_
    refine Tri.seq ?_
    refine Tri.seq_region [] none [10, 9, 5, 0, 1] [16] ((True ∧ True) ∧ ((True ∧ True) ∧ ((True ∧ True) ∧ True)))
        ([(10, .sc (.i .i64 0)), (9, .sc (.i .i64 32)), (5, .sc (.sl 16 0 32 1 none)), (0, .sc (.i .i64 p0)), (1, .sc (.i .u8 p1))], [(16, .ints .u8 32 (List.replicate 32 0))])
        96 (by kernel_rfl) rfl (by kernel_rfl) (⟨⟨trivial, trivial⟩, ⟨⟨trivial, trivial⟩, ⟨⟨trivial, trivial⟩, trivial⟩⟩⟩) ?_
    refine Tri.block ?_
    refine Tri.count 96 32 (F50l0) (List.replicate 32 0) (fun k0 z0 => True) (fun k0 z0 => ([(10, .sc (.i .i64 ((k0 : Nat) : Int))), (9, .sc (.i .i64 32)), (5, .sc (.sl 16 0 32 1 none)), (0, .sc (.i .i64 p0)), (1, .sc (.i .u8 p1))], [(16, .ints .u8 32 z0)])) trivial (Sub.of_eq (by kernel_rfl)) ?_
    intro k0 z0 hk0 hz0 hJ0
    refine Tri.seq_region [] none [11, 10, 9, 5, 0, 1] [16] ((True ∧ True) ∧ True)
        ([(11, .sc (.b (decide ((((k0 : Nat) : Int) : Int) < 32)))), (10, .sc (.i .i64 ((k0 : Nat) : Int))), (9, .sc (.i .i64 32)), (5, .sc (.sl 16 0 32 1 none)), (0, .sc (.i .i64 p0)), (1, .sc (.i .u8 p1))], [(16, .ints .u8 32 z0)])
        112 (by kernel_rfl) rfl (by kernel_rfl) (⟨⟨trivial, trivial⟩, trivial⟩) ?_
    refine Tri.seq ?_
    refine Tri.cond (x := (decide ((((k0 : Nat) : Int) : Int) < 32))) (by kernel_rfl) (fun h1 => ?_) (fun h1 => ?_)
    ·
      have h1' := of_decide_eq_true h1
      refine Tri.skip ?_
      change Tri _ _ _ _ _ _
      refine Tri.seq ?_
      refine Tri.block ?_
      refine Tri.seq_region [] none [6, 10, 9, 5, 0, 1] [16] ((True ∧ True) ∧ ((True ∧ True) ∧ True))
          ([(6, .sc (.i .i64 ((k0 : Nat) : Int))), (10, .sc (.i .i64 ((k0 : Nat) : Int))), (9, .sc (.i .i64 32)), (5, .sc (.sl 16 0 32 1 none)), (0, .sc (.i .i64 p0)), (1, .sc (.i .u8 p1))], [(16, .ints .u8 32 z0)])
          144 (by kernel_rfl) rfl (by kernel_rfl) (⟨⟨trivial, trivial⟩, ⟨⟨trivial, trivial⟩, trivial⟩⟩) ?_
      refine Tri.region' [] none [10, 9, 5, 0, 1] [16] ((True ∧ True) ∧ ((True ∧ True) ∧ ((((0 : Int) ≤ ((k0 : Nat) : Int) ∧ ((k0 : Nat) : Int) < ((32 : Nat) : Int)) ∧ True) ∧ ((((k0 < 32) ∧ (1 = 1)) ∧ True) ∧ True))))
          ([(10, .sc (.i .i64 ((k0 : Nat) : Int))), (9, .sc (.i .i64 32)), (5, .sc (.sl 16 0 32 1 none)), (0, .sc (.i .i64 p0)), (1, .sc (.i .u8 p1))], [(16, .ints .u8 32 (z0.set k0 255))])
          208 (by kernel_rfl) rfl (by kernel_rfl) (⟨⟨trivial, trivial⟩, ⟨⟨trivial, trivial⟩, ⟨⟨(by omega), trivial⟩, ⟨⟨⟨(by omega), (rfl)⟩, trivial⟩, trivial⟩⟩⟩⟩) ?_
      change Tri _ _ _ _ _ _
      refine Tri.region' [(16, .i .i64 ((k0 + 1 : Nat) : Int))] none [10, 9, 5, 0, 1] [16] ((True ∧ ((iAdd .i64 ((k0 : Nat) : Int) 1) = ((k0 + 1 : Nat) : Int))) ∧ ((True ∧ True) ∧ True))
          ([(10, .sc (.i .i64 ((k0 + 1 : Nat) : Int))), (9, .sc (.i .i64 32)), (5, .sc (.sl 16 0 32 1 none)), (0, .sc (.i .i64 p0)), (1, .sc (.i .u8 p1))], [(16, .ints .u8 32 (z0.set k0 255))])
          240 (by kernel_rfl) rfl (by kernel_rfl) (⟨⟨trivial, (iAdd_nat (a := k0) (b := 1) (by omega))⟩, ⟨⟨trivial, trivial⟩, trivial⟩⟩) ?_
      refine countP_normal (by omega) trivial ?_
      exact Sub.ren (ns := [(16, 16)]) (kf := [10, 9, 5, 0, 1]) (by kernel_rfl) (by kernel_rfl)
    ·
      have h1' := of_decide_eq_false h1
      refine Tri.exit ?_
      have hend0 : k0 = 32 := by (have := of_decide_eq_false h1; omega)
      subst hend0; subst hz0
      change Tri _ _ _ _ _ _
      refine Tri.seq_region [] none [5, 0] [16] ((True ∧ True) ∧ ((True ∧ True) ∧ ((True ∧ True) ∧ ((((0 : Int) ≤ 0 ∧ 0 < ((32 : Nat) : Int)) ∧ True) ∧ ((((0 < 32) ∧ (1 = 1)) ∧ True) ∧ True)))))
          ([(5, .sc (.sl 16 0 32 1 none)), (0, .sc (.i .i64 p0))], [(16, .ints .u8 32 ((itr (F50l0) 32 (List.replicate 32 0)).set 0 (iSub .u8 0 p1)))])
          192 (by kernel_rfl) rfl (by kernel_rfl) (⟨⟨trivial, trivial⟩, ⟨⟨trivial, trivial⟩, ⟨⟨trivial, trivial⟩, ⟨⟨(by omega), trivial⟩, ⟨⟨⟨(by omega), (rfl)⟩, trivial⟩, trivial⟩⟩⟩⟩⟩) ?_
      refine Tri.seq_region [] none [5] [16] ((True ∧ True) ∧ ((True ∧ True) ∧ ((True ∧ True) ∧ ((((0 : Int) ≤ (iSub .i64 p0 248)) ∧ True) ∧ ((True ∧ True) ∧ ((((0 : Int) ≤ 31 ∧ 31 < ((32 : Nat) : Int)) ∧ True) ∧ ((((31 < 32) ∧ (1 = 1)) ∧ True) ∧ True)))))))
          ([(5, .sc (.sl 16 0 32 1 none))], [(16, .ints .u8 32 (((itr (F50l0) 32 (List.replicate 32 0)).set 0 (iSub .u8 0 p1)).set 31 (iSub .u8 (iShl .u8 1 (iSub .i64 p0 248)) 1)))])
          304 (by kernel_rfl) rfl (by kernel_rfl) (⟨⟨trivial, trivial⟩, ⟨⟨trivial, trivial⟩, ⟨⟨trivial, trivial⟩, ⟨⟨(by first | omega | (unfold iSub; rw [wrap_small (by omega) (by omega)]; omega)), trivial⟩, ⟨⟨trivial, trivial⟩, ⟨⟨(by omega), trivial⟩, ⟨⟨⟨(by omega), (rfl)⟩, trivial⟩, trivial⟩⟩⟩⟩⟩⟩⟩) ?_
      refine Tri.seq_region [] none [4] [16] ((True ∧ True) ∧ ((True ∧ True) ∧ True))
          ([(4, .sc (.sl 16 0 32 1 none))], [(16, .ints .u8 32 (((itr (F50l0) 32 (List.replicate 32 0)).set 0 (iSub .u8 0 p1)).set 31 (iSub .u8 (iShl .u8 1 (iSub .i64 p0 248)) 1)))])
          336 (by kernel_rfl) rfl (by kernel_rfl) (⟨⟨trivial, trivial⟩, ⟨⟨trivial, trivial⟩, trivial⟩⟩) ?_
      refine Tri.ret ?_
      exact endP.ret [(16, 0)] (True ∧ True) (by kernel_rfl) (by kernel_rfl) (by kernel_rfl) ⟨trivial, trivial⟩


theorem len50 (a b : Int) : (F50 a b).length = 32 := by
  have h : ∀ (n : Nat) (z : List Int), z.length = 32 → (itr F50l0 n z).length = 32 := by
    intro n z hz
    induction n with
    | zero => rw [itr_zero]; exact hz
    | succ n ih => rw [itr_succ]; show (List.set _ _ _).length = 32; rw [List.length_set]; exact ih
  unfold F50
  simp [h]


noncomputable def F26l0 (p0 : List Int) (p1 : List Int) (k0 : Nat) (z0 : List Int) : List Int :=
  (sel (((iAnd .u8 (iShr .u8 (p1.getD (((8 * p1.length) - 1 - k0) / 8) 0) ((((8 * p1.length) - 1 - k0) % 8 : Nat) : Int)) 1) : Int) == 1) (F20 (F20 z0 z0) p0) (F20 z0 z0))

noncomputable def F26 (p0 : List Int) (p1 : List Int) : List Int :=
  (itr (F26l0 p0 p1) (8 * p1.length) (F30 1))

noncomputable def S26 : List AV → Option (Prop × Ret)
  | [.ints .u64 5 p0, .sc (.ro .u8 p1)] => some (p1.length ≤ 1000000, ⟨.ints .u64 5 (F26 p0 p1), []⟩)
  | _ => none

noncomputable def B26 : Bs := { P := Go.Proofs.Try.prog, G := noG, tab := tabOf [(20, ⟨[.val, .val], 0, S20⟩), (30, ⟨[.val], 0, S30⟩)], n := 33 }

theorem B26.ok : B26.Ok := ⟨tabOk (P := Go.Proofs.Try.prog) (G := noG) (l := [(20, ⟨[.val, .val], 0, S20⟩), (30, ⟨[.val], 0, S30⟩)]) (And.intro K20 (And.intro K30 True.intro)), mixed⟩

theorem K26 : Known Go.Proofs.Try.prog noG 26 ⟨[.val, .ro .u8], 0, S26⟩ := by
  refine Known.walk (B := B26) (fn := Go.Proofs.Try.f26) B26.ok (by kernel_rfl) rfl (by kernel_rfl) (by kernel_rfl) (by decide) ?_ ?_
  · intro vs C r h
    simp only at h
    unfold S26 at h
    split at h
    · cases h; rfl
    · cases h
  · intro E args C r h hC hlen
    simp only at h
    unfold S26 at h
    split at h
    rotate_left
    · cases h
    rename_i p0 p1
    cases h
    simp only [lens] at hlen
    refine ⟨show 2 ≤ 33 from by decide, ?_⟩
    refine Tri.sub (Sub.of_eq (show _ = ([(0, .ints .u64 5 p0), (1, .sc (.ro .u8 p1))], []) from rfl)) ?_
    refine Tri.seq_region [] none [4, 2, 1] [16, 0] ((True ∧ True) ∧ ((True ∧ True) ∧ True))
        ([(4, .sc (.p 16 0)), (2, .sc (.p 0 0)), (1, .sc (.ro .u8 p1))], [(16, .ints .u64 5 [0, 0, 0, 0, 0]), (0, .ints .u64 5 p0)])
        32 (by kernel_rfl) rfl (by kernel_rfl) (⟨⟨trivial, trivial⟩, ⟨⟨trivial, trivial⟩, trivial⟩⟩) ?_
    refine Tri.seq_region [] none [5, 4, 2, 1] [48, 16, 0] (((True ∧ True) ∧ True) ∧ ((True ∧ True) ∧ (((True ∧ (5 = 5)) ∧ True) ∧ True)))
        ([(5, .sc (.p 48 0)), (4, .sc (.p 16 0)), (2, .sc (.p 0 0)), (1, .sc (.ro .u8 p1))], [(48, .ints .u64 5 (F30 1)), (16, .ints .u64 5 [0, 0, 0, 0, 0]), (0, .ints .u64 5 p0)])
        80 (by kernel_rfl) rfl (by kernel_rfl) (⟨⟨⟨trivial, trivial⟩, trivial⟩, ⟨⟨trivial, trivial⟩, ⟨⟨⟨trivial, (rfl)⟩, trivial⟩, trivial⟩⟩⟩) ?_
    refine Tri.seq ?_
    refine Tri.seq_region [(10, .i .i64 ((8 * p1.length : Nat) : Int)), (11, .i .i64 (((8 * p1.length : Nat) : Int) - 1 - ((0 : Nat) : Int)))] none [6, 5, 4, 2, 1] [48, 16, 0] ((True ∧ True) ∧ ((True ∧ True) ∧ ((True ∧ ((iMul .i64 8 ((p1.length : Nat) : Int)) = ((8 * p1.length : Nat) : Int))) ∧ ((True ∧ ((iSub .i64 ((8 * p1.length : Nat) : Int) 1) = (((8 * p1.length : Nat) : Int) - 1 - ((0 : Nat) : Int)))) ∧ ((True ∧ True) ∧ True)))))
        ([(6, .sc (.i .i64 (((8 * p1.length : Nat) : Int) - 1 - ((0 : Nat) : Int)))), (5, .sc (.p 48 0)), (4, .sc (.p 16 0)), (2, .sc (.p 0 0)), (1, .sc (.ro .u8 p1))], [(48, .ints .u64 5 (F30 1)), (16, .ints .u64 5 [0, 0, 0, 0, 0]), (0, .ints .u64 5 p0)])
        160 (by kernel_rfl) rfl (by kernel_rfl) (⟨⟨trivial, trivial⟩, ⟨⟨trivial, trivial⟩, ⟨⟨trivial, (iMul_nat (a := 8) (b := p1.length) (by omega))⟩, ⟨⟨trivial, (iSub_dn0 (by omega))⟩, ⟨⟨trivial, trivial⟩, trivial⟩⟩⟩⟩⟩) ?_
    refine Tri.block ?_
    refine Tri.count 160 (8 * p1.length) (F26l0 p0 p1) (F30 1) (fun k0 z0 => True) (fun k0 z0 => ([(6, .sc (.i .i64 (((8 * p1.length : Nat) : Int) - 1 - ((k0 : Nat) : Int)))), (5, .sc (.p 48 0)), (4, .sc (.p 16 0)), (2, .sc (.p 0 0)), (1, .sc (.ro .u8 p1))], [(48, .ints .u64 5 z0), (16, .ints .u64 5 [0, 0, 0, 0, 0]), (0, .ints .u64 5 p0)])) trivial (Sub.of_eq (by kernel_rfl)) ?_
    intro k0 z0 hk0 hz0 hJ0
    refine Tri.seq ?_
    refine Tri.seq_region [] none [13, 6, 5, 4, 2, 1] [48, 16, 0] ((True ∧ True) ∧ ((True ∧ True) ∧ True))
        ([(13, .sc (.b (decide (((((8 * p1.length : Nat) : Int) - 1 - ((k0 : Nat) : Int)) : Int) ≥ 0)))), (6, .sc (.i .i64 (((8 * p1.length : Nat) : Int) - 1 - ((k0 : Nat) : Int)))), (5, .sc (.p 48 0)), (4, .sc (.p 16 0)), (2, .sc (.p 0 0)), (1, .sc (.ro .u8 p1))], [(48, .ints .u64 5 z0), (16, .ints .u64 5 [0, 0, 0, 0, 0]), (0, .ints .u64 5 p0)])
        192 (by kernel_rfl) rfl (by kernel_rfl) (⟨⟨trivial, trivial⟩, ⟨⟨trivial, trivial⟩, trivial⟩⟩) ?_
    refine Tri.cond (x := (decide (((((8 * p1.length : Nat) : Int) - 1 - ((k0 : Nat) : Int)) : Int) ≥ 0))) (by kernel_rfl) (fun h1 => ?_) (fun h1 => ?_)
    ·
      have h1' := of_decide_eq_true h1
      refine Tri.skip ?_
      change Tri _ _ _ _ _ _
      refine Tri.seq ?_
      refine Tri.block ?_
      refine Tri.seq_region [] none [6, 5, 4, 2, 1] [48, 16, 0] ((True ∧ True) ∧ ((True ∧ True) ∧ (((True ∧ True) ∧ True) ∧ (((True ∧ (5 = 5)) ∧ True) ∧ True))))
          ([(6, .sc (.i .i64 (((8 * p1.length : Nat) : Int) - 1 - ((k0 : Nat) : Int)))), (5, .sc (.p 48 0)), (4, .sc (.p 16 0)), (2, .sc (.p 0 0)), (1, .sc (.ro .u8 p1))], [(48, .ints .u64 5 (F20 z0 z0)), (16, .ints .u64 5 [0, 0, 0, 0, 0]), (0, .ints .u64 5 p0)])
          256 (by kernel_rfl) rfl (by kernel_rfl) (⟨⟨trivial, trivial⟩, ⟨⟨trivial, trivial⟩, ⟨⟨⟨trivial, trivial⟩, trivial⟩, ⟨⟨⟨trivial, (rfl)⟩, trivial⟩, trivial⟩⟩⟩⟩) ?_
      refine Tri.seq_region [(21, .i .i64 ((((8 * p1.length) - 1 - k0) / 8 : Nat) : Int)), (25, .i .i64 ((((8 * p1.length) - 1 - k0) % 8 : Nat) : Int))] none [28, 6, 5, 4, 2, 1] [48, 16, 0] ((True ∧ True) ∧ ((True ∧ True) ∧ (((8 ≠ (0 : Int)) ∧ ((iQuo .i64 (((8 * p1.length : Nat) : Int) - 1 - ((k0 : Nat) : Int)) 8) = ((((8 * p1.length) - 1 - k0) / 8 : Nat) : Int))) ∧ ((((0 : Int) ≤ ((((8 * p1.length) - 1 - k0) / 8 : Nat) : Int) ∧ ((((8 * p1.length) - 1 - k0) / 8 : Nat) : Int) < (p1.length : Int)) ∧ True) ∧ (((((8 * p1.length) - 1 - k0) / 8 < p1.length) ∧ True) ∧ ((True ∧ True) ∧ (((8 ≠ (0 : Int)) ∧ ((iRem (((8 * p1.length : Nat) : Int) - 1 - ((k0 : Nat) : Int)) 8) = ((((8 * p1.length) - 1 - k0) % 8 : Nat) : Int))) ∧ ((((0 : Int) ≤ ((((8 * p1.length) - 1 - k0) % 8 : Nat) : Int)) ∧ True) ∧ ((True ∧ True) ∧ ((True ∧ True) ∧ True))))))))))
          ([(28, .sc (.b (((iAnd .u8 (iShr .u8 (p1.getD (((8 * p1.length) - 1 - k0) / 8) 0) ((((8 * p1.length) - 1 - k0) % 8 : Nat) : Int)) 1) : Int) == 1))), (6, .sc (.i .i64 (((8 * p1.length : Nat) : Int) - 1 - ((k0 : Nat) : Int)))), (5, .sc (.p 48 0)), (4, .sc (.p 16 0)), (2, .sc (.p 0 0)), (1, .sc (.ro .u8 p1))], [(48, .ints .u64 5 (F20 z0 z0)), (16, .ints .u64 5 [0, 0, 0, 0, 0]), (0, .ints .u64 5 p0)])
          416 (by kernel_rfl) rfl (by kernel_rfl) (⟨⟨trivial, trivial⟩, ⟨⟨trivial, trivial⟩, ⟨⟨(by omega), (by rw [dn_nat (by omega)]; exact iQuo_nat (b := 8) (by omega))⟩, ⟨⟨(by omega), trivial⟩, ⟨⟨(by omega), trivial⟩, ⟨⟨trivial, trivial⟩, ⟨⟨(by omega), (by rw [dn_nat (by omega)]; exact iRem_nat (b := 8))⟩, ⟨⟨(by omega), trivial⟩, ⟨⟨trivial, trivial⟩, ⟨⟨trivial, trivial⟩, trivial⟩⟩⟩⟩⟩⟩⟩⟩⟩⟩) ?_
      refine Tri.join (x := (((iAnd .u8 (iShr .u8 (p1.getD (((8 * p1.length) - 1 - k0) / 8) 0) ((((8 * p1.length) - 1 - k0) % 8 : Nat) : Int)) 1) : Int) == 1)) (fun bb => ([(6, .sc (.i .i64 (((8 * p1.length : Nat) : Int) - 1 - ((k0 : Nat) : Int)))), (5, .sc (.p 48 0)), (4, .sc (.p 16 0)), (2, .sc (.p 0 0)), (1, .sc (.ro .u8 p1))], [(48, .ints .u64 5 (sel bb (F20 (F20 z0 z0) p0) (F20 z0 z0))), (16, .ints .u64 5 [0, 0, 0, 0, 0]), (0, .ints .u64 5 p0)])) 480 (by kernel_rfl) (fun h2 => ?_) (fun h2 => ?_) ?_
      ·
        have h2' := eq_true_i h2
        refine Tri.region' [] none [6, 5, 4, 2, 1] [48, 16, 0] ((True ∧ True) ∧ ((True ∧ True) ∧ (((True ∧ True) ∧ True) ∧ (((True ∧ (5 = 5)) ∧ True) ∧ True))))
            ([(6, .sc (.i .i64 (((8 * p1.length : Nat) : Int) - 1 - ((k0 : Nat) : Int)))), (5, .sc (.p 48 0)), (4, .sc (.p 16 0)), (2, .sc (.p 0 0)), (1, .sc (.ro .u8 p1))], [(48, .ints .u64 5 (F20 (F20 z0 z0) p0)), (16, .ints .u64 5 [0, 0, 0, 0, 0]), (0, .ints .u64 5 p0)])
            480 (by kernel_rfl) rfl (by kernel_rfl) (⟨⟨trivial, trivial⟩, ⟨⟨trivial, trivial⟩, ⟨⟨⟨trivial, trivial⟩, trivial⟩, ⟨⟨⟨trivial, (rfl)⟩, trivial⟩, trivial⟩⟩⟩⟩) ?_
        exact (Sub.ren (ns := [(48, 48), (16, 16), (0, 0)]) (kf := [6, 5, 4, 2, 1]) (s' := ([(6, .sc (.i .i64 (((8 * p1.length : Nat) : Int) - 1 - ((k0 : Nat) : Int)))), (5, .sc (.p 48 0)), (4, .sc (.p 16 0)), (2, .sc (.p 0 0)), (1, .sc (.ro .u8 p1))], [(48, .ints .u64 5 (F20 (F20 z0 z0) p0)), (16, .ints .u64 5 [0, 0, 0, 0, 0]), (0, .ints .u64 5 p0)])) (by kernel_rfl) (by kernel_rfl)).trans (Sub.of_eq (by simp only [sel_true, sel_false]))
      ·
        have h2' := eq_false_i h2
        refine Tri.skip ?_
        exact (Sub.ren (ns := [(48, 48), (16, 16), (0, 0)]) (kf := [6, 5, 4, 2, 1]) (s' := ([(6, .sc (.i .i64 (((8 * p1.length : Nat) : Int) - 1 - ((k0 : Nat) : Int)))), (5, .sc (.p 48 0)), (4, .sc (.p 16 0)), (2, .sc (.p 0 0)), (1, .sc (.ro .u8 p1))], [(48, .ints .u64 5 (F20 z0 z0)), (16, .ints .u64 5 [0, 0, 0, 0, 0]), (0, .ints .u64 5 p0)])) (by kernel_rfl) (by kernel_rfl)).trans (Sub.of_eq (by simp only [sel_true, sel_false]))
      ·
        change Tri _ _ _ _ _ _
        refine Tri.region' [(15, .i .i64 (((8 * p1.length : Nat) : Int) - 1 - ((k0 + 1 : Nat) : Int)))] none [6, 5, 4, 2, 1] [48, 16, 0] ((True ∧ True) ∧ ((True ∧ ((iSub .i64 (((8 * p1.length : Nat) : Int) - 1 - ((k0 : Nat) : Int)) 1) = (((8 * p1.length : Nat) : Int) - 1 - ((k0 + 1 : Nat) : Int)))) ∧ ((True ∧ True) ∧ True)))
            ([(6, .sc (.i .i64 (((8 * p1.length : Nat) : Int) - 1 - ((k0 + 1 : Nat) : Int)))), (5, .sc (.p 48 0)), (4, .sc (.p 16 0)), (2, .sc (.p 0 0)), (1, .sc (.ro .u8 p1))], [(48, .ints .u64 5 (sel (((iAnd .u8 (iShr .u8 (p1.getD (((8 * p1.length) - 1 - k0) / 8) 0) ((((8 * p1.length) - 1 - k0) % 8 : Nat) : Int)) 1) : Int) == 1) (F20 (F20 z0 z0) p0) (F20 z0 z0))), (16, .ints .u64 5 [0, 0, 0, 0, 0]), (0, .ints .u64 5 p0)])
            528 (by kernel_rfl) rfl (by kernel_rfl) (⟨⟨trivial, trivial⟩, ⟨⟨trivial, (iSub_dn (by omega) (by omega))⟩, ⟨⟨trivial, trivial⟩, trivial⟩⟩⟩) ?_
        refine countP_normal (by omega) trivial ?_
        exact Sub.ren (ns := [(48, 48), (16, 16), (0, 0)]) (kf := [6, 5, 4, 2, 1]) (by kernel_rfl) (by kernel_rfl)
    ·
      have h1' := of_decide_eq_false h1
      refine Tri.exit ?_
      have hend0 : k0 = (8 * p1.length) := by (have := of_decide_eq_false h1; omega)
      subst hend0; subst hz0
      change Tri _ _ _ _ _ _
      refine Tri.seq_region [] none [4] [16] ((True ∧ True) ∧ (((True ∧ (5 = 5)) ∧ True) ∧ True))
          ([(4, .sc (.p 16 0))], [(16, .ints .u64 5 (itr (F26l0 p0 p1) (8 * p1.length) (F30 1)))])
          224 (by kernel_rfl) rfl (by kernel_rfl) (⟨⟨trivial, trivial⟩, ⟨⟨⟨trivial, (rfl)⟩, trivial⟩, trivial⟩⟩) ?_
      refine Tri.ret ?_
      exact endP.ret [] (True ∧ True) (by kernel_rfl) (by kernel_rfl) (by kernel_rfl) ⟨trivial, trivial⟩


noncomputable def F25 (p0 : List Int) : List Int :=
  (F26 p0 (part1 (F50 255 21) 32 0 32))

noncomputable def S25 : List AV → Option (Prop × Ret)
  | [.ints .u64 5 p0] => some (True, ⟨.ints .u64 5 (F25 p0), []⟩)
  | _ => none

noncomputable def B25 : Bs := { P := Go.Proofs.Try.prog, G := noG, tab := tabOf [(26, ⟨[.val, .ro .u8], 0, S26⟩), (50, ⟨[.val, .val], 1, S50⟩)], n := 6 }

theorem B25.ok : B25.Ok := ⟨tabOk (P := Go.Proofs.Try.prog) (G := noG) (l := [(26, ⟨[.val, .ro .u8], 0, S26⟩), (50, ⟨[.val, .val], 1, S50⟩)]) (And.intro K26 (And.intro K50 True.intro)), mixed⟩

theorem K25 : Known Go.Proofs.Try.prog noG 25 ⟨[.val], 0, S25⟩ := by
  refine Known.walk (B := B25) (fn := Go.Proofs.Try.f25) B25.ok (by kernel_rfl) rfl (by kernel_rfl) (by kernel_rfl) (by decide) ?_ ?_
  · intro vs C r h
    simp only at h
    unfold S25 at h
    split at h
    · cases h; rfl
    · cases h
  · intro E args C r h hC hlen
    simp only at h
    unfold S25 at h
    split at h
    rotate_left
    · cases h
    rename_i p0
    cases h
    simp only [lens] at hlen
    refine ⟨show 1 ≤ 6 from by decide, ?_⟩
    refine Tri.sub (Sub.of_eq (show _ = ([(0, .ints .u64 5 p0)], []) from rfl)) ?_
    refine Tri.seq_region [] none [2, 1] [16, 0] ((True ∧ True) ∧ ((True ∧ True) ∧ True))
        ([(2, .sc (.p 16 0)), (1, .sc (.p 0 0))], [(16, .ints .u64 5 [0, 0, 0, 0, 0]), (0, .ints .u64 5 p0)])
        32 (by kernel_rfl) rfl (by kernel_rfl) (⟨⟨trivial, trivial⟩, ⟨⟨trivial, trivial⟩, trivial⟩⟩) ?_
    refine Tri.seq_region [] (some [0, 0, 3, 7]) [2] [16] ((True ∧ True) ∧ (((True ∧ ((248 : Int) ≤ 255 ∧ 255 ≤ (255 : Int))) ∧ True) ∧ (((((0 + 32 ≤ 32) ∧ True) ∧ ((part1 (F50 255 21) 32 0 32).length ≤ 1000000)) ∧ True) ∧ (((True ∧ (5 = 5)) ∧ True) ∧ True))))
        ([(2, .sc (.p 16 0))], [(16, .ints .u64 5 (F26 p0 (part1 (F50 255 21) 32 0 32)))])
        96 (by kernel_rfl) rfl (by kernel_rfl) (⟨⟨trivial, trivial⟩, ⟨⟨⟨trivial, (by omega)⟩, trivial⟩, ⟨⟨⟨⟨(by omega), trivial⟩, (by rw [part1_all (len50 _ _), len50]; decide)⟩, trivial⟩, ⟨⟨⟨trivial, (rfl)⟩, trivial⟩, trivial⟩⟩⟩⟩) ?_
    refine Tri.ret ?_
    exact endP.ret [] (True ∧ True) (by kernel_rfl) (by kernel_rfl) (by kernel_rfl) ⟨trivial, trivial⟩


noncomputable def F52l0 (p0 : List Int) (k0 : Nat) (z0 : Int) : Int :=
  (iShr .u64 (iAdd .u64 ((F45 (F45 p0)).getD (k0 + 1) 0) z0) 51)

noncomputable def F52l1 (k1 : Nat) (z1 : List Int) : List Int :=
  (z1.set (k1 + 1) (iAdd .u64 (z1.getD (k1 + 1) 0) (iShr .u64 (z1.getD k1 0) 51))).set k1 (iAnd .u64 ((z1.set (k1 + 1) (iAdd .u64 (z1.getD (k1 + 1) 0) (iShr .u64 (z1.getD k1 0) 51))).getD k1 0) 2251799813685247)

noncomputable def F52 (p0 : List Int) : List Int :=
  (itr (F52l1) 4 ((F45 (F45 p0)).set 0 (iAdd .u64 ((F45 (F45 p0)).getD 0 0) (iMul .u64 19 (itr (F52l0 p0) 4 (iShr .u64 (iAdd .u64 ((F45 (F45 p0)).getD 0 0) 19) 51)))))).set 4 (iAnd .u64 ((itr (F52l1) 4 ((F45 (F45 p0)).set 0 (iAdd .u64 ((F45 (F45 p0)).getD 0 0) (iMul .u64 19 (itr (F52l0 p0) 4 (iShr .u64 (iAdd .u64 ((F45 (F45 p0)).getD 0 0) 19) 51)))))).getD 4 0) 2251799813685247)

noncomputable def S52 : List AV → Option (Prop × Ret)
  | [.ints .u64 5 p0] => some (True, ⟨.ints .u64 5 (F52 p0), []⟩)
  | _ => none

noncomputable def B52 : Bs := { P := Go.Proofs.Try.prog, G := noG, tab := tabOf [(45, ⟨[.val], 0, S45⟩)], n := 64 }

theorem B52.ok : B52.Ok := ⟨tabOk (P := Go.Proofs.Try.prog) (G := noG) (l := [(45, ⟨[.val], 0, S45⟩)]) (And.intro K45 True.intro), mixed⟩

theorem K52 : Known Go.Proofs.Try.prog noG 52 ⟨[.val], 0, S52⟩ := by
  refine Known.walk (B := B52) (fn := Go.Proofs.Try.f52) B52.ok (by kernel_rfl) rfl (by kernel_rfl) (by kernel_rfl) (by decide) ?_ ?_
  · intro vs C r h
    simp only at h
    unfold S52 at h
    split at h
    · cases h; rfl
    · cases h
  · intro E args C r h hC hlen
    simp only at h
    unfold S52 at h
    split at h
    rotate_left
    · cases h
    rename_i p0
    cases h
    simp only [lens] at hlen
    refine ⟨show 1 ≤ 64 from by decide, ?_⟩
    refine Tri.sub (Sub.of_eq (show _ = ([(0, .ints .u64 5 p0)], []) from rfl)) ?_
    refine Tri.seq_region [] none [2, 1] [16, 0] ((True ∧ True) ∧ ((True ∧ True) ∧ True))
        ([(2, .sc (.p 16 0)), (1, .sc (.p 0 0))], [(16, .ints .u64 5 [0, 0, 0, 0, 0]), (0, .ints .u64 5 p0)])
        32 (by kernel_rfl) rfl (by kernel_rfl) (⟨⟨trivial, trivial⟩, ⟨⟨trivial, trivial⟩, trivial⟩⟩) ?_
    refine Tri.seq_region [] none [2, 1] [0, 16] ((True ∧ True) ∧ (((True ∧ True) ∧ True) ∧ (((True ∧ True) ∧ True) ∧ (((True ∧ (5 = 5)) ∧ True) ∧ True))))
        ([(2, .sc (.p 16 0)), (1, .sc (.p 0 0))], [(0, .ints .u64 5 (F45 (F45 p0))), (16, .ints .u64 5 [0, 0, 0, 0, 0])])
        96 (by kernel_rfl) rfl (by kernel_rfl) (⟨⟨trivial, trivial⟩, ⟨⟨⟨trivial, trivial⟩, trivial⟩, ⟨⟨⟨trivial, trivial⟩, trivial⟩, ⟨⟨⟨trivial, (rfl)⟩, trivial⟩, trivial⟩⟩⟩⟩) ?_
    refine Tri.seq_region [] none [3, 2, 1] [0, 16] ((True ∧ True) ∧ ((((0 : Int) ≤ 0 ∧ 0 < ((5 : Nat) : Int)) ∧ True) ∧ (((0 < 5) ∧ True) ∧ ((True ∧ True) ∧ ((((0 : Int) ≤ 51) ∧ True) ∧ ((True ∧ True) ∧ True))))))
        ([(3, .sc (.i .u64 (iShr .u64 (iAdd .u64 ((F45 (F45 p0)).getD 0 0) 19) 51))), (2, .sc (.p 16 0)), (1, .sc (.p 0 0))], [(0, .ints .u64 5 (F45 (F45 p0))), (16, .ints .u64 5 [0, 0, 0, 0, 0])])
        192 (by kernel_rfl) rfl (by kernel_rfl) (⟨⟨trivial, trivial⟩, ⟨⟨(by omega), trivial⟩, ⟨⟨(by omega), trivial⟩, ⟨⟨trivial, trivial⟩, ⟨⟨(by omega), trivial⟩, ⟨⟨trivial, trivial⟩, trivial⟩⟩⟩⟩⟩⟩) ?_
    refine Tri.seq ?_
    refine Tri.seq_region [] none [4, 3, 2, 1] [0, 16] ((True ∧ True) ∧ True)
        ([(4, .sc (.i .i64 1)), (3, .sc (.i .u64 (iShr .u64 (iAdd .u64 ((F45 (F45 p0)).getD 0 0) 19) 51))), (2, .sc (.p 16 0)), (1, .sc (.p 0 0))], [(0, .ints .u64 5 (F45 (F45 p0))), (16, .ints .u64 5 [0, 0, 0, 0, 0])])
        208 (by kernel_rfl) rfl (by kernel_rfl) (⟨⟨trivial, trivial⟩, trivial⟩) ?_
    refine Tri.block ?_
    refine Tri.count 208 4 (F52l0 p0) (iShr .u64 (iAdd .u64 ((F45 (F45 p0)).getD 0 0) 19) 51) (fun k0 z0 => True) (fun k0 z0 => ([(4, .sc (.i .i64 ((k0 + 1 : Nat) : Int))), (3, .sc (.i .u64 z0)), (2, .sc (.p 16 0)), (1, .sc (.p 0 0))], [(0, .ints .u64 5 (F45 (F45 p0))), (16, .ints .u64 5 [0, 0, 0, 0, 0])])) trivial (Sub.of_eq (by kernel_rfl)) ?_
    intro k0 z0 hk0 hz0 hJ0
    refine Tri.seq ?_
    refine Tri.seq_region [] none [15, 4, 3, 2, 1] [0, 16] ((True ∧ True) ∧ ((True ∧ True) ∧ True))
        ([(15, .sc (.b (decide ((((k0 + 1 : Nat) : Int) : Int) < 5)))), (4, .sc (.i .i64 ((k0 + 1 : Nat) : Int))), (3, .sc (.i .u64 z0)), (2, .sc (.p 16 0)), (1, .sc (.p 0 0))], [(0, .ints .u64 5 (F45 (F45 p0))), (16, .ints .u64 5 [0, 0, 0, 0, 0])])
        240 (by kernel_rfl) rfl (by kernel_rfl) (⟨⟨trivial, trivial⟩, ⟨⟨trivial, trivial⟩, trivial⟩⟩) ?_
    refine Tri.cond (x := (decide ((((k0 + 1 : Nat) : Int) : Int) < 5))) (by kernel_rfl) (fun h1 => ?_) (fun h1 => ?_)
    ·
      have h1' := of_decide_eq_true h1
      refine Tri.skip ?_
      change Tri _ _ _ _ _ _
      refine Tri.seq ?_
      refine Tri.block ?_
      refine Tri.region' [] none [3, 4, 2, 1] [0, 16] ((True ∧ True) ∧ ((True ∧ True) ∧ ((((0 : Int) ≤ ((k0 + 1 : Nat) : Int) ∧ ((k0 + 1 : Nat) : Int) < ((5 : Nat) : Int)) ∧ True) ∧ (((k0 + 1 < 5) ∧ True) ∧ ((True ∧ True) ∧ ((True ∧ True) ∧ ((((0 : Int) ≤ 51) ∧ True) ∧ ((True ∧ True) ∧ True))))))))
          ([(3, .sc (.i .u64 (iShr .u64 (iAdd .u64 ((F45 (F45 p0)).getD (k0 + 1) 0) z0) 51))), (4, .sc (.i .i64 ((k0 + 1 : Nat) : Int))), (2, .sc (.p 16 0)), (1, .sc (.p 0 0))], [(0, .ints .u64 5 (F45 (F45 p0))), (16, .ints .u64 5 [0, 0, 0, 0, 0])])
          368 (by kernel_rfl) rfl (by kernel_rfl) (⟨⟨trivial, trivial⟩, ⟨⟨trivial, trivial⟩, ⟨⟨(by omega), trivial⟩, ⟨⟨(by omega), trivial⟩, ⟨⟨trivial, trivial⟩, ⟨⟨trivial, trivial⟩, ⟨⟨(by omega), trivial⟩, ⟨⟨trivial, trivial⟩, trivial⟩⟩⟩⟩⟩⟩⟩⟩) ?_
      change Tri _ _ _ _ _ _
      refine Tri.region' [(17, .i .i64 (((k0 + 1) + 1 : Nat) : Int))] none [4, 3, 2, 1] [0, 16] ((True ∧ True) ∧ ((True ∧ ((iAdd .i64 ((k0 + 1 : Nat) : Int) 1) = (((k0 + 1) + 1 : Nat) : Int))) ∧ ((True ∧ True) ∧ True)))
          ([(4, .sc (.i .i64 (((k0 + 1) + 1 : Nat) : Int))), (3, .sc (.i .u64 (iShr .u64 (iAdd .u64 ((F45 (F45 p0)).getD (k0 + 1) 0) z0) 51))), (2, .sc (.p 16 0)), (1, .sc (.p 0 0))], [(0, .ints .u64 5 (F45 (F45 p0))), (16, .ints .u64 5 [0, 0, 0, 0, 0])])
          416 (by kernel_rfl) rfl (by kernel_rfl) (⟨⟨trivial, trivial⟩, ⟨⟨trivial, (iAdd_nat (a := k0 + 1) (b := 1) (by omega))⟩, ⟨⟨trivial, trivial⟩, trivial⟩⟩⟩) ?_
      refine countP_normal (by omega) trivial ?_
      exact Sub.ren (ns := [(0, 0), (16, 16)]) (kf := [4, 3, 2, 1]) (by kernel_rfl) (by kernel_rfl)
    ·
      have h1' := of_decide_eq_false h1
      refine Tri.exit ?_
      have hend0 : k0 = 4 := by (have := of_decide_eq_false h1; omega)
      subst hend0; subst hz0
      change Tri _ _ _ _ _ _
      refine Tri.seq_region [] none [2, 1] [0, 16] ((True ∧ True) ∧ ((((0 : Int) ≤ 0 ∧ 0 < ((5 : Nat) : Int)) ∧ True) ∧ (((0 < 5) ∧ True) ∧ ((True ∧ True) ∧ ((True ∧ True) ∧ ((True ∧ True) ∧ ((True ∧ True) ∧ ((((0 : Int) ≤ 0 ∧ 0 < ((5 : Nat) : Int)) ∧ True) ∧ ((((0 < 5) ∧ (1 = 1)) ∧ True) ∧ True)))))))))
          ([(2, .sc (.p 16 0)), (1, .sc (.p 0 0))], [(0, .ints .u64 5 ((F45 (F45 p0)).set 0 (iAdd .u64 ((F45 (F45 p0)).getD 0 0) (iMul .u64 19 (itr (F52l0 p0) 4 (iShr .u64 (iAdd .u64 ((F45 (F45 p0)).getD 0 0) 19) 51)))))), (16, .ints .u64 5 [0, 0, 0, 0, 0])])
          384 (by kernel_rfl) rfl (by kernel_rfl) (⟨⟨trivial, trivial⟩, ⟨⟨(by omega), trivial⟩, ⟨⟨(by omega), trivial⟩, ⟨⟨trivial, trivial⟩, ⟨⟨trivial, trivial⟩, ⟨⟨trivial, trivial⟩, ⟨⟨trivial, trivial⟩, ⟨⟨(by omega), trivial⟩, ⟨⟨⟨(by omega), (rfl)⟩, trivial⟩, trivial⟩⟩⟩⟩⟩⟩⟩⟩⟩) ?_
      refine Tri.seq ?_
      refine Tri.seq_region [] none [33, 2, 1] [0, 16] ((True ∧ True) ∧ True)
          ([(33, .sc (.i .i64 0)), (2, .sc (.p 16 0)), (1, .sc (.p 0 0))], [(0, .ints .u64 5 ((F45 (F45 p0)).set 0 (iAdd .u64 ((F45 (F45 p0)).getD 0 0) (iMul .u64 19 (itr (F52l0 p0) 4 (iShr .u64 (iAdd .u64 ((F45 (F45 p0)).getD 0 0) 19) 51)))))), (16, .ints .u64 5 [0, 0, 0, 0, 0])])
          400 (by kernel_rfl) rfl (by kernel_rfl) (⟨⟨trivial, trivial⟩, trivial⟩) ?_
      refine Tri.block ?_
      refine Tri.count 400 4 (F52l1) ((F45 (F45 p0)).set 0 (iAdd .u64 ((F45 (F45 p0)).getD 0 0) (iMul .u64 19 (itr (F52l0 p0) 4 (iShr .u64 (iAdd .u64 ((F45 (F45 p0)).getD 0 0) 19) 51))))) (fun k1 z1 => True) (fun k1 z1 => ([(33, .sc (.i .i64 ((k1 : Nat) : Int))), (2, .sc (.p 16 0)), (1, .sc (.p 0 0))], [(0, .ints .u64 5 z1), (16, .ints .u64 5 [0, 0, 0, 0, 0])])) trivial (Sub.of_eq (by kernel_rfl)) ?_
      intro k1 z1 hk1 hz1 hJ1
      refine Tri.seq_region [] none [34, 33, 2, 1] [0, 16] ((True ∧ True) ∧ True)
          ([(34, .sc (.b (decide ((((k1 : Nat) : Int) : Int) < 4)))), (33, .sc (.i .i64 ((k1 : Nat) : Int))), (2, .sc (.p 16 0)), (1, .sc (.p 0 0))], [(0, .ints .u64 5 z1), (16, .ints .u64 5 [0, 0, 0, 0, 0])])
          416 (by kernel_rfl) rfl (by kernel_rfl) (⟨⟨trivial, trivial⟩, trivial⟩) ?_
      refine Tri.seq ?_
      refine Tri.cond (x := (decide ((((k1 : Nat) : Int) : Int) < 4))) (by kernel_rfl) (fun h2 => ?_) (fun h2 => ?_)
      ·
        have h2' := of_decide_eq_true h2
        refine Tri.skip ?_
        change Tri _ _ _ _ _ _
        refine Tri.seq ?_
        refine Tri.block ?_
        refine Tri.seq_region [] none [5, 33, 2, 1] [0, 16] ((True ∧ True) ∧ ((True ∧ True) ∧ True))
            ([(5, .sc (.i .i64 ((k1 : Nat) : Int))), (33, .sc (.i .i64 ((k1 : Nat) : Int))), (2, .sc (.p 16 0)), (1, .sc (.p 0 0))], [(0, .ints .u64 5 z1), (16, .ints .u64 5 [0, 0, 0, 0, 0])])
            448 (by kernel_rfl) rfl (by kernel_rfl) (⟨⟨trivial, trivial⟩, ⟨⟨trivial, trivial⟩, trivial⟩⟩) ?_
        refine Tri.seq_region [(37, .i .i64 ((k1 + 1 : Nat) : Int))] (some [0, 1, 0, 7, 15, 0, 0, 96, 224, 480, 1023, 0, 4095, 8191]) [5, 33, 2, 1] [0, 16] ((True ∧ True) ∧ ((True ∧ ((iAdd .i64 ((k1 : Nat) : Int) 1) = ((k1 + 1 : Nat) : Int))) ∧ ((True ∧ True) ∧ ((((0 : Int) ≤ ((k1 + 1 : Nat) : Int) ∧ ((k1 + 1 : Nat) : Int) < ((5 : Nat) : Int)) ∧ True) ∧ (((k1 + 1 < 5) ∧ True) ∧ ((True ∧ True) ∧ ((True ∧ True) ∧ ((((0 : Int) ≤ ((k1 : Nat) : Int) ∧ ((k1 : Nat) : Int) < ((5 : Nat) : Int)) ∧ True) ∧ (((k1 < 5) ∧ True) ∧ ((((0 : Int) ≤ 51) ∧ True) ∧ ((True ∧ True) ∧ ((True ∧ True) ∧ ((((0 : Int) ≤ ((k1 + 1 : Nat) : Int) ∧ ((k1 + 1 : Nat) : Int) < ((5 : Nat) : Int)) ∧ True) ∧ ((((k1 + 1 < 5) ∧ (1 = 1)) ∧ True) ∧ True))))))))))))))
            ([(5, .sc (.i .i64 ((k1 : Nat) : Int))), (33, .sc (.i .i64 ((k1 : Nat) : Int))), (2, .sc (.p 16 0)), (1, .sc (.p 0 0))], [(0, .ints .u64 5 (z1.set (k1 + 1) (iAdd .u64 (z1.getD (k1 + 1) 0) (iShr .u64 (z1.getD k1 0) 51)))), (16, .ints .u64 5 [0, 0, 0, 0, 0])])
            672 (by kernel_rfl) rfl (by kernel_rfl) (⟨⟨trivial, trivial⟩, ⟨⟨trivial, (iAdd_nat (a := k1) (b := 1) (by omega))⟩, ⟨⟨trivial, trivial⟩, ⟨⟨(by omega), trivial⟩, ⟨⟨(by omega), trivial⟩, ⟨⟨trivial, trivial⟩, ⟨⟨trivial, trivial⟩, ⟨⟨(by omega), trivial⟩, ⟨⟨(by omega), trivial⟩, ⟨⟨(by omega), trivial⟩, ⟨⟨trivial, trivial⟩, ⟨⟨trivial, trivial⟩, ⟨⟨(by omega), trivial⟩, ⟨⟨⟨(by omega), (rfl)⟩, trivial⟩, trivial⟩⟩⟩⟩⟩⟩⟩⟩⟩⟩⟩⟩⟩⟩) ?_
        refine Tri.region' [] none [33, 2, 1] [0, 16] ((True ∧ True) ∧ ((True ∧ True) ∧ ((((0 : Int) ≤ ((k1 : Nat) : Int) ∧ ((k1 : Nat) : Int) < ((5 : Nat) : Int)) ∧ True) ∧ (((k1 < 5) ∧ True) ∧ ((True ∧ True) ∧ ((True ∧ True) ∧ ((((0 : Int) ≤ ((k1 : Nat) : Int) ∧ ((k1 : Nat) : Int) < ((5 : Nat) : Int)) ∧ True) ∧ ((((k1 < 5) ∧ (1 = 1)) ∧ True) ∧ True))))))))
            ([(33, .sc (.i .i64 ((k1 : Nat) : Int))), (2, .sc (.p 16 0)), (1, .sc (.p 0 0))], [(0, .ints .u64 5 ((z1.set (k1 + 1) (iAdd .u64 (z1.getD (k1 + 1) 0) (iShr .u64 (z1.getD k1 0) 51))).set k1 (iAnd .u64 ((z1.set (k1 + 1) (iAdd .u64 (z1.getD (k1 + 1) 0) (iShr .u64 (z1.getD k1 0) 51))).getD k1 0) 2251799813685247))), (16, .ints .u64 5 [0, 0, 0, 0, 0])])
            800 (by kernel_rfl) rfl (by kernel_rfl) (⟨⟨trivial, trivial⟩, ⟨⟨trivial, trivial⟩, ⟨⟨(by omega), trivial⟩, ⟨⟨(by omega), trivial⟩, ⟨⟨trivial, trivial⟩, ⟨⟨trivial, trivial⟩, ⟨⟨(by omega), trivial⟩, ⟨⟨⟨(by omega), (rfl)⟩, trivial⟩, trivial⟩⟩⟩⟩⟩⟩⟩⟩) ?_
        change Tri _ _ _ _ _ _
        refine Tri.region' [(56, .i .i64 ((k1 + 1 : Nat) : Int))] none [33, 2, 1] [0, 16] ((True ∧ ((iAdd .i64 ((k1 : Nat) : Int) 1) = ((k1 + 1 : Nat) : Int))) ∧ ((True ∧ True) ∧ True))
            ([(33, .sc (.i .i64 ((k1 + 1 : Nat) : Int))), (2, .sc (.p 16 0)), (1, .sc (.p 0 0))], [(0, .ints .u64 5 ((z1.set (k1 + 1) (iAdd .u64 (z1.getD (k1 + 1) 0) (iShr .u64 (z1.getD k1 0) 51))).set k1 (iAnd .u64 ((z1.set (k1 + 1) (iAdd .u64 (z1.getD (k1 + 1) 0) (iShr .u64 (z1.getD k1 0) 51))).getD k1 0) 2251799813685247))), (16, .ints .u64 5 [0, 0, 0, 0, 0])])
            832 (by kernel_rfl) rfl (by kernel_rfl) (⟨⟨trivial, (iAdd_nat (a := k1) (b := 1) (by omega))⟩, ⟨⟨trivial, trivial⟩, trivial⟩⟩) ?_
        refine countP_normal (by omega) trivial ?_
        exact Sub.ren (ns := [(0, 0), (16, 16)]) (kf := [33, 2, 1]) (by kernel_rfl) (by kernel_rfl)
      ·
        have h2' := of_decide_eq_false h2
        refine Tri.exit ?_
        have hend1 : k1 = 4 := by (have := of_decide_eq_false h2; omega)
        subst hend1; subst hz1
        change Tri _ _ _ _ _ _
        refine Tri.seq_region [] none [2, 1] [0, 16] ((True ∧ True) ∧ ((((0 : Int) ≤ 4 ∧ 4 < ((5 : Nat) : Int)) ∧ True) ∧ (((4 < 5) ∧ True) ∧ ((True ∧ True) ∧ ((True ∧ True) ∧ ((((0 : Int) ≤ 4 ∧ 4 < ((5 : Nat) : Int)) ∧ True) ∧ ((((4 < 5) ∧ (1 = 1)) ∧ True) ∧ True)))))))
            ([(2, .sc (.p 16 0)), (1, .sc (.p 0 0))], [(0, .ints .u64 5 ((itr (F52l1) 4 ((F45 (F45 p0)).set 0 (iAdd .u64 ((F45 (F45 p0)).getD 0 0) (iMul .u64 19 (itr (F52l0 p0) 4 (iShr .u64 (iAdd .u64 ((F45 (F45 p0)).getD 0 0) 19) 51)))))).set 4 (iAnd .u64 ((itr (F52l1) 4 ((F45 (F45 p0)).set 0 (iAdd .u64 ((F45 (F45 p0)).getD 0 0) (iMul .u64 19 (itr (F52l0 p0) 4 (iShr .u64 (iAdd .u64 ((F45 (F45 p0)).getD 0 0) 19) 51)))))).getD 4 0) 2251799813685247))), (16, .ints .u64 5 [0, 0, 0, 0, 0])])
            528 (by kernel_rfl) rfl (by kernel_rfl) (⟨⟨trivial, trivial⟩, ⟨⟨(by omega), trivial⟩, ⟨⟨(by omega), trivial⟩, ⟨⟨trivial, trivial⟩, ⟨⟨trivial, trivial⟩, ⟨⟨(by omega), trivial⟩, ⟨⟨⟨(by omega), (rfl)⟩, trivial⟩, trivial⟩⟩⟩⟩⟩⟩⟩) ?_
        refine Tri.seq_region [] none [2] [16] ((True ∧ True) ∧ (((True ∧ (5 = 5)) ∧ True) ∧ True))
            ([(2, .sc (.p 16 0))], [(16, .ints .u64 5 ((itr (F52l1) 4 ((F45 (F45 p0)).set 0 (iAdd .u64 ((F45 (F45 p0)).getD 0 0) (iMul .u64 19 (itr (F52l0 p0) 4 (iShr .u64 (iAdd .u64 ((F45 (F45 p0)).getD 0 0) 19) 51)))))).set 4 (iAnd .u64 ((itr (F52l1) 4 ((F45 (F45 p0)).set 0 (iAdd .u64 ((F45 (F45 p0)).getD 0 0) (iMul .u64 19 (itr (F52l0 p0) 4 (iShr .u64 (iAdd .u64 ((F45 (F45 p0)).getD 0 0) 19) 51)))))).getD 4 0) 2251799813685247)))])
            560 (by kernel_rfl) rfl (by kernel_rfl) (⟨⟨trivial, trivial⟩, ⟨⟨⟨trivial, (rfl)⟩, trivial⟩, trivial⟩⟩) ?_
        refine Tri.ret ?_
        exact endP.ret [] (True ∧ True) (by kernel_rfl) (by kernel_rfl) (by kernel_rfl) ⟨trivial, trivial⟩


noncomputable def F33l0 (p0 : List Int) (k0 : Nat) (z0 : List Int) : List Int :=
  z0.set (k0 / 8) (iOr .u8 (z0.getD (k0 / 8) 0) (iShl .u8 (IntKind.wrap .u8 (iAnd .u64 (iShr .u64 ((F52 p0).getD (k0 / 51) 0) ((k0 % 51 : Nat) : Int)) 1)) ((k0 % 8 : Nat) : Int)))

noncomputable def F33 (p0 : List Int) : List Int :=
  (itr (F33l0 p0) 255 [0, 0, 0, 0, 0, 0, 0, 0, 0, 0, 0, 0, 0, 0, 0, 0, 0, 0, 0, 0, 0, 0, 0, 0, 0, 0, 0, 0, 0, 0, 0, 0])

noncomputable def S33 : List AV → Option (Prop × Ret)
  | [.ints .u64 5 p0] => some (True, ⟨.ints .u8 32 (F33 p0), []⟩)
  | _ => none

noncomputable def B33 : Bs := { P := Go.Proofs.Try.prog, G := noG, tab := tabOf [(52, ⟨[.val], 0, S52⟩)], n := 31 }

theorem B33.ok : B33.Ok := ⟨tabOk (P := Go.Proofs.Try.prog) (G := noG) (l := [(52, ⟨[.val], 0, S52⟩)]) (And.intro K52 True.intro), mixed⟩

theorem K33 : Known Go.Proofs.Try.prog noG 33 ⟨[.val], 0, S33⟩ := by
  refine Known.walk (B := B33) (fn := Go.Proofs.Try.f33) B33.ok (by kernel_rfl) rfl (by kernel_rfl) (by kernel_rfl) (by decide) ?_ ?_
  · intro vs C r h
    simp only at h
    unfold S33 at h
    split at h
    · cases h; rfl
    · cases h
  · intro E args C r h hC hlen
    simp only at h
    unfold S33 at h
    split at h
    rotate_left
    · cases h
    rename_i p0
    cases h
    simp only [lens] at hlen
    refine ⟨show 1 ≤ 31 from by decide, ?_⟩
    refine Tri.sub (Sub.of_eq (show _ = ([(0, .ints .u64 5 p0)], []) from rfl)) ?_
    refine Tri.seq_region [] none [2, 1] [16, 0] ((True ∧ True) ∧ ((True ∧ True) ∧ True))
        ([(2, .sc (.p 16 0)), (1, .sc (.p 0 0))], [(16, .ints .u8 32 [0, 0, 0, 0, 0, 0, 0, 0, 0, 0, 0, 0, 0, 0, 0, 0, 0, 0, 0, 0, 0, 0, 0, 0, 0, 0, 0, 0, 0, 0, 0, 0]), (0, .ints .u64 5 p0)])
        32 (by kernel_rfl) rfl (by kernel_rfl) (⟨⟨trivial, trivial⟩, ⟨⟨trivial, trivial⟩, trivial⟩⟩) ?_
    refine Tri.seq_region [] none [2, 1] [0, 16] ((True ∧ True) ∧ (((True ∧ True) ∧ True) ∧ (((True ∧ (5 = 5)) ∧ True) ∧ True)))
        ([(2, .sc (.p 16 0)), (1, .sc (.p 0 0))], [(0, .ints .u64 5 (F52 p0)), (16, .ints .u8 32 [0, 0, 0, 0, 0, 0, 0, 0, 0, 0, 0, 0, 0, 0, 0, 0, 0, 0, 0, 0, 0, 0, 0, 0, 0, 0, 0, 0, 0, 0, 0, 0])])
        80 (by kernel_rfl) rfl (by kernel_rfl) (⟨⟨trivial, trivial⟩, ⟨⟨⟨trivial, trivial⟩, trivial⟩, ⟨⟨⟨trivial, (rfl)⟩, trivial⟩, trivial⟩⟩⟩) ?_
    refine Tri.seq_region [] none [3, 2, 1] [80, 0, 16] ((True ∧ True) ∧ True)
        ([(3, .sc (.p 80 0)), (2, .sc (.p 16 0)), (1, .sc (.p 0 0))], [(80, .ints .u8 32 [0, 0, 0, 0, 0, 0, 0, 0, 0, 0, 0, 0, 0, 0, 0, 0, 0, 0, 0, 0, 0, 0, 0, 0, 0, 0, 0, 0, 0, 0, 0, 0]), (0, .ints .u64 5 (F52 p0)), (16, .ints .u8 32 [0, 0, 0, 0, 0, 0, 0, 0, 0, 0, 0, 0, 0, 0, 0, 0, 0, 0, 0, 0, 0, 0, 0, 0, 0, 0, 0, 0, 0, 0, 0, 0])])
        96 (by kernel_rfl) rfl (by kernel_rfl) (⟨⟨trivial, trivial⟩, trivial⟩) ?_
    refine Tri.seq ?_
    refine Tri.seq_region [] none [7, 3, 2, 1] [80, 0, 16] ((True ∧ True) ∧ True)
        ([(7, .sc (.i .i64 0)), (3, .sc (.p 80 0)), (2, .sc (.p 16 0)), (1, .sc (.p 0 0))], [(80, .ints .u8 32 [0, 0, 0, 0, 0, 0, 0, 0, 0, 0, 0, 0, 0, 0, 0, 0, 0, 0, 0, 0, 0, 0, 0, 0, 0, 0, 0, 0, 0, 0, 0, 0]), (0, .ints .u64 5 (F52 p0)), (16, .ints .u8 32 [0, 0, 0, 0, 0, 0, 0, 0, 0, 0, 0, 0, 0, 0, 0, 0, 0, 0, 0, 0, 0, 0, 0, 0, 0, 0, 0, 0, 0, 0, 0, 0])])
        112 (by kernel_rfl) rfl (by kernel_rfl) (⟨⟨trivial, trivial⟩, trivial⟩) ?_
    refine Tri.block ?_
    refine Tri.count 112 255 (F33l0 p0) [0, 0, 0, 0, 0, 0, 0, 0, 0, 0, 0, 0, 0, 0, 0, 0, 0, 0, 0, 0, 0, 0, 0, 0, 0, 0, 0, 0, 0, 0, 0, 0] (fun k0 z0 => True) (fun k0 z0 => ([(7, .sc (.i .i64 ((k0 : Nat) : Int))), (3, .sc (.p 80 0)), (2, .sc (.p 16 0)), (1, .sc (.p 0 0))], [(80, .ints .u8 32 z0), (0, .ints .u64 5 (F52 p0)), (16, .ints .u8 32 [0, 0, 0, 0, 0, 0, 0, 0, 0, 0, 0, 0, 0, 0, 0, 0, 0, 0, 0, 0, 0, 0, 0, 0, 0, 0, 0, 0, 0, 0, 0, 0])])) trivial (Sub.of_eq (by kernel_rfl)) ?_
    intro k0 z0 hk0 hz0 hJ0
    refine Tri.seq_region [] none [8, 7, 3, 2, 1] [80, 0, 16] ((True ∧ True) ∧ True)
        ([(8, .sc (.b (decide ((((k0 : Nat) : Int) : Int) < 255)))), (7, .sc (.i .i64 ((k0 : Nat) : Int))), (3, .sc (.p 80 0)), (2, .sc (.p 16 0)), (1, .sc (.p 0 0))], [(80, .ints .u8 32 z0), (0, .ints .u64 5 (F52 p0)), (16, .ints .u8 32 [0, 0, 0, 0, 0, 0, 0, 0, 0, 0, 0, 0, 0, 0, 0, 0, 0, 0, 0, 0, 0, 0, 0, 0, 0, 0, 0, 0, 0, 0, 0, 0])])
        128 (by kernel_rfl) rfl (by kernel_rfl) (⟨⟨trivial, trivial⟩, trivial⟩) ?_
    refine Tri.seq ?_
    refine Tri.cond (x := (decide ((((k0 : Nat) : Int) : Int) < 255))) (by kernel_rfl) (fun h1 => ?_) (fun h1 => ?_)
    ·
      have h1' := of_decide_eq_true h1
      refine Tri.skip ?_
      change Tri _ _ _ _ _ _
      refine Tri.seq ?_
      refine Tri.block ?_
      refine Tri.seq_region [] none [4, 7, 3, 2, 1] [80, 0, 16] ((True ∧ True) ∧ ((True ∧ True) ∧ True))
          ([(4, .sc (.i .i64 ((k0 : Nat) : Int))), (7, .sc (.i .i64 ((k0 : Nat) : Int))), (3, .sc (.p 80 0)), (2, .sc (.p 16 0)), (1, .sc (.p 0 0))], [(80, .ints .u8 32 z0), (0, .ints .u64 5 (F52 p0)), (16, .ints .u8 32 [0, 0, 0, 0, 0, 0, 0, 0, 0, 0, 0, 0, 0, 0, 0, 0, 0, 0, 0, 0, 0, 0, 0, 0, 0, 0, 0, 0, 0, 0, 0, 0])])
          160 (by kernel_rfl) rfl (by kernel_rfl) (⟨⟨trivial, trivial⟩, ⟨⟨trivial, trivial⟩, trivial⟩⟩) ?_
      refine Tri.region' [(11, .i .i64 ((k0 / 8 : Nat) : Int)), (15, .i .i64 ((k0 / 51 : Nat) : Int)), (20, .i .i64 ((k0 % 51 : Nat) : Int)), (25, .i .i64 ((k0 % 8 : Nat) : Int))] (some [0, 1, 3, 7, 0, 16, 0, 112, 240, 0, 512, 2032, 4080, 8176, 0, 16384, 65520, 131071, 262143, 524287]) [7, 3, 2, 1] [80, 0, 16] ((True ∧ True) ∧ (((8 ≠ (0 : Int)) ∧ ((iQuo .i64 ((k0 : Nat) : Int) 8) = ((k0 / 8 : Nat) : Int))) ∧ ((((0 : Int) ≤ ((k0 / 8 : Nat) : Int) ∧ ((k0 / 8 : Nat) : Int) < ((32 : Nat) : Int)) ∧ True) ∧ (((k0 / 8 < 32) ∧ True) ∧ ((True ∧ True) ∧ (((51 ≠ (0 : Int)) ∧ ((iQuo .i64 ((k0 : Nat) : Int) 51) = ((k0 / 51 : Nat) : Int))) ∧ ((True ∧ True) ∧ ((((0 : Int) ≤ ((k0 / 51 : Nat) : Int) ∧ ((k0 / 51 : Nat) : Int) < ((5 : Nat) : Int)) ∧ True) ∧ (((k0 / 51 < 5) ∧ True) ∧ ((True ∧ True) ∧ (((51 ≠ (0 : Int)) ∧ ((iRem ((k0 : Nat) : Int) 51) = ((k0 % 51 : Nat) : Int))) ∧ ((((0 : Int) ≤ ((k0 % 51 : Nat) : Int)) ∧ True) ∧ ((True ∧ True) ∧ ((True ∧ True) ∧ ((True ∧ True) ∧ (((8 ≠ (0 : Int)) ∧ ((iRem ((k0 : Nat) : Int) 8) = ((k0 % 8 : Nat) : Int))) ∧ ((((0 : Int) ≤ ((k0 % 8 : Nat) : Int)) ∧ True) ∧ ((True ∧ True) ∧ ((((0 : Int) ≤ ((k0 / 8 : Nat) : Int) ∧ ((k0 / 8 : Nat) : Int) < ((32 : Nat) : Int)) ∧ True) ∧ ((((k0 / 8 < 32) ∧ (1 = 1)) ∧ True) ∧ True))))))))))))))))))))
          ([(7, .sc (.i .i64 ((k0 : Nat) : Int))), (3, .sc (.p 80 0)), (2, .sc (.p 16 0)), (1, .sc (.p 0 0))], [(80, .ints .u8 32 (z0.set (k0 / 8) (iOr .u8 (z0.getD (k0 / 8) 0) (iShl .u8 (IntKind.wrap .u8 (iAnd .u64 (iShr .u64 ((F52 p0).getD (k0 / 51) 0) ((k0 % 51 : Nat) : Int)) 1)) ((k0 % 8 : Nat) : Int))))), (0, .ints .u64 5 (F52 p0)), (16, .ints .u8 32 [0, 0, 0, 0, 0, 0, 0, 0, 0, 0, 0, 0, 0, 0, 0, 0, 0, 0, 0, 0, 0, 0, 0, 0, 0, 0, 0, 0, 0, 0, 0, 0])])
          480 (by kernel_rfl) rfl (by kernel_rfl) (⟨⟨trivial, trivial⟩, ⟨⟨(by omega), (iQuo_nat (a := k0) (b := 8) (by omega))⟩, ⟨⟨(by omega), trivial⟩, ⟨⟨(by omega), trivial⟩, ⟨⟨trivial, trivial⟩, ⟨⟨(by omega), (iQuo_nat (a := k0) (b := 51) (by omega))⟩, ⟨⟨trivial, trivial⟩, ⟨⟨(by omega), trivial⟩, ⟨⟨(by omega), trivial⟩, ⟨⟨trivial, trivial⟩, ⟨⟨(by omega), (iRem_nat (a := k0) (b := 51))⟩, ⟨⟨(by omega), trivial⟩, ⟨⟨trivial, trivial⟩, ⟨⟨trivial, trivial⟩, ⟨⟨trivial, trivial⟩, ⟨⟨(by omega), (iRem_nat (a := k0) (b := 8))⟩, ⟨⟨(by omega), trivial⟩, ⟨⟨trivial, trivial⟩, ⟨⟨(by omega), trivial⟩, ⟨⟨⟨(by omega), (rfl)⟩, trivial⟩, trivial⟩⟩⟩⟩⟩⟩⟩⟩⟩⟩⟩⟩⟩⟩⟩⟩⟩⟩⟩⟩) ?_
      change Tri _ _ _ _ _ _
      refine Tri.region' [(29, .i .i64 ((k0 + 1 : Nat) : Int))] none [7, 3, 2, 1] [80, 0, 16] ((True ∧ ((iAdd .i64 ((k0 : Nat) : Int) 1) = ((k0 + 1 : Nat) : Int))) ∧ ((True ∧ True) ∧ True))
          ([(7, .sc (.i .i64 ((k0 + 1 : Nat) : Int))), (3, .sc (.p 80 0)), (2, .sc (.p 16 0)), (1, .sc (.p 0 0))], [(80, .ints .u8 32 (z0.set (k0 / 8) (iOr .u8 (z0.getD (k0 / 8) 0) (iShl .u8 (IntKind.wrap .u8 (iAnd .u64 (iShr .u64 ((F52 p0).getD (k0 / 51) 0) ((k0 % 51 : Nat) : Int)) 1)) ((k0 % 8 : Nat) : Int))))), (0, .ints .u64 5 (F52 p0)), (16, .ints .u8 32 [0, 0, 0, 0, 0, 0, 0, 0, 0, 0, 0, 0, 0, 0, 0, 0, 0, 0, 0, 0, 0, 0, 0, 0, 0, 0, 0, 0, 0, 0, 0, 0])])
          512 (by kernel_rfl) rfl (by kernel_rfl) (⟨⟨trivial, (iAdd_nat (a := k0) (b := 1) (by omega))⟩, ⟨⟨trivial, trivial⟩, trivial⟩⟩) ?_
      refine countP_normal (by omega) trivial ?_
      exact Sub.ren (ns := [(80, 80), (0, 0), (16, 16)]) (kf := [7, 3, 2, 1]) (by kernel_rfl) (by kernel_rfl)
    ·
      have h1' := of_decide_eq_false h1
      refine Tri.exit ?_
      have hend0 : k0 = 255 := by (have := of_decide_eq_false h1; omega)
      subst hend0; subst hz0
      change Tri _ _ _ _ _ _
      refine Tri.seq_region [] none [2] [16] ((True ∧ True) ∧ (((True ∧ (32 = 32)) ∧ True) ∧ True))
          ([(2, .sc (.p 16 0))], [(16, .ints .u8 32 (itr (F33l0 p0) 255 [0, 0, 0, 0, 0, 0, 0, 0, 0, 0, 0, 0, 0, 0, 0, 0, 0, 0, 0, 0, 0, 0, 0, 0, 0, 0, 0, 0, 0, 0, 0, 0]))])
          160 (by kernel_rfl) rfl (by kernel_rfl) (⟨⟨trivial, trivial⟩, ⟨⟨⟨trivial, (rfl)⟩, trivial⟩, trivial⟩⟩) ?_
      refine Tri.ret ?_
      exact endP.ret [] (True ∧ True) (by kernel_rfl) (by kernel_rfl) (by kernel_rfl) ⟨trivial, trivial⟩

end Go.Vm
