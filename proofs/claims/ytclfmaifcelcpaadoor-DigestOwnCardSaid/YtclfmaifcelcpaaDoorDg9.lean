/- What the functions compute, and that they do: walked by a printed text. -/
import Derived.Test.YtclfmaifcelcpaaDoorDgE
set_option linter.unusedVariables false
set_option linter.unusedSimpArgs false
set_option maxRecDepth 4000
namespace Go.Vm
open Go
theorem elem_le {p : List (List Int)} {M : Nat} (h : ∀ x ∈ p, x.length ≤ M) (k : Nat) : (p.getD k []).length ≤ M := by
  rw [List.getD_eq_getElem?_getD]
  cases e : p[k]? with
  | none => exact Nat.zero_le _
  | some x => exact h x (List.mem_of_getElem? e)


noncomputable def F9l0 (p1 : List (List Int)) (k0 : Nat) (z0 : Int) : Int :=
  (iAdd .i64 z0 ((1 + ((p1.getD k0 []).length) : Nat) : Int))

noncomputable def F9s0 (p0 : List Int) (p1 : List (List Int)) (k0 : Nat) : Bool :=
  (sel (decide (((iAdd .i64 (itr (F9l0 p1) k0 ((p0.length : Nat) : Int)) ((1 + ((p1.getD k0 []).length) : Nat) : Int)) : Int) > 2000)) true false)

noncomputable def F9 (p0 : List Int) (p1 : List (List Int)) : Bool :=
  (sel (!(F33)) false (sel (Nat.blt (fstB (F9s0 p0 p1) p1.length) p1.length) true (sel (decide (((itr (F9l0 p1) p1.length ((p0.length : Nat) : Int)) : Int) > 2000)) true (strEq (bytesOf (((F40 p0 p1).drop 0).take 32)) (bytesOf (((F41 p0 (part1 (F42 p1) (lensTo p1 p1.length) 0 (lensTo p1 p1.length))).drop 0).take 32))))))

noncomputable def S9 : List AV → Option (Prop × Ret)
  | [.sc (.ro .u8 p0), .sc (.rob p1)] => some (p0.length ≤ 140737488351232 ∧ p1.length ≤ 140737488351232 ∧ ∀ x ∈ p1, x.length ≤ 140737488351232, ⟨.sc (.b (F9 p0 p1)), []⟩)
  | _ => none

noncomputable def B9 : Bs := { P := Go.Proofs.Tryd.prog, G := gD, tab := tabOf [(33, ⟨[], 0, S33⟩), (40, ⟨[.ro .u8, .rob []], 0, S40⟩), (41, ⟨[.ro .u8, .ro .u8], 1, S41⟩), (42, ⟨[.rob []], 1, S42⟩)], n := 40 }

theorem B9.ok : B9.Ok := ⟨tabOk (P := Go.Proofs.Tryd.prog) (G := gD) (l := [(33, ⟨[], 0, S33⟩), (40, ⟨[.ro .u8, .rob []], 0, S40⟩), (41, ⟨[.ro .u8, .ro .u8], 1, S41⟩), (42, ⟨[.rob []], 1, S42⟩)]) (And.intro K33 (And.intro K40 (And.intro K41 (And.intro K42 True.intro)))), mixed⟩

theorem K9 : Known Go.Proofs.Tryd.prog gD 9 ⟨[.ro .u8, .rob []], 0, S9⟩ := by
  refine Known.walk (B := B9) (fn := Go.Proofs.Tryd.f9) B9.ok (by kernel_rfl) rfl (by kernel_rfl) (by kernel_rfl) (by decide) ?_ ?_
  · intro vs C r h
    simp only at h
    unfold S9 at h
    split at h
    · cases h; rfl
    · cases h
  · intro E args C r h hC hlen
    simp only at h
    unfold S9 at h
    split at h
    rotate_left
    · cases h
    rename_i p0 p1
    cases h
    simp only [lens] at hlen
    have hM1 := hC.1
    have hM2 := hC.2.1
    have hel := elem_le hC.2.2
    refine ⟨show 2 ≤ 40 from by decide, ?_⟩
    refine Tri.sub (Sub.of_eq (show _ = ([(0, .sc (.ro .u8 p0)), (1, .sc (.rob p1))], []) from rfl)) ?_
    refine Tri.seq_region [] none [0, 1] [] ((True ∧ True) ∧ True)
        ([(0, .sc (.ro .u8 p0)), (1, .sc (.rob p1))], [])
        16 (by kernel_rfl) rfl (by kernel_rfl) (⟨⟨trivial, trivial⟩, trivial⟩) ?_
    refine Tri.seq ?_
    refine Tri.seq_region [] none [10, 0, 1] [] (((True ∧ True) ∧ True) ∧ ((True ∧ True) ∧ True))
        ([(10, .sc (.b (!(F33)))), (0, .sc (.ro .u8 p0)), (1, .sc (.rob p1))], [])
        48 (by kernel_rfl) rfl (by kernel_rfl) (⟨⟨⟨trivial, trivial⟩, trivial⟩, ⟨⟨trivial, trivial⟩, trivial⟩⟩) ?_
    refine Tri.cond (x := (!(F33))) (by kernel_rfl) (fun h1 => ?_) (fun h1 => ?_)
    ·
      refine Tri.seq_region [] none [4] [] ((True ∧ True) ∧ True)
          ([(4, .sc (.b false))], [])
          64 (by kernel_rfl) rfl (by kernel_rfl) (⟨⟨trivial, trivial⟩, trivial⟩) ?_
      refine Tri.ret ?_
      repeat (first | refine thenP_ret ?_ | refine blkP_ret ?_ | refine countP_ret ?_ | refine joinP_ret ?_)
      refine endP.conv (r' := ⟨.sc (.b false), []⟩) (by simp only [F9, h1, sel_true, sel_false]) ?_
      exact endP.ret [] (True ∧ True) (by kernel_rfl) (by kernel_rfl) (by kernel_rfl) ⟨trivial, trivial⟩
    ·
      refine Tri.skip ?_
      change Tri _ _ _ _ _ _
      refine Tri.seq_region [] none [5, 0, 1] [] ((True ∧ True) ∧ ((True ∧ True) ∧ ((True ∧ True) ∧ True)))
          ([(5, .sc (.i .i64 ((p0.length : Nat) : Int))), (0, .sc (.ro .u8 p0)), (1, .sc (.rob p1))], [])
          96 (by kernel_rfl) rfl (by kernel_rfl) (⟨⟨trivial, trivial⟩, ⟨⟨trivial, trivial⟩, ⟨⟨trivial, trivial⟩, trivial⟩⟩⟩) ?_
      refine Tri.seq ?_
      refine Tri.seq_region [] none [15, 14, 13, 5, 0, 1] [] ((True ∧ True) ∧ ((True ∧ True) ∧ ((True ∧ True) ∧ True)))
          ([(15, .sc (.i .i64 0)), (14, .sc (.i .i64 ((p1.length : Nat) : Int))), (13, .sc (.rob p1)), (5, .sc (.i .i64 ((p0.length : Nat) : Int))), (0, .sc (.ro .u8 p0)), (1, .sc (.rob p1))], [])
          144 (by kernel_rfl) rfl (by kernel_rfl) (⟨⟨trivial, trivial⟩, ⟨⟨trivial, trivial⟩, ⟨⟨trivial, trivial⟩, trivial⟩⟩⟩) ?_
      refine Tri.block ?_
      refine Tri.count 144 p1.length (F9l0 p1) ((p0.length : Nat) : Int) (fun k0 z0 => z0 = ((p0.length + k0 + lensTo p1 k0 : Nat) : Int) ∧ p0.length + k0 + lensTo p1 k0 ≤ 140737488351232 ∧ (∀ j, j < k0 → (F9s0 p0 p1) j = false)) (fun k0 z0 => ([(15, .sc (.i .i64 ((k0 : Nat) : Int))), (14, .sc (.i .i64 ((p1.length : Nat) : Int))), (13, .sc (.rob p1)), (5, .sc (.i .i64 z0)), (0, .sc (.ro .u8 p0)), (1, .sc (.rob p1))], [])) (⟨rfl, (show p0.length + 0 + 0 ≤ 140737488351232 by omega), (fun j hj => absurd hj (Nat.not_lt_zero j))⟩) (Sub.of_eq (by kernel_rfl)) ?_
      intro k0 z0 hk0 hz0 hJ0
      have hel0 := hel k0
      refine Tri.seq_region [] none [16, 15, 14, 13, 5, 0, 1] [] ((True ∧ True) ∧ True)
          ([(16, .sc (.b (decide ((((k0 : Nat) : Int) : Int) < ((p1.length : Nat) : Int))))), (15, .sc (.i .i64 ((k0 : Nat) : Int))), (14, .sc (.i .i64 ((p1.length : Nat) : Int))), (13, .sc (.rob p1)), (5, .sc (.i .i64 z0)), (0, .sc (.ro .u8 p0)), (1, .sc (.rob p1))], [])
          160 (by kernel_rfl) rfl (by kernel_rfl) (⟨⟨trivial, trivial⟩, trivial⟩) ?_
      refine Tri.seq ?_
      refine Tri.cond (x := (decide ((((k0 : Nat) : Int) : Int) < ((p1.length : Nat) : Int)))) (by kernel_rfl) (fun h2 => ?_) (fun h2 => ?_)
      ·
        have h2' := of_decide_eq_true h2
        refine Tri.skip ?_
        change Tri _ _ _ _ _ _
        refine Tri.seq ?_
        refine Tri.block ?_
        refine Tri.seq_region [] none [7, 15, 14, 13, 5, 0, 1] [] ((((0 : Int) ≤ ((k0 : Nat) : Int) ∧ ((k0 : Nat) : Int) < (p1.length : Int)) ∧ True) ∧ ((True ∧ True) ∧ ((True ∧ True) ∧ True)))
            ([(7, .sc (.ro .u8 (p1.getD k0 []))), (15, .sc (.i .i64 ((k0 : Nat) : Int))), (14, .sc (.i .i64 ((p1.length : Nat) : Int))), (13, .sc (.rob p1)), (5, .sc (.i .i64 z0)), (0, .sc (.ro .u8 p0)), (1, .sc (.rob p1))], [])
            208 (by kernel_rfl) rfl (by kernel_rfl) (⟨⟨(by first | omega | (have hq := lens_le hJ0 (by omega); omega) | (have hq := lens_le hJ1 (by omega); omega) | (have hq := lens_le hJ2 (by omega); omega) | (have hq := lens_le hJ3 (by omega); omega) | (rw [adr_eq]; omega) | exact iAnd_nn _ _ | exact iSub_nn _ _ | exact part1_le (by omega) (by first | omega | (simp only [List.length_append]; omega)) | (rw [iMul_i64 (by omega) (by omega)]; omega) | decide), trivial⟩, ⟨⟨trivial, trivial⟩, ⟨⟨trivial, trivial⟩, trivial⟩⟩⟩) ?_
        refine Tri.seq_region [(22, .i .i64 ((1 + ((p1.getD k0 []).length) : Nat) : Int))] none [5, 15, 14, 13, 0, 1] [] ((True ∧ True) ∧ ((True ∧ True) ∧ ((True ∧ True) ∧ ((True ∧ ((iAdd .i64 1 (((p1.getD k0 []).length : Nat) : Int)) = ((1 + ((p1.getD k0 []).length) : Nat) : Int))) ∧ ((True ∧ True) ∧ ((True ∧ True) ∧ True))))))
            ([(5, .sc (.i .i64 (iAdd .i64 z0 ((1 + ((p1.getD k0 []).length) : Nat) : Int)))), (15, .sc (.i .i64 ((k0 : Nat) : Int))), (14, .sc (.i .i64 ((p1.length : Nat) : Int))), (13, .sc (.rob p1)), (0, .sc (.ro .u8 p0)), (1, .sc (.rob p1))], [])
            304 (by kernel_rfl) rfl (by kernel_rfl) (⟨⟨trivial, trivial⟩, ⟨⟨trivial, trivial⟩, ⟨⟨trivial, trivial⟩, ⟨⟨trivial, (iAdd_nat (a := 1) (b := (p1.getD k0 []).length) (by omega))⟩, ⟨⟨trivial, trivial⟩, ⟨⟨trivial, trivial⟩, trivial⟩⟩⟩⟩⟩⟩) ?_
        refine Tri.seq_region [] none [25, 5, 15, 14, 13, 0, 1] [] ((True ∧ True) ∧ ((True ∧ True) ∧ True))
            ([(25, .sc (.b (decide (((iAdd .i64 z0 ((1 + ((p1.getD k0 []).length) : Nat) : Int)) : Int) > 2000)))), (5, .sc (.i .i64 (iAdd .i64 z0 ((1 + ((p1.getD k0 []).length) : Nat) : Int)))), (15, .sc (.i .i64 ((k0 : Nat) : Int))), (14, .sc (.i .i64 ((p1.length : Nat) : Int))), (13, .sc (.rob p1)), (0, .sc (.ro .u8 p0)), (1, .sc (.rob p1))], [])
            336 (by kernel_rfl) rfl (by kernel_rfl) (⟨⟨trivial, trivial⟩, ⟨⟨trivial, trivial⟩, trivial⟩⟩) ?_
        refine Tri.cond (x := (decide (((iAdd .i64 z0 ((1 + ((p1.getD k0 []).length) : Nat) : Int)) : Int) > 2000))) (by kernel_rfl) (fun h3 => ?_) (fun h3 => ?_)
        ·
          have h3' := of_decide_eq_true h3
          refine Tri.seq_region [] none [4] [] ((True ∧ True) ∧ True)
              ([(4, .sc (.b true))], [])
              352 (by kernel_rfl) rfl (by kernel_rfl) (⟨⟨trivial, trivial⟩, trivial⟩) ?_
          refine Tri.ret ?_
          subst hz0
          have hf0 : fstB (F9s0 p0 p1) p1.length = k0 := fst_found (by omega) hJ0.2.2 (by simp only [F9s0, h1, h2, h3, sel_true, sel_false])
          have hb0 : Nat.blt k0 p1.length = true := blt_true (by omega)
          have hq0 : Nat.blt (fstB (F9s0 p0 p1) p1.length) p1.length = true := by rw [hf0]; exact hb0
          repeat (first | refine thenP_ret ?_ | refine blkP_ret ?_ | refine countP_ret ?_ | refine joinP_ret ?_)
          refine endP.conv (r' := ⟨.sc (.b true), []⟩) (by simp only [F9, h1, hq0, hf0, hb0, sel_true, sel_false]) ?_
          exact endP.ret [] (True ∧ True) (by kernel_rfl) (by kernel_rfl) (by kernel_rfl) ⟨trivial, trivial⟩
        ·
          have h3' := of_decide_eq_false h3
          refine Tri.skip ?_
          change Tri _ _ _ _ _ _
          refine Tri.region' [(26, .i .i64 ((k0 + 1 : Nat) : Int))] none [15, 5, 14, 13, 0, 1] [] ((True ∧ ((iAdd .i64 ((k0 : Nat) : Int) 1) = ((k0 + 1 : Nat) : Int))) ∧ ((True ∧ True) ∧ True))
              ([(15, .sc (.i .i64 ((k0 + 1 : Nat) : Int))), (5, .sc (.i .i64 (iAdd .i64 z0 ((1 + ((p1.getD k0 []).length) : Nat) : Int)))), (14, .sc (.i .i64 ((p1.length : Nat) : Int))), (13, .sc (.rob p1)), (0, .sc (.ro .u8 p0)), (1, .sc (.rob p1))], [])
              368 (by kernel_rfl) rfl (by kernel_rfl) (⟨⟨trivial, (iAdd_nat (a := k0) (b := 1) (by omega))⟩, ⟨⟨trivial, trivial⟩, trivial⟩⟩) ?_
          repeat (refine blkP_normal ?_)
          refine countP_normal (by omega) (⟨(show iAdd .i64 z0 ((1 + (p1.getD k0 []).length : Nat) : Int) = ((p0.length + (k0 + 1) + (lensTo p1 k0 + (p1.getD k0 []).length) : Nat) : Int) by rw [iAdd_i64 (by omega) (by omega)]; omega), (show p0.length + (k0 + 1) + (lensTo p1 k0 + (p1.getD k0 []).length) ≤ 140737488351232 by have e9 : iAdd .i64 z0 ((1 + (p1.getD k0 []).length : Nat) : Int) = z0 + ((1 + (p1.getD k0 []).length : Nat) : Int) := iAdd_i64 (by omega) (by omega); omega), (below_succ hJ0.2.2 (by subst hz0; simp only [F9s0, h1, h2, h3, sel_true, sel_false]))⟩) ?_
          exact Sub.ren (ns := []) (kf := [15, 14, 13, 5, 0, 1]) (by kernel_rfl) (by kernel_rfl)
      ·
        have h2' := of_decide_eq_false h2
        refine Tri.exit ?_
        have hend0 : k0 = p1.length := by (have := of_decide_eq_false h2; omega)
        subst hend0; subst hz0
        have hf0 : fstB (F9s0 p0 p1) p1.length = p1.length := fst_none hJ0.2.2
        have hb0 : Nat.blt p1.length p1.length = false := blt_self _
        have hq0 : Nat.blt (fstB (F9s0 p0 p1) p1.length) p1.length = false := by rw [hf0]; exact hb0
        change Tri _ _ _ _ _ _
        refine Tri.seq ?_
        refine Tri.seq_region [] none [28, 0, 1] [] ((True ∧ True) ∧ ((True ∧ True) ∧ True))
            ([(28, .sc (.b (decide (((itr (F9l0 p1) p1.length ((p0.length : Nat) : Int)) : Int) > 2000)))), (0, .sc (.ro .u8 p0)), (1, .sc (.rob p1))], [])
            192 (by kernel_rfl) rfl (by kernel_rfl) (⟨⟨trivial, trivial⟩, ⟨⟨trivial, trivial⟩, trivial⟩⟩) ?_
        refine Tri.cond (x := (decide (((itr (F9l0 p1) p1.length ((p0.length : Nat) : Int)) : Int) > 2000))) (by kernel_rfl) (fun h4 => ?_) (fun h4 => ?_)
        ·
          have h4' := of_decide_eq_true h4
          refine Tri.seq_region [] none [4] [] ((True ∧ True) ∧ True)
              ([(4, .sc (.b true))], [])
              208 (by kernel_rfl) rfl (by kernel_rfl) (⟨⟨trivial, trivial⟩, trivial⟩) ?_
          refine Tri.ret ?_
          repeat (first | refine thenP_ret ?_ | refine blkP_ret ?_ | refine countP_ret ?_ | refine joinP_ret ?_)
          refine endP.conv (r' := ⟨.sc (.b true), []⟩) (by simp only [F9, h1, hq0, hf0, hb0, h4, sel_true, sel_false]) ?_
          exact endP.ret [] (True ∧ True) (by kernel_rfl) (by kernel_rfl) (by kernel_rfl) ⟨trivial, trivial⟩
        ·
          have h4' := of_decide_eq_false h4
          refine Tri.skip ?_
          change Tri _ _ _ _ _ _
          refine Tri.seq_region [] none [8, 0, 1] [240] ((True ∧ True) ∧ ((True ∧ True) ∧ (((True ∧ (p0.length ≤ 100000 ∧ lensTo p1 p1.length ≤ 100000 ∧ p1.length ≤ 100000)) ∧ True) ∧ ((True ∧ True) ∧ (((True ∧ (32 = 32)) ∧ True) ∧ True)))))
              ([(8, .sc (.p 240 0)), (0, .sc (.ro .u8 p0)), (1, .sc (.rob p1))], [(240, .ints .u8 32 (F40 p0 p1))])
              272 (by kernel_rfl) rfl (by kernel_rfl) (⟨⟨trivial, trivial⟩, ⟨⟨trivial, trivial⟩, ⟨⟨⟨trivial, (by first | omega | (have hq := lens_le hJ0 (by omega); omega) | (have hq := lens_le hJ1 (by omega); omega) | (have hq := lens_le hJ2 (by omega); omega) | (have hq := lens_le hJ3 (by omega); omega) | (rw [adr_eq]; omega) | exact iAnd_nn _ _ | exact iSub_nn _ _ | exact part1_le (by omega) (by first | omega | (simp only [List.length_append]; omega)) | (rw [iMul_i64 (by omega) (by omega)]; omega) | decide)⟩, trivial⟩, ⟨⟨trivial, trivial⟩, ⟨⟨⟨trivial, (rfl)⟩, trivial⟩, trivial⟩⟩⟩⟩⟩) ?_
          refine Tri.len 240 rfl (fun hl5 => ?_)
          refine Tri.seq_region [] (some [0, 1, 0, 0, 8, 28, 60, 127, 255]) [4] [] (((((0 : Int) ≤ 0 ∧ (0 : Int) ≤ 32 ∧ 32 ≤ ((32 : Nat) : Int)) ∧ (32 ≤ 32)) ∧ True) ∧ (((0 + 32 ≤ 32) ∧ True) ∧ ((True ∧ True) ∧ ((True ∧ True) ∧ (((True ∧ (lensTo p1 p1.length ≤ 100000 ∧ p1.length ≤ 100000)) ∧ True) ∧ (((((0 + (lensTo p1 p1.length) ≤ (lensTo p1 p1.length)) ∧ True) ∧ (p0.length ≤ 100000 ∧ (part1 (F42 p1) (lensTo p1 p1.length) 0 (lensTo p1 p1.length)).length ≤ 100000)) ∧ True) ∧ (((0 + 32 ≤ 32) ∧ True) ∧ ((True ∧ True) ∧ ((True ∧ True) ∧ True)))))))))
              ([(4, .sc (.b (strEq (bytesOf (((F40 p0 p1).drop 0).take 32)) (bytesOf (((F41 p0 (part1 (F42 p1) (lensTo p1 p1.length) 0 (lensTo p1 p1.length))).drop 0).take 32)))))], [])
              416 (by kernel_rfl) rfl (by kernel_rfl) (⟨⟨⟨(by first | omega | (have hq := lens_le hJ0 (by omega); omega) | (have hq := lens_le hJ1 (by omega); omega) | (have hq := lens_le hJ2 (by omega); omega) | (have hq := lens_le hJ3 (by omega); omega) | (rw [adr_eq]; omega) | exact iAnd_nn _ _ | exact iSub_nn _ _ | exact part1_le (by omega) (by first | omega | (simp only [List.length_append]; omega)) | (rw [iMul_i64 (by omega) (by omega)]; omega) | decide), (by first | omega | (have hq := lens_le hJ0 (by omega); omega) | (have hq := lens_le hJ1 (by omega); omega) | (have hq := lens_le hJ2 (by omega); omega) | (have hq := lens_le hJ3 (by omega); omega) | (rw [adr_eq]; omega) | exact iAnd_nn _ _ | exact iSub_nn _ _ | exact part1_le (by omega) (by first | omega | (simp only [List.length_append]; omega)) | (rw [iMul_i64 (by omega) (by omega)]; omega) | decide)⟩, trivial⟩, ⟨⟨(by first | omega | (have hq := lens_le hJ0 (by omega); omega) | (have hq := lens_le hJ1 (by omega); omega) | (have hq := lens_le hJ2 (by omega); omega) | (have hq := lens_le hJ3 (by omega); omega) | (rw [adr_eq]; omega) | exact iAnd_nn _ _ | exact iSub_nn _ _ | exact part1_le (by omega) (by first | omega | (simp only [List.length_append]; omega)) | (rw [iMul_i64 (by omega) (by omega)]; omega) | decide), trivial⟩, ⟨⟨trivial, trivial⟩, ⟨⟨trivial, trivial⟩, ⟨⟨⟨trivial, (by first | omega | (have hq := lens_le hJ0 (by omega); omega) | (have hq := lens_le hJ1 (by omega); omega) | (have hq := lens_le hJ2 (by omega); omega) | (have hq := lens_le hJ3 (by omega); omega) | (rw [adr_eq]; omega) | exact iAnd_nn _ _ | exact iSub_nn _ _ | exact part1_le (by omega) (by first | omega | (simp only [List.length_append]; omega)) | (rw [iMul_i64 (by omega) (by omega)]; omega) | decide)⟩, trivial⟩, ⟨⟨⟨⟨(by first | omega | (have hq := lens_le hJ0 (by omega); omega) | (have hq := lens_le hJ1 (by omega); omega) | (have hq := lens_le hJ2 (by omega); omega) | (have hq := lens_le hJ3 (by omega); omega) | (rw [adr_eq]; omega) | exact iAnd_nn _ _ | exact iSub_nn _ _ | exact part1_le (by omega) (by first | omega | (simp only [List.length_append]; omega)) | (rw [iMul_i64 (by omega) (by omega)]; omega) | decide), trivial⟩, (by exact ⟨by omega, part1_le (by omega) (by rw [len42]; omega)⟩)⟩, trivial⟩, ⟨⟨(by first | omega | (have hq := lens_le hJ0 (by omega); omega) | (have hq := lens_le hJ1 (by omega); omega) | (have hq := lens_le hJ2 (by omega); omega) | (have hq := lens_le hJ3 (by omega); omega) | (rw [adr_eq]; omega) | exact iAnd_nn _ _ | exact iSub_nn _ _ | exact part1_le (by omega) (by first | omega | (simp only [List.length_append]; omega)) | (rw [iMul_i64 (by omega) (by omega)]; omega) | decide), trivial⟩, ⟨⟨trivial, trivial⟩, ⟨⟨trivial, trivial⟩, trivial⟩⟩⟩⟩⟩⟩⟩⟩⟩) ?_
          refine Tri.ret ?_
          repeat (first | refine thenP_ret ?_ | refine blkP_ret ?_ | refine countP_ret ?_ | refine joinP_ret ?_)
          refine endP.conv (r' := ⟨.sc (.b (strEq (bytesOf (((F40 p0 p1).drop 0).take 32)) (bytesOf (((F41 p0 (part1 (F42 p1) (lensTo p1 p1.length) 0 (lensTo p1 p1.length))).drop 0).take 32)))), []⟩) (by simp only [F9, h1, hq0, hf0, hb0, h4, sel_true, sel_false]) ?_
          exact endP.ret [] (True ∧ True) (by kernel_rfl) (by kernel_rfl) (by kernel_rfl) ⟨trivial, trivial⟩

end Go.Vm
