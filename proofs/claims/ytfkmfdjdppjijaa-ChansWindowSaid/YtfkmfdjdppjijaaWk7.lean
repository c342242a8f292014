/- What the functions compute, and that they do: walked by a printed text. -/
import Derived.Test.YtfkmfdjdppjijaaPd1
set_option linter.unusedVariables false
set_option linter.unusedSimpArgs false
set_option maxRecDepth 4000
namespace Go.Vm
open Go

noncomputable def Fccarryl0 (p0 : Ch) (k0 : Nat) (z0 : Ch) : Ch :=
  (FcTake_1 z0 ((FcOut_1 p0).getD k0 []))

noncomputable def Fccarry (p0 : Ch) (p1 : Ch) : Ch :=
  (FcOut p0)

noncomputable def Fccarry_1 (p0 : Ch) (p1 : Ch) : Ch :=
  (itr (Fccarryl0 p0) p0.out.length p1)

noncomputable def Sccarryc (p0 : Ch) (p1 : Ch) (y0_n1 : Nat) (y0_n2 : Nat) (y0_n3 : Nat) (y0_m1 : Nat) (y0_m2 : Nat) (y1_n1 : Nat) (y1_n2 : Nat) (y1_n3 : Nat) (y1_m1 : Nat) (y1_m2 : Nat)  : Option (Prop × Ret) :=
  some ((chLens y0_n1 y0_n2 y0_n3 y0_m1 y0_m2 p0 ∧ (chLens y1_n1 y1_n2 y1_n3 y1_m1 y1_m2 p1 ∧ (chOk 1000000 p1 ∧ p0.out.length ≤ 100000))), ⟨.tup [], [some (chC 8 9 10 (Fccarry p0 p1)), none, none, none, some (chC 11 12 13 (Fccarry_1 p0 p1)), none, none, none, some (.ints .u8 ((Fccarry p0 p1).wait.length) ((Fccarry p0 p1).wait)), some (.ints .u8 ((Fccarry p0 p1).got.length) ((Fccarry p0 p1).got)), some (.vec .row ((Fccarry p0 p1).out)), some (.ints .u8 ((Fccarry_1 p0 p1).wait.length) ((Fccarry_1 p0 p1).wait)), some (.ints .u8 ((Fccarry_1 p0 p1).got.length) ((Fccarry_1 p0 p1).got)), some (.vec .row ((Fccarry_1 p0 p1).out))]⟩)

noncomputable def Sccarry : List AV → List Blk → Option (Prop × Ret)
  | [.sc (.p 0 0), .sc (.p 4 0)], [.cells [.b y0_server, .i .i64 y0_state, .i .u32 y0_peer, .i .i64 y0_window, .i .i64 y0_most, .i .i64 y0_room, .sl 1 0 y0_n1 1 none, .sl 2 0 y0_n2 1 none, .b y0_ready, .b y0_e0, .b y0_e1, .b y0_c0, .b y0_c1, .sl 3 0 y0_n3 1 none], .ints .u8 y0_m1 y0_wait, .ints .u8 y0_m2 y0_got, .vec .row y0_out, .cells [.b y1_server, .i .i64 y1_state, .i .u32 y1_peer, .i .i64 y1_window, .i .i64 y1_most, .i .i64 y1_room, .sl 5 0 y1_n1 1 none, .sl 6 0 y1_n2 1 none, .b y1_ready, .b y1_e0, .b y1_e1, .b y1_c0, .b y1_c1, .sl 7 0 y1_n3 1 none], .ints .u8 y1_m1 y1_wait, .ints .u8 y1_m2 y1_got, .vec .row y1_out] => Sccarryc ⟨y0_server, y0_state, y0_peer, y0_window, y0_most, y0_room, y0_wait, y0_got, y0_ready, y0_e0, y0_e1, y0_c0, y0_c1, y0_out⟩ ⟨y1_server, y1_state, y1_peer, y1_window, y1_most, y1_room, y1_wait, y1_got, y1_ready, y1_e0, y1_e1, y1_c0, y1_c1, y1_out⟩ y0_n1 y0_n2 y0_n3 y0_m1 y0_m2 y1_n1 y1_n2 y1_n3 y1_m1 y1_m2
  | _, _ => none

noncomputable def Bccarry : Bs := { P := Go.Proofs.Try.prog, G := noG, tab := tabOf [⟨12, 192, [.io, .ro .u8], [], [4, 80, 81, 82], ⟨4, 3, ScTake⟩, false⟩, ⟨16, 32, [.io], [], [0, 1, 2, 3], ⟨4, 4, ScOut⟩, false⟩], n := 17 }

theorem Bccarry.ok : Bccarry.Ok := ⟨tabOk (P := Go.Proofs.Try.prog) (G := noG) (l := [⟨12, 192, [.io, .ro .u8], [], [4, 80, 81, 82], ⟨4, 3, ScTake⟩, false⟩, ⟨16, 32, [.io], [], [0, 1, 2, 3], ⟨4, 4, ScOut⟩, false⟩]) (And.intro KcTake (And.intro KcOut True.intro)), mixed⟩

theorem Kccarry : Known Go.Proofs.Try.prog noG 11 ⟨8, 6, Sccarry⟩ := by
  refine Known.walk (B := Bccarry) (fn := Go.Proofs.Try.f11) Bccarry.ok (by kernel_rfl) rfl (by kernel_rfl) (by kernel_rfl) (by decide) (by decide) ?_
  · intro E args ks C r h hC hlen
    simp only at h
    unfold Sccarry at h
    split at h
    rotate_left
    · cases h
    rename_i y0_server y0_state y0_peer y0_window y0_most y0_room y0_n1 y0_n2 y0_ready y0_e0 y0_e1 y0_c0 y0_c1 y0_n3 y0_m1 y0_wait y0_m2 y0_got y0_out y1_server y1_state y1_peer y1_window y1_most y1_room y1_n1 y1_n2 y1_ready y1_e0 y1_e1 y1_c0 y1_c1 y1_n3 y1_m1 y1_wait y1_m2 y1_got y1_out
    generalize hp0 : (⟨y0_server, y0_state, y0_peer, y0_window, y0_most, y0_room, y0_wait, y0_got, y0_ready, y0_e0, y0_e1, y0_c0, y0_c1, y0_out⟩ : Ch) = p0 at h
    obtain rfl : y0_server = p0.server := by rw [← hp0]
    obtain rfl : y0_state = p0.state := by rw [← hp0]
    obtain rfl : y0_peer = p0.peer := by rw [← hp0]
    obtain rfl : y0_window = p0.window := by rw [← hp0]
    obtain rfl : y0_most = p0.most := by rw [← hp0]
    obtain rfl : y0_room = p0.room := by rw [← hp0]
    obtain rfl : y0_wait = p0.wait := by rw [← hp0]
    obtain rfl : y0_got = p0.got := by rw [← hp0]
    obtain rfl : y0_ready = p0.ready := by rw [← hp0]
    obtain rfl : y0_e0 = p0.e0 := by rw [← hp0]
    obtain rfl : y0_e1 = p0.e1 := by rw [← hp0]
    obtain rfl : y0_c0 = p0.c0 := by rw [← hp0]
    obtain rfl : y0_c1 = p0.c1 := by rw [← hp0]
    obtain rfl : y0_out = p0.out := by rw [← hp0]
    clear hp0
    generalize hp1 : (⟨y1_server, y1_state, y1_peer, y1_window, y1_most, y1_room, y1_wait, y1_got, y1_ready, y1_e0, y1_e1, y1_c0, y1_c1, y1_out⟩ : Ch) = p1 at h
    obtain rfl : y1_server = p1.server := by rw [← hp1]
    obtain rfl : y1_state = p1.state := by rw [← hp1]
    obtain rfl : y1_peer = p1.peer := by rw [← hp1]
    obtain rfl : y1_window = p1.window := by rw [← hp1]
    obtain rfl : y1_most = p1.most := by rw [← hp1]
    obtain rfl : y1_room = p1.room := by rw [← hp1]
    obtain rfl : y1_wait = p1.wait := by rw [← hp1]
    obtain rfl : y1_got = p1.got := by rw [← hp1]
    obtain rfl : y1_ready = p1.ready := by rw [← hp1]
    obtain rfl : y1_e0 = p1.e0 := by rw [← hp1]
    obtain rfl : y1_e1 = p1.e1 := by rw [← hp1]
    obtain rfl : y1_c0 = p1.c0 := by rw [← hp1]
    obtain rfl : y1_c1 = p1.c1 := by rw [← hp1]
    obtain rfl : y1_out = p1.out := by rw [← hp1]
    clear hp1
    unfold Sccarryc at h
    cases h
    obtain ⟨⟨rfl, rfl, rfl, rfl, rfl⟩, hC⟩ := hC
    obtain ⟨⟨rfl, rfl, rfl, rfl, rfl⟩, hC⟩ := hC
    simp only [lens] at hlen
    have ho : (FcOut_1 p0).length = p0.out.length := rfl
    refine ⟨show 2 ≤ 17 from by decide, ?_⟩
    refine Tri.sub (Sub.of_eq (show _ = ([(0, .sc (.p 0 0)), (1, .sc (.p 4 0))], [(0, chC 1 2 3 p0), (1, .ints .u8 p0.wait.length p0.wait), (2, .ints .u8 p0.got.length p0.got), (3, .vec .row p0.out), (4, chC 5 6 7 p1), (5, .ints .u8 p1.wait.length p1.wait), (6, .ints .u8 p1.got.length p1.got), (7, .vec .row p1.out)]) from rfl)) ?_
    refine Tri.subP ?_
    refine Tri.seq_region [] none [9, 8, 7, 1] [35, 34, 33, 32, 0, 4, 5, 6, 7] (TT ∧ (((True ∧ ((chLens p0.wait.length p0.got.length p0.out.length p0.wait.length p0.got.length p0) ∧ True)) ∧ True) ∧ (TT ∧ (TT ∧ True))))
        ([(9, .sc (.i .i64 0)), (8, .sc (.i .i64 ((p0.out.length : Nat) : Int))), (7, .sc (.sl 35 0 p0.out.length 1 none)), (1, .sc (.p 4 0))], [(35, .vec .row (FcOut_1 p0)), (34, .vec .row ((FcOut p0).out)), (33, .ints .u8 ((FcOut p0).got.length) ((FcOut p0).got)), (32, .ints .u8 ((FcOut p0).wait.length) ((FcOut p0).wait)), (0, chC 32 33 34 (FcOut p0)), (4, chC 5 6 7 p1), (5, .ints .u8 p1.wait.length p1.wait), (6, .ints .u8 p1.got.length p1.got), (7, .vec .row p1.out)])
        80 (by kernel_rfl) rfl (by kernel_rfl) (⟨tt, ⟨⟨⟨trivial, ⟨(chLens_self _), trivial⟩⟩, trivial⟩, ⟨tt, ⟨tt, trivial⟩⟩⟩⟩) ?_
    refine Tri.block ?_
    refine Tri.sub (Sub.ren (U := 80) (U' := 96) (ns := [(35, 35), (34, 34), (33, 33), (32, 32), (0, 0), (4, 4), (5, 80), (6, 81), (7, 82)]) (kf := [9, 8, 7, 1]) (s' := ([(9, .sc (.i .i64 0)), (8, .sc (.i .i64 ((p0.out.length : Nat) : Int))), (7, .sc (.sl 35 0 p0.out.length 1 none)), (1, .sc (.p 4 0))], [(35, .vec .row (FcOut_1 p0)), (34, .vec .row ((FcOut p0).out)), (33, .ints .u8 ((FcOut p0).got.length) ((FcOut p0).got)), (32, .ints .u8 ((FcOut p0).wait.length) ((FcOut p0).wait)), (0, chC 32 33 34 (FcOut p0)), (4, chC 80 81 82 p1), (80, .ints .u8 p1.wait.length p1.wait), (81, .ints .u8 p1.got.length p1.got), (82, .vec .row p1.out)])) (by kernel_rfl) (by kernel_rfl)) ?_
    refine Tri.count 96 p0.out.length (Fccarryl0 p0) p1 (fun k0 z0 => chOk (1000000 + 600 * k0) z0) (fun k0 z0 => ([(9, .sc (.i .i64 ((k0 : Nat) : Int))), (8, .sc (.i .i64 ((p0.out.length : Nat) : Int))), (7, .sc (.sl 35 0 p0.out.length 1 none)), (1, .sc (.p 4 0))], [(35, .vec .row (FcOut_1 p0)), (34, .vec .row ((FcOut p0).out)), (33, .ints .u8 ((FcOut p0).got.length) ((FcOut p0).got)), (32, .ints .u8 ((FcOut p0).wait.length) ((FcOut p0).wait)), (0, chC 32 33 34 (FcOut p0)), (4, chC 80 81 82 z0), (80, .ints .u8 z0.wait.length z0.wait), (81, .ints .u8 z0.got.length z0.got), (82, .vec .row z0.out)])) (by exact hC.1) (Sub.of_eq (by kernel_rfl)) ?_
    intro k0 z0 hk0 hz0 hJ0
    refine Tri.seq_region [] none [10, 9, 8, 7, 1] [35, 34, 33, 32, 0, 4, 80, 81, 82] (TT ∧ True)
        ([(10, .sc (.b (decide ((((k0 : Nat) : Int) : Int) < ((p0.out.length : Nat) : Int))))), (9, .sc (.i .i64 ((k0 : Nat) : Int))), (8, .sc (.i .i64 ((p0.out.length : Nat) : Int))), (7, .sc (.sl 35 0 p0.out.length 1 none)), (1, .sc (.p 4 0))], [(35, .vec .row (FcOut_1 p0)), (34, .vec .row ((FcOut p0).out)), (33, .ints .u8 ((FcOut p0).got.length) ((FcOut p0).got)), (32, .ints .u8 ((FcOut p0).wait.length) ((FcOut p0).wait)), (0, chC 32 33 34 (FcOut p0)), (4, chC 80 81 82 z0), (80, .ints .u8 z0.wait.length z0.wait), (81, .ints .u8 z0.got.length z0.got), (82, .vec .row z0.out)])
        112 (by kernel_rfl) rfl (by kernel_rfl) (⟨tt, trivial⟩) ?_
    refine Tri.seq ?_
    refine Tri.cond (x := (decide ((((k0 : Nat) : Int) : Int) < ((p0.out.length : Nat) : Int)))) (by kernel_rfl) (fun h1 => ?_) (fun h1 => ?_)
    ·
      have h1' := of_decide_eq_true h1
      refine Tri.skip ?_
      change Tri _ _ _ _ _ _
      refine Tri.seq ?_
      refine Tri.block ?_
      refine Tri.seq_region [] none [5, 9, 8, 7, 1] [35, 34, 33, 32, 0, 4, 80, 81, 82] ((((0 : Int) ≤ ((k0 : Nat) : Int) ∧ ((k0 : Nat) : Int) < ((p0.out.length : Nat) : Int)) ∧ True) ∧ (((k0 < (FcOut_1 p0).length) ∧ True) ∧ (TT ∧ True)))
          ([(5, .sc (.ro .u8 ((FcOut_1 p0).getD k0 []))), (9, .sc (.i .i64 ((k0 : Nat) : Int))), (8, .sc (.i .i64 ((p0.out.length : Nat) : Int))), (7, .sc (.sl 35 0 p0.out.length 1 none)), (1, .sc (.p 4 0))], [(35, .vec .row (FcOut_1 p0)), (34, .vec .row ((FcOut p0).out)), (33, .ints .u8 ((FcOut p0).got.length) ((FcOut p0).got)), (32, .ints .u8 ((FcOut p0).wait.length) ((FcOut p0).wait)), (0, chC 32 33 34 (FcOut p0)), (4, chC 80 81 82 z0), (80, .ints .u8 z0.wait.length z0.wait), (81, .ints .u8 z0.got.length z0.got), (82, .vec .row z0.out)])
          160 (by kernel_rfl) rfl (by kernel_rfl) (⟨⟨(by first | omega | (dsimp only; omega) | decide | (simp only [len_say]; omega)), trivial⟩, ⟨⟨(by first | omega | (dsimp only; omega) | decide | (simp only [len_say]; omega)), trivial⟩, ⟨tt, trivial⟩⟩⟩) ?_
      refine Tri.region' [] none [9, 8, 7, 1] [194, 193, 192, 4, 35, 34, 33, 32, 0] (TT ∧ (TT ∧ (((TT ∧ ((chLens z0.wait.length z0.got.length z0.out.length z0.wait.length z0.got.length z0) ∧ (chOk 900000000 z0))) ∧ True) ∧ True)))
          ([(9, .sc (.i .i64 ((k0 : Nat) : Int))), (8, .sc (.i .i64 ((p0.out.length : Nat) : Int))), (7, .sc (.sl 35 0 p0.out.length 1 none)), (1, .sc (.p 4 0))], [(194, .vec .row ((FcTake_1 z0 ((FcOut_1 p0).getD k0 [])).out)), (193, .ints .u8 ((FcTake_1 z0 ((FcOut_1 p0).getD k0 [])).got.length) ((FcTake_1 z0 ((FcOut_1 p0).getD k0 [])).got)), (192, .ints .u8 ((FcTake_1 z0 ((FcOut_1 p0).getD k0 [])).wait.length) ((FcTake_1 z0 ((FcOut_1 p0).getD k0 [])).wait)), (4, chC 192 193 194 (FcTake_1 z0 ((FcOut_1 p0).getD k0 []))), (35, .vec .row (FcOut_1 p0)), (34, .vec .row ((FcOut p0).out)), (33, .ints .u8 ((FcOut p0).got.length) ((FcOut p0).got)), (32, .ints .u8 ((FcOut p0).wait.length) ((FcOut p0).wait)), (0, chC 32 33 34 (FcOut p0))])
          208 (by kernel_rfl) rfl (by kernel_rfl) (⟨tt, ⟨tt, ⟨⟨⟨tt, ⟨(chLens_self _), ((hJ0.mono (by omega)))⟩⟩, trivial⟩, trivial⟩⟩⟩) ?_
      change Tri _ _ _ _ _ _
      refine Tri.region' [(16, qi ((k0 + 1 : Nat) : Int))] none [9, 8, 7, 1] [194, 193, 192, 4, 35, 34, 33, 32, 0] ((True ∧ ((iAdd .i64 ((k0 : Nat) : Int) 1) = ((k0 + 1 : Nat) : Int))) ∧ (TT ∧ True))
          ([(9, .sc (.i .i64 ((k0 + 1 : Nat) : Int))), (8, .sc (.i .i64 ((p0.out.length : Nat) : Int))), (7, .sc (.sl 35 0 p0.out.length 1 none)), (1, .sc (.p 4 0))], [(194, .vec .row ((FcTake_1 z0 ((FcOut_1 p0).getD k0 [])).out)), (193, .ints .u8 ((FcTake_1 z0 ((FcOut_1 p0).getD k0 [])).got.length) ((FcTake_1 z0 ((FcOut_1 p0).getD k0 [])).got)), (192, .ints .u8 ((FcTake_1 z0 ((FcOut_1 p0).getD k0 [])).wait.length) ((FcTake_1 z0 ((FcOut_1 p0).getD k0 [])).wait)), (4, chC 192 193 194 (FcTake_1 z0 ((FcOut_1 p0).getD k0 []))), (35, .vec .row (FcOut_1 p0)), (34, .vec .row ((FcOut p0).out)), (33, .ints .u8 ((FcOut p0).got.length) ((FcOut p0).got)), (32, .ints .u8 ((FcOut p0).wait.length) ((FcOut p0).wait)), (0, chC 32 33 34 (FcOut p0))])
          240 (by kernel_rfl) rfl (by kernel_rfl) (⟨⟨trivial, (iAdd_nat (a := k0) (b := 1) (by omega))⟩, ⟨tt, trivial⟩⟩) ?_
      repeat (refine blkP_normal ?_)
      refine countP_normal (by omega) (chOk.mono (chTake_ok hJ0 (by omega) _) (by omega)) ?_
      exact Sub.ren (ns := [(35, 35), (34, 34), (33, 33), (32, 32), (0, 0), (4, 4), (192, 80), (193, 81), (194, 82)]) (kf := [9, 8, 7, 1]) (by kernel_rfl) (by kernel_rfl)
    ·
      have h1' := of_decide_eq_false h1
      refine Tri.exit ?_
      have hend0 : k0 = p0.out.length := by (have := of_decide_eq_false h1; omega)
      subst hend0; subst hz0
      show subP _ _ _ _
      repeat (first | refine thenP_ret ?_ | refine blkP_ret ?_ | refine countP_ret ?_ | refine joinP_ret ?_ | refine iterP_ret ?_)
      refine subP_done ?_
      exact endP.nret [(0, 0), (4, 4), (32, 8), (33, 9), (34, 10), (80, 11), (81, 12), (82, 13)] True (by kernel_rfl) (by kernel_rfl) trivial



end Go.Vm
