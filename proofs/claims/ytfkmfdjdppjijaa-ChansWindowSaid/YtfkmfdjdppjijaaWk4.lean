/- What the functions compute, and that they do: walked by a printed text. -/
import Derived.Test.YtfkmfdjdppjijaaWk3
set_option linter.unusedVariables false
set_option linter.unusedSimpArgs false
set_option maxRecDepth 4000
namespace Go.Vm
open Go

noncomputable def Fcflowv1 (z0 : Ch) : Ch :=
  (Fcsay z0 (FwwTextz (1 + 4) (Fcto z0 94) (bytesOf ((z0.wait.drop 0).take ((min (min z0.wait.length ((z0.window).toNat)) ((z0.most).toNat)) - 0)))))

noncomputable def Fcflowl0 (k0 : Nat) (z0 : Ch) : Ch :=
  ({(Fcflowv1 z0) with window := (iSub .i64 ((Fcflowv1 z0).window) ((min (min z0.wait.length ((z0.window).toNat)) ((z0.most).toNat) : Nat) : Int)), wait := ((Fcflowv1 z0).wait).drop (min (min z0.wait.length ((z0.window).toNat)) ((z0.most).toNat))} : Ch)

noncomputable def Fcflow (p0 : Ch) : Ch :=
  (itr (Fcflowl0) (flowN p0) p0)

theorem flowJ_next {p z : Ch} {k : Nat} (h : chFlow p) (hJ : flowJ p k z) (h1 : (decide ((((z.wait.length : Nat) : Int) : Int) > 0)) = true) (h2 : (decide ((z.window : Int) > 0)) = true) (h3 : (!z.c0) = true) : flowJ p (k + 1) (Fcflowl0 k z) := by
  obtain ⟨⟨hq, hk⟩, _⟩ := flowJ_lt' h hJ (of_decide_eq_true h1) (of_decide_eq_true h2) (by cases hc : z.c0; rfl; rw [hc] at h3; cases h3)
  obtain ⟨f1, f2, f3, f4⟩ := flowJ_facts h hJ
  obtain ⟨⟨a1, a2⟩, ⟨a3, a4⟩, a5, a6⟩ := h
  obtain ⟨b1, b2, b3, b4, b5⟩ := hJ
  have hM : flowM p = min p.wait.length p.window.toNat := rfl
  have hl : z.wait.length = p.wait.length - k * p.most.toNat := by rw [b1, List.length_drop]; omega
  have hn : min (k * p.most.toNat) (flowM p) + min (min z.wait.length z.window.toNat) z.most.toNat = min ((k + 1) * p.most.toNat) (flowM p) := by
    rw [b3, Nat.succ_mul]
    omega
  refine ⟨?_, ?_, b3, b4, ?_⟩
  · show z.wait.drop _ = _
    rw [← hn, ← List.drop_drop, ← b1]
  · show iSub .i64 z.window _ = _
    rw [iSub_i64 (by omega) (by omega), ← hn]
    omega
  · show (z.out ++ [_]).length + (z.wait.drop _).length ≤ _
    rw [List.length_append, List.length_drop]
    show _ + 1 + _ ≤ _
    rw [b3]
    omega
theorem flowv1_is (z : Ch) : (Fcflowv1 z).wait = z.wait ∧ (Fcflowv1 z).window = z.window := ⟨rfl, rfl⟩

noncomputable def Scflowc (p0 : Ch) (y0_n1 : Nat) (y0_n2 : Nat) (y0_n3 : Nat) (y0_m1 : Nat) (y0_m2 : Nat)  : Option (Prop × Ret) :=
  some ((chLens y0_n1 y0_n2 y0_n3 y0_m1 y0_m2 p0 ∧ (chFlow p0)), ⟨.tup [], [some (chC 4 5 6 (Fcflow p0)), none, none, none, some (.ints .u8 ((Fcflow p0).wait.length) ((Fcflow p0).wait)), some (.ints .u8 ((Fcflow p0).got.length) ((Fcflow p0).got)), some (.vec .row ((Fcflow p0).out))]⟩)

noncomputable def Scflow : List AV → List Blk → Option (Prop × Ret)
  | [.sc (.p 0 0)], [.cells [.b y0_server, .i .i64 y0_state, .i .u32 y0_peer, .i .i64 y0_window, .i .i64 y0_most, .i .i64 y0_room, .sl 1 0 y0_n1 1 none, .sl 2 0 y0_n2 1 none, .b y0_ready, .b y0_e0, .b y0_e1, .b y0_c0, .b y0_c1, .sl 3 0 y0_n3 1 none], .ints .u8 y0_m1 y0_wait, .ints .u8 y0_m2 y0_got, .vec .row y0_out] => Scflowc ⟨y0_server, y0_state, y0_peer, y0_window, y0_most, y0_room, y0_wait, y0_got, y0_ready, y0_e0, y0_e1, y0_c0, y0_c1, y0_out⟩ y0_n1 y0_n2 y0_n3 y0_m1 y0_m2
  | _, _ => none

noncomputable def Bcflow : Bs := { P := Go.Proofs.Try.prog, G := noG, tab := tabOf [⟨28, 784, [.io, .ro .u8], [], [0, 16, 17, 18], ⟨4, 3, Scsay⟩, false⟩, ⟨30, 768, [.io, .val], [], [640], ⟨1, 0, SwwTextz⟩, false⟩, ⟨40, 640, [.io, .val], [], [0, 16, 17, 18], ⟨4, 1, Scto⟩, true⟩], n := 67 }

theorem Bcflow.ok : Bcflow.Ok := ⟨tabOk (P := Go.Proofs.Try.prog) (G := noG) (l := [⟨28, 784, [.io, .ro .u8], [], [0, 16, 17, 18], ⟨4, 3, Scsay⟩, false⟩, ⟨30, 768, [.io, .val], [], [640], ⟨1, 0, SwwTextz⟩, false⟩, ⟨40, 640, [.io, .val], [], [0, 16, 17, 18], ⟨4, 1, Scto⟩, true⟩]) (And.intro Kcsay (And.intro KwwTextz (And.intro Kcto True.intro))), mixed⟩

theorem Kcflow : Known Go.Proofs.Try.prog noG 38 ⟨4, 3, Scflow⟩ := by
  refine Known.walk (B := Bcflow) (fn := Go.Proofs.Try.f38) Bcflow.ok (by kernel_rfl) rfl (by kernel_rfl) (by kernel_rfl) (by decide) (by decide) ?_
  · intro E args ks C r h hC hlen
    simp only at h
    unfold Scflow at h
    split at h
    rotate_left
    · cases h
    rename_i y0_server y0_state y0_peer y0_window y0_most y0_room y0_n1 y0_n2 y0_ready y0_e0 y0_e1 y0_c0 y0_c1 y0_n3 y0_m1 y0_wait y0_m2 y0_got y0_out
    generalize hp0 : (⟨y0_server, y0_state, y0_peer, y0_window, y0_most, y0_room, y0_wait, y0_got, y0_ready, y0_e0, y0_e1, y0_c0, y0_c1, y0_out⟩ : Ch) = p0 at h
    obtain rfl : y0_server = p0.server := by rw [← hp0]
    obtain rfl : y0_state = p0.state := by rw [← hp0]
    obtain rfl : y0_peer = p0.peer := by rw [← hp0]
    obtain rfl : y0_window = p0.window := by rw [← hp0]
    obtain rfl : y0_most = p0.most := by rw [← hp0]
    obtain rfl : y0_room = p0.room := by rw [← hp0]
    obtain rfl : y0_wait = p0.wait := by rw [← hp0]
    obtain rfl : y0_got = p0.got := by rw [← hp0]
    obtain rfl : y0_ready = p0.ready := by rw [← hp0]
    obtain rfl : y0_e0 = p0.e0 := by rw [← hp0]
    obtain rfl : y0_e1 = p0.e1 := by rw [← hp0]
    obtain rfl : y0_c0 = p0.c0 := by rw [← hp0]
    obtain rfl : y0_c1 = p0.c1 := by rw [← hp0]
    obtain rfl : y0_out = p0.out := by rw [← hp0]
    clear hp0
    unfold Scflowc at h
    cases h
    obtain ⟨⟨rfl, rfl, rfl, rfl, rfl⟩, hC⟩ := hC
    simp only [lens] at hlen
    refine ⟨show 1 ≤ 67 from by decide, ?_⟩
    refine Tri.sub (Sub.of_eq (show _ = ([(0, .sc (.p 0 0))], [(0, chC 1 2 3 p0), (1, .ints .u8 p0.wait.length p0.wait), (2, .ints .u8 p0.got.length p0.got), (3, .vec .row p0.out)]) from rfl)) ?_
    refine Tri.subP ?_
    refine Tri.block ?_
    refine Tri.sub (Sub.ren (U := 16) (U' := 32) (ns := [(0, 0), (1, 16), (2, 17), (3, 18)]) (kf := [0]) (s' := ([(0, .sc (.p 0 0))], [(0, chC 16 17 18 p0), (16, .ints .u8 p0.wait.length p0.wait), (17, .ints .u8 p0.got.length p0.got), (18, .vec .row p0.out)])) (by kernel_rfl) (by kernel_rfl)) ?_
    refine Tri.count 32 (flowN p0) (Fcflowl0) p0 (fun k0 z0 => flowJ p0 k0 z0) (fun k0 z0 => ([(0, .sc (.p 0 0))], [(0, chC 16 17 18 z0), (16, .ints .u8 z0.wait.length z0.wait), (17, .ints .u8 z0.got.length z0.got), (18, .vec .row z0.out)])) flowJ_0 (Sub.of_eq (by kernel_rfl)) ?_
    intro k0 z0 hk0 hz0 hJ0
    obtain ⟨⟨hz1, hz2⟩, ⟨hz3, hz4⟩, hz5, hz6⟩ := flowJ_facts hC hJ0
    obtain ⟨hw1, hw2⟩ := flowv1_is z0
    refine Tri.seq ?_
    refine Tri.split (decide ((((z0.wait.length : Nat) : Int) : Int) > 0)) (fun h1 => ?_) (fun h1 => ?_)
    ·
      have h1' := of_decide_eq_true h1
      refine Tri.split (decide ((z0.window : Int) > 0)) (fun h2 => ?_) (fun h2 => ?_)
      ·
        have h2' := of_decide_eq_true h2
        refine Tri.seq_region [(9, qb true), (16, qb true)] none [23, 0] [0, 16, 17, 18] (TT ∧ (TT ∧ (TT ∧ (((6 < 14) ∧ True) ∧ (TT ∧ (TT ∧ ((True ∧ ((decide ((((z0.wait.length : Nat) : Int) : Int) > 0)) = true)) ∧ (TT ∧ (TT ∧ (TT ∧ (((3 < 14) ∧ True) ∧ (TT ∧ (TT ∧ ((True ∧ ((decide ((z0.window : Int) > 0)) = true)) ∧ (TT ∧ (TT ∧ (TT ∧ ((((0 : Int) ≤ 0 ∧ 0 < ((2 : Nat) : Int)) ∧ True) ∧ (((11 < 14) ∧ True) ∧ (TT ∧ (TT ∧ True)))))))))))))))))))))
            ([(23, .sc (.b (!z0.c0))), (0, .sc (.p 0 0))], [(0, chC 16 17 18 z0), (16, .ints .u8 z0.wait.length z0.wait), (17, .ints .u8 z0.got.length z0.got), (18, .vec .row z0.out)])
            368 (by kernel_rfl) rfl (by kernel_rfl) (⟨tt, ⟨tt, ⟨tt, ⟨⟨(by first | omega | decide | (rw [hw1]; omega) | (rw [size_bytesOf, List.length_take, List.length_drop]; omega) | exact ⟨by decide, by rw [size_bytesOf, List.length_take, List.length_drop]; omega⟩), trivial⟩, ⟨tt, ⟨tt, ⟨⟨trivial, (h1)⟩, ⟨tt, ⟨tt, ⟨tt, ⟨⟨(by first | omega | decide | (rw [hw1]; omega) | (rw [size_bytesOf, List.length_take, List.length_drop]; omega) | exact ⟨by decide, by rw [size_bytesOf, List.length_take, List.length_drop]; omega⟩), trivial⟩, ⟨tt, ⟨tt, ⟨⟨trivial, (h2)⟩, ⟨tt, ⟨tt, ⟨tt, ⟨⟨(by first | omega | decide | (rw [hw1]; omega) | (rw [size_bytesOf, List.length_take, List.length_drop]; omega) | exact ⟨by decide, by rw [size_bytesOf, List.length_take, List.length_drop]; omega⟩), trivial⟩, ⟨⟨(by first | omega | decide | (rw [hw1]; omega) | (rw [size_bytesOf, List.length_take, List.length_drop]; omega) | exact ⟨by decide, by rw [size_bytesOf, List.length_take, List.length_drop]; omega⟩), trivial⟩, ⟨tt, ⟨tt, trivial⟩⟩⟩⟩⟩⟩⟩⟩⟩⟩⟩⟩⟩⟩⟩⟩⟩⟩⟩⟩⟩) ?_
        refine Tri.cond (x := (!z0.c0)) (by kernel_rfl) (fun h3 => ?_) (fun h3 => ?_)
        ·
          refine Tri.skip ?_
          change Tri _ _ _ _ _ _
          refine Tri.block ?_
          refine Tri.seq_region [(37, qi ((min (min z0.wait.length ((z0.window).toNat)) ((z0.most).toNat) : Nat) : Int))] (some [0, 1, 3, 7, 15, 0, 32, 96, 224, 0, 512, 1536, 3584, 8191, 16383]) [2, 0] [0, 16, 17, 18] (TT ∧ (TT ∧ (TT ∧ (((6 < 14) ∧ True) ∧ (TT ∧ (TT ∧ (TT ∧ (TT ∧ (((3 < 14) ∧ True) ∧ (TT ∧ (TT ∧ (TT ∧ (((4 < 14) ∧ True) ∧ ((True ∧ ((minI (minI ((z0.wait.length : Nat) : Int) z0.window) z0.most) = ((min (min z0.wait.length ((z0.window).toNat)) ((z0.most).toNat) : Nat) : Int))) ∧ (TT ∧ True)))))))))))))))
              ([(2, .sc (.i .i64 ((min (min z0.wait.length ((z0.window).toNat)) ((z0.most).toNat) : Nat) : Int))), (0, .sc (.p 0 0))], [(0, chC 16 17 18 z0), (16, .ints .u8 z0.wait.length z0.wait), (17, .ints .u8 z0.got.length z0.got), (18, .vec .row z0.out)])
              608 (by kernel_rfl) rfl (by kernel_rfl) (⟨tt, ⟨tt, ⟨tt, ⟨⟨(by first | omega | decide | (rw [hw1]; omega) | (rw [size_bytesOf, List.length_take, List.length_drop]; omega) | exact ⟨by decide, by rw [size_bytesOf, List.length_take, List.length_drop]; omega⟩), trivial⟩, ⟨tt, ⟨tt, ⟨tt, ⟨tt, ⟨⟨(by first | omega | decide | (rw [hw1]; omega) | (rw [size_bytesOf, List.length_take, List.length_drop]; omega) | exact ⟨by decide, by rw [size_bytesOf, List.length_take, List.length_drop]; omega⟩), trivial⟩, ⟨tt, ⟨tt, ⟨tt, ⟨⟨(by first | omega | decide | (rw [hw1]; omega) | (rw [size_bytesOf, List.length_take, List.length_drop]; omega) | exact ⟨by decide, by rw [size_bytesOf, List.length_take, List.length_drop]; omega⟩), trivial⟩, ⟨⟨trivial, ((minI_nat3 (by omega) (by omega)))⟩, ⟨tt, trivial⟩⟩⟩⟩⟩⟩⟩⟩⟩⟩⟩⟩⟩⟩⟩) ?_
          refine Tri.seq_region [] (some [0, 0, 2, 0, 8, 24, 56, 0, 248, 504, 1022, 2047]) [2, 0] [786, 785, 784, 0] (TT ∧ (TT ∧ ((((True ∧ ((chLens z0.wait.length z0.got.length z0.out.length z0.wait.length z0.got.length z0) ∧ True)) ∧ (([some (chC 16 17 18 z0), some (.ints .u8 z0.wait.length z0.wait), some (.ints .u8 z0.got.length z0.got), some (.vec .row z0.out)] : List (Option Blk)) = [some (chC 16 17 18 z0), some (.ints .u8 z0.wait.length z0.wait), some (.ints .u8 z0.got.length z0.got), some (.vec .row z0.out)])) ∧ True) ∧ (TT ∧ (TT ∧ (TT ∧ (((6 < 14) ∧ True) ∧ (TT ∧ ((((0 : Int) ≤ 0 ∧ (0 : Int) ≤ ((min (min z0.wait.length ((z0.window).toNat)) ((z0.most).toNat) : Nat) : Int) ∧ ((min (min z0.wait.length ((z0.window).toNat)) ((z0.most).toNat) : Nat) : Int) ≤ ((z0.wait.length : Nat) : Int)) ∧ True) ∧ (((0 + ((min (min z0.wait.length ((z0.window).toNat)) ((z0.most).toNat)) - 0) ≤ z0.wait.length) ∧ True) ∧ (((True ∧ (((1 + 4) = (1 + 4)) ∧ ((1 + 4) ≤ 1000000000 ∧ (bytesOf ((z0.wait.drop 0).take ((min (min z0.wait.length ((z0.window).toNat)) ((z0.most).toNat)) - 0))).size ≤ 1000000000))) ∧ True) ∧ (((TT ∧ ((chLens z0.wait.length z0.got.length z0.out.length z0.wait.length z0.got.length z0) ∧ (z0.out.length ≤ 1000000000))) ∧ True) ∧ True))))))))))))
              ([(2, .sc (.i .i64 ((min (min z0.wait.length ((z0.window).toNat)) ((z0.most).toNat) : Nat) : Int))), (0, .sc (.p 0 0))], [(786, .vec .row ((Fcflowv1 z0).out)), (785, .ints .u8 ((Fcflowv1 z0).got.length) ((Fcflowv1 z0).got)), (784, .ints .u8 ((Fcflowv1 z0).wait.length) ((Fcflowv1 z0).wait)), (0, chC 784 785 786 (Fcflowv1 z0))])
              800 (by kernel_rfl) rfl (by kernel_rfl) (⟨tt, ⟨tt, ⟨⟨⟨⟨trivial, ⟨(chLens_self _), trivial⟩⟩, (rfl)⟩, trivial⟩, ⟨tt, ⟨tt, ⟨tt, ⟨⟨(by first | omega | decide | (rw [hw1]; omega) | (rw [size_bytesOf, List.length_take, List.length_drop]; omega) | exact ⟨by decide, by rw [size_bytesOf, List.length_take, List.length_drop]; omega⟩), trivial⟩, ⟨tt, ⟨⟨(by first | omega | decide | (rw [hw1]; omega) | (rw [size_bytesOf, List.length_take, List.length_drop]; omega) | exact ⟨by decide, by rw [size_bytesOf, List.length_take, List.length_drop]; omega⟩), trivial⟩, ⟨⟨(by first | omega | decide | (rw [hw1]; omega) | (rw [size_bytesOf, List.length_take, List.length_drop]; omega) | exact ⟨by decide, by rw [size_bytesOf, List.length_take, List.length_drop]; omega⟩), trivial⟩, ⟨⟨⟨trivial, ⟨(rfl), (by first | omega | decide | (rw [hw1]; omega) | (rw [size_bytesOf, List.length_take, List.length_drop]; omega) | exact ⟨by decide, by rw [size_bytesOf, List.length_take, List.length_drop]; omega⟩)⟩⟩, trivial⟩, ⟨⟨⟨tt, ⟨(chLens_self _), (by first | omega | decide | (rw [hw1]; omega) | (rw [size_bytesOf, List.length_take, List.length_drop]; omega) | exact ⟨by decide, by rw [size_bytesOf, List.length_take, List.length_drop]; omega⟩)⟩⟩, trivial⟩, trivial⟩⟩⟩⟩⟩⟩⟩⟩⟩⟩⟩⟩) ?_
          refine Tri.seq_region [] none [2, 0] [0, 786, 785, 784] (TT ∧ (TT ∧ (TT ∧ (TT ∧ (((6 < 14) ∧ True) ∧ (TT ∧ ((((0 : Int) ≤ ((min (min z0.wait.length ((z0.window).toNat)) ((z0.most).toNat) : Nat) : Int) ∧ (((min (min z0.wait.length ((z0.window).toNat)) ((z0.most).toNat) : Nat) : Int) : Int) ≤ (((Fcflowv1 z0).wait.length : Nat) : Int) ∧ (((Fcflowv1 z0).wait.length : Nat) : Int) ≤ (((Fcflowv1 z0).wait.length : Nat) : Int)) ∧ True) ∧ (TT ∧ (TT ∧ ((((6 < 14) ∧ (1 = 1)) ∧ True) ∧ True))))))))))
              ([(2, .sc (.i .i64 ((min (min z0.wait.length ((z0.window).toNat)) ((z0.most).toNat) : Nat) : Int))), (0, .sc (.p 0 0))], [(0, .cells [.b ((Fcflowv1 z0).server), .i .i64 ((Fcflowv1 z0).state), .i .u32 ((Fcflowv1 z0).peer), .i .i64 ((Fcflowv1 z0).window), .i .i64 ((Fcflowv1 z0).most), .i .i64 ((Fcflowv1 z0).room), .sl 784 (0 + ((min (min z0.wait.length ((z0.window).toNat)) ((z0.most).toNat)) * 1)) (((Fcflowv1 z0).wait.length) - (min (min z0.wait.length ((z0.window).toNat)) ((z0.most).toNat))) 1 none, .sl 785 0 ((Fcflowv1 z0).got.length) 1 none, .b ((Fcflowv1 z0).ready), .b ((Fcflowv1 z0).e0), .b ((Fcflowv1 z0).e1), .b ((Fcflowv1 z0).c0), .b ((Fcflowv1 z0).c1), .sl 786 0 ((Fcflowv1 z0).out.length) 1 none]), (786, .vec .row ((Fcflowv1 z0).out)), (785, .ints .u8 ((Fcflowv1 z0).got.length) ((Fcflowv1 z0).got)), (784, .ints .u8 ((Fcflowv1 z0).wait.length) ((Fcflowv1 z0).wait))])
              960 (by kernel_rfl) rfl (by kernel_rfl) (⟨tt, ⟨tt, ⟨tt, ⟨tt, ⟨⟨(by first | omega | decide | (rw [hw1]; omega) | (rw [size_bytesOf, List.length_take, List.length_drop]; omega) | exact ⟨by decide, by rw [size_bytesOf, List.length_take, List.length_drop]; omega⟩), trivial⟩, ⟨tt, ⟨⟨(by first | omega | decide | (rw [hw1]; omega) | (rw [size_bytesOf, List.length_take, List.length_drop]; omega) | exact ⟨by decide, by rw [size_bytesOf, List.length_take, List.length_drop]; omega⟩), trivial⟩, ⟨tt, ⟨tt, ⟨⟨⟨(by first | omega | decide | (rw [hw1]; omega) | (rw [size_bytesOf, List.length_take, List.length_drop]; omega) | exact ⟨by decide, by rw [size_bytesOf, List.length_take, List.length_drop]; omega⟩), (rfl)⟩, trivial⟩, trivial⟩⟩⟩⟩⟩⟩⟩⟩⟩⟩) ?_
          refine Tri.sub (Sub.rebaseCi (U := 960) (U' := 976) 0 6 784 960 (l := [.b ((Fcflowv1 z0).server), .i .i64 ((Fcflowv1 z0).state), .i .u32 ((Fcflowv1 z0).peer), .i .i64 ((Fcflowv1 z0).window), .i .i64 ((Fcflowv1 z0).most), .i .i64 ((Fcflowv1 z0).room), .sl 784 (0 + ((min (min z0.wait.length ((z0.window).toNat)) ((z0.most).toNat)) * 1)) (((Fcflowv1 z0).wait.length) - (min (min z0.wait.length ((z0.window).toNat)) ((z0.most).toNat))) 1 none, .sl 785 0 ((Fcflowv1 z0).got.length) 1 none, .b ((Fcflowv1 z0).ready), .b ((Fcflowv1 z0).e0), .b ((Fcflowv1 z0).e1), .b ((Fcflowv1 z0).c0), .b ((Fcflowv1 z0).c1), .sl 786 0 ((Fcflowv1 z0).out.length) 1 none]) (kd := .u8) (n := (Fcflowv1 z0).wait.length) (xs := (Fcflowv1 z0).wait) (len := ((Fcflowv1 z0).wait.length) - (min (min z0.wait.length ((z0.window).toNat)) ((z0.most).toNat))) (es := 1) (cap := none) (show 0 + ((min (min z0.wait.length ((z0.window).toNat)) ((z0.most).toNat)) * 1) = min (min z0.wait.length ((z0.window).toNat)) ((z0.most).toNat) by omega) (show min (min z0.wait.length ((z0.window).toNat)) ((z0.most).toNat) ≤ (Fcflowv1 z0).wait.length from by first | omega | decide | (rw [hw1]; omega) | (rw [size_bytesOf, List.length_take, List.length_drop]; omega) | exact ⟨by decide, by rw [size_bytesOf, List.length_take, List.length_drop]; omega⟩) (by decide) (by kernel_rfl) (by kernel_rfl) (by kernel_rfl)) ?_
          refine Tri.sub (Sub.of_eq (congrArg (fun (qq : Nat) => (([(2, .sc (.i .i64 ((min (min z0.wait.length ((z0.window).toNat)) ((z0.most).toNat) : Nat) : Int))), (0, .sc (.p 0 0))], [(0, .cells [.b ((Fcflowv1 z0).server), .i .i64 ((Fcflowv1 z0).state), .i .u32 ((Fcflowv1 z0).peer), .i .i64 ((Fcflowv1 z0).window), .i .i64 ((Fcflowv1 z0).most), .i .i64 ((Fcflowv1 z0).room), .sl 960 0 qq 1 none, .sl 785 0 ((Fcflowv1 z0).got.length) 1 none, .b ((Fcflowv1 z0).ready), .b ((Fcflowv1 z0).e0), .b ((Fcflowv1 z0).e1), .b ((Fcflowv1 z0).c0), .b ((Fcflowv1 z0).c1), .sl 786 0 ((Fcflowv1 z0).out.length) 1 none]), (960, .ints .u8 qq (((Fcflowv1 z0).wait).drop (min (min z0.wait.length ((z0.window).toNat)) ((z0.most).toNat)))), (786, .vec .row ((Fcflowv1 z0).out)), (785, .ints .u8 ((Fcflowv1 z0).got.length) ((Fcflowv1 z0).got))]) : St)) (show ((Fcflowv1 z0).wait.length) - (min (min z0.wait.length ((z0.window).toNat)) ((z0.most).toNat)) = (((Fcflowv1 z0).wait).drop (min (min z0.wait.length ((z0.window).toNat)) ((z0.most).toNat))).length from by simp only [List.length_append, List.length_drop, List.length_cons, List.length_nil, Nat.zero_add, Nat.sub_zero, Nat.reduceAdd, bytesI_length]))) ?_
          show Tri _ _ _ _ ([(2, .sc (.i .i64 ((min (min z0.wait.length ((z0.window).toNat)) ((z0.most).toNat) : Nat) : Int))), (0, .sc (.p 0 0))], [(0, .cells [.b ((Fcflowv1 z0).server), .i .i64 ((Fcflowv1 z0).state), .i .u32 ((Fcflowv1 z0).peer), .i .i64 ((Fcflowv1 z0).window), .i .i64 ((Fcflowv1 z0).most), .i .i64 ((Fcflowv1 z0).room), .sl 960 0 ((((Fcflowv1 z0).wait).drop (min (min z0.wait.length ((z0.window).toNat)) ((z0.most).toNat))).length) 1 none, .sl 785 0 ((Fcflowv1 z0).got.length) 1 none, .b ((Fcflowv1 z0).ready), .b ((Fcflowv1 z0).e0), .b ((Fcflowv1 z0).e1), .b ((Fcflowv1 z0).c0), .b ((Fcflowv1 z0).c1), .sl 786 0 ((Fcflowv1 z0).out.length) 1 none]), (960, .ints .u8 ((((Fcflowv1 z0).wait).drop (min (min z0.wait.length ((z0.window).toNat)) ((z0.most).toNat))).length) (((Fcflowv1 z0).wait).drop (min (min z0.wait.length ((z0.window).toNat)) ((z0.most).toNat)))), (786, .vec .row ((Fcflowv1 z0).out)), (785, .ints .u8 ((Fcflowv1 z0).got.length) ((Fcflowv1 z0).got))]) _
          refine Tri.region' [] none [0] [0, 960, 786, 785] (TT ∧ (TT ∧ (TT ∧ (((3 < 14) ∧ True) ∧ (TT ∧ (TT ∧ (TT ∧ (TT ∧ ((((3 < 14) ∧ (1 = 1)) ∧ True) ∧ True)))))))))
              ([(0, .sc (.p 0 0))], [(0, .cells [.b ((Fcflowv1 z0).server), .i .i64 ((Fcflowv1 z0).state), .i .u32 ((Fcflowv1 z0).peer), .i .i64 (iSub .i64 ((Fcflowv1 z0).window) ((min (min z0.wait.length ((z0.window).toNat)) ((z0.most).toNat) : Nat) : Int)), .i .i64 ((Fcflowv1 z0).most), .i .i64 ((Fcflowv1 z0).room), .sl 960 0 ((((Fcflowv1 z0).wait).drop (min (min z0.wait.length ((z0.window).toNat)) ((z0.most).toNat))).length) 1 none, .sl 785 0 ((Fcflowv1 z0).got.length) 1 none, .b ((Fcflowv1 z0).ready), .b ((Fcflowv1 z0).e0), .b ((Fcflowv1 z0).e1), .b ((Fcflowv1 z0).c0), .b ((Fcflowv1 z0).c1), .sl 786 0 ((Fcflowv1 z0).out.length) 1 none]), (960, .ints .u8 ((((Fcflowv1 z0).wait).drop (min (min z0.wait.length ((z0.window).toNat)) ((z0.most).toNat))).length) (((Fcflowv1 z0).wait).drop (min (min z0.wait.length ((z0.window).toNat)) ((z0.most).toNat)))), (786, .vec .row ((Fcflowv1 z0).out)), (785, .ints .u8 ((Fcflowv1 z0).got.length) ((Fcflowv1 z0).got))])
              1120 (by kernel_rfl) rfl (by kernel_rfl) (⟨tt, ⟨tt, ⟨tt, ⟨⟨(by first | omega | decide | (rw [hw1]; omega) | (rw [size_bytesOf, List.length_take, List.length_drop]; omega) | exact ⟨by decide, by rw [size_bytesOf, List.length_take, List.length_drop]; omega⟩), trivial⟩, ⟨tt, ⟨tt, ⟨tt, ⟨tt, ⟨⟨⟨(by first | omega | decide | (rw [hw1]; omega) | (rw [size_bytesOf, List.length_take, List.length_drop]; omega) | exact ⟨by decide, by rw [size_bytesOf, List.length_take, List.length_drop]; omega⟩), (rfl)⟩, trivial⟩, trivial⟩⟩⟩⟩⟩⟩⟩⟩⟩) ?_
          repeat (refine blkP_normal ?_)
          refine countP_normal (flowJ_lt hC hJ0 (by assumption) (by assumption) (by assumption)) (flowJ_next hC hJ0 (by assumption) (by assumption) (by assumption)) ?_
          exact Sub.ren (ns := [(0, 0), (960, 16), (785, 17), (786, 18)]) (kf := [0]) (by kernel_rfl) (by kernel_rfl)
        ·
          refine Tri.exit ?_
          have hend0 : k0 = (flowN p0) := by exact (flowJ_end hC hJ0 (by omega) (by first | exact .inl (by assumption) | exact .inr (.inl (by assumption)) | exact .inr (.inr (by assumption))))
          subst hend0; subst hz0
          show subP _ _ _ _
          repeat (first | refine thenP_ret ?_ | refine blkP_ret ?_ | refine countP_ret ?_ | refine joinP_ret ?_ | refine iterP_ret ?_)
          refine subP_done ?_
          exact endP.nret [(0, 0), (16, 4), (17, 5), (18, 6)] True (by kernel_rfl) (by kernel_rfl) trivial
      ·
        have h2' := of_decide_eq_false h2
        refine Tri.seq_region [(9, qb true), (16, qb false)] none [23, 0] [0, 16, 17, 18] (TT ∧ (TT ∧ (TT ∧ (((6 < 14) ∧ True) ∧ (TT ∧ (TT ∧ ((True ∧ ((decide ((((z0.wait.length : Nat) : Int) : Int) > 0)) = true)) ∧ (TT ∧ (TT ∧ (TT ∧ (((3 < 14) ∧ True) ∧ (TT ∧ (TT ∧ ((True ∧ ((decide ((z0.window : Int) > 0)) = false)) ∧ (TT ∧ (TT ∧ (TT ∧ (TT ∧ (TT ∧ (TT ∧ (TT ∧ True)))))))))))))))))))))
            ([(23, .sc (.b false)), (0, .sc (.p 0 0))], [(0, chC 16 17 18 z0), (16, .ints .u8 z0.wait.length z0.wait), (17, .ints .u8 z0.got.length z0.got), (18, .vec .row z0.out)])
            368 (by kernel_rfl) rfl (by kernel_rfl) (⟨tt, ⟨tt, ⟨tt, ⟨⟨(by first | omega | decide | (rw [hw1]; omega) | (rw [size_bytesOf, List.length_take, List.length_drop]; omega) | exact ⟨by decide, by rw [size_bytesOf, List.length_take, List.length_drop]; omega⟩), trivial⟩, ⟨tt, ⟨tt, ⟨⟨trivial, (h1)⟩, ⟨tt, ⟨tt, ⟨tt, ⟨⟨(by first | omega | decide | (rw [hw1]; omega) | (rw [size_bytesOf, List.length_take, List.length_drop]; omega) | exact ⟨by decide, by rw [size_bytesOf, List.length_take, List.length_drop]; omega⟩), trivial⟩, ⟨tt, ⟨tt, ⟨⟨trivial, (h2)⟩, ⟨tt, ⟨tt, ⟨tt, ⟨tt, ⟨tt, ⟨tt, ⟨tt, trivial⟩⟩⟩⟩⟩⟩⟩⟩⟩⟩⟩⟩⟩⟩⟩⟩⟩⟩⟩⟩⟩) ?_
        refine Tri.cond_false (by kernel_rfl) ?_
        refine Tri.exit ?_
        have hend0 : k0 = (flowN p0) := by exact (flowJ_end hC hJ0 (by omega) (by first | exact .inl (by assumption) | exact .inr (.inl (by assumption)) | exact .inr (.inr (by assumption))))
        subst hend0; subst hz0
        show subP _ _ _ _
        repeat (first | refine thenP_ret ?_ | refine blkP_ret ?_ | refine countP_ret ?_ | refine joinP_ret ?_ | refine iterP_ret ?_)
        refine subP_done ?_
        exact endP.nret [(0, 0), (16, 4), (17, 5), (18, 6)] True (by kernel_rfl) (by kernel_rfl) trivial
    ·
      have h1' := of_decide_eq_false h1
      refine Tri.seq_region [(9, qb false)] none [23, 0] [0, 16, 17, 18] (TT ∧ (TT ∧ (TT ∧ (((6 < 14) ∧ True) ∧ (TT ∧ (TT ∧ ((True ∧ ((decide ((((z0.wait.length : Nat) : Int) : Int) > 0)) = false)) ∧ (TT ∧ (TT ∧ (TT ∧ (TT ∧ (TT ∧ (TT ∧ (TT ∧ (TT ∧ (TT ∧ (TT ∧ (TT ∧ (TT ∧ (TT ∧ (TT ∧ True)))))))))))))))))))))
          ([(23, .sc (.b false)), (0, .sc (.p 0 0))], [(0, chC 16 17 18 z0), (16, .ints .u8 z0.wait.length z0.wait), (17, .ints .u8 z0.got.length z0.got), (18, .vec .row z0.out)])
          368 (by kernel_rfl) rfl (by kernel_rfl) (⟨tt, ⟨tt, ⟨tt, ⟨⟨(by first | omega | decide | (rw [hw1]; omega) | (rw [size_bytesOf, List.length_take, List.length_drop]; omega) | exact ⟨by decide, by rw [size_bytesOf, List.length_take, List.length_drop]; omega⟩), trivial⟩, ⟨tt, ⟨tt, ⟨⟨trivial, (h1)⟩, ⟨tt, ⟨tt, ⟨tt, ⟨tt, ⟨tt, ⟨tt, ⟨tt, ⟨tt, ⟨tt, ⟨tt, ⟨tt, ⟨tt, ⟨tt, ⟨tt, trivial⟩⟩⟩⟩⟩⟩⟩⟩⟩⟩⟩⟩⟩⟩⟩⟩⟩⟩⟩⟩⟩) ?_
      refine Tri.cond_false (by kernel_rfl) ?_
      refine Tri.exit ?_
      have hend0 : k0 = (flowN p0) := by exact (flowJ_end hC hJ0 (by omega) (by first | exact .inl (by assumption) | exact .inr (.inl (by assumption)) | exact .inr (.inr (by assumption))))
      subst hend0; subst hz0
      show subP _ _ _ _
      repeat (first | refine thenP_ret ?_ | refine blkP_ret ?_ | refine countP_ret ?_ | refine joinP_ret ?_ | refine iterP_ret ?_)
      refine subP_done ?_
      exact endP.nret [(0, 0), (16, 4), (17, 5), (18, 6)] True (by kernel_rfl) (by kernel_rfl) trivial




noncomputable def FcSendv0 (p0 : Ch) (p1 : List Int) : Ch :=
  (Fcflow ({p0 with wait := p0.wait ++ p1} : Ch))

noncomputable def FcSend (p0 : Ch) (p1 : List Int) : Int :=
  (sel ((p0.state : Int) != 2) 8 (sel (!p0.ready) 8 (sel p0.e0 8 (sel p0.c0 8 0))))

noncomputable def FcSend_1 (p0 : Ch) (p1 : List Int) : Ch :=
  (sel ((p0.state : Int) != 2) p0 (sel (!p0.ready) p0 (sel p0.e0 p0 (sel p0.c0 p0 (FcSendv0 p0 p1)))))

noncomputable def ScSendc (p0 : Ch) (y0_n1 : Nat) (y0_n2 : Nat) (y0_n3 : Nat) (y0_m1 : Nat) (y0_m2 : Nat) (p1 : List Int) : Option (Prop × Ret) :=
  some ((chLens y0_n1 y0_n2 y0_n3 y0_m1 y0_m2 p0 ∧ (chFlow p0 ∧ p0.out.length + p0.wait.length + p1.length ≤ 1000000000)), ⟨.sc (.i .i64 (FcSend p0 p1)), [some (chC 4 5 6 (FcSend_1 p0 p1)), none, none, none, some (.ints .u8 ((FcSend_1 p0 p1).wait.length) ((FcSend_1 p0 p1).wait)), some (.ints .u8 ((FcSend_1 p0 p1).got.length) ((FcSend_1 p0 p1).got)), some (.vec .row ((FcSend_1 p0 p1).out))]⟩)

noncomputable def ScSend : List AV → List Blk → Option (Prop × Ret)
  | [.sc (.p 0 0), .sc (.ro .u8 p1)], [.cells [.b y0_server, .i .i64 y0_state, .i .u32 y0_peer, .i .i64 y0_window, .i .i64 y0_most, .i .i64 y0_room, .sl 1 0 y0_n1 1 none, .sl 2 0 y0_n2 1 none, .b y0_ready, .b y0_e0, .b y0_e1, .b y0_c0, .b y0_c1, .sl 3 0 y0_n3 1 none], .ints .u8 y0_m1 y0_wait, .ints .u8 y0_m2 y0_got, .vec .row y0_out] => ScSendc ⟨y0_server, y0_state, y0_peer, y0_window, y0_most, y0_room, y0_wait, y0_got, y0_ready, y0_e0, y0_e1, y0_c0, y0_c1, y0_out⟩ y0_n1 y0_n2 y0_n3 y0_m1 y0_m2 p1
  | _, _ => none

noncomputable def BcSend : Bs := { P := Go.Proofs.Try.prog, G := noG, tab := tabOf [⟨38, 688, [.io], [], [0, 608, 2, 3], ⟨4, 3, Scflow⟩, false⟩], n := 46 }

theorem BcSend.ok : BcSend.Ok := ⟨tabOk (P := Go.Proofs.Try.prog) (G := noG) (l := [⟨38, 688, [.io], [], [0, 608, 2, 3], ⟨4, 3, Scflow⟩, false⟩]) (And.intro Kcflow True.intro), mixed⟩

theorem KcSend : Known Go.Proofs.Try.prog noG 19 ⟨4, 3, ScSend⟩ := by
  refine Known.walk (B := BcSend) (fn := Go.Proofs.Try.f19) BcSend.ok (by kernel_rfl) rfl (by kernel_rfl) (by kernel_rfl) (by decide) (by decide) ?_
  · intro E args ks C r h hC hlen
    simp only at h
    unfold ScSend at h
    split at h
    rotate_left
    · cases h
    rename_i p1 y0_server y0_state y0_peer y0_window y0_most y0_room y0_n1 y0_n2 y0_ready y0_e0 y0_e1 y0_c0 y0_c1 y0_n3 y0_m1 y0_wait y0_m2 y0_got y0_out
    generalize hp0 : (⟨y0_server, y0_state, y0_peer, y0_window, y0_most, y0_room, y0_wait, y0_got, y0_ready, y0_e0, y0_e1, y0_c0, y0_c1, y0_out⟩ : Ch) = p0 at h
    obtain rfl : y0_server = p0.server := by rw [← hp0]
    obtain rfl : y0_state = p0.state := by rw [← hp0]
    obtain rfl : y0_peer = p0.peer := by rw [← hp0]
    obtain rfl : y0_window = p0.window := by rw [← hp0]
    obtain rfl : y0_most = p0.most := by rw [← hp0]
    obtain rfl : y0_room = p0.room := by rw [← hp0]
    obtain rfl : y0_wait = p0.wait := by rw [← hp0]
    obtain rfl : y0_got = p0.got := by rw [← hp0]
    obtain rfl : y0_ready = p0.ready := by rw [← hp0]
    obtain rfl : y0_e0 = p0.e0 := by rw [← hp0]
    obtain rfl : y0_e1 = p0.e1 := by rw [← hp0]
    obtain rfl : y0_c0 = p0.c0 := by rw [← hp0]
    obtain rfl : y0_c1 = p0.c1 := by rw [← hp0]
    obtain rfl : y0_out = p0.out := by rw [← hp0]
    clear hp0
    unfold ScSendc at h
    cases h
    obtain ⟨⟨rfl, rfl, rfl, rfl, rfl⟩, hC⟩ := hC
    simp only [lens] at hlen
    refine ⟨show 2 ≤ 46 from by decide, ?_⟩
    refine Tri.sub (Sub.of_eq (show _ = ([(0, .sc (.p 0 0)), (1, .sc (.ro .u8 p1))], [(0, chC 1 2 3 p0), (1, .ints .u8 p0.wait.length p0.wait), (2, .ints .u8 p0.got.length p0.got), (3, .vec .row p0.out)]) from rfl)) ?_
    refine Tri.subP ?_
    refine Tri.seq_region [] none [0, 1] [0, 1, 2, 3] (TT ∧ True)
        ([(0, .sc (.p 0 0)), (1, .sc (.ro .u8 p1))], [(0, chC 1 2 3 p0), (1, .ints .u8 p0.wait.length p0.wait), (2, .ints .u8 p0.got.length p0.got), (3, .vec .row p0.out)])
        32 (by kernel_rfl) rfl (by kernel_rfl) (⟨tt, trivial⟩) ?_
    refine Tri.seq ?_
    refine Tri.split ((p0.state : Int) != 2) (fun h1 => ?_) (fun h1 => ?_)
    ·
      have h1' := ne_true_i h1
      refine Tri.seq_region [(14, qb true)] none [34, 0, 1] [0, 1, 2, 3] (TT ∧ (TT ∧ (TT ∧ (TT ∧ (TT ∧ (TT ∧ (((1 < 14) ∧ True) ∧ (TT ∧ (TT ∧ ((True ∧ (((p0.state : Int) != 2) = true)) ∧ (TT ∧ (TT ∧ (TT ∧ (TT ∧ (TT ∧ (TT ∧ (TT ∧ (TT ∧ (TT ∧ (TT ∧ (TT ∧ (TT ∧ (TT ∧ (TT ∧ (TT ∧ (TT ∧ (TT ∧ (TT ∧ (TT ∧ (TT ∧ True))))))))))))))))))))))))))))))
          ([(34, .sc (.b true)), (0, .sc (.p 0 0)), (1, .sc (.ro .u8 p1))], [(0, chC 1 2 3 p0), (1, .ints .u8 p0.wait.length p0.wait), (2, .ints .u8 p0.got.length p0.got), (3, .vec .row p0.out)])
          512 (by kernel_rfl) rfl (by kernel_rfl) (⟨tt, ⟨tt, ⟨tt, ⟨tt, ⟨tt, ⟨tt, ⟨⟨(by first | omega | (dsimp only; omega) | decide | (simp only [FcSendv0, len_say]; omega)), trivial⟩, ⟨tt, ⟨tt, ⟨⟨trivial, (h1)⟩, ⟨tt, ⟨tt, ⟨tt, ⟨tt, ⟨tt, ⟨tt, ⟨tt, ⟨tt, ⟨tt, ⟨tt, ⟨tt, ⟨tt, ⟨tt, ⟨tt, ⟨tt, ⟨tt, ⟨tt, ⟨tt, ⟨tt, ⟨tt, trivial⟩⟩⟩⟩⟩⟩⟩⟩⟩⟩⟩⟩⟩⟩⟩⟩⟩⟩⟩⟩⟩⟩⟩⟩⟩⟩⟩⟩⟩⟩) ?_
      refine Tri.cond_true (by kernel_rfl) ?_
      refine Tri.seq_region [] none [4] [0, 1, 2, 3] (TT ∧ True)
          ([(4, .sc (.i .i64 8))], [(0, chC 1 2 3 p0), (1, .ints .u8 p0.wait.length p0.wait), (2, .ints .u8 p0.got.length p0.got), (3, .vec .row p0.out)])
          528 (by kernel_rfl) rfl (by kernel_rfl) (⟨tt, trivial⟩) ?_
      refine Tri.ret ?_
      repeat (first | refine thenP_ret ?_ | refine blkP_ret ?_ | refine countP_ret ?_ | refine joinP_ret ?_ | refine iterP_ret ?_)
      refine subP_done ?_
      refine endP.conv (r' := ⟨.sc (.i .i64 8), [some (chC 4 5 6 p0), none, none, none, some (.ints .u8 p0.wait.length p0.wait), some (.ints .u8 p0.got.length p0.got), some (.vec .row p0.out)]⟩) (by simp only [chC, FcSend, FcSend_1, h1, sel_true, sel_false]) ?_
      exact endP.ret [(0, 0), (1, 4), (2, 5), (3, 6)] TT (by kernel_rfl) (by kernel_rfl) tt
    ·
      have h1' := ne_false_i h1
      refine Tri.split (!p0.ready) (fun h2 => ?_) (fun h2 => ?_)
      ·
        refine Tri.seq_region [(14, qb false), (21, qb true)] none [34, 0, 1] [0, 1, 2, 3] (TT ∧ (TT ∧ (TT ∧ (TT ∧ (TT ∧ (TT ∧ (((1 < 14) ∧ True) ∧ (TT ∧ (TT ∧ ((True ∧ (((p0.state : Int) != 2) = false)) ∧ (TT ∧ (TT ∧ (TT ∧ (((8 < 14) ∧ True) ∧ (TT ∧ (TT ∧ ((True ∧ ((!p0.ready) = true)) ∧ (TT ∧ (TT ∧ (TT ∧ (TT ∧ (TT ∧ (TT ∧ (TT ∧ (TT ∧ (TT ∧ (TT ∧ (TT ∧ (TT ∧ (TT ∧ True))))))))))))))))))))))))))))))
            ([(34, .sc (.b true)), (0, .sc (.p 0 0)), (1, .sc (.ro .u8 p1))], [(0, chC 1 2 3 p0), (1, .ints .u8 p0.wait.length p0.wait), (2, .ints .u8 p0.got.length p0.got), (3, .vec .row p0.out)])
            512 (by kernel_rfl) rfl (by kernel_rfl) (⟨tt, ⟨tt, ⟨tt, ⟨tt, ⟨tt, ⟨tt, ⟨⟨(by first | omega | (dsimp only; omega) | decide | (simp only [FcSendv0, len_say]; omega)), trivial⟩, ⟨tt, ⟨tt, ⟨⟨trivial, (h1)⟩, ⟨tt, ⟨tt, ⟨tt, ⟨⟨(by first | omega | (dsimp only; omega) | decide | (simp only [FcSendv0, len_say]; omega)), trivial⟩, ⟨tt, ⟨tt, ⟨⟨trivial, (h2)⟩, ⟨tt, ⟨tt, ⟨tt, ⟨tt, ⟨tt, ⟨tt, ⟨tt, ⟨tt, ⟨tt, ⟨tt, ⟨tt, ⟨tt, ⟨tt, trivial⟩⟩⟩⟩⟩⟩⟩⟩⟩⟩⟩⟩⟩⟩⟩⟩⟩⟩⟩⟩⟩⟩⟩⟩⟩⟩⟩⟩⟩⟩) ?_
        refine Tri.cond_true (by kernel_rfl) ?_
        refine Tri.seq_region [] none [4] [0, 1, 2, 3] (TT ∧ True)
            ([(4, .sc (.i .i64 8))], [(0, chC 1 2 3 p0), (1, .ints .u8 p0.wait.length p0.wait), (2, .ints .u8 p0.got.length p0.got), (3, .vec .row p0.out)])
            528 (by kernel_rfl) rfl (by kernel_rfl) (⟨tt, trivial⟩) ?_
        refine Tri.ret ?_
        repeat (first | refine thenP_ret ?_ | refine blkP_ret ?_ | refine countP_ret ?_ | refine joinP_ret ?_ | refine iterP_ret ?_)
        refine subP_done ?_
        refine endP.conv (r' := ⟨.sc (.i .i64 8), [some (chC 4 5 6 p0), none, none, none, some (.ints .u8 p0.wait.length p0.wait), some (.ints .u8 p0.got.length p0.got), some (.vec .row p0.out)]⟩) (by simp only [chC, FcSend, FcSend_1, h1, h2, sel_true, sel_false]) ?_
        exact endP.ret [(0, 0), (1, 4), (2, 5), (3, 6)] TT (by kernel_rfl) (by kernel_rfl) tt
      ·
        refine Tri.split p0.e0 (fun h3 => ?_) (fun h3 => ?_)
        ·
          refine Tri.seq_region [(14, qb false), (21, qb false), (28, qb true)] none [34, 0, 1] [0, 1, 2, 3] (TT ∧ (TT ∧ (TT ∧ (TT ∧ (TT ∧ (TT ∧ (((1 < 14) ∧ True) ∧ (TT ∧ (TT ∧ ((True ∧ (((p0.state : Int) != 2) = false)) ∧ (TT ∧ (TT ∧ (TT ∧ (((8 < 14) ∧ True) ∧ (TT ∧ (TT ∧ ((True ∧ ((!p0.ready) = false)) ∧ (TT ∧ (TT ∧ (TT ∧ ((((0 : Int) ≤ 0 ∧ 0 < ((2 : Nat) : Int)) ∧ True) ∧ (((9 < 14) ∧ True) ∧ (TT ∧ ((True ∧ (p0.e0 = true)) ∧ (TT ∧ (TT ∧ (TT ∧ (TT ∧ (TT ∧ (TT ∧ True))))))))))))))))))))))))))))))
              ([(34, .sc (.b true)), (0, .sc (.p 0 0)), (1, .sc (.ro .u8 p1))], [(0, chC 1 2 3 p0), (1, .ints .u8 p0.wait.length p0.wait), (2, .ints .u8 p0.got.length p0.got), (3, .vec .row p0.out)])
              512 (by kernel_rfl) rfl (by kernel_rfl) (⟨tt, ⟨tt, ⟨tt, ⟨tt, ⟨tt, ⟨tt, ⟨⟨(by first | omega | (dsimp only; omega) | decide | (simp only [FcSendv0, len_say]; omega)), trivial⟩, ⟨tt, ⟨tt, ⟨⟨trivial, (h1)⟩, ⟨tt, ⟨tt, ⟨tt, ⟨⟨(by first | omega | (dsimp only; omega) | decide | (simp only [FcSendv0, len_say]; omega)), trivial⟩, ⟨tt, ⟨tt, ⟨⟨trivial, (h2)⟩, ⟨tt, ⟨tt, ⟨tt, ⟨⟨(by first | omega | (dsimp only; omega) | decide | (simp only [FcSendv0, len_say]; omega)), trivial⟩, ⟨⟨(by first | omega | (dsimp only; omega) | decide | (simp only [FcSendv0, len_say]; omega)), trivial⟩, ⟨tt, ⟨⟨trivial, (h3)⟩, ⟨tt, ⟨tt, ⟨tt, ⟨tt, ⟨tt, ⟨tt, trivial⟩⟩⟩⟩⟩⟩⟩⟩⟩⟩⟩⟩⟩⟩⟩⟩⟩⟩⟩⟩⟩⟩⟩⟩⟩⟩⟩⟩⟩⟩) ?_
          refine Tri.cond_true (by kernel_rfl) ?_
          refine Tri.seq_region [] none [4] [0, 1, 2, 3] (TT ∧ True)
              ([(4, .sc (.i .i64 8))], [(0, chC 1 2 3 p0), (1, .ints .u8 p0.wait.length p0.wait), (2, .ints .u8 p0.got.length p0.got), (3, .vec .row p0.out)])
              528 (by kernel_rfl) rfl (by kernel_rfl) (⟨tt, trivial⟩) ?_
          refine Tri.ret ?_
          repeat (first | refine thenP_ret ?_ | refine blkP_ret ?_ | refine countP_ret ?_ | refine joinP_ret ?_ | refine iterP_ret ?_)
          refine subP_done ?_
          refine endP.conv (r' := ⟨.sc (.i .i64 8), [some (chC 4 5 6 p0), none, none, none, some (.ints .u8 p0.wait.length p0.wait), some (.ints .u8 p0.got.length p0.got), some (.vec .row p0.out)]⟩) (by simp only [chC, FcSend, FcSend_1, h1, h2, h3, sel_true, sel_false]) ?_
          exact endP.ret [(0, 0), (1, 4), (2, 5), (3, 6)] TT (by kernel_rfl) (by kernel_rfl) tt
        ·
          refine Tri.seq_region [(14, qb false), (21, qb false), (28, qb false)] none [34, 0, 1] [0, 1, 2, 3] (TT ∧ (TT ∧ (TT ∧ (TT ∧ (TT ∧ (TT ∧ (((1 < 14) ∧ True) ∧ (TT ∧ (TT ∧ ((True ∧ (((p0.state : Int) != 2) = false)) ∧ (TT ∧ (TT ∧ (TT ∧ (((8 < 14) ∧ True) ∧ (TT ∧ (TT ∧ ((True ∧ ((!p0.ready) = false)) ∧ (TT ∧ (TT ∧ (TT ∧ ((((0 : Int) ≤ 0 ∧ 0 < ((2 : Nat) : Int)) ∧ True) ∧ (((9 < 14) ∧ True) ∧ (TT ∧ ((True ∧ (p0.e0 = false)) ∧ (TT ∧ (TT ∧ (TT ∧ ((((0 : Int) ≤ 0 ∧ 0 < ((2 : Nat) : Int)) ∧ True) ∧ (((11 < 14) ∧ True) ∧ (TT ∧ True))))))))))))))))))))))))))))))
              ([(34, .sc (.b p0.c0)), (0, .sc (.p 0 0)), (1, .sc (.ro .u8 p1))], [(0, chC 1 2 3 p0), (1, .ints .u8 p0.wait.length p0.wait), (2, .ints .u8 p0.got.length p0.got), (3, .vec .row p0.out)])
              512 (by kernel_rfl) rfl (by kernel_rfl) (⟨tt, ⟨tt, ⟨tt, ⟨tt, ⟨tt, ⟨tt, ⟨⟨(by first | omega | (dsimp only; omega) | decide | (simp only [FcSendv0, len_say]; omega)), trivial⟩, ⟨tt, ⟨tt, ⟨⟨trivial, (h1)⟩, ⟨tt, ⟨tt, ⟨tt, ⟨⟨(by first | omega | (dsimp only; omega) | decide | (simp only [FcSendv0, len_say]; omega)), trivial⟩, ⟨tt, ⟨tt, ⟨⟨trivial, (h2)⟩, ⟨tt, ⟨tt, ⟨tt, ⟨⟨(by first | omega | (dsimp only; omega) | decide | (simp only [FcSendv0, len_say]; omega)), trivial⟩, ⟨⟨(by first | omega | (dsimp only; omega) | decide | (simp only [FcSendv0, len_say]; omega)), trivial⟩, ⟨tt, ⟨⟨trivial, (h3)⟩, ⟨tt, ⟨tt, ⟨tt, ⟨⟨(by first | omega | (dsimp only; omega) | decide | (simp only [FcSendv0, len_say]; omega)), trivial⟩, ⟨⟨(by first | omega | (dsimp only; omega) | decide | (simp only [FcSendv0, len_say]; omega)), trivial⟩, ⟨tt, trivial⟩⟩⟩⟩⟩⟩⟩⟩⟩⟩⟩⟩⟩⟩⟩⟩⟩⟩⟩⟩⟩⟩⟩⟩⟩⟩⟩⟩⟩⟩) ?_
          refine Tri.cond (x := p0.c0) (by kernel_rfl) (fun h4 => ?_) (fun h4 => ?_)
          ·
            refine Tri.seq_region [] none [4] [0, 1, 2, 3] (TT ∧ True)
                ([(4, .sc (.i .i64 8))], [(0, chC 1 2 3 p0), (1, .ints .u8 p0.wait.length p0.wait), (2, .ints .u8 p0.got.length p0.got), (3, .vec .row p0.out)])
                528 (by kernel_rfl) rfl (by kernel_rfl) (⟨tt, trivial⟩) ?_
            refine Tri.ret ?_
            repeat (first | refine thenP_ret ?_ | refine blkP_ret ?_ | refine countP_ret ?_ | refine joinP_ret ?_ | refine iterP_ret ?_)
            refine subP_done ?_
            refine endP.conv (r' := ⟨.sc (.i .i64 8), [some (chC 4 5 6 p0), none, none, none, some (.ints .u8 p0.wait.length p0.wait), some (.ints .u8 p0.got.length p0.got), some (.vec .row p0.out)]⟩) (by simp only [chC, FcSend, FcSend_1, h1, h2, h3, h4, sel_true, sel_false]) ?_
            exact endP.ret [(0, 0), (1, 4), (2, 5), (3, 6)] TT (by kernel_rfl) (by kernel_rfl) tt
          ·
            refine Tri.skip ?_
            change Tri _ _ _ _ _ _
            refine Tri.seq_region [] none [0] [0, 608, 2, 3] (TT ∧ (TT ∧ (TT ∧ (TT ∧ (((6 < 14) ∧ True) ∧ (TT ∧ ((((((True ∧ (1 = 1)) ∧ ((0 < 1) ∧ (((p0.wait.length + p1.length) * 1 ≤ 140737488355328) ∧ (p0.wait.length + p1.length ≤ 140737488355328)))) ∧ (p1.length = p1.length * 1)) ∧ ((1 = 1) ∧ (0 + p0.wait.length * 1 = p0.wait.length))) ∧ True) ∧ (TT ∧ (TT ∧ ((((6 < 14) ∧ (1 = 1)) ∧ True) ∧ True))))))))))
                ([(0, .sc (.p 0 0))], [(0, .cells [.b p0.server, .i .i64 p0.state, .i .u32 p0.peer, .i .i64 p0.window, .i .i64 p0.most, .i .i64 p0.room, .sl 608 0 (p0.wait.length + p1.length) 1 none, .sl 2 0 p0.got.length 1 none, .b p0.ready, .b p0.e0, .b p0.e1, .b p0.c0, .b p0.c1, .sl 3 0 p0.out.length 1 none]), (608, .ints .u8 (p0.wait.length + p1.length) (p0.wait ++ p1)), (2, .ints .u8 p0.got.length p0.got), (3, .vec .row p0.out)])
                672 (by kernel_rfl) rfl (by kernel_rfl) (⟨tt, ⟨tt, ⟨tt, ⟨tt, ⟨⟨(by first | omega | (dsimp only; omega) | decide | (simp only [FcSendv0, len_say]; omega)), trivial⟩, ⟨tt, ⟨⟨⟨⟨⟨⟨trivial, (rfl)⟩, ⟨(by first | omega | (dsimp only; omega) | decide | (simp only [FcSendv0, len_say]; omega)), ⟨(by first | omega | (dsimp only; omega) | decide | (simp only [FcSendv0, len_say]; omega)), (by first | omega | (dsimp only; omega) | decide | (simp only [FcSendv0, len_say]; omega))⟩⟩⟩, (by first | omega | (dsimp only; omega) | decide | (simp only [FcSendv0, len_say]; omega))⟩, ⟨(rfl), (by first | omega | (dsimp only; omega) | decide | (simp only [FcSendv0, len_say]; omega))⟩⟩, trivial⟩, ⟨tt, ⟨tt, ⟨⟨⟨(by first | omega | (dsimp only; omega) | decide | (simp only [FcSendv0, len_say]; omega)), (rfl)⟩, trivial⟩, trivial⟩⟩⟩⟩⟩⟩⟩⟩⟩⟩) ?_
            refine Tri.sub (Sub.of_eq (congrArg (fun (qq : Nat) => (([(0, .sc (.p 0 0))], [(0, .cells [.b p0.server, .i .i64 p0.state, .i .u32 p0.peer, .i .i64 p0.window, .i .i64 p0.most, .i .i64 p0.room, .sl 608 0 qq 1 none, .sl 2 0 p0.got.length 1 none, .b p0.ready, .b p0.e0, .b p0.e1, .b p0.c0, .b p0.c1, .sl 3 0 p0.out.length 1 none]), (608, .ints .u8 qq (p0.wait ++ p1)), (2, .ints .u8 p0.got.length p0.got), (3, .vec .row p0.out)]) : St)) (show p0.wait.length + p1.length = (p0.wait ++ p1).length from by simp only [List.length_append, List.length_drop, List.length_cons, List.length_nil, Nat.zero_add, Nat.sub_zero, Nat.reduceAdd, bytesI_length]))) ?_
            show Tri _ _ _ _ ([(0, .sc (.p 0 0))], [(0, .cells [.b p0.server, .i .i64 p0.state, .i .u32 p0.peer, .i .i64 p0.window, .i .i64 p0.most, .i .i64 p0.room, .sl 608 0 ((p0.wait ++ p1).length) 1 none, .sl 2 0 p0.got.length 1 none, .b p0.ready, .b p0.e0, .b p0.e1, .b p0.c0, .b p0.c1, .sl 3 0 p0.out.length 1 none]), (608, .ints .u8 ((p0.wait ++ p1).length) (p0.wait ++ p1)), (2, .ints .u8 p0.got.length p0.got), (3, .vec .row p0.out)]) _
            refine Tri.seq_region [] none [] [690, 689, 688, 0] (TT ∧ (((True ∧ ((chLens (({p0 with wait := p0.wait ++ p1} : Ch).wait.length) (({p0 with wait := p0.wait ++ p1} : Ch).got.length) (({p0 with wait := p0.wait ++ p1} : Ch).out.length) (({p0 with wait := p0.wait ++ p1} : Ch).wait.length) (({p0 with wait := p0.wait ++ p1} : Ch).got.length) ({p0 with wait := p0.wait ++ p1} : Ch)) ∧ (chFlow ({p0 with wait := p0.wait ++ p1} : Ch)))) ∧ True) ∧ True))
                ([], [(690, .vec .row ((FcSendv0 p0 p1).out)), (689, .ints .u8 ((FcSendv0 p0 p1).got.length) ((FcSendv0 p0 p1).got)), (688, .ints .u8 ((FcSendv0 p0 p1).wait.length) ((FcSendv0 p0 p1).wait)), (0, chC 688 689 690 (FcSendv0 p0 p1))])
                704 (by kernel_rfl) rfl (by kernel_rfl) (⟨tt, ⟨⟨⟨trivial, ⟨(chLens_self _), (⟨hC.1.1, hC.1.2.1, hC.1.2.2.1, by show p0.out.length + (p0.wait ++ p1).length ≤ _; rw [List.length_append]; omega⟩)⟩⟩, trivial⟩, trivial⟩⟩) ?_
            refine Tri.seq_region [] none [4] [690, 689, 688, 0] (TT ∧ True)
                ([(4, .sc (.i .i64 0))], [(690, .vec .row ((FcSendv0 p0 p1).out)), (689, .ints .u8 ((FcSendv0 p0 p1).got.length) ((FcSendv0 p0 p1).got)), (688, .ints .u8 ((FcSendv0 p0 p1).wait.length) ((FcSendv0 p0 p1).wait)), (0, chC 688 689 690 (FcSendv0 p0 p1))])
                720 (by kernel_rfl) rfl (by kernel_rfl) (⟨tt, trivial⟩) ?_
            refine Tri.ret ?_
            repeat (first | refine thenP_ret ?_ | refine blkP_ret ?_ | refine countP_ret ?_ | refine joinP_ret ?_ | refine iterP_ret ?_)
            refine subP_done ?_
            refine endP.conv (r' := ⟨.sc (.i .i64 0), [some (chC 4 5 6 (FcSendv0 p0 p1)), none, none, none, some (.ints .u8 ((FcSendv0 p0 p1).wait.length) ((FcSendv0 p0 p1).wait)), some (.ints .u8 ((FcSendv0 p0 p1).got.length) ((FcSendv0 p0 p1).got)), some (.vec .row ((FcSendv0 p0 p1).out))]⟩) (by simp only [chC, FcSend, FcSend_1, h1, h2, h3, h4, sel_true, sel_false]) ?_
            exact endP.ret [(0, 0), (688, 4), (689, 5), (690, 6)] TT (by kernel_rfl) (by kernel_rfl) tt



end Go.Vm
