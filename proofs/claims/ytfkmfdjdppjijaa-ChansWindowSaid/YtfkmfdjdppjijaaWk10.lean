/- What the functions compute, and that they do: walked by a printed text. -/
import Derived.Test.YtfkmfdjdppjijaaWk8
set_option linter.unusedVariables false
set_option linter.unusedSimpArgs false
set_option maxRecDepth 4000
namespace Go.Vm
open Go

noncomputable def FcTakeOv0 (p0 : Ch) (p1 : Nat) (p2 : List Int) : Ch :=
  (Fcopen_1 p0 (FwByte_1 (part1 p2 p1 0 p1) false) (FwByte_2 (part1 p2 p1 0 p1) false))

noncomputable def FcTakeOv1 (p0 : Ch) (p1 : Nat) (p2 : List Int) : Ch :=
  (Fcconfirm_1 p0 (FwByte_1 (part1 p2 p1 0 p1) false) (FwByte_2 (part1 p2 p1 0 p1) false))

noncomputable def FcTakeOv2 (p0 : Ch) (p1 : Nat) (p2 : List Int) : Ch :=
  (Fcon_1 p0 (FwByte (part1 p2 p1 0 p1) false) (FwU32_1 (FwByte_1 (part1 p2 p1 0 p1) false) (FwByte_2 (part1 p2 p1 0 p1) false)) (FwU32_2 (FwByte_1 (part1 p2 p1 0 p1) false) (FwByte_2 (part1 p2 p1 0 p1) false)))

noncomputable def FcTakeO (p0 : Ch) (p1 : Nat) (p2 : List Int) : Int :=
  (sel (((((part1 p2 p1 0 p1).length : Nat) : Int) : Int) == 0) 3 (sel (((FwByte (part1 p2 p1 0 p1) false) : Int) == 90) (Fcopen p0 (FwByte_1 (part1 p2 p1 0 p1) false) (FwByte_2 (part1 p2 p1 0 p1) false)) (sel (((FwByte (part1 p2 p1 0 p1) false) : Int) == 91) (Fcconfirm p0 (FwByte_1 (part1 p2 p1 0 p1) false) (FwByte_2 (part1 p2 p1 0 p1) false)) (sel (((FwByte (part1 p2 p1 0 p1) false) : Int) == 92) (sel (!(FwOk (FwU32_1 (FwByte_1 (part1 p2 p1 0 p1) false) (FwByte_2 (part1 p2 p1 0 p1) false)) (FwU32_2 (FwByte_1 (part1 p2 p1 0 p1) false) (FwByte_2 (part1 p2 p1 0 p1) false)))) 3 (sel ((p0.state : Int) != 1) 3 0)) (sel (((FwU32 (FwByte_1 (part1 p2 p1 0 p1) false) (FwByte_2 (part1 p2 p1 0 p1) false)) : Int) != 0) 3 (sel ((p0.state : Int) != 2) 3 (sel p0.c1 3 (Fcon p0 (FwByte (part1 p2 p1 0 p1) false) (FwU32_1 (FwByte_1 (part1 p2 p1 0 p1) false) (FwByte_2 (part1 p2 p1 0 p1) false)) (FwU32_2 (FwByte_1 (part1 p2 p1 0 p1) false) (FwByte_2 (part1 p2 p1 0 p1) false))))))))))

noncomputable def FcTakeO_1 (p0 : Ch) (p1 : Nat) (p2 : List Int) : Ch :=
  (sel (((((part1 p2 p1 0 p1).length : Nat) : Int) : Int) == 0) p0 (sel (((FwByte (part1 p2 p1 0 p1) false) : Int) == 90) (FcTakeOv0 p0 p1 p2) (sel (((FwByte (part1 p2 p1 0 p1) false) : Int) == 91) (FcTakeOv1 p0 p1 p2) (sel (((FwByte (part1 p2 p1 0 p1) false) : Int) == 92) (sel (!(FwOk (FwU32_1 (FwByte_1 (part1 p2 p1 0 p1) false) (FwByte_2 (part1 p2 p1 0 p1) false)) (FwU32_2 (FwByte_1 (part1 p2 p1 0 p1) false) (FwByte_2 (part1 p2 p1 0 p1) false)))) p0 (sel ((p0.state : Int) != 1) p0 ({p0 with state := 3} : Ch))) (sel (((FwU32 (FwByte_1 (part1 p2 p1 0 p1) false) (FwByte_2 (part1 p2 p1 0 p1) false)) : Int) != 0) p0 (sel ((p0.state : Int) != 2) p0 (sel p0.c1 p0 (FcTakeOv2 p0 p1 p2))))))))

noncomputable def ScTakeOc (p0 : Ch) (y0_n1 : Nat) (y0_n2 : Nat) (y0_n3 : Nat) (y0_m1 : Nat) (y0_m2 : Nat) (p1 : Nat) (p2 : List Int) (p3 : Nat) : Option (Prop × Ret) :=
  some ((chLens y0_n1 y0_n2 y0_n3 y0_m1 y0_m2 p0 ∧ ((p1 = p3) ∧ (chOk 900000000 p0))), ⟨.sc (.i .i64 (FcTakeO p0 p1 p2)), [some (chC 5 6 7 (FcTakeO_1 p0 p1 p2)), none, none, none, none, some (.ints .u8 ((FcTakeO_1 p0 p1 p2).wait.length) ((FcTakeO_1 p0 p1 p2).wait)), some (.ints .u8 ((FcTakeO_1 p0 p1 p2).got.length) ((FcTakeO_1 p0 p1 p2).got)), some (.vec .row ((FcTakeO_1 p0 p1 p2).out))]⟩)

noncomputable def ScTakeO : List AV → List Blk → Option (Prop × Ret)
  | [.sc (.p 0 0), .sc (.sl 4 0 p1 1 none)], [.cells [.b y0_server, .i .i64 y0_state, .i .u32 y0_peer, .i .i64 y0_window, .i .i64 y0_most, .i .i64 y0_room, .sl 1 0 y0_n1 1 none, .sl 2 0 y0_n2 1 none, .b y0_ready, .b y0_e0, .b y0_e1, .b y0_c0, .b y0_c1, .sl 3 0 y0_n3 1 none], .ints .u8 y0_m1 y0_wait, .ints .u8 y0_m2 y0_got, .vec .row y0_out, .ints .u8 p3 p2] => ScTakeOc ⟨y0_server, y0_state, y0_peer, y0_window, y0_most, y0_room, y0_wait, y0_got, y0_ready, y0_e0, y0_e1, y0_c0, y0_c1, y0_out⟩ y0_n1 y0_n2 y0_n3 y0_m1 y0_m2 p1 p2 p3
  | _, _ => none

noncomputable def BcTakeO : Bs := { P := Go.Proofs.Try.prog, G := noG, tab := tabOf [⟨31, 160, [.ro .u8], [], [], ⟨0, 1, SwFrom⟩, false⟩, ⟨32, 208, [.io], [], [160], ⟨1, 0, SwByte⟩, false⟩, ⟨33, 320, [.io, .io], [], [0, 1, 2, 3, 160], ⟨5, 3, Scopen⟩, false⟩, ⟨34, 352, [.io, .io], [], [0, 1, 2, 3, 160], ⟨5, 3, Scconfirm⟩, false⟩, ⟨35, 368, [.io], [], [160], ⟨1, 0, SwU32⟩, false⟩, ⟨36, 400, [.io], [], [160], ⟨1, 0, SwOk⟩, false⟩, ⟨37, 704, [.io, .val, .io], [], [0, 1, 2, 3, 160], ⟨5, 3, Scon⟩, false⟩], n := 69 }

theorem BcTakeO.ok : BcTakeO.Ok := ⟨tabOk (P := Go.Proofs.Try.prog) (G := noG) (l := [⟨31, 160, [.ro .u8], [], [], ⟨0, 1, SwFrom⟩, false⟩, ⟨32, 208, [.io], [], [160], ⟨1, 0, SwByte⟩, false⟩, ⟨33, 320, [.io, .io], [], [0, 1, 2, 3, 160], ⟨5, 3, Scopen⟩, false⟩, ⟨34, 352, [.io, .io], [], [0, 1, 2, 3, 160], ⟨5, 3, Scconfirm⟩, false⟩, ⟨35, 368, [.io], [], [160], ⟨1, 0, SwU32⟩, false⟩, ⟨36, 400, [.io], [], [160], ⟨1, 0, SwOk⟩, false⟩, ⟨37, 704, [.io, .val, .io], [], [0, 1, 2, 3, 160], ⟨5, 3, Scon⟩, false⟩]) (And.intro KwFrom (And.intro KwByte (And.intro Kcopen (And.intro Kcconfirm (And.intro KwU32 (And.intro KwOk (And.intro Kcon True.intro))))))), mixed⟩

theorem KcTakeO : Known Go.Proofs.Try.prog noG 12 ⟨5, 3, ScTakeO⟩ := by
  refine Known.walk (B := BcTakeO) (fn := Go.Proofs.Try.f12) BcTakeO.ok (by kernel_rfl) rfl (by kernel_rfl) (by kernel_rfl) (by decide) (by decide) ?_
  · intro E args ks C r h hC hlen
    simp only at h
    unfold ScTakeO at h
    split at h
    rotate_left
    · cases h
    rename_i p1 y0_server y0_state y0_peer y0_window y0_most y0_room y0_n1 y0_n2 y0_ready y0_e0 y0_e1 y0_c0 y0_c1 y0_n3 y0_m1 y0_wait y0_m2 y0_got y0_out p3 p2
    generalize hp0 : (⟨y0_server, y0_state, y0_peer, y0_window, y0_most, y0_room, y0_wait, y0_got, y0_ready, y0_e0, y0_e1, y0_c0, y0_c1, y0_out⟩ : Ch) = p0 at h
    obtain rfl : y0_server = p0.server := by rw [← hp0]
    obtain rfl : y0_state = p0.state := by rw [← hp0]
    obtain rfl : y0_peer = p0.peer := by rw [← hp0]
    obtain rfl : y0_window = p0.window := by rw [← hp0]
    obtain rfl : y0_most = p0.most := by rw [← hp0]
    obtain rfl : y0_room = p0.room := by rw [← hp0]
    obtain rfl : y0_wait = p0.wait := by rw [← hp0]
    obtain rfl : y0_got = p0.got := by rw [← hp0]
    obtain rfl : y0_ready = p0.ready := by rw [← hp0]
    obtain rfl : y0_e0 = p0.e0 := by rw [← hp0]
    obtain rfl : y0_e1 = p0.e1 := by rw [← hp0]
    obtain rfl : y0_c0 = p0.c0 := by rw [← hp0]
    obtain rfl : y0_c1 = p0.c1 := by rw [← hp0]
    obtain rfl : y0_out = p0.out := by rw [← hp0]
    clear hp0
    unfold ScTakeOc at h
    cases h
    obtain ⟨⟨rfl, rfl, rfl, rfl, rfl⟩, hC⟩ := hC
    simp only [lens] at hlen
    obtain ⟨hEp3, hC⟩ := hC
    subst hEp3
    obtain ⟨⟨hq1, hq2⟩, hq3, hq4, ⟨hq5, hq5b⟩, hq6⟩ := id hC
    refine ⟨show 2 ≤ 69 from by decide, ?_⟩
    refine Tri.sub (Sub.of_eq (show _ = ([(0, .sc (.p 0 0)), (1, .sc (.sl 4 0 p1 1 none))], [(0, chC 1 2 3 p0), (1, .ints .u8 p0.wait.length p0.wait), (2, .ints .u8 p0.got.length p0.got), (3, .vec .row p0.out), (4, .ints .u8 p1 p2)]) from rfl)) ?_
    refine Tri.subP ?_
    refine Tri.sub (Sub.still (s' := ([(0, .sc (.p 0 0)), (1, .sc (.ro .u8 (part1 p2 p1 0 p1)))], [(0, chC 1 2 3 p0), (1, .ints .u8 p0.wait.length p0.wait), (2, .ints .u8 p0.got.length p0.got), (3, .vec .row p0.out)])) 4 (.ints .u8 p1 p2) (by kernel_rfl) (show 0 + p1 ≤ p1 from by first | omega | (dsimp only; omega) | decide | (simp only [FcTakeOv0, FcTakeOv1, FcTakeOv2, len_say]; omega)) (by kernel_rfl)) ?_
    refine Tri.len 1 rfl (fun hl1 => ?_)
    refine Tri.len 2 rfl (fun hl2 => ?_)
    refine Tri.seq_region [] none [0, 1] [0, 1, 2, 3] (TT ∧ True)
        ([(0, .sc (.p 0 0)), (1, .sc (.ro .u8 (part1 p2 p1 0 p1)))], [(0, chC 1 2 3 p0), (1, .ints .u8 p0.wait.length p0.wait), (2, .ints .u8 p0.got.length p0.got), (3, .vec .row p0.out)])
        32 (by kernel_rfl) rfl (by kernel_rfl) (⟨tt, trivial⟩) ?_
    refine Tri.seq ?_
    refine Tri.len 1 rfl (fun hl3 => ?_)
    refine Tri.len 2 rfl (fun hl4 => ?_)
    refine Tri.seq_region [] none [14, 0, 1] [0, 1, 2, 3] (TT ∧ (TT ∧ (TT ∧ (TT ∧ (TT ∧ (TT ∧ (TT ∧ True)))))))
        ([(14, .sc (.b (((((part1 p2 p1 0 p1).length : Nat) : Int) : Int) == 0))), (0, .sc (.p 0 0)), (1, .sc (.ro .u8 (part1 p2 p1 0 p1)))], [(0, chC 1 2 3 p0), (1, .ints .u8 p0.wait.length p0.wait), (2, .ints .u8 p0.got.length p0.got), (3, .vec .row p0.out)])
        144 (by kernel_rfl) rfl (by kernel_rfl) (⟨tt, ⟨tt, ⟨tt, ⟨tt, ⟨tt, ⟨tt, ⟨tt, trivial⟩⟩⟩⟩⟩⟩⟩) ?_
    refine Tri.cond (x := (((((part1 p2 p1 0 p1).length : Nat) : Int) : Int) == 0)) (by kernel_rfl) (fun h5 => ?_) (fun h5 => ?_)
    ·
      have h5' := eq_true_i h5
      refine Tri.seq_region [] none [4] [0, 1, 2, 3] (TT ∧ True)
          ([(4, .sc (.i .i64 3))], [(0, chC 1 2 3 p0), (1, .ints .u8 p0.wait.length p0.wait), (2, .ints .u8 p0.got.length p0.got), (3, .vec .row p0.out)])
          160 (by kernel_rfl) rfl (by kernel_rfl) (⟨tt, trivial⟩) ?_
      refine Tri.ret ?_
      repeat (first | refine thenP_ret ?_ | refine blkP_ret ?_ | refine countP_ret ?_ | refine joinP_ret ?_ | refine iterP_ret ?_)
      refine subP_done ?_
      refine endP.conv (r' := ⟨.sc (.i .i64 3), [some (chC 5 6 7 p0), none, none, none, none, some (.ints .u8 p0.wait.length p0.wait), some (.ints .u8 p0.got.length p0.got), some (.vec .row p0.out)]⟩) (by simp only [chC, FcTakeO, FcTakeO_1, h5, sel_true, sel_false]) ?_
      exact endP.ret [(0, 0), (1, 5), (2, 6), (3, 7)] TT (by kernel_rfl) (by kernel_rfl) tt
    ·
      have h5' := eq_false_i h5
      refine Tri.skip ?_
      change Tri _ _ _ _ _ _
      refine Tri.len 1 rfl (fun hl6 => ?_)
      refine Tri.len 2 rfl (fun hl7 => ?_)
      refine Tri.seq_region [] none [5, 0] [160, 0, 1, 2, 3] (TT ∧ (((TT ∧ True) ∧ True) ∧ (TT ∧ True)))
          ([(5, .sc (.p 160 0)), (0, .sc (.p 0 0))], [(160, .cells [.ro .u8 (part1 p2 p1 0 p1), .b false]), (0, chC 1 2 3 p0), (1, .ints .u8 p0.wait.length p0.wait), (2, .ints .u8 p0.got.length p0.got), (3, .vec .row p0.out)])
          192 (by kernel_rfl) rfl (by kernel_rfl) (⟨tt, ⟨⟨⟨tt, trivial⟩, trivial⟩, ⟨tt, trivial⟩⟩⟩) ?_
      refine Tri.len 1 rfl (fun hl8 => ?_)
      refine Tri.len 2 rfl (fun hl9 => ?_)
      refine Tri.seq_region [] none [6, 5, 0] [160, 0, 1, 2, 3] (TT ∧ ((TT ∧ True) ∧ (TT ∧ True)))
          ([(6, .sc (.i .u8 (FwByte (part1 p2 p1 0 p1) false))), (5, .sc (.p 160 0)), (0, .sc (.p 0 0))], [(160, .cells [.ro .u8 (FwByte_1 (part1 p2 p1 0 p1) false), .b (FwByte_2 (part1 p2 p1 0 p1) false)]), (0, chC 1 2 3 p0), (1, .ints .u8 p0.wait.length p0.wait), (2, .ints .u8 p0.got.length p0.got), (3, .vec .row p0.out)])
          240 (by kernel_rfl) rfl (by kernel_rfl) (⟨tt, ⟨⟨tt, trivial⟩, ⟨tt, trivial⟩⟩⟩) ?_
      refine Tri.len 1 rfl (fun hl10 => ?_)
      refine Tri.len 2 rfl (fun hl11 => ?_)
      refine Tri.seq_region [] none [19, 6, 5, 0] [160, 0, 1, 2, 3] (TT ∧ True)
          ([(19, .sc (.i .u8 (FwByte (part1 p2 p1 0 p1) false))), (6, .sc (.i .u8 (FwByte (part1 p2 p1 0 p1) false))), (5, .sc (.p 160 0)), (0, .sc (.p 0 0))], [(160, .cells [.ro .u8 (FwByte_1 (part1 p2 p1 0 p1) false), .b (FwByte_2 (part1 p2 p1 0 p1) false)]), (0, chC 1 2 3 p0), (1, .ints .u8 p0.wait.length p0.wait), (2, .ints .u8 p0.got.length p0.got), (3, .vec .row p0.out)])
          256 (by kernel_rfl) rfl (by kernel_rfl) (⟨tt, trivial⟩) ?_
      refine Tri.block ?_
      refine Tri.len 1 rfl (fun hl12 => ?_)
      refine Tri.len 2 rfl (fun hl13 => ?_)
      refine Tri.seq_region [] none [42, 19, 6, 5, 0] [160, 0, 1, 2, 3] (TT ∧ (TT ∧ True))
          ([(42, .sc (.b (((FwByte (part1 p2 p1 0 p1) false) : Int) == 90))), (19, .sc (.i .u8 (FwByte (part1 p2 p1 0 p1) false))), (6, .sc (.i .u8 (FwByte (part1 p2 p1 0 p1) false))), (5, .sc (.p 160 0)), (0, .sc (.p 0 0))], [(160, .cells [.ro .u8 (FwByte_1 (part1 p2 p1 0 p1) false), .b (FwByte_2 (part1 p2 p1 0 p1) false)]), (0, chC 1 2 3 p0), (1, .ints .u8 p0.wait.length p0.wait), (2, .ints .u8 p0.got.length p0.got), (3, .vec .row p0.out)])
          288 (by kernel_rfl) rfl (by kernel_rfl) (⟨tt, ⟨tt, trivial⟩⟩) ?_
      refine Tri.cond (x := (((FwByte (part1 p2 p1 0 p1) false) : Int) == 90)) (by kernel_rfl) (fun h14 => ?_) (fun h14 => ?_)
      ·
        have h14' := eq_true_i h14
        refine Tri.len 1 rfl (fun hl15 => ?_)
        refine Tri.len 2 rfl (fun hl16 => ?_)
        refine Tri.seq_region [] none [4] [322, 321, 320, 0] (TT ∧ (TT ∧ (((True ∧ ((chLens p0.wait.length p0.got.length p0.out.length p0.wait.length p0.got.length p0) ∧ (p0.out.length ≤ 900000000))) ∧ True) ∧ (TT ∧ True))))
            ([(4, .sc (.i .i64 (Fcopen p0 (FwByte_1 (part1 p2 p1 0 p1) false) (FwByte_2 (part1 p2 p1 0 p1) false))))], [(322, .vec .row ((FcTakeOv0 p0 p1 p2).out)), (321, .ints .u8 ((FcTakeOv0 p0 p1 p2).got.length) ((FcTakeOv0 p0 p1 p2).got)), (320, .ints .u8 ((FcTakeOv0 p0 p1 p2).wait.length) ((FcTakeOv0 p0 p1 p2).wait)), (0, chC 320 321 322 (FcTakeOv0 p0 p1 p2))])
            352 (by kernel_rfl) rfl (by kernel_rfl) (⟨tt, ⟨tt, ⟨⟨⟨trivial, ⟨(chLens_self _), (by first | omega | (dsimp only; omega) | decide | (simp only [FcTakeOv0, FcTakeOv1, FcTakeOv2, len_say]; omega))⟩⟩, trivial⟩, ⟨tt, trivial⟩⟩⟩⟩) ?_
        refine Tri.ret ?_
        repeat (first | refine thenP_ret ?_ | refine blkP_ret ?_ | refine countP_ret ?_ | refine joinP_ret ?_ | refine iterP_ret ?_)
        refine subP_done ?_
        refine endP.conv (r' := ⟨.sc (.i .i64 (Fcopen p0 (FwByte_1 (part1 p2 p1 0 p1) false) (FwByte_2 (part1 p2 p1 0 p1) false))), [some (chC 5 6 7 (FcTakeOv0 p0 p1 p2)), none, none, none, none, some (.ints .u8 ((FcTakeOv0 p0 p1 p2).wait.length) ((FcTakeOv0 p0 p1 p2).wait)), some (.ints .u8 ((FcTakeOv0 p0 p1 p2).got.length) ((FcTakeOv0 p0 p1 p2).got)), some (.vec .row ((FcTakeOv0 p0 p1 p2).out))]⟩) (by simp only [chC, FcTakeO, FcTakeO_1, h5, h14, sel_true, sel_false]) ?_
        exact endP.ret [(0, 0), (320, 5), (321, 6), (322, 7)] TT (by kernel_rfl) (by kernel_rfl) tt
      ·
        have h14' := eq_false_i h14
        refine Tri.len 1 rfl (fun hl17 => ?_)
        refine Tri.len 2 rfl (fun hl18 => ?_)
        refine Tri.seq_region [] none [47, 19, 6, 5, 0] [160, 0, 1, 2, 3] (TT ∧ (TT ∧ True))
            ([(47, .sc (.b (((FwByte (part1 p2 p1 0 p1) false) : Int) == 91))), (19, .sc (.i .u8 (FwByte (part1 p2 p1 0 p1) false))), (6, .sc (.i .u8 (FwByte (part1 p2 p1 0 p1) false))), (5, .sc (.p 160 0)), (0, .sc (.p 0 0))], [(160, .cells [.ro .u8 (FwByte_1 (part1 p2 p1 0 p1) false), .b (FwByte_2 (part1 p2 p1 0 p1) false)]), (0, chC 1 2 3 p0), (1, .ints .u8 p0.wait.length p0.wait), (2, .ints .u8 p0.got.length p0.got), (3, .vec .row p0.out)])
            320 (by kernel_rfl) rfl (by kernel_rfl) (⟨tt, ⟨tt, trivial⟩⟩) ?_
        refine Tri.cond (x := (((FwByte (part1 p2 p1 0 p1) false) : Int) == 91)) (by kernel_rfl) (fun h19 => ?_) (fun h19 => ?_)
        ·
          have h19' := eq_true_i h19
          refine Tri.len 1 rfl (fun hl20 => ?_)
          refine Tri.len 2 rfl (fun hl21 => ?_)
          refine Tri.seq_region [] none [4] [354, 353, 352, 0] (TT ∧ (TT ∧ (((True ∧ ((chLens p0.wait.length p0.got.length p0.out.length p0.wait.length p0.got.length p0) ∧ (p0.out.length ≤ 900000000))) ∧ True) ∧ (TT ∧ True))))
              ([(4, .sc (.i .i64 (Fcconfirm p0 (FwByte_1 (part1 p2 p1 0 p1) false) (FwByte_2 (part1 p2 p1 0 p1) false))))], [(354, .vec .row ((FcTakeOv1 p0 p1 p2).out)), (353, .ints .u8 ((FcTakeOv1 p0 p1 p2).got.length) ((FcTakeOv1 p0 p1 p2).got)), (352, .ints .u8 ((FcTakeOv1 p0 p1 p2).wait.length) ((FcTakeOv1 p0 p1 p2).wait)), (0, chC 352 353 354 (FcTakeOv1 p0 p1 p2))])
              384 (by kernel_rfl) rfl (by kernel_rfl) (⟨tt, ⟨tt, ⟨⟨⟨trivial, ⟨(chLens_self _), (by first | omega | (dsimp only; omega) | decide | (simp only [FcTakeOv0, FcTakeOv1, FcTakeOv2, len_say]; omega))⟩⟩, trivial⟩, ⟨tt, trivial⟩⟩⟩⟩) ?_
          refine Tri.ret ?_
          repeat (first | refine thenP_ret ?_ | refine blkP_ret ?_ | refine countP_ret ?_ | refine joinP_ret ?_ | refine iterP_ret ?_)
          refine subP_done ?_
          refine endP.conv (r' := ⟨.sc (.i .i64 (Fcconfirm p0 (FwByte_1 (part1 p2 p1 0 p1) false) (FwByte_2 (part1 p2 p1 0 p1) false))), [some (chC 5 6 7 (FcTakeOv1 p0 p1 p2)), none, none, none, none, some (.ints .u8 ((FcTakeOv1 p0 p1 p2).wait.length) ((FcTakeOv1 p0 p1 p2).wait)), some (.ints .u8 ((FcTakeOv1 p0 p1 p2).got.length) ((FcTakeOv1 p0 p1 p2).got)), some (.vec .row ((FcTakeOv1 p0 p1 p2).out))]⟩) (by simp only [chC, FcTakeO, FcTakeO_1, h5, h14, h19, sel_true, sel_false]) ?_
          exact endP.ret [(0, 0), (352, 5), (353, 6), (354, 7)] TT (by kernel_rfl) (by kernel_rfl) tt
        ·
          have h19' := eq_false_i h19
          refine Tri.len 1 rfl (fun hl22 => ?_)
          refine Tri.len 2 rfl (fun hl23 => ?_)
          refine Tri.seq_region [] none [52, 6, 5, 0] [160, 0, 1, 2, 3] (TT ∧ (TT ∧ True))
              ([(52, .sc (.b (((FwByte (part1 p2 p1 0 p1) false) : Int) == 92))), (6, .sc (.i .u8 (FwByte (part1 p2 p1 0 p1) false))), (5, .sc (.p 160 0)), (0, .sc (.p 0 0))], [(160, .cells [.ro .u8 (FwByte_1 (part1 p2 p1 0 p1) false), .b (FwByte_2 (part1 p2 p1 0 p1) false)]), (0, chC 1 2 3 p0), (1, .ints .u8 p0.wait.length p0.wait), (2, .ints .u8 p0.got.length p0.got), (3, .vec .row p0.out)])
              352 (by kernel_rfl) rfl (by kernel_rfl) (⟨tt, ⟨tt, trivial⟩⟩) ?_
          refine Tri.cond (x := (((FwByte (part1 p2 p1 0 p1) false) : Int) == 92)) (by kernel_rfl) (fun h24 => ?_) (fun h24 => ?_)
          ·
            have h24' := eq_true_i h24
            refine Tri.seq ?_
            refine Tri.len 1 rfl (fun hl25 => ?_)
            refine Tri.len 2 rfl (fun hl26 => ?_)
            refine Tri.seq_region [] none [5, 0] [160, 0, 1, 2, 3] (TT ∧ ((TT ∧ True) ∧ True))
                ([(5, .sc (.p 160 0)), (0, .sc (.p 0 0))], [(160, .cells [.ro .u8 (FwU32_1 (FwByte_1 (part1 p2 p1 0 p1) false) (FwByte_2 (part1 p2 p1 0 p1) false)), .b (FwU32_2 (FwByte_1 (part1 p2 p1 0 p1) false) (FwByte_2 (part1 p2 p1 0 p1) false))]), (0, chC 1 2 3 p0), (1, .ints .u8 p0.wait.length p0.wait), (2, .ints .u8 p0.got.length p0.got), (3, .vec .row p0.out)])
                384 (by kernel_rfl) rfl (by kernel_rfl) (⟨tt, ⟨⟨tt, trivial⟩, trivial⟩⟩) ?_
            refine Tri.split (!(FwOk (FwU32_1 (FwByte_1 (part1 p2 p1 0 p1) false) (FwByte_2 (part1 p2 p1 0 p1) false)) (FwU32_2 (FwByte_1 (part1 p2 p1 0 p1) false) (FwByte_2 (part1 p2 p1 0 p1) false)))) (fun h27 => ?_) (fun h27 => ?_)
            ·
              refine Tri.len 1 rfl (fun hl28 => ?_)
              refine Tri.len 2 rfl (fun hl29 => ?_)
              refine Tri.seq_region [(59, qb true)] none [65, 0] [0, 1, 2, 3] (TT ∧ ((TT ∧ True) ∧ (TT ∧ ((True ∧ ((!(FwOk (FwU32_1 (FwByte_1 (part1 p2 p1 0 p1) false) (FwByte_2 (part1 p2 p1 0 p1) false)) (FwU32_2 (FwByte_1 (part1 p2 p1 0 p1) false) (FwByte_2 (part1 p2 p1 0 p1) false)))) = true)) ∧ (TT ∧ (TT ∧ (TT ∧ (TT ∧ (TT ∧ (TT ∧ True))))))))))
                  ([(65, .sc (.b true)), (0, .sc (.p 0 0))], [(0, chC 1 2 3 p0), (1, .ints .u8 p0.wait.length p0.wait), (2, .ints .u8 p0.got.length p0.got), (3, .vec .row p0.out)])
                  544 (by kernel_rfl) rfl (by kernel_rfl) (⟨tt, ⟨⟨tt, trivial⟩, ⟨tt, ⟨⟨trivial, (h27)⟩, ⟨tt, ⟨tt, ⟨tt, ⟨tt, ⟨tt, ⟨tt, trivial⟩⟩⟩⟩⟩⟩⟩⟩⟩⟩) ?_
              refine Tri.cond_true (by kernel_rfl) ?_
              refine Tri.seq_region [] none [4] [0, 1, 2, 3] (TT ∧ True)
                  ([(4, .sc (.i .i64 3))], [(0, chC 1 2 3 p0), (1, .ints .u8 p0.wait.length p0.wait), (2, .ints .u8 p0.got.length p0.got), (3, .vec .row p0.out)])
                  560 (by kernel_rfl) rfl (by kernel_rfl) (⟨tt, trivial⟩) ?_
              refine Tri.ret ?_
              repeat (first | refine thenP_ret ?_ | refine blkP_ret ?_ | refine countP_ret ?_ | refine joinP_ret ?_ | refine iterP_ret ?_)
              refine subP_done ?_
              refine endP.conv (r' := ⟨.sc (.i .i64 3), [some (chC 5 6 7 p0), none, none, none, none, some (.ints .u8 p0.wait.length p0.wait), some (.ints .u8 p0.got.length p0.got), some (.vec .row p0.out)]⟩) (by simp only [chC, FcTakeO, FcTakeO_1, h5, h14, h19, h24, h27, sel_true, sel_false]) ?_
              exact endP.ret [(0, 0), (1, 5), (2, 6), (3, 7)] TT (by kernel_rfl) (by kernel_rfl) tt
            ·
              refine Tri.len 1 rfl (fun hl30 => ?_)
              refine Tri.len 2 rfl (fun hl31 => ?_)
              refine Tri.seq_region [(59, qb false)] none [65, 0] [0, 1, 2, 3] (TT ∧ ((TT ∧ True) ∧ (TT ∧ ((True ∧ ((!(FwOk (FwU32_1 (FwByte_1 (part1 p2 p1 0 p1) false) (FwByte_2 (part1 p2 p1 0 p1) false)) (FwU32_2 (FwByte_1 (part1 p2 p1 0 p1) false) (FwByte_2 (part1 p2 p1 0 p1) false)))) = false)) ∧ (TT ∧ (TT ∧ (TT ∧ (((1 < 14) ∧ True) ∧ (TT ∧ (TT ∧ True))))))))))
                  ([(65, .sc (.b ((p0.state : Int) != 1))), (0, .sc (.p 0 0))], [(0, chC 1 2 3 p0), (1, .ints .u8 p0.wait.length p0.wait), (2, .ints .u8 p0.got.length p0.got), (3, .vec .row p0.out)])
                  544 (by kernel_rfl) rfl (by kernel_rfl) (⟨tt, ⟨⟨tt, trivial⟩, ⟨tt, ⟨⟨trivial, (h27)⟩, ⟨tt, ⟨tt, ⟨tt, ⟨⟨(by first | omega | (dsimp only; omega) | decide | (simp only [FcTakeOv0, FcTakeOv1, FcTakeOv2, len_say]; omega)), trivial⟩, ⟨tt, ⟨tt, trivial⟩⟩⟩⟩⟩⟩⟩⟩⟩⟩) ?_
              refine Tri.cond (x := ((p0.state : Int) != 1)) (by kernel_rfl) (fun h32 => ?_) (fun h32 => ?_)
              ·
                have h32' := ne_true_i h32
                refine Tri.seq_region [] none [4] [0, 1, 2, 3] (TT ∧ True)
                    ([(4, .sc (.i .i64 3))], [(0, chC 1 2 3 p0), (1, .ints .u8 p0.wait.length p0.wait), (2, .ints .u8 p0.got.length p0.got), (3, .vec .row p0.out)])
                    560 (by kernel_rfl) rfl (by kernel_rfl) (⟨tt, trivial⟩) ?_
                refine Tri.ret ?_
                repeat (first | refine thenP_ret ?_ | refine blkP_ret ?_ | refine countP_ret ?_ | refine joinP_ret ?_ | refine iterP_ret ?_)
                refine subP_done ?_
                refine endP.conv (r' := ⟨.sc (.i .i64 3), [some (chC 5 6 7 p0), none, none, none, none, some (.ints .u8 p0.wait.length p0.wait), some (.ints .u8 p0.got.length p0.got), some (.vec .row p0.out)]⟩) (by simp only [chC, FcTakeO, FcTakeO_1, h5, h14, h19, h24, h27, h32, sel_true, sel_false]) ?_
                exact endP.ret [(0, 0), (1, 5), (2, 6), (3, 7)] TT (by kernel_rfl) (by kernel_rfl) tt
              ·
                have h32' := ne_false_i h32
                refine Tri.skip ?_
                change Tri _ _ _ _ _ _
                refine Tri.seq_region [] none [] [0, 1, 2, 3] (TT ∧ (TT ∧ (TT ∧ ((((1 < 14) ∧ (1 = 1)) ∧ True) ∧ True))))
                    ([], [(0, .cells [.b p0.server, .i .i64 3, .i .u32 p0.peer, .i .i64 p0.window, .i .i64 p0.most, .i .i64 p0.room, .sl 1 0 p0.wait.length 1 none, .sl 2 0 p0.got.length 1 none, .b p0.ready, .b p0.e0, .b p0.e1, .b p0.c0, .b p0.c1, .sl 3 0 p0.out.length 1 none]), (1, .ints .u8 p0.wait.length p0.wait), (2, .ints .u8 p0.got.length p0.got), (3, .vec .row p0.out)])
                    608 (by kernel_rfl) rfl (by kernel_rfl) (⟨tt, ⟨tt, ⟨tt, ⟨⟨⟨(by first | omega | (dsimp only; omega) | decide | (simp only [FcTakeOv0, FcTakeOv1, FcTakeOv2, len_say]; omega)), (rfl)⟩, trivial⟩, trivial⟩⟩⟩⟩) ?_
                refine Tri.seq_region [] none [4] [0, 1, 2, 3] (TT ∧ True)
                    ([(4, .sc (.i .i64 0))], [(0, .cells [.b p0.server, .i .i64 3, .i .u32 p0.peer, .i .i64 p0.window, .i .i64 p0.most, .i .i64 p0.room, .sl 1 0 p0.wait.length 1 none, .sl 2 0 p0.got.length 1 none, .b p0.ready, .b p0.e0, .b p0.e1, .b p0.c0, .b p0.c1, .sl 3 0 p0.out.length 1 none]), (1, .ints .u8 p0.wait.length p0.wait), (2, .ints .u8 p0.got.length p0.got), (3, .vec .row p0.out)])
                    624 (by kernel_rfl) rfl (by kernel_rfl) (⟨tt, trivial⟩) ?_
                refine Tri.ret ?_
                repeat (first | refine thenP_ret ?_ | refine blkP_ret ?_ | refine countP_ret ?_ | refine joinP_ret ?_ | refine iterP_ret ?_)
                refine subP_done ?_
                refine endP.conv (r' := ⟨.sc (.i .i64 0), [some (.cells [.b p0.server, .i .i64 3, .i .u32 p0.peer, .i .i64 p0.window, .i .i64 p0.most, .i .i64 p0.room, .sl 5 0 p0.wait.length 1 none, .sl 6 0 p0.got.length 1 none, .b p0.ready, .b p0.e0, .b p0.e1, .b p0.c0, .b p0.c1, .sl 7 0 p0.out.length 1 none]), none, none, none, none, some (.ints .u8 p0.wait.length p0.wait), some (.ints .u8 p0.got.length p0.got), some (.vec .row p0.out)]⟩) (by simp only [chC, FcTakeO, FcTakeO_1, h5, h14, h19, h24, h27, h32, sel_true, sel_false]) ?_
                exact endP.ret [(0, 0), (1, 5), (2, 6), (3, 7)] TT (by kernel_rfl) (by kernel_rfl) tt
          ·
            have h24' := eq_false_i h24
            refine Tri.seq ?_
            refine Tri.len 1 rfl (fun hl33 => ?_)
            refine Tri.len 2 rfl (fun hl34 => ?_)
            refine Tri.seq_region [] none [7, 6, 5, 0] [160, 0, 1, 2, 3] (TT ∧ ((TT ∧ True) ∧ (TT ∧ True)))
                ([(7, .sc (.i .u32 (FwU32 (FwByte_1 (part1 p2 p1 0 p1) false) (FwByte_2 (part1 p2 p1 0 p1) false)))), (6, .sc (.i .u8 (FwByte (part1 p2 p1 0 p1) false))), (5, .sc (.p 160 0)), (0, .sc (.p 0 0))], [(160, .cells [.ro .u8 (FwU32_1 (FwByte_1 (part1 p2 p1 0 p1) false) (FwByte_2 (part1 p2 p1 0 p1) false)), .b (FwU32_2 (FwByte_1 (part1 p2 p1 0 p1) false) (FwByte_2 (part1 p2 p1 0 p1) false))]), (0, chC 1 2 3 p0), (1, .ints .u8 p0.wait.length p0.wait), (2, .ints .u8 p0.got.length p0.got), (3, .vec .row p0.out)])
                400 (by kernel_rfl) rfl (by kernel_rfl) (⟨tt, ⟨⟨tt, trivial⟩, ⟨tt, trivial⟩⟩⟩) ?_
            refine Tri.split (((FwU32 (FwByte_1 (part1 p2 p1 0 p1) false) (FwByte_2 (part1 p2 p1 0 p1) false)) : Int) != 0) (fun h35 => ?_) (fun h35 => ?_)
            ·
              have h35' := ne_true_i h35
              refine Tri.len 1 rfl (fun hl36 => ?_)
              refine Tri.len 2 rfl (fun hl37 => ?_)
              refine Tri.seq_region [(24, qb true)] none [37, 6, 5, 0] [160, 0, 1, 2, 3] (TT ∧ (TT ∧ ((True ∧ ((((FwU32 (FwByte_1 (part1 p2 p1 0 p1) false) (FwByte_2 (part1 p2 p1 0 p1) false)) : Int) != 0) = true)) ∧ (TT ∧ (TT ∧ (TT ∧ (TT ∧ (TT ∧ (TT ∧ (TT ∧ (TT ∧ (TT ∧ (TT ∧ (TT ∧ (TT ∧ (TT ∧ True))))))))))))))))
                  ([(37, .sc (.b true)), (6, .sc (.i .u8 (FwByte (part1 p2 p1 0 p1) false))), (5, .sc (.p 160 0)), (0, .sc (.p 0 0))], [(160, .cells [.ro .u8 (FwU32_1 (FwByte_1 (part1 p2 p1 0 p1) false) (FwByte_2 (part1 p2 p1 0 p1) false)), .b (FwU32_2 (FwByte_1 (part1 p2 p1 0 p1) false) (FwByte_2 (part1 p2 p1 0 p1) false))]), (0, chC 1 2 3 p0), (1, .ints .u8 p0.wait.length p0.wait), (2, .ints .u8 p0.got.length p0.got), (3, .vec .row p0.out)])
                  656 (by kernel_rfl) rfl (by kernel_rfl) (⟨tt, ⟨tt, ⟨⟨trivial, (h35)⟩, ⟨tt, ⟨tt, ⟨tt, ⟨tt, ⟨tt, ⟨tt, ⟨tt, ⟨tt, ⟨tt, ⟨tt, ⟨tt, ⟨tt, ⟨tt, trivial⟩⟩⟩⟩⟩⟩⟩⟩⟩⟩⟩⟩⟩⟩⟩⟩) ?_
              refine Tri.cond_true (by kernel_rfl) ?_
              refine Tri.seq_region [] none [4] [0, 1, 2, 3] (TT ∧ True)
                  ([(4, .sc (.i .i64 3))], [(0, chC 1 2 3 p0), (1, .ints .u8 p0.wait.length p0.wait), (2, .ints .u8 p0.got.length p0.got), (3, .vec .row p0.out)])
                  672 (by kernel_rfl) rfl (by kernel_rfl) (⟨tt, trivial⟩) ?_
              refine Tri.ret ?_
              repeat (first | refine thenP_ret ?_ | refine blkP_ret ?_ | refine countP_ret ?_ | refine joinP_ret ?_ | refine iterP_ret ?_)
              refine subP_done ?_
              refine endP.conv (r' := ⟨.sc (.i .i64 3), [some (chC 5 6 7 p0), none, none, none, none, some (.ints .u8 p0.wait.length p0.wait), some (.ints .u8 p0.got.length p0.got), some (.vec .row p0.out)]⟩) (by simp only [chC, FcTakeO, FcTakeO_1, h5, h14, h19, h24, h35, sel_true, sel_false]) ?_
              exact endP.ret [(0, 0), (1, 5), (2, 6), (3, 7)] TT (by kernel_rfl) (by kernel_rfl) tt
            ·
              have h35' := ne_false_i h35
              refine Tri.split ((p0.state : Int) != 2) (fun h38 => ?_) (fun h38 => ?_)
              ·
                have h38' := ne_true_i h38
                refine Tri.len 1 rfl (fun hl39 => ?_)
                refine Tri.len 2 rfl (fun hl40 => ?_)
                refine Tri.seq_region [(24, qb false), (31, qb true)] none [37, 6, 5, 0] [160, 0, 1, 2, 3] (TT ∧ (TT ∧ ((True ∧ ((((FwU32 (FwByte_1 (part1 p2 p1 0 p1) false) (FwByte_2 (part1 p2 p1 0 p1) false)) : Int) != 0) = false)) ∧ (TT ∧ (TT ∧ (TT ∧ (((1 < 14) ∧ True) ∧ (TT ∧ (TT ∧ ((True ∧ (((p0.state : Int) != 2) = true)) ∧ (TT ∧ (TT ∧ (TT ∧ (TT ∧ (TT ∧ (TT ∧ True))))))))))))))))
                    ([(37, .sc (.b true)), (6, .sc (.i .u8 (FwByte (part1 p2 p1 0 p1) false))), (5, .sc (.p 160 0)), (0, .sc (.p 0 0))], [(160, .cells [.ro .u8 (FwU32_1 (FwByte_1 (part1 p2 p1 0 p1) false) (FwByte_2 (part1 p2 p1 0 p1) false)), .b (FwU32_2 (FwByte_1 (part1 p2 p1 0 p1) false) (FwByte_2 (part1 p2 p1 0 p1) false))]), (0, chC 1 2 3 p0), (1, .ints .u8 p0.wait.length p0.wait), (2, .ints .u8 p0.got.length p0.got), (3, .vec .row p0.out)])
                    656 (by kernel_rfl) rfl (by kernel_rfl) (⟨tt, ⟨tt, ⟨⟨trivial, (h35)⟩, ⟨tt, ⟨tt, ⟨tt, ⟨⟨(by first | omega | (dsimp only; omega) | decide | (simp only [FcTakeOv0, FcTakeOv1, FcTakeOv2, len_say]; omega)), trivial⟩, ⟨tt, ⟨tt, ⟨⟨trivial, (h38)⟩, ⟨tt, ⟨tt, ⟨tt, ⟨tt, ⟨tt, ⟨tt, trivial⟩⟩⟩⟩⟩⟩⟩⟩⟩⟩⟩⟩⟩⟩⟩⟩) ?_
                refine Tri.cond_true (by kernel_rfl) ?_
                refine Tri.seq_region [] none [4] [0, 1, 2, 3] (TT ∧ True)
                    ([(4, .sc (.i .i64 3))], [(0, chC 1 2 3 p0), (1, .ints .u8 p0.wait.length p0.wait), (2, .ints .u8 p0.got.length p0.got), (3, .vec .row p0.out)])
                    672 (by kernel_rfl) rfl (by kernel_rfl) (⟨tt, trivial⟩) ?_
                refine Tri.ret ?_
                repeat (first | refine thenP_ret ?_ | refine blkP_ret ?_ | refine countP_ret ?_ | refine joinP_ret ?_ | refine iterP_ret ?_)
                refine subP_done ?_
                refine endP.conv (r' := ⟨.sc (.i .i64 3), [some (chC 5 6 7 p0), none, none, none, none, some (.ints .u8 p0.wait.length p0.wait), some (.ints .u8 p0.got.length p0.got), some (.vec .row p0.out)]⟩) (by simp only [chC, FcTakeO, FcTakeO_1, h5, h14, h19, h24, h35, h38, sel_true, sel_false]) ?_
                exact endP.ret [(0, 0), (1, 5), (2, 6), (3, 7)] TT (by kernel_rfl) (by kernel_rfl) tt
              ·
                have h38' := ne_false_i h38
                refine Tri.len 1 rfl (fun hl41 => ?_)
                refine Tri.len 2 rfl (fun hl42 => ?_)
                refine Tri.seq_region [(24, qb false), (31, qb false)] none [37, 6, 5, 0] [160, 0, 1, 2, 3] (TT ∧ (TT ∧ ((True ∧ ((((FwU32 (FwByte_1 (part1 p2 p1 0 p1) false) (FwByte_2 (part1 p2 p1 0 p1) false)) : Int) != 0) = false)) ∧ (TT ∧ (TT ∧ (TT ∧ (((1 < 14) ∧ True) ∧ (TT ∧ (TT ∧ ((True ∧ (((p0.state : Int) != 2) = false)) ∧ (TT ∧ (TT ∧ (TT ∧ ((((0 : Int) ≤ 1 ∧ 1 < ((2 : Nat) : Int)) ∧ True) ∧ (((12 < 14) ∧ True) ∧ (TT ∧ True))))))))))))))))
                    ([(37, .sc (.b p0.c1)), (6, .sc (.i .u8 (FwByte (part1 p2 p1 0 p1) false))), (5, .sc (.p 160 0)), (0, .sc (.p 0 0))], [(160, .cells [.ro .u8 (FwU32_1 (FwByte_1 (part1 p2 p1 0 p1) false) (FwByte_2 (part1 p2 p1 0 p1) false)), .b (FwU32_2 (FwByte_1 (part1 p2 p1 0 p1) false) (FwByte_2 (part1 p2 p1 0 p1) false))]), (0, chC 1 2 3 p0), (1, .ints .u8 p0.wait.length p0.wait), (2, .ints .u8 p0.got.length p0.got), (3, .vec .row p0.out)])
                    656 (by kernel_rfl) rfl (by kernel_rfl) (⟨tt, ⟨tt, ⟨⟨trivial, (h35)⟩, ⟨tt, ⟨tt, ⟨tt, ⟨⟨(by first | omega | (dsimp only; omega) | decide | (simp only [FcTakeOv0, FcTakeOv1, FcTakeOv2, len_say]; omega)), trivial⟩, ⟨tt, ⟨tt, ⟨⟨trivial, (h38)⟩, ⟨tt, ⟨tt, ⟨tt, ⟨⟨(by first | omega | (dsimp only; omega) | decide | (simp only [FcTakeOv0, FcTakeOv1, FcTakeOv2, len_say]; omega)), trivial⟩, ⟨⟨(by first | omega | (dsimp only; omega) | decide | (simp only [FcTakeOv0, FcTakeOv1, FcTakeOv2, len_say]; omega)), trivial⟩, ⟨tt, trivial⟩⟩⟩⟩⟩⟩⟩⟩⟩⟩⟩⟩⟩⟩⟩⟩) ?_
                refine Tri.cond (x := p0.c1) (by kernel_rfl) (fun h43 => ?_) (fun h43 => ?_)
                ·
                  refine Tri.seq_region [] none [4] [0, 1, 2, 3] (TT ∧ True)
                      ([(4, .sc (.i .i64 3))], [(0, chC 1 2 3 p0), (1, .ints .u8 p0.wait.length p0.wait), (2, .ints .u8 p0.got.length p0.got), (3, .vec .row p0.out)])
                      672 (by kernel_rfl) rfl (by kernel_rfl) (⟨tt, trivial⟩) ?_
                  refine Tri.ret ?_
                  repeat (first | refine thenP_ret ?_ | refine blkP_ret ?_ | refine countP_ret ?_ | refine joinP_ret ?_ | refine iterP_ret ?_)
                  refine subP_done ?_
                  refine endP.conv (r' := ⟨.sc (.i .i64 3), [some (chC 5 6 7 p0), none, none, none, none, some (.ints .u8 p0.wait.length p0.wait), some (.ints .u8 p0.got.length p0.got), some (.vec .row p0.out)]⟩) (by simp only [chC, FcTakeO, FcTakeO_1, h5, h14, h19, h24, h35, h38, h43, sel_true, sel_false]) ?_
                  exact endP.ret [(0, 0), (1, 5), (2, 6), (3, 7)] TT (by kernel_rfl) (by kernel_rfl) tt
                ·
                  refine Tri.skip ?_
                  change Tri _ _ _ _ _ _
                  refine Tri.len 1 rfl (fun hl44 => ?_)
                  refine Tri.len 2 rfl (fun hl45 => ?_)
                  refine Tri.seq_region [] none [4] [706, 705, 704, 0] (TT ∧ (TT ∧ (TT ∧ (((True ∧ ((chLens p0.wait.length p0.got.length p0.out.length p0.wait.length p0.got.length p0) ∧ (chOk 900000000 p0 ∧ 0 < p0.most))) ∧ True) ∧ (TT ∧ True)))))
                      ([(4, .sc (.i .i64 (Fcon p0 (FwByte (part1 p2 p1 0 p1) false) (FwU32_1 (FwByte_1 (part1 p2 p1 0 p1) false) (FwByte_2 (part1 p2 p1 0 p1) false)) (FwU32_2 (FwByte_1 (part1 p2 p1 0 p1) false) (FwByte_2 (part1 p2 p1 0 p1) false)))))], [(706, .vec .row ((FcTakeOv2 p0 p1 p2).out)), (705, .ints .u8 ((FcTakeOv2 p0 p1 p2).got.length) ((FcTakeOv2 p0 p1 p2).got)), (704, .ints .u8 ((FcTakeOv2 p0 p1 p2).wait.length) ((FcTakeOv2 p0 p1 p2).wait)), (0, chC 704 705 706 (FcTakeOv2 p0 p1 p2))])
                      736 (by kernel_rfl) rfl (by kernel_rfl) (⟨tt, ⟨tt, ⟨tt, ⟨⟨⟨trivial, ⟨(chLens_self _), (⟨hC, hq6 (by assumption)⟩)⟩⟩, trivial⟩, ⟨tt, trivial⟩⟩⟩⟩⟩) ?_
                  refine Tri.ret ?_
                  repeat (first | refine thenP_ret ?_ | refine blkP_ret ?_ | refine countP_ret ?_ | refine joinP_ret ?_ | refine iterP_ret ?_)
                  refine subP_done ?_
                  refine endP.conv (r' := ⟨.sc (.i .i64 (Fcon p0 (FwByte (part1 p2 p1 0 p1) false) (FwU32_1 (FwByte_1 (part1 p2 p1 0 p1) false) (FwByte_2 (part1 p2 p1 0 p1) false)) (FwU32_2 (FwByte_1 (part1 p2 p1 0 p1) false) (FwByte_2 (part1 p2 p1 0 p1) false)))), [some (chC 5 6 7 (FcTakeOv2 p0 p1 p2)), none, none, none, none, some (.ints .u8 ((FcTakeOv2 p0 p1 p2).wait.length) ((FcTakeOv2 p0 p1 p2).wait)), some (.ints .u8 ((FcTakeOv2 p0 p1 p2).got.length) ((FcTakeOv2 p0 p1 p2).got)), some (.vec .row ((FcTakeOv2 p0 p1 p2).out))]⟩) (by simp only [chC, FcTakeO, FcTakeO_1, h5, h14, h19, h24, h35, h38, h43, sel_true, sel_false]) ?_
                  exact endP.ret [(0, 0), (704, 5), (705, 6), (706, 7)] TT (by kernel_rfl) (by kernel_rfl) tt



end Go.Vm
