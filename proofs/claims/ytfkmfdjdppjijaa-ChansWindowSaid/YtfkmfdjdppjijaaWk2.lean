/- What the functions compute, and that they do: walked by a printed text. -/
import Derived.Test.YtfkmfdjdppjijaaWk1
set_option linter.unusedVariables false
set_option linter.unusedSimpArgs false
set_option maxRecDepth 4000
namespace Go.Vm
open Go

noncomputable def FwcTake (p0 : List Int) (p1 : Int) (p2 : Bool) (p3 : Int) : List Int :=
  (sel p2 ([] : List Int) (sel (decide ((p3 : Int) < 0)) ([] : List Int) (sel (decide ((p3 : Int) > (iSub .i64 ((p0.length : Nat) : Int) p1))) ([] : List Int) ((p0.drop (((iSub .i64 (iAdd .i64 p1 p3) p3)).toNat)).take ((((iAdd .i64 p1 p3)).toNat) - (((iSub .i64 (iAdd .i64 p1 p3) p3)).toNat))))))

noncomputable def FwcTake_1 (p0 : List Int) (p1 : Int) (p2 : Bool) (p3 : Int) : Int :=
  (sel p2 p1 (sel (decide ((p3 : Int) < 0)) p1 (sel (decide ((p3 : Int) > (iSub .i64 ((p0.length : Nat) : Int) p1))) p1 (iAdd .i64 p1 p3))))

noncomputable def FwcTake_2 (p0 : List Int) (p1 : Int) (p2 : Bool) (p3 : Int) : Bool :=
  (sel p2 true (sel (decide ((p3 : Int) < 0)) true (sel (decide ((p3 : Int) > (iSub .i64 ((p0.length : Nat) : Int) p1))) true p2)))

noncomputable def SwcTake : List AV → List Blk → Option (Prop × Ret)
  | [.sc (.p 0 0), .sc (.i .i64 p3)], [.cells [.ro .u8 p0, .i .i64 p1, .b p2]] => some ((p0.length ≤ 1000000000 ∧ (0 : Int) ≤ p1 ∧ p1 ≤ (p0.length : Int)), ⟨.sc (.ro .u8 (FwcTake p0 p1 p2 p3)), [some (.cells [.ro .u8 p0, .i .i64 (FwcTake_1 p0 p1 p2 p3), .b (FwcTake_2 p0 p1 p2 p3)])]⟩)
  | _, _ => none

noncomputable def BwcTake : Bs := { P := Go.Proofs.Try.prog, G := noG, tab := tabOf [], n := 53 }

theorem BwcTake.ok : BwcTake.Ok := ⟨tabOk (P := Go.Proofs.Try.prog) (G := noG) (l := []) True.intro, mixed⟩

theorem KwcTake : Known Go.Proofs.Try.prog noG 39 ⟨1, 0, SwcTake⟩ := by
  refine Known.walk (B := BwcTake) (fn := Go.Proofs.Try.f39) BwcTake.ok (by kernel_rfl) rfl (by kernel_rfl) (by kernel_rfl) (by decide) (by decide) ?_
  · intro E args ks C r h hC hlen
    simp only at h
    unfold SwcTake at h
    split at h
    rotate_left
    · cases h
    rename_i p3 p0 p1 p2
    cases h
    simp only [lens] at hlen
    refine ⟨show 2 ≤ 53 from by decide, ?_⟩
    refine Tri.sub (Sub.of_eq (show _ = ([(0, .sc (.p 0 0)), (1, .sc (.i .i64 p3))], [(0, .cells [.ro .u8 p0, .i .i64 p1, .b p2])]) from rfl)) ?_
    refine Tri.seq_region [] none [0, 1] [0] (TT ∧ True)
        ([(0, .sc (.p 0 0)), (1, .sc (.i .i64 p3))], [(0, .cells [.ro .u8 p0, .i .i64 p1, .b p2])])
        32 (by kernel_rfl) rfl (by kernel_rfl) (⟨tt, trivial⟩) ?_
    refine Tri.seq ?_
    refine Tri.split p2 (fun h1 => ?_) (fun h1 => ?_)
    ·
      refine Tri.seq_region [(9, qb true)] (some [0, 1, 3, 7, 15, 31, 63, 127, 255, 511, 511, 1535, 3583, 7679, 15871, 511, 33279, 98815, 229887, 523775, 1048575, 2097151]) [26, 0, 1] [0] (TT ∧ (TT ∧ (TT ∧ (((2 < 3) ∧ True) ∧ ((True ∧ (p2 = true)) ∧ (TT ∧ (TT ∧ (TT ∧ (TT ∧ (TT ∧ (TT ∧ (TT ∧ (TT ∧ (TT ∧ (TT ∧ (TT ∧ (TT ∧ (TT ∧ (TT ∧ (TT ∧ (TT ∧ (TT ∧ True))))))))))))))))))))))
          ([(26, .sc (.b true)), (0, .sc (.p 0 0)), (1, .sc (.i .i64 p3))], [(0, .cells [.ro .u8 p0, .i .i64 p1, .b p2])])
          384 (by kernel_rfl) rfl (by kernel_rfl) (⟨tt, ⟨tt, ⟨tt, ⟨⟨(by first | omega | (have a1 : iSub .i64 ((p0.length : Nat) : Int) p1 = (p0.length : Int) - p1 := iSub_i64 (by omega) (by omega); have a2 : iAdd .i64 p1 p3 = p1 + p3 := iAdd_i64 (by omega) (by omega); have a3 : iSub .i64 (iAdd .i64 p1 p3) p3 = iAdd .i64 p1 p3 - p3 := iSub_i64 (by omega) (by omega); omega)), trivial⟩, ⟨⟨trivial, (h1)⟩, ⟨tt, ⟨tt, ⟨tt, ⟨tt, ⟨tt, ⟨tt, ⟨tt, ⟨tt, ⟨tt, ⟨tt, ⟨tt, ⟨tt, ⟨tt, ⟨tt, ⟨tt, ⟨tt, ⟨tt, trivial⟩⟩⟩⟩⟩⟩⟩⟩⟩⟩⟩⟩⟩⟩⟩⟩⟩⟩⟩⟩⟩⟩) ?_
      refine Tri.cond_true (by kernel_rfl) ?_
      refine Tri.seq_region [] none [] [0] (TT ∧ (TT ∧ (TT ∧ ((((2 < 3) ∧ (1 = 1)) ∧ True) ∧ True))))
          ([], [(0, .cells [.ro .u8 p0, .i .i64 p1, .b true])])
          448 (by kernel_rfl) rfl (by kernel_rfl) (⟨tt, ⟨tt, ⟨tt, ⟨⟨⟨(by first | omega | (have a1 : iSub .i64 ((p0.length : Nat) : Int) p1 = (p0.length : Int) - p1 := iSub_i64 (by omega) (by omega); have a2 : iAdd .i64 p1 p3 = p1 + p3 := iAdd_i64 (by omega) (by omega); have a3 : iSub .i64 (iAdd .i64 p1 p3) p3 = iAdd .i64 p1 p3 - p3 := iSub_i64 (by omega) (by omega); omega)), (rfl)⟩, trivial⟩, trivial⟩⟩⟩⟩) ?_
      refine Tri.seq_region [] none [4] [0] (TT ∧ True)
          ([(4, .sc (.nils))], [(0, .cells [.ro .u8 p0, .i .i64 p1, .b true])])
          464 (by kernel_rfl) rfl (by kernel_rfl) (⟨tt, trivial⟩) ?_
      refine Tri.sub (Sub.nilRo 4 .u8 (by kernel_rfl)) ?_
      refine Tri.ret ?_
      repeat (first | refine thenP_ret ?_ | refine blkP_ret ?_ | refine countP_ret ?_ | refine joinP_ret ?_ | refine iterP_ret ?_)
      refine endP.conv (r' := ⟨.sc (.ro .u8 ([] : List Int)), [some (.cells [.ro .u8 p0, .i .i64 p1, .b true])]⟩) (by simp only [FwcTake, FwcTake_1, FwcTake_2, h1, sel_true, sel_false]) ?_
      exact endP.ret [(0, 0)] TT (by kernel_rfl) (by kernel_rfl) tt
    ·
      refine Tri.split (decide ((p3 : Int) < 0)) (fun h2 => ?_) (fun h2 => ?_)
      ·
        have h2' := of_decide_eq_true h2
        refine Tri.seq_region [(9, qb false), (13, qb true)] (some [0, 1, 3, 7, 15, 31, 63, 127, 255, 511, 511, 1535, 3583, 7679, 15871, 511, 33279, 98815, 229887, 523775, 1048575, 2097151]) [26, 0, 1] [0] (TT ∧ (TT ∧ (TT ∧ (((2 < 3) ∧ True) ∧ ((True ∧ (p2 = false)) ∧ (TT ∧ (TT ∧ (TT ∧ ((True ∧ ((decide ((p3 : Int) < 0)) = true)) ∧ (TT ∧ (TT ∧ (TT ∧ (TT ∧ (TT ∧ (TT ∧ (TT ∧ (TT ∧ (TT ∧ (TT ∧ (TT ∧ (TT ∧ (TT ∧ True))))))))))))))))))))))
            ([(26, .sc (.b true)), (0, .sc (.p 0 0)), (1, .sc (.i .i64 p3))], [(0, .cells [.ro .u8 p0, .i .i64 p1, .b p2])])
            384 (by kernel_rfl) rfl (by kernel_rfl) (⟨tt, ⟨tt, ⟨tt, ⟨⟨(by first | omega | (have a1 : iSub .i64 ((p0.length : Nat) : Int) p1 = (p0.length : Int) - p1 := iSub_i64 (by omega) (by omega); have a2 : iAdd .i64 p1 p3 = p1 + p3 := iAdd_i64 (by omega) (by omega); have a3 : iSub .i64 (iAdd .i64 p1 p3) p3 = iAdd .i64 p1 p3 - p3 := iSub_i64 (by omega) (by omega); omega)), trivial⟩, ⟨⟨trivial, (h1)⟩, ⟨tt, ⟨tt, ⟨tt, ⟨⟨trivial, (h2)⟩, ⟨tt, ⟨tt, ⟨tt, ⟨tt, ⟨tt, ⟨tt, ⟨tt, ⟨tt, ⟨tt, ⟨tt, ⟨tt, ⟨tt, ⟨tt, trivial⟩⟩⟩⟩⟩⟩⟩⟩⟩⟩⟩⟩⟩⟩⟩⟩⟩⟩⟩⟩⟩⟩) ?_
        refine Tri.cond_true (by kernel_rfl) ?_
        refine Tri.seq_region [] none [] [0] (TT ∧ (TT ∧ (TT ∧ ((((2 < 3) ∧ (1 = 1)) ∧ True) ∧ True))))
            ([], [(0, .cells [.ro .u8 p0, .i .i64 p1, .b true])])
            448 (by kernel_rfl) rfl (by kernel_rfl) (⟨tt, ⟨tt, ⟨tt, ⟨⟨⟨(by first | omega | (have a1 : iSub .i64 ((p0.length : Nat) : Int) p1 = (p0.length : Int) - p1 := iSub_i64 (by omega) (by omega); have a2 : iAdd .i64 p1 p3 = p1 + p3 := iAdd_i64 (by omega) (by omega); have a3 : iSub .i64 (iAdd .i64 p1 p3) p3 = iAdd .i64 p1 p3 - p3 := iSub_i64 (by omega) (by omega); omega)), (rfl)⟩, trivial⟩, trivial⟩⟩⟩⟩) ?_
        refine Tri.seq_region [] none [4] [0] (TT ∧ True)
            ([(4, .sc (.nils))], [(0, .cells [.ro .u8 p0, .i .i64 p1, .b true])])
            464 (by kernel_rfl) rfl (by kernel_rfl) (⟨tt, trivial⟩) ?_
        refine Tri.sub (Sub.nilRo 4 .u8 (by kernel_rfl)) ?_
        refine Tri.ret ?_
        repeat (first | refine thenP_ret ?_ | refine blkP_ret ?_ | refine countP_ret ?_ | refine joinP_ret ?_ | refine iterP_ret ?_)
        refine endP.conv (r' := ⟨.sc (.ro .u8 ([] : List Int)), [some (.cells [.ro .u8 p0, .i .i64 p1, .b true])]⟩) (by simp only [FwcTake, FwcTake_1, FwcTake_2, h1, h2, sel_true, sel_false]) ?_
        exact endP.ret [(0, 0)] TT (by kernel_rfl) (by kernel_rfl) tt
      ·
        have h2' := of_decide_eq_false h2
        refine Tri.seq_region [(9, qb false), (13, qb false)] (some [0, 1, 3, 7, 15, 31, 63, 127, 255, 511, 511, 1535, 3583, 7679, 15871, 511, 33279, 98815, 229887, 523775, 1048575, 2097151]) [26, 0, 1] [0] (TT ∧ (TT ∧ (TT ∧ (((2 < 3) ∧ True) ∧ ((True ∧ (p2 = false)) ∧ (TT ∧ (TT ∧ (TT ∧ ((True ∧ ((decide ((p3 : Int) < 0)) = false)) ∧ (TT ∧ (TT ∧ (TT ∧ (TT ∧ (((0 < 3) ∧ True) ∧ (TT ∧ (TT ∧ (TT ∧ (TT ∧ (((1 < 3) ∧ True) ∧ (TT ∧ (TT ∧ (TT ∧ True))))))))))))))))))))))
            ([(26, .sc (.b (decide ((p3 : Int) > (iSub .i64 ((p0.length : Nat) : Int) p1))))), (0, .sc (.p 0 0)), (1, .sc (.i .i64 p3))], [(0, .cells [.ro .u8 p0, .i .i64 p1, .b p2])])
            384 (by kernel_rfl) rfl (by kernel_rfl) (⟨tt, ⟨tt, ⟨tt, ⟨⟨(by first | omega | (have a1 : iSub .i64 ((p0.length : Nat) : Int) p1 = (p0.length : Int) - p1 := iSub_i64 (by omega) (by omega); have a2 : iAdd .i64 p1 p3 = p1 + p3 := iAdd_i64 (by omega) (by omega); have a3 : iSub .i64 (iAdd .i64 p1 p3) p3 = iAdd .i64 p1 p3 - p3 := iSub_i64 (by omega) (by omega); omega)), trivial⟩, ⟨⟨trivial, (h1)⟩, ⟨tt, ⟨tt, ⟨tt, ⟨⟨trivial, (h2)⟩, ⟨tt, ⟨tt, ⟨tt, ⟨tt, ⟨⟨(by first | omega | (have a1 : iSub .i64 ((p0.length : Nat) : Int) p1 = (p0.length : Int) - p1 := iSub_i64 (by omega) (by omega); have a2 : iAdd .i64 p1 p3 = p1 + p3 := iAdd_i64 (by omega) (by omega); have a3 : iSub .i64 (iAdd .i64 p1 p3) p3 = iAdd .i64 p1 p3 - p3 := iSub_i64 (by omega) (by omega); omega)), trivial⟩, ⟨tt, ⟨tt, ⟨tt, ⟨tt, ⟨⟨(by first | omega | (have a1 : iSub .i64 ((p0.length : Nat) : Int) p1 = (p0.length : Int) - p1 := iSub_i64 (by omega) (by omega); have a2 : iAdd .i64 p1 p3 = p1 + p3 := iAdd_i64 (by omega) (by omega); have a3 : iSub .i64 (iAdd .i64 p1 p3) p3 = iAdd .i64 p1 p3 - p3 := iSub_i64 (by omega) (by omega); omega)), trivial⟩, ⟨tt, ⟨tt, ⟨tt, trivial⟩⟩⟩⟩⟩⟩⟩⟩⟩⟩⟩⟩⟩⟩⟩⟩⟩⟩⟩⟩⟩⟩) ?_
        refine Tri.cond (x := (decide ((p3 : Int) > (iSub .i64 ((p0.length : Nat) : Int) p1)))) (by kernel_rfl) (fun h3 => ?_) (fun h3 => ?_)
        ·
          have h3' := of_decide_eq_true h3
          refine Tri.seq_region [] none [] [0] (TT ∧ (TT ∧ (TT ∧ ((((2 < 3) ∧ (1 = 1)) ∧ True) ∧ True))))
              ([], [(0, .cells [.ro .u8 p0, .i .i64 p1, .b true])])
              448 (by kernel_rfl) rfl (by kernel_rfl) (⟨tt, ⟨tt, ⟨tt, ⟨⟨⟨(by first | omega | (have a1 : iSub .i64 ((p0.length : Nat) : Int) p1 = (p0.length : Int) - p1 := iSub_i64 (by omega) (by omega); have a2 : iAdd .i64 p1 p3 = p1 + p3 := iAdd_i64 (by omega) (by omega); have a3 : iSub .i64 (iAdd .i64 p1 p3) p3 = iAdd .i64 p1 p3 - p3 := iSub_i64 (by omega) (by omega); omega)), (rfl)⟩, trivial⟩, trivial⟩⟩⟩⟩) ?_
          refine Tri.seq_region [] none [4] [0] (TT ∧ True)
              ([(4, .sc (.nils))], [(0, .cells [.ro .u8 p0, .i .i64 p1, .b true])])
              464 (by kernel_rfl) rfl (by kernel_rfl) (⟨tt, trivial⟩) ?_
          refine Tri.sub (Sub.nilRo 4 .u8 (by kernel_rfl)) ?_
          refine Tri.ret ?_
          repeat (first | refine thenP_ret ?_ | refine blkP_ret ?_ | refine countP_ret ?_ | refine joinP_ret ?_ | refine iterP_ret ?_)
          refine endP.conv (r' := ⟨.sc (.ro .u8 ([] : List Int)), [some (.cells [.ro .u8 p0, .i .i64 p1, .b true])]⟩) (by simp only [FwcTake, FwcTake_1, FwcTake_2, h1, h2, h3, sel_true, sel_false]) ?_
          exact endP.ret [(0, 0)] TT (by kernel_rfl) (by kernel_rfl) tt
        ·
          have h3' := of_decide_eq_false h3
          refine Tri.skip ?_
          change Tri _ _ _ _ _ _
          refine Tri.seq_region [] none [0, 1] [0] (TT ∧ (TT ∧ (TT ∧ (((1 < 3) ∧ True) ∧ (TT ∧ (TT ∧ (TT ∧ (TT ∧ ((((1 < 3) ∧ (1 = 1)) ∧ True) ∧ True)))))))))
              ([(0, .sc (.p 0 0)), (1, .sc (.i .i64 p3))], [(0, .cells [.ro .u8 p0, .i .i64 (iAdd .i64 p1 p3), .b p2])])
              528 (by kernel_rfl) rfl (by kernel_rfl) (⟨tt, ⟨tt, ⟨tt, ⟨⟨(by first | omega | (have a1 : iSub .i64 ((p0.length : Nat) : Int) p1 = (p0.length : Int) - p1 := iSub_i64 (by omega) (by omega); have a2 : iAdd .i64 p1 p3 = p1 + p3 := iAdd_i64 (by omega) (by omega); have a3 : iSub .i64 (iAdd .i64 p1 p3) p3 = iAdd .i64 p1 p3 - p3 := iSub_i64 (by omega) (by omega); omega)), trivial⟩, ⟨tt, ⟨tt, ⟨tt, ⟨tt, ⟨⟨⟨(by first | omega | (have a1 : iSub .i64 ((p0.length : Nat) : Int) p1 = (p0.length : Int) - p1 := iSub_i64 (by omega) (by omega); have a2 : iAdd .i64 p1 p3 = p1 + p3 := iAdd_i64 (by omega) (by omega); have a3 : iSub .i64 (iAdd .i64 p1 p3) p3 = iAdd .i64 p1 p3 - p3 := iSub_i64 (by omega) (by omega); omega)), (rfl)⟩, trivial⟩, trivial⟩⟩⟩⟩⟩⟩⟩⟩⟩) ?_
          refine Tri.seq_region [] (some [0, 1, 3, 7, 0, 16, 48, 112, 0, 496, 0, 1024, 3072, 7168, 16383, 32767]) [4] [0] (TT ∧ (TT ∧ (TT ∧ (((0 < 3) ∧ True) ∧ (TT ∧ (TT ∧ (TT ∧ (((1 < 3) ∧ True) ∧ (TT ∧ (TT ∧ (TT ∧ (TT ∧ (TT ∧ (((1 < 3) ∧ True) ∧ ((((0 : Int) ≤ (iSub .i64 (iAdd .i64 p1 p3) p3) ∧ ((iSub .i64 (iAdd .i64 p1 p3) p3) : Int) ≤ (iAdd .i64 p1 p3) ∧ (iAdd .i64 p1 p3) ≤ (p0.length : Int)) ∧ True) ∧ (TT ∧ True))))))))))))))))
              ([(4, .sc (.ro .u8 ((p0.drop (((iSub .i64 (iAdd .i64 p1 p3) p3)).toNat)).take ((((iAdd .i64 p1 p3)).toNat) - (((iSub .i64 (iAdd .i64 p1 p3) p3)).toNat)))))], [(0, .cells [.ro .u8 p0, .i .i64 (iAdd .i64 p1 p3), .b p2])])
              784 (by kernel_rfl) rfl (by kernel_rfl) (⟨tt, ⟨tt, ⟨tt, ⟨⟨(by first | omega | (have a1 : iSub .i64 ((p0.length : Nat) : Int) p1 = (p0.length : Int) - p1 := iSub_i64 (by omega) (by omega); have a2 : iAdd .i64 p1 p3 = p1 + p3 := iAdd_i64 (by omega) (by omega); have a3 : iSub .i64 (iAdd .i64 p1 p3) p3 = iAdd .i64 p1 p3 - p3 := iSub_i64 (by omega) (by omega); omega)), trivial⟩, ⟨tt, ⟨tt, ⟨tt, ⟨⟨(by first | omega | (have a1 : iSub .i64 ((p0.length : Nat) : Int) p1 = (p0.length : Int) - p1 := iSub_i64 (by omega) (by omega); have a2 : iAdd .i64 p1 p3 = p1 + p3 := iAdd_i64 (by omega) (by omega); have a3 : iSub .i64 (iAdd .i64 p1 p3) p3 = iAdd .i64 p1 p3 - p3 := iSub_i64 (by omega) (by omega); omega)), trivial⟩, ⟨tt, ⟨tt, ⟨tt, ⟨tt, ⟨tt, ⟨⟨(by first | omega | (have a1 : iSub .i64 ((p0.length : Nat) : Int) p1 = (p0.length : Int) - p1 := iSub_i64 (by omega) (by omega); have a2 : iAdd .i64 p1 p3 = p1 + p3 := iAdd_i64 (by omega) (by omega); have a3 : iSub .i64 (iAdd .i64 p1 p3) p3 = iAdd .i64 p1 p3 - p3 := iSub_i64 (by omega) (by omega); omega)), trivial⟩, ⟨⟨(by first | omega | (have a1 : iSub .i64 ((p0.length : Nat) : Int) p1 = (p0.length : Int) - p1 := iSub_i64 (by omega) (by omega); have a2 : iAdd .i64 p1 p3 = p1 + p3 := iAdd_i64 (by omega) (by omega); have a3 : iSub .i64 (iAdd .i64 p1 p3) p3 = iAdd .i64 p1 p3 - p3 := iSub_i64 (by omega) (by omega); omega)), trivial⟩, ⟨tt, trivial⟩⟩⟩⟩⟩⟩⟩⟩⟩⟩⟩⟩⟩⟩⟩⟩) ?_
          refine Tri.ret ?_
          repeat (first | refine thenP_ret ?_ | refine blkP_ret ?_ | refine countP_ret ?_ | refine joinP_ret ?_ | refine iterP_ret ?_)
          refine endP.conv (r' := ⟨.sc (.ro .u8 ((p0.drop (((iSub .i64 (iAdd .i64 p1 p3) p3)).toNat)).take ((((iAdd .i64 p1 p3)).toNat) - (((iSub .i64 (iAdd .i64 p1 p3) p3)).toNat)))), [some (.cells [.ro .u8 p0, .i .i64 (iAdd .i64 p1 p3), .b p2])]⟩) (by simp only [FwcTake, FwcTake_1, FwcTake_2, h1, h2, h3, sel_true, sel_false]) ?_
          exact endP.ret [(0, 0)] TT (by kernel_rfl) (by kernel_rfl) tt

theorem cTake_is {p0 : List Int} {p1 : Int} (p2 : Bool) (n : Int) (h : p0.length ≤ 1000000000 ∧ (0 : Int) ≤ p1 ∧ p1 ≤ (p0.length : Int)) :
    (p2 = false ∧ 0 ≤ n ∧ p1 + n ≤ (p0.length : Int) ∧ FwcTake p0 p1 p2 n = (p0.drop p1.toNat).take n.toNat ∧ FwcTake_1 p0 p1 p2 n = p1 + n ∧ FwcTake_2 p0 p1 p2 n = false) ∨
    (¬ (p2 = false ∧ 0 ≤ n ∧ p1 + n ≤ (p0.length : Int)) ∧ FwcTake p0 p1 p2 n = [] ∧ FwcTake_1 p0 p1 p2 n = p1 ∧ FwcTake_2 p0 p1 p2 n = true) := by
  obtain ⟨h1, h2, h3⟩ := h
  unfold FwcTake FwcTake_1 FwcTake_2
  cases p2
  · simp only [sel_false]
    cases h4 : decide (n < 0)
    · have h4' := of_decide_eq_false h4
      simp only [sel_false]
      have a1 : iSub .i64 ((p0.length : Nat) : Int) p1 = (p0.length : Int) - p1 := iSub_i64 (by omega) (by omega)
      rw [a1]
      cases h5 : decide (n > (p0.length : Int) - p1)
      · have h5' := of_decide_eq_false h5
        simp only [sel_false]
        have a2 : iAdd .i64 p1 n = p1 + n := iAdd_i64 (by omega) (by omega)
        have a3 : iSub .i64 (p1 + n) n = p1 := by rw [iSub_i64 (by omega) (by omega)]; omega
        rw [a2, a3]
        have a4 : (p1 + n).toNat - p1.toNat = n.toNat := by omega
        rw [a4]
        first | exact .inl ⟨rfl, by omega, by omega, rfl, rfl, rfl⟩ | exact .inl ⟨trivial, by omega, by omega, rfl, rfl, trivial⟩ | exact .inl ⟨trivial, by omega, by omega, trivial, trivial, trivial⟩
      · have h5' := of_decide_eq_true h5
        simp only [sel_true]
        exact .inr ⟨fun ⟨_, _, h⟩ => by omega, trivial, trivial, trivial⟩
    · have h4' := of_decide_eq_true h4
      simp only [sel_true]
      exact .inr ⟨fun ⟨_, h, _⟩ => by omega, trivial, trivial, trivial⟩
  · simp only [sel_true]
    exact .inr ⟨fun ⟨h, _⟩ => (by cases h), trivial, trivial, trivial⟩
theorem in_cTake {p0 : List Int} {p1 : Int} (p2 : Bool) (n : Int) (h : p0.length ≤ 1000000000 ∧ (0 : Int) ≤ p1 ∧ p1 ≤ (p0.length : Int)) : 0 ≤ FwcTake_1 p0 p1 p2 n ∧ FwcTake_1 p0 p1 p2 n ≤ (p0.length : Int) := by
  rcases cTake_is p2 n h with ⟨_, _, _, _, h1, _⟩ | ⟨_, _, h1, _⟩ <;> rw [h1] <;> omega
theorem len_cTake {p0 : List Int} {p1 : Int} {p2 : Bool} {n : Int} (h : p0.length ≤ 1000000000 ∧ (0 : Int) ≤ p1 ∧ p1 ≤ (p0.length : Int)) (hb : FwcTake_2 p0 p1 p2 n = false) : ((FwcTake p0 p1 p2 n).length : Int) = n := by
  rcases cTake_is p2 n h with ⟨_, _, _, h1, _⟩ | ⟨_, _, _, h1⟩
  · rw [h1, List.length_take, List.length_drop]; omega
  · rw [h1] at hb; cases hb
theorem le_cTake {p0 : List Int} {p1 : Int} (p2 : Bool) (n : Int) (h : p0.length ≤ 1000000000 ∧ (0 : Int) ≤ p1 ∧ p1 ≤ (p0.length : Int)) : (FwcTake p0 p1 p2 n).length ≤ n.toNat := by
  rcases cTake_is p2 n h with ⟨_, _, _, h1, _⟩ | ⟨_, h1, _⟩ <;> rw [h1]
  · rw [List.length_take]; omega
  · exact Nat.zero_le _


noncomputable def FwcByte (p0 : List Int) (p1 : Int) (p2 : Bool) : Int :=
  (sel (FwcTake_2 p0 p1 p2 1) 0 (IntKind.wrap .i64 ((FwcTake p0 p1 p2 1).getD 0 0)))

noncomputable def FwcByte_1 (p0 : List Int) (p1 : Int) (p2 : Bool) : Int :=
  (FwcTake_1 p0 p1 p2 1)

noncomputable def FwcByte_2 (p0 : List Int) (p1 : Int) (p2 : Bool) : Bool :=
  (FwcTake_2 p0 p1 p2 1)

noncomputable def SwcByte : List AV → List Blk → Option (Prop × Ret)
  | [.sc (.p 0 0)], [.cells [.ro .u8 p0, .i .i64 p1, .b p2]] => some ((p0.length ≤ 1000000000 ∧ (0 : Int) ≤ p1 ∧ p1 ≤ (p0.length : Int)), ⟨.sc (.i .i64 (FwcByte p0 p1 p2)), [some (.cells [.ro .u8 p0, .i .i64 (FwcByte_1 p0 p1 p2), .b (FwcByte_2 p0 p1 p2)])]⟩)
  | _, _ => none

noncomputable def BwcByte : Bs := { P := Go.Proofs.Try.prog, G := noG, tab := tabOf [⟨39, 48, [.io, .val], [], [0], ⟨1, 0, SwcTake⟩, false⟩], n := 14 }

theorem BwcByte.ok : BwcByte.Ok := ⟨tabOk (P := Go.Proofs.Try.prog) (G := noG) (l := [⟨39, 48, [.io, .val], [], [0], ⟨1, 0, SwcTake⟩, false⟩]) (And.intro KwcTake True.intro), mixed⟩

theorem KwcByte : Known Go.Proofs.Try.prog noG 20 ⟨1, 0, SwcByte⟩ := by
  refine Known.walk (B := BwcByte) (fn := Go.Proofs.Try.f20) BwcByte.ok (by kernel_rfl) rfl (by kernel_rfl) (by kernel_rfl) (by decide) (by decide) ?_
  · intro E args ks C r h hC hlen
    simp only at h
    unfold SwcByte at h
    split at h
    rotate_left
    · cases h
    rename_i p0 p1 p2
    cases h
    simp only [lens] at hlen
    refine ⟨show 1 ≤ 14 from by decide, ?_⟩
    refine Tri.sub (Sub.of_eq (show _ = ([(0, .sc (.p 0 0))], [(0, .cells [.ro .u8 p0, .i .i64 p1, .b p2])]) from rfl)) ?_
    refine Tri.seq_region [] none [0] [0] (TT ∧ True)
        ([(0, .sc (.p 0 0))], [(0, .cells [.ro .u8 p0, .i .i64 p1, .b p2])])
        32 (by kernel_rfl) rfl (by kernel_rfl) (⟨tt, trivial⟩) ?_
    refine Tri.seq_region [] none [3, 0] [0] (TT ∧ (((True ∧ (p0.length ≤ 1000000000 ∧ (0 : Int) ≤ p1 ∧ p1 ≤ (p0.length : Int))) ∧ True) ∧ (TT ∧ True)))
        ([(3, .sc (.ro .u8 (FwcTake p0 p1 p2 1))), (0, .sc (.p 0 0))], [(0, .cells [.ro .u8 p0, .i .i64 (FwcTake_1 p0 p1 p2 1), .b (FwcTake_2 p0 p1 p2 1)])])
        80 (by kernel_rfl) rfl (by kernel_rfl) (⟨tt, ⟨⟨⟨trivial, (by first | omega | (have hq := len_cTake hC (n := 1) (by assumption); omega) | decide)⟩, trivial⟩, ⟨tt, trivial⟩⟩⟩) ?_
    refine Tri.seq ?_
    refine Tri.seq_region [] none [9, 3] [0] (TT ∧ (TT ∧ (TT ∧ (((2 < 3) ∧ True) ∧ True))))
        ([(9, .sc (.b (FwcTake_2 p0 p1 p2 1))), (3, .sc (.ro .u8 (FwcTake p0 p1 p2 1)))], [(0, .cells [.ro .u8 p0, .i .i64 (FwcTake_1 p0 p1 p2 1), .b (FwcTake_2 p0 p1 p2 1)])])
        144 (by kernel_rfl) rfl (by kernel_rfl) (⟨tt, ⟨tt, ⟨tt, ⟨⟨(by first | omega | (have hq := len_cTake hC (n := 1) (by assumption); omega) | decide), trivial⟩, trivial⟩⟩⟩⟩) ?_
    refine Tri.cond (x := (FwcTake_2 p0 p1 p2 1)) (by kernel_rfl) (fun h1 => ?_) (fun h1 => ?_)
    ·
      refine Tri.seq_region [] none [2] [0] (TT ∧ True)
          ([(2, .sc (.i .i64 0))], [(0, .cells [.ro .u8 p0, .i .i64 (FwcTake_1 p0 p1 p2 1), .b (FwcTake_2 p0 p1 p2 1)])])
          160 (by kernel_rfl) rfl (by kernel_rfl) (⟨tt, trivial⟩) ?_
      refine Tri.ret ?_
      repeat (first | refine thenP_ret ?_ | refine blkP_ret ?_ | refine countP_ret ?_ | refine joinP_ret ?_ | refine iterP_ret ?_)
      refine endP.conv (r' := ⟨.sc (.i .i64 0), [some (.cells [.ro .u8 p0, .i .i64 (FwcTake_1 p0 p1 p2 1), .b (FwcTake_2 p0 p1 p2 1)])]⟩) (by simp only [FwcByte, FwcByte_1, FwcByte_2, h1, sel_true, sel_false]) ?_
      exact endP.ret [(0, 0)] TT (by kernel_rfl) (by kernel_rfl) tt
    ·
      refine Tri.skip ?_
      change Tri _ _ _ _ _ _
      refine Tri.seq_region [] none [2] [0] (TT ∧ ((((0 : Int) ≤ 0 ∧ 0 < ((FwcTake p0 p1 p2 1).length : Int)) ∧ True) ∧ (((0 < (FwcTake p0 p1 p2 1).length) ∧ True) ∧ (TT ∧ (TT ∧ True)))))
          ([(2, .sc (.i .i64 (IntKind.wrap .i64 ((FwcTake p0 p1 p2 1).getD 0 0))))], [(0, .cells [.ro .u8 p0, .i .i64 (FwcTake_1 p0 p1 p2 1), .b (FwcTake_2 p0 p1 p2 1)])])
          224 (by kernel_rfl) rfl (by kernel_rfl) (⟨tt, ⟨⟨(by first | omega | (have hq := len_cTake hC (n := 1) (by assumption); omega) | decide), trivial⟩, ⟨⟨(by first | omega | (have hq := len_cTake hC (n := 1) (by assumption); omega) | decide), trivial⟩, ⟨tt, ⟨tt, trivial⟩⟩⟩⟩⟩) ?_
      refine Tri.ret ?_
      repeat (first | refine thenP_ret ?_ | refine blkP_ret ?_ | refine countP_ret ?_ | refine joinP_ret ?_ | refine iterP_ret ?_)
      refine endP.conv (r' := ⟨.sc (.i .i64 (IntKind.wrap .i64 ((FwcTake p0 p1 p2 1).getD 0 0))), [some (.cells [.ro .u8 p0, .i .i64 (FwcTake_1 p0 p1 p2 1), .b (FwcTake_2 p0 p1 p2 1)])]⟩) (by simp only [FwcByte, FwcByte_1, FwcByte_2, h1, sel_true, sel_false]) ?_
      exact endP.ret [(0, 0)] TT (by kernel_rfl) (by kernel_rfl) tt

theorem in_cByte {p0 : List Int} {p1 : Int} (p2 : Bool) (h : p0.length ≤ 1000000000 ∧ (0 : Int) ≤ p1 ∧ p1 ≤ (p0.length : Int)) : 0 ≤ FwcByte_1 p0 p1 p2 ∧ FwcByte_1 p0 p1 p2 ≤ (p0.length : Int) := in_cTake p2 1 h


noncomputable def FwcU32 (p0 : List Int) (p1 : Int) (p2 : Bool) : Int :=
  (sel (FwcTake_2 p0 p1 p2 4) 0 (iAdd .i64 (iAdd .i64 (iAdd .i64 (iMul .i64 (IntKind.wrap .i64 ((FwcTake p0 p1 p2 4).getD 0 0)) 16777216) (iMul .i64 (IntKind.wrap .i64 ((FwcTake p0 p1 p2 4).getD 1 0)) 65536)) (iMul .i64 (IntKind.wrap .i64 ((FwcTake p0 p1 p2 4).getD 2 0)) 256)) (IntKind.wrap .i64 ((FwcTake p0 p1 p2 4).getD 3 0))))

noncomputable def FwcU32_1 (p0 : List Int) (p1 : Int) (p2 : Bool) : Int :=
  (FwcTake_1 p0 p1 p2 4)

noncomputable def FwcU32_2 (p0 : List Int) (p1 : Int) (p2 : Bool) : Bool :=
  (FwcTake_2 p0 p1 p2 4)

noncomputable def SwcU32 : List AV → List Blk → Option (Prop × Ret)
  | [.sc (.p 0 0)], [.cells [.ro .u8 p0, .i .i64 p1, .b p2]] => some ((p0.length ≤ 1000000000 ∧ (0 : Int) ≤ p1 ∧ p1 ≤ (p0.length : Int)), ⟨.sc (.i .i64 (FwcU32 p0 p1 p2)), [some (.cells [.ro .u8 p0, .i .i64 (FwcU32_1 p0 p1 p2), .b (FwcU32_2 p0 p1 p2)])]⟩)
  | _, _ => none

noncomputable def BwcU32 : Bs := { P := Go.Proofs.Try.prog, G := noG, tab := tabOf [⟨39, 48, [.io, .val], [], [0], ⟨1, 0, SwcTake⟩, false⟩], n := 32 }

theorem BwcU32.ok : BwcU32.Ok := ⟨tabOk (P := Go.Proofs.Try.prog) (G := noG) (l := [⟨39, 48, [.io, .val], [], [0], ⟨1, 0, SwcTake⟩, false⟩]) (And.intro KwcTake True.intro), mixed⟩

theorem KwcU32 : Known Go.Proofs.Try.prog noG 21 ⟨1, 0, SwcU32⟩ := by
  refine Known.walk (B := BwcU32) (fn := Go.Proofs.Try.f21) BwcU32.ok (by kernel_rfl) rfl (by kernel_rfl) (by kernel_rfl) (by decide) (by decide) ?_
  · intro E args ks C r h hC hlen
    simp only at h
    unfold SwcU32 at h
    split at h
    rotate_left
    · cases h
    rename_i p0 p1 p2
    cases h
    simp only [lens] at hlen
    refine ⟨show 1 ≤ 32 from by decide, ?_⟩
    refine Tri.sub (Sub.of_eq (show _ = ([(0, .sc (.p 0 0))], [(0, .cells [.ro .u8 p0, .i .i64 p1, .b p2])]) from rfl)) ?_
    refine Tri.seq_region [] none [0] [0] (TT ∧ True)
        ([(0, .sc (.p 0 0))], [(0, .cells [.ro .u8 p0, .i .i64 p1, .b p2])])
        32 (by kernel_rfl) rfl (by kernel_rfl) (⟨tt, trivial⟩) ?_
    refine Tri.seq_region [] none [3, 0] [0] (TT ∧ (((True ∧ (p0.length ≤ 1000000000 ∧ (0 : Int) ≤ p1 ∧ p1 ≤ (p0.length : Int))) ∧ True) ∧ (TT ∧ True)))
        ([(3, .sc (.ro .u8 (FwcTake p0 p1 p2 4))), (0, .sc (.p 0 0))], [(0, .cells [.ro .u8 p0, .i .i64 (FwcTake_1 p0 p1 p2 4), .b (FwcTake_2 p0 p1 p2 4)])])
        80 (by kernel_rfl) rfl (by kernel_rfl) (⟨tt, ⟨⟨⟨trivial, (by first | omega | (have hq := len_cTake hC (n := 4) (by assumption); omega) | decide)⟩, trivial⟩, ⟨tt, trivial⟩⟩⟩) ?_
    refine Tri.seq ?_
    refine Tri.seq_region [] none [9, 3] [0] (TT ∧ (TT ∧ (TT ∧ (((2 < 3) ∧ True) ∧ True))))
        ([(9, .sc (.b (FwcTake_2 p0 p1 p2 4))), (3, .sc (.ro .u8 (FwcTake p0 p1 p2 4)))], [(0, .cells [.ro .u8 p0, .i .i64 (FwcTake_1 p0 p1 p2 4), .b (FwcTake_2 p0 p1 p2 4)])])
        144 (by kernel_rfl) rfl (by kernel_rfl) (⟨tt, ⟨tt, ⟨tt, ⟨⟨(by first | omega | (have hq := len_cTake hC (n := 4) (by assumption); omega) | decide), trivial⟩, trivial⟩⟩⟩⟩) ?_
    refine Tri.cond (x := (FwcTake_2 p0 p1 p2 4)) (by kernel_rfl) (fun h1 => ?_) (fun h1 => ?_)
    ·
      refine Tri.seq_region [] none [2] [0] (TT ∧ True)
          ([(2, .sc (.i .i64 0))], [(0, .cells [.ro .u8 p0, .i .i64 (FwcTake_1 p0 p1 p2 4), .b (FwcTake_2 p0 p1 p2 4)])])
          160 (by kernel_rfl) rfl (by kernel_rfl) (⟨tt, trivial⟩) ?_
      refine Tri.ret ?_
      repeat (first | refine thenP_ret ?_ | refine blkP_ret ?_ | refine countP_ret ?_ | refine joinP_ret ?_ | refine iterP_ret ?_)
      refine endP.conv (r' := ⟨.sc (.i .i64 0), [some (.cells [.ro .u8 p0, .i .i64 (FwcTake_1 p0 p1 p2 4), .b (FwcTake_2 p0 p1 p2 4)])]⟩) (by simp only [FwcU32, FwcU32_1, FwcU32_2, h1, sel_true, sel_false]) ?_
      exact endP.ret [(0, 0)] TT (by kernel_rfl) (by kernel_rfl) tt
    ·
      refine Tri.skip ?_
      change Tri _ _ _ _ _ _
      refine Tri.seq_region [] (some [0, 1, 3, 7, 15, 0, 32, 96, 224, 480, 1023, 0, 2048, 6144, 14336, 30720, 65535, 0, 131072, 393216, 917504, 2097151, 4194303]) [2] [0] (TT ∧ ((((0 : Int) ≤ 0 ∧ 0 < ((FwcTake p0 p1 p2 4).length : Int)) ∧ True) ∧ (((0 < (FwcTake p0 p1 p2 4).length) ∧ True) ∧ (TT ∧ (TT ∧ (TT ∧ ((((0 : Int) ≤ 1 ∧ 1 < ((FwcTake p0 p1 p2 4).length : Int)) ∧ True) ∧ (((1 < (FwcTake p0 p1 p2 4).length) ∧ True) ∧ (TT ∧ (TT ∧ (TT ∧ (TT ∧ ((((0 : Int) ≤ 2 ∧ 2 < ((FwcTake p0 p1 p2 4).length : Int)) ∧ True) ∧ (((2 < (FwcTake p0 p1 p2 4).length) ∧ True) ∧ (TT ∧ (TT ∧ (TT ∧ (TT ∧ ((((0 : Int) ≤ 3 ∧ 3 < ((FwcTake p0 p1 p2 4).length : Int)) ∧ True) ∧ (((3 < (FwcTake p0 p1 p2 4).length) ∧ True) ∧ (TT ∧ (TT ∧ (TT ∧ True)))))))))))))))))))))))
          ([(2, .sc (.i .i64 (iAdd .i64 (iAdd .i64 (iAdd .i64 (iMul .i64 (IntKind.wrap .i64 ((FwcTake p0 p1 p2 4).getD 0 0)) 16777216) (iMul .i64 (IntKind.wrap .i64 ((FwcTake p0 p1 p2 4).getD 1 0)) 65536)) (iMul .i64 (IntKind.wrap .i64 ((FwcTake p0 p1 p2 4).getD 2 0)) 256)) (IntKind.wrap .i64 ((FwcTake p0 p1 p2 4).getD 3 0)))))], [(0, .cells [.ro .u8 p0, .i .i64 (FwcTake_1 p0 p1 p2 4), .b (FwcTake_2 p0 p1 p2 4)])])
          512 (by kernel_rfl) rfl (by kernel_rfl) (⟨tt, ⟨⟨(by first | omega | (have hq := len_cTake hC (n := 4) (by assumption); omega) | decide), trivial⟩, ⟨⟨(by first | omega | (have hq := len_cTake hC (n := 4) (by assumption); omega) | decide), trivial⟩, ⟨tt, ⟨tt, ⟨tt, ⟨⟨(by first | omega | (have hq := len_cTake hC (n := 4) (by assumption); omega) | decide), trivial⟩, ⟨⟨(by first | omega | (have hq := len_cTake hC (n := 4) (by assumption); omega) | decide), trivial⟩, ⟨tt, ⟨tt, ⟨tt, ⟨tt, ⟨⟨(by first | omega | (have hq := len_cTake hC (n := 4) (by assumption); omega) | decide), trivial⟩, ⟨⟨(by first | omega | (have hq := len_cTake hC (n := 4) (by assumption); omega) | decide), trivial⟩, ⟨tt, ⟨tt, ⟨tt, ⟨tt, ⟨⟨(by first | omega | (have hq := len_cTake hC (n := 4) (by assumption); omega) | decide), trivial⟩, ⟨⟨(by first | omega | (have hq := len_cTake hC (n := 4) (by assumption); omega) | decide), trivial⟩, ⟨tt, ⟨tt, ⟨tt, trivial⟩⟩⟩⟩⟩⟩⟩⟩⟩⟩⟩⟩⟩⟩⟩⟩⟩⟩⟩⟩⟩⟩⟩) ?_
      refine Tri.ret ?_
      repeat (first | refine thenP_ret ?_ | refine blkP_ret ?_ | refine countP_ret ?_ | refine joinP_ret ?_ | refine iterP_ret ?_)
      refine endP.conv (r' := ⟨.sc (.i .i64 (iAdd .i64 (iAdd .i64 (iAdd .i64 (iMul .i64 (IntKind.wrap .i64 ((FwcTake p0 p1 p2 4).getD 0 0)) 16777216) (iMul .i64 (IntKind.wrap .i64 ((FwcTake p0 p1 p2 4).getD 1 0)) 65536)) (iMul .i64 (IntKind.wrap .i64 ((FwcTake p0 p1 p2 4).getD 2 0)) 256)) (IntKind.wrap .i64 ((FwcTake p0 p1 p2 4).getD 3 0)))), [some (.cells [.ro .u8 p0, .i .i64 (FwcTake_1 p0 p1 p2 4), .b (FwcTake_2 p0 p1 p2 4)])]⟩) (by simp only [FwcU32, FwcU32_1, FwcU32_2, h1, sel_true, sel_false]) ?_
      exact endP.ret [(0, 0)] TT (by kernel_rfl) (by kernel_rfl) tt

theorem in_cU32 {p0 : List Int} {p1 : Int} (p2 : Bool) (h : p0.length ≤ 1000000000 ∧ (0 : Int) ≤ p1 ∧ p1 ≤ (p0.length : Int)) : 0 ≤ FwcU32_1 p0 p1 p2 ∧ FwcU32_1 p0 p1 p2 ≤ (p0.length : Int) := in_cTake p2 4 h


noncomputable def FwcText (p0 : List Int) (p1 : Int) (p2 : Bool) : ByteArray :=
  (bytesOf (FwcTake p0 (FwcU32_1 p0 p1 p2) (sel (decide (((FwcU32 p0 p1 p2) : Int) > 16384)) true (FwcU32_2 p0 p1 p2)) (FwcU32 p0 p1 p2)))

noncomputable def FwcText_1 (p0 : List Int) (p1 : Int) (p2 : Bool) : Int :=
  (FwcTake_1 p0 (FwcU32_1 p0 p1 p2) (sel (decide (((FwcU32 p0 p1 p2) : Int) > 16384)) true (FwcU32_2 p0 p1 p2)) (FwcU32 p0 p1 p2))

noncomputable def FwcText_2 (p0 : List Int) (p1 : Int) (p2 : Bool) : Bool :=
  (FwcTake_2 p0 (FwcU32_1 p0 p1 p2) (sel (decide (((FwcU32 p0 p1 p2) : Int) > 16384)) true (FwcU32_2 p0 p1 p2)) (FwcU32 p0 p1 p2))

noncomputable def SwcText : List AV → List Blk → Option (Prop × Ret)
  | [.sc (.p 0 0)], [.cells [.ro .u8 p0, .i .i64 p1, .b p2]] => some ((p0.length ≤ 1000000000 ∧ (0 : Int) ≤ p1 ∧ p1 ≤ (p0.length : Int)), ⟨.sc (.s (FwcText p0 p1 p2)), [some (.cells [.ro .u8 p0, .i .i64 (FwcText_1 p0 p1 p2), .b (FwcText_2 p0 p1 p2)])]⟩)
  | _, _ => none

noncomputable def BwcText : Bs := { P := Go.Proofs.Try.prog, G := noG, tab := tabOf [⟨21, 48, [.io], [], [0], ⟨1, 0, SwcU32⟩, false⟩, ⟨39, 208, [.io, .val], [], [0], ⟨1, 0, SwcTake⟩, false⟩], n := 15 }

theorem BwcText.ok : BwcText.Ok := ⟨tabOk (P := Go.Proofs.Try.prog) (G := noG) (l := [⟨21, 48, [.io], [], [0], ⟨1, 0, SwcU32⟩, false⟩, ⟨39, 208, [.io, .val], [], [0], ⟨1, 0, SwcTake⟩, false⟩]) (And.intro KwcU32 (And.intro KwcTake True.intro)), mixed⟩

theorem KwcText : Known Go.Proofs.Try.prog noG 22 ⟨1, 0, SwcText⟩ := by
  refine Known.walk (B := BwcText) (fn := Go.Proofs.Try.f22) BwcText.ok (by kernel_rfl) rfl (by kernel_rfl) (by kernel_rfl) (by decide) (by decide) ?_
  · intro E args ks C r h hC hlen
    simp only at h
    unfold SwcText at h
    split at h
    rotate_left
    · cases h
    rename_i p0 p1 p2
    cases h
    simp only [lens] at hlen
    refine ⟨show 1 ≤ 15 from by decide, ?_⟩
    refine Tri.sub (Sub.of_eq (show _ = ([(0, .sc (.p 0 0))], [(0, .cells [.ro .u8 p0, .i .i64 p1, .b p2])]) from rfl)) ?_
    refine Tri.seq_region [] none [0] [0] (TT ∧ True)
        ([(0, .sc (.p 0 0))], [(0, .cells [.ro .u8 p0, .i .i64 p1, .b p2])])
        32 (by kernel_rfl) rfl (by kernel_rfl) (⟨tt, trivial⟩) ?_
    refine Tri.seq_region [] none [3, 0] [0] (TT ∧ (((True ∧ (p0.length ≤ 1000000000 ∧ (0 : Int) ≤ p1 ∧ p1 ≤ (p0.length : Int))) ∧ True) ∧ (TT ∧ True)))
        ([(3, .sc (.i .i64 (FwcU32 p0 p1 p2))), (0, .sc (.p 0 0))], [(0, .cells [.ro .u8 p0, .i .i64 (FwcU32_1 p0 p1 p2), .b (FwcU32_2 p0 p1 p2)])])
        80 (by kernel_rfl) rfl (by kernel_rfl) (⟨tt, ⟨⟨⟨trivial, (by first | omega | (have hq := in_cU32 p2 hC; exact ⟨hC.1, hq.1, hq.2⟩))⟩, trivial⟩, ⟨tt, trivial⟩⟩⟩) ?_
    refine Tri.seq ?_
    refine Tri.seq_region [] none [7, 3, 0] [0] (TT ∧ (TT ∧ True))
        ([(7, .sc (.b (decide (((FwcU32 p0 p1 p2) : Int) > 16384)))), (3, .sc (.i .i64 (FwcU32 p0 p1 p2))), (0, .sc (.p 0 0))], [(0, .cells [.ro .u8 p0, .i .i64 (FwcU32_1 p0 p1 p2), .b (FwcU32_2 p0 p1 p2)])])
        112 (by kernel_rfl) rfl (by kernel_rfl) (⟨tt, ⟨tt, trivial⟩⟩) ?_
    refine Tri.join (x := (decide (((FwcU32 p0 p1 p2) : Int) > 16384))) (fun bb => ([(3, .sc (.i .i64 (FwcU32 p0 p1 p2))), (0, .sc (.p 0 0))], [(0, .cells [.ro .u8 p0, .i .i64 (FwcU32_1 p0 p1 p2), .b (sel bb true (FwcU32_2 p0 p1 p2))])])) 176 (by kernel_rfl) (fun h1 => ?_) (fun h1 => ?_) ?_
    ·
      have h1' := of_decide_eq_true h1
      refine Tri.region' [] none [3, 0] [0] (TT ∧ (TT ∧ (TT ∧ ((((2 < 3) ∧ (1 = 1)) ∧ True) ∧ True))))
          ([(3, .sc (.i .i64 (FwcU32 p0 p1 p2))), (0, .sc (.p 0 0))], [(0, .cells [.ro .u8 p0, .i .i64 (FwcU32_1 p0 p1 p2), .b true])])
          176 (by kernel_rfl) rfl (by kernel_rfl) (⟨tt, ⟨tt, ⟨tt, ⟨⟨⟨(by first | omega | (have hq := in_cU32 p2 hC; exact ⟨hC.1, hq.1, hq.2⟩)), (rfl)⟩, trivial⟩, trivial⟩⟩⟩⟩) ?_
      exact (Sub.ren (ns := [(0, 0)]) (kf := [3, 0]) (s' := ([(3, .sc (.i .i64 (FwcU32 p0 p1 p2))), (0, .sc (.p 0 0))], [(0, .cells [.ro .u8 p0, .i .i64 (FwcU32_1 p0 p1 p2), .b true])])) (by kernel_rfl) (by kernel_rfl)).trans (Sub.of_eq (by simp only [sel_true, sel_false]))
    ·
      have h1' := of_decide_eq_false h1
      refine Tri.skip ?_
      exact (Sub.ren (ns := [(0, 0)]) (kf := [3, 0]) (s' := ([(3, .sc (.i .i64 (FwcU32 p0 p1 p2))), (0, .sc (.p 0 0))], [(0, .cells [.ro .u8 p0, .i .i64 (FwcU32_1 p0 p1 p2), .b (FwcU32_2 p0 p1 p2)])])) (by kernel_rfl) (by kernel_rfl)).trans (Sub.of_eq (by simp only [sel_true, sel_false]))
    ·
      change Tri _ _ _ _ _ _
      refine Tri.seq_region [] none [2] [0] (TT ∧ (TT ∧ (((True ∧ (p0.length ≤ 1000000000 ∧ (0 : Int) ≤ (FwcU32_1 p0 p1 p2) ∧ (FwcU32_1 p0 p1 p2) ≤ (p0.length : Int))) ∧ True) ∧ (TT ∧ (TT ∧ True)))))
          ([(2, .sc (.s (bytesOf (FwcTake p0 (FwcU32_1 p0 p1 p2) (sel (decide (((FwcU32 p0 p1 p2) : Int) > 16384)) true (FwcU32_2 p0 p1 p2)) (FwcU32 p0 p1 p2)))))], [(0, .cells [.ro .u8 p0, .i .i64 (FwcTake_1 p0 (FwcU32_1 p0 p1 p2) (sel (decide (((FwcU32 p0 p1 p2) : Int) > 16384)) true (FwcU32_2 p0 p1 p2)) (FwcU32 p0 p1 p2)), .b (FwcTake_2 p0 (FwcU32_1 p0 p1 p2) (sel (decide (((FwcU32 p0 p1 p2) : Int) > 16384)) true (FwcU32_2 p0 p1 p2)) (FwcU32 p0 p1 p2))])])
          256 (by kernel_rfl) rfl (by kernel_rfl) (⟨tt, ⟨tt, ⟨⟨⟨trivial, (by first | omega | (have hq := in_cU32 p2 hC; exact ⟨hC.1, hq.1, hq.2⟩))⟩, trivial⟩, ⟨tt, ⟨tt, trivial⟩⟩⟩⟩⟩) ?_
      refine Tri.ret ?_
      repeat (first | refine thenP_ret ?_ | refine blkP_ret ?_ | refine countP_ret ?_ | refine joinP_ret ?_ | refine iterP_ret ?_)
      exact endP.ret [(0, 0)] TT (by kernel_rfl) (by kernel_rfl) tt

theorem in_cText {p0 : List Int} {p1 : Int} (p2 : Bool) (h : p0.length ≤ 1000000000 ∧ (0 : Int) ≤ p1 ∧ p1 ≤ (p0.length : Int)) : 0 ≤ FwcText_1 p0 p1 p2 ∧ FwcText_1 p0 p1 p2 ≤ (p0.length : Int) := by
  have hc := in_cU32 p2 h
  exact in_cTake _ _ ⟨h.1, hc.1, hc.2⟩
theorem size_cText {p0 : List Int} {p1 : Int} (p2 : Bool) (h : p0.length ≤ 1000000000 ∧ (0 : Int) ≤ p1 ∧ p1 ≤ (p0.length : Int)) : (FwcText p0 p1 p2).size ≤ 16384 := by
  have hc := in_cU32 p2 h
  unfold FwcText
  rw [size_bytesOf]
  rcases cTake_is (sel (decide (((FwcU32 p0 p1 p2) : Int) > 16384)) true (FwcU32_2 p0 p1 p2)) (FwcU32 p0 p1 p2) ⟨h.1, hc.1, hc.2⟩ with ⟨hb, _, _, h1, _⟩ | ⟨_, h1, _⟩
  · rw [h1, List.length_take]
    cases hd : decide (FwcU32 p0 p1 p2 > 16384)
    · have := of_decide_eq_false hd
      omega
    · rw [hd, sel_true] at hb; cases hb
  · rw [h1]; exact Nat.zero_le _


noncomputable def FwcEnd (p0 : List Int) (p1 : Int) (p2 : Bool) : Bool :=
  (sel (!p2) ((p1 : Int) == ((p0.length : Nat) : Int)) false)

noncomputable def SwcEnd : List AV → List Blk → Option (Prop × Ret)
  | [.sc (.p 0 0)], [.cells [.ro .u8 p0, .i .i64 p1, .b p2]] => some (True, ⟨.sc (.b (FwcEnd p0 p1 p2)), [some (.cells [.ro .u8 p0, .i .i64 p1, .b p2])]⟩)
  | _, _ => none

noncomputable def BwcEnd : Bs := { P := Go.Proofs.Try.prog, G := noG, tab := tabOf [], n := 20 }

theorem BwcEnd.ok : BwcEnd.Ok := ⟨tabOk (P := Go.Proofs.Try.prog) (G := noG) (l := []) True.intro, mixed⟩

theorem KwcEnd : Known Go.Proofs.Try.prog noG 23 ⟨1, 0, SwcEnd⟩ := by
  refine Known.walk (B := BwcEnd) (fn := Go.Proofs.Try.f23) BwcEnd.ok (by kernel_rfl) rfl (by kernel_rfl) (by kernel_rfl) (by decide) (by decide) ?_
  · intro E args ks C r h hC hlen
    simp only at h
    unfold SwcEnd at h
    split at h
    rotate_left
    · cases h
    rename_i p0 p1 p2
    cases h
    simp only [lens] at hlen
    refine ⟨show 1 ≤ 20 from by decide, ?_⟩
    refine Tri.sub (Sub.of_eq (show _ = ([(0, .sc (.p 0 0))], [(0, .cells [.ro .u8 p0, .i .i64 p1, .b p2])]) from rfl)) ?_
    refine Tri.seq_region [] none [0] [0] (TT ∧ True)
        ([(0, .sc (.p 0 0))], [(0, .cells [.ro .u8 p0, .i .i64 p1, .b p2])])
        32 (by kernel_rfl) rfl (by kernel_rfl) (⟨tt, trivial⟩) ?_
    refine Tri.split (!p2) (fun h1 => ?_) (fun h1 => ?_)
    ·
      refine Tri.seq_region [(8, qb true)] (some [0, 1, 3, 7, 15, 31, 63, 127, 255, 511, 63, 1087, 3135, 7231, 15423, 32767, 65535, 131071]) [2] [0] (TT ∧ (TT ∧ (TT ∧ (((2 < 3) ∧ True) ∧ (TT ∧ ((True ∧ ((!p2) = true)) ∧ (TT ∧ (TT ∧ (TT ∧ (((1 < 3) ∧ True) ∧ (TT ∧ (TT ∧ (TT ∧ (((0 < 3) ∧ True) ∧ (TT ∧ (TT ∧ (TT ∧ (TT ∧ True))))))))))))))))))
          ([(2, .sc (.b ((p1 : Int) == ((p0.length : Nat) : Int))))], [(0, .cells [.ro .u8 p0, .i .i64 p1, .b p2])])
          320 (by kernel_rfl) rfl (by kernel_rfl) (⟨tt, ⟨tt, ⟨tt, ⟨⟨(by first | omega | (rw [adr_eq]; omega) | exact iAnd_nn _ _ | exact iSub_nn _ _ | exact part1_le (by omega) (by first | omega | (simp only [List.length_append]; omega)) | decide), trivial⟩, ⟨tt, ⟨⟨trivial, (h1)⟩, ⟨tt, ⟨tt, ⟨tt, ⟨⟨(by first | omega | (rw [adr_eq]; omega) | exact iAnd_nn _ _ | exact iSub_nn _ _ | exact part1_le (by omega) (by first | omega | (simp only [List.length_append]; omega)) | decide), trivial⟩, ⟨tt, ⟨tt, ⟨tt, ⟨⟨(by first | omega | (rw [adr_eq]; omega) | exact iAnd_nn _ _ | exact iSub_nn _ _ | exact part1_le (by omega) (by first | omega | (simp only [List.length_append]; omega)) | decide), trivial⟩, ⟨tt, ⟨tt, ⟨tt, ⟨tt, trivial⟩⟩⟩⟩⟩⟩⟩⟩⟩⟩⟩⟩⟩⟩⟩⟩⟩⟩) ?_
      refine Tri.ret ?_
      repeat (first | refine thenP_ret ?_ | refine blkP_ret ?_ | refine countP_ret ?_ | refine joinP_ret ?_ | refine iterP_ret ?_)
      refine endP.conv (r' := ⟨.sc (.b ((p1 : Int) == ((p0.length : Nat) : Int))), [some (.cells [.ro .u8 p0, .i .i64 p1, .b p2])]⟩) (by simp only [FwcEnd, h1, sel_true, sel_false]) ?_
      exact endP.ret [(0, 0)] TT (by kernel_rfl) (by kernel_rfl) tt
    ·
      refine Tri.seq_region [(8, qb false)] (some [0, 1, 3, 7, 15, 31, 63, 127, 255, 511, 63, 1087, 3135, 7231, 15423, 32767, 65535, 131071]) [2] [0] (TT ∧ (TT ∧ (TT ∧ (((2 < 3) ∧ True) ∧ (TT ∧ ((True ∧ ((!p2) = false)) ∧ (TT ∧ (TT ∧ (TT ∧ (TT ∧ (TT ∧ (TT ∧ (TT ∧ (TT ∧ (TT ∧ (TT ∧ (TT ∧ (TT ∧ True))))))))))))))))))
          ([(2, .sc (.b false))], [(0, .cells [.ro .u8 p0, .i .i64 p1, .b p2])])
          320 (by kernel_rfl) rfl (by kernel_rfl) (⟨tt, ⟨tt, ⟨tt, ⟨⟨(by first | omega | (rw [adr_eq]; omega) | exact iAnd_nn _ _ | exact iSub_nn _ _ | exact part1_le (by omega) (by first | omega | (simp only [List.length_append]; omega)) | decide), trivial⟩, ⟨tt, ⟨⟨trivial, (h1)⟩, ⟨tt, ⟨tt, ⟨tt, ⟨tt, ⟨tt, ⟨tt, ⟨tt, ⟨tt, ⟨tt, ⟨tt, ⟨tt, ⟨tt, trivial⟩⟩⟩⟩⟩⟩⟩⟩⟩⟩⟩⟩⟩⟩⟩⟩⟩⟩) ?_
      refine Tri.ret ?_
      repeat (first | refine thenP_ret ?_ | refine blkP_ret ?_ | refine countP_ret ?_ | refine joinP_ret ?_ | refine iterP_ret ?_)
      refine endP.conv (r' := ⟨.sc (.b false), [some (.cells [.ro .u8 p0, .i .i64 p1, .b p2])]⟩) (by simp only [FwcEnd, h1, sel_true, sel_false]) ?_
      exact endP.ret [(0, 0)] TT (by kernel_rfl) (by kernel_rfl) tt




noncomputable def FwrU32 (p0 : Int) : List Int :=
  [(IntKind.wrap .u8 (iQuo .i64 p0 16777216)), (IntKind.wrap .u8 (iQuo .i64 p0 65536)), (IntKind.wrap .u8 (iQuo .i64 p0 256)), (IntKind.wrap .u8 p0)]

noncomputable def SwrU32 : List AV → List Blk → Option (Prop × Ret)
  | [.sc (.i .i64 p0)], [] => some (True, ⟨.sc (.sl 0 0 4 1 none), [some (.ints .u8 4 (FwrU32 p0))]⟩)
  | _, _ => none

noncomputable def BwrU32 : Bs := { P := Go.Proofs.Try.prog, G := noG, tab := tabOf [], n := 15 }

theorem BwrU32.ok : BwrU32.Ok := ⟨tabOk (P := Go.Proofs.Try.prog) (G := noG) (l := []) True.intro, mixed⟩

theorem KwrU32 : Known Go.Proofs.Try.prog noG 15 ⟨0, 1, SwrU32⟩ := by
  refine Known.walk (B := BwrU32) (fn := Go.Proofs.Try.f15) BwrU32.ok (by kernel_rfl) rfl (by kernel_rfl) (by kernel_rfl) (by decide) (by decide) ?_
  · intro E args ks C r h hC hlen
    simp only at h
    unfold SwrU32 at h
    split at h
    rotate_left
    · cases h
    rename_i p0
    cases h
    simp only [lens] at hlen
    refine ⟨show 1 ≤ 15 from by decide, ?_⟩
    refine Tri.sub (Sub.of_eq (show _ = ([(0, .sc (.i .i64 p0))], []) from rfl)) ?_
    refine Tri.seq_region [] none [0] [] (TT ∧ True)
        ([(0, .sc (.i .i64 p0))], [])
        32 (by kernel_rfl) rfl (by kernel_rfl) (⟨tt, trivial⟩) ?_
    refine Tri.seq_region [] none [2] [208] (TT ∧ (((16777216 ≠ (0 : Int)) ∧ True) ∧ (TT ∧ (TT ∧ (((65536 ≠ (0 : Int)) ∧ True) ∧ (TT ∧ (TT ∧ (((256 ≠ (0 : Int)) ∧ True) ∧ (TT ∧ (TT ∧ (TT ∧ ((((((0 < 4) ∧ (1 = 1)) ∧ (((1 < 4) ∧ (1 = 1)) ∧ (((2 < 4) ∧ (1 = 1)) ∧ (((3 < 4) ∧ (1 = 1)) ∧ True)))) ∧ ((4 * 1 ≤ 16777216) ∧ (1 = 1))) ∧ True) ∧ (TT ∧ True)))))))))))))
        ([(2, .sc (.sl 208 0 4 1 none))], [(208, .ints .u8 4 [(IntKind.wrap .u8 (iQuo .i64 p0 16777216)), (IntKind.wrap .u8 (iQuo .i64 p0 65536)), (IntKind.wrap .u8 (iQuo .i64 p0 256)), (IntKind.wrap .u8 p0)])])
        240 (by kernel_rfl) rfl (by kernel_rfl) (⟨tt, ⟨⟨(by first | omega | (rw [adr_eq]; omega) | exact iAnd_nn _ _ | exact iSub_nn _ _ | exact part1_le (by omega) (by first | omega | (simp only [List.length_append]; omega)) | decide), trivial⟩, ⟨tt, ⟨tt, ⟨⟨(by first | omega | (rw [adr_eq]; omega) | exact iAnd_nn _ _ | exact iSub_nn _ _ | exact part1_le (by omega) (by first | omega | (simp only [List.length_append]; omega)) | decide), trivial⟩, ⟨tt, ⟨tt, ⟨⟨(by first | omega | (rw [adr_eq]; omega) | exact iAnd_nn _ _ | exact iSub_nn _ _ | exact part1_le (by omega) (by first | omega | (simp only [List.length_append]; omega)) | decide), trivial⟩, ⟨tt, ⟨tt, ⟨tt, ⟨⟨⟨⟨⟨(by first | omega | (rw [adr_eq]; omega) | exact iAnd_nn _ _ | exact iSub_nn _ _ | exact part1_le (by omega) (by first | omega | (simp only [List.length_append]; omega)) | decide), (rfl)⟩, ⟨⟨(by first | omega | (rw [adr_eq]; omega) | exact iAnd_nn _ _ | exact iSub_nn _ _ | exact part1_le (by omega) (by first | omega | (simp only [List.length_append]; omega)) | decide), (rfl)⟩, ⟨⟨(by first | omega | (rw [adr_eq]; omega) | exact iAnd_nn _ _ | exact iSub_nn _ _ | exact part1_le (by omega) (by first | omega | (simp only [List.length_append]; omega)) | decide), (rfl)⟩, ⟨⟨(by first | omega | (rw [adr_eq]; omega) | exact iAnd_nn _ _ | exact iSub_nn _ _ | exact part1_le (by omega) (by first | omega | (simp only [List.length_append]; omega)) | decide), (rfl)⟩, trivial⟩⟩⟩⟩, ⟨(by first | omega | (rw [adr_eq]; omega) | exact iAnd_nn _ _ | exact iSub_nn _ _ | exact part1_le (by omega) (by first | omega | (simp only [List.length_append]; omega)) | decide), (rfl)⟩⟩, trivial⟩, ⟨tt, trivial⟩⟩⟩⟩⟩⟩⟩⟩⟩⟩⟩⟩⟩) ?_
    refine Tri.ret ?_
    repeat (first | refine thenP_ret ?_ | refine blkP_ret ?_ | refine countP_ret ?_ | refine joinP_ret ?_ | refine iterP_ret ?_)
    exact endP.ret [(208, 0)] TT (by kernel_rfl) (by kernel_rfl) tt




noncomputable def FwrText (p0 : ByteArray) : List Int :=
  (FwrU32 ((p0.size : Nat) : Int)) ++ (bytesI p0)

noncomputable def SwrText : List AV → List Blk → Option (Prop × Ret)
  | [.sc (.s p0)], [] => some ((p0.size ≤ 1000000000), ⟨.sc (.sl 0 0 (4 + p0.size) 1 none), [some (.ints .u8 (4 + p0.size) (FwrText p0))]⟩)
  | _, _ => none

noncomputable def BwrText : Bs := { P := Go.Proofs.Try.prog, G := noG, tab := tabOf [⟨15, 64, [.val], [], [], ⟨0, 1, SwrU32⟩, false⟩], n := 8 }

theorem BwrText.ok : BwrText.Ok := ⟨tabOk (P := Go.Proofs.Try.prog) (G := noG) (l := [⟨15, 64, [.val], [], [], ⟨0, 1, SwrU32⟩, false⟩]) (And.intro KwrU32 True.intro), mixed⟩

theorem KwrText : Known Go.Proofs.Try.prog noG 14 ⟨0, 1, SwrText⟩ := by
  refine Known.walk (B := BwrText) (fn := Go.Proofs.Try.f14) BwrText.ok (by kernel_rfl) rfl (by kernel_rfl) (by kernel_rfl) (by decide) (by decide) ?_
  · intro E args ks C r h hC hlen
    simp only at h
    unfold SwrText at h
    split at h
    rotate_left
    · cases h
    rename_i p0
    cases h
    simp only [lens] at hlen
    refine ⟨show 1 ≤ 8 from by decide, ?_⟩
    refine Tri.sub (Sub.of_eq (show _ = ([(0, .sc (.s p0))], []) from rfl)) ?_
    refine Tri.seq_region [] none [0] [] (TT ∧ True)
        ([(0, .sc (.s p0))], [])
        32 (by kernel_rfl) rfl (by kernel_rfl) (⟨tt, trivial⟩) ?_
    refine Tri.seq_region [] none [2] [96] (TT ∧ (TT ∧ ((TT ∧ True) ∧ (TT ∧ ((((((True ∧ (1 = 1)) ∧ ((0 < 1) ∧ (((4 + p0.size) * 1 ≤ 140737488355328) ∧ (4 + p0.size ≤ 140737488355328)))) ∧ (p0.size = p0.size * 1)) ∧ ((1 = 1) ∧ (0 + 4 * 1 = 4))) ∧ True) ∧ (TT ∧ True))))))
        ([(2, .sc (.sl 96 0 (4 + p0.size) 1 none))], [(96, .ints .u8 (4 + p0.size) ((FwrU32 ((p0.size : Nat) : Int)) ++ (bytesI p0)))])
        128 (by kernel_rfl) rfl (by kernel_rfl) (⟨tt, ⟨tt, ⟨⟨tt, trivial⟩, ⟨tt, ⟨⟨⟨⟨⟨⟨trivial, (rfl)⟩, ⟨(by first | omega | (rw [adr_eq]; omega) | exact iAnd_nn _ _ | exact iSub_nn _ _ | exact part1_le (by omega) (by first | omega | (simp only [List.length_append]; omega)) | decide), ⟨(by first | omega | (rw [adr_eq]; omega) | exact iAnd_nn _ _ | exact iSub_nn _ _ | exact part1_le (by omega) (by first | omega | (simp only [List.length_append]; omega)) | decide), (by first | omega | (rw [adr_eq]; omega) | exact iAnd_nn _ _ | exact iSub_nn _ _ | exact part1_le (by omega) (by first | omega | (simp only [List.length_append]; omega)) | decide)⟩⟩⟩, (by first | omega | (rw [adr_eq]; omega) | exact iAnd_nn _ _ | exact iSub_nn _ _ | exact part1_le (by omega) (by first | omega | (simp only [List.length_append]; omega)) | decide)⟩, ⟨(rfl), (by first | omega | (rw [adr_eq]; omega) | exact iAnd_nn _ _ | exact iSub_nn _ _ | exact part1_le (by omega) (by first | omega | (simp only [List.length_append]; omega)) | decide)⟩⟩, trivial⟩, ⟨tt, trivial⟩⟩⟩⟩⟩⟩) ?_
    refine Tri.ret ?_
    repeat (first | refine thenP_ret ?_ | refine blkP_ret ?_ | refine countP_ret ?_ | refine joinP_ret ?_ | refine iterP_ret ?_)
    exact endP.ret [(96, 0)] TT (by kernel_rfl) (by kernel_rfl) tt

theorem len_FwrText (s : ByteArray) : (FwrText s).length = 4 + s.size := by
  unfold FwrText
  rw [List.length_append, bytesI_length]
  rfl

theorem flat_step {α : Type} : ∀ (p : List (List α)) (k : Nat), k < p.length → ((p.take k).flatten.length + (p.getD k []).length ≤ p.flatten.length ∧ (p.take (k + 1)).flatten = (p.take k).flatten ++ p.getD k [])
  | [], k, h => absurd h (Nat.not_lt_zero k)
  | x :: p, 0, _ => ⟨by simp, by simp⟩
  | x :: p, k + 1, h => by
    obtain ⟨h1, h2⟩ := flat_step p k (by simpa using h)
    refine ⟨?_, ?_⟩
    · simp only [List.take_succ_cons, List.flatten_cons, List.length_append, List.getD_cons_succ]; omega
    · rw [List.take_succ_cons, List.take_succ_cons, List.flatten_cons, List.flatten_cons, h2, List.getD_cons_succ, List.append_assoc]
noncomputable def FwrJoinl0 (p0 : List (List Int)) (k0 : Nat) (z0 : List Int) : List Int :=
  z0 ++ (p0.getD k0 [])

noncomputable def FwrJoin (p0 : List (List Int)) : List Int :=
  (itr (FwrJoinl0 p0) p0.length ([] : List Int))

noncomputable def FwrJoinn0 (p0 : List (List Int)) : Nat :=
  (itr (FwrJoinl0 p0) p0.length ([] : List Int)).length

noncomputable def SwrJoin : List AV → List Blk → Option (Prop × Ret)
  | [.sc (.rob p0)], [] => some ((p0.flatten.length ≤ 1000000000 ∧ p0.length ≤ 1000000000), ⟨.sc (.sl 0 0 (FwrJoinn0 p0) 1 none), [some (.ints .u8 (FwrJoinn0 p0) (FwrJoin p0))]⟩)
  | _, _ => none

noncomputable def BwrJoin : Bs := { P := Go.Proofs.Try.prog, G := noG, tab := tabOf [], n := 18 }

theorem BwrJoin.ok : BwrJoin.Ok := ⟨tabOk (P := Go.Proofs.Try.prog) (G := noG) (l := []) True.intro, mixed⟩

theorem KwrJoin : Known Go.Proofs.Try.prog noG 13 ⟨0, 1, SwrJoin⟩ := by
  refine Known.walk (B := BwrJoin) (fn := Go.Proofs.Try.f13) BwrJoin.ok (by kernel_rfl) rfl (by kernel_rfl) (by kernel_rfl) (by decide) (by decide) ?_
  · intro E args ks C r h hC hlen
    simp only at h
    unfold SwrJoin at h
    split at h
    rotate_left
    · cases h
    rename_i p0
    cases h
    simp only [lens] at hlen
    refine ⟨show 1 ≤ 18 from by decide, ?_⟩
    refine Tri.sub (Sub.of_eq (show _ = ([(0, .sc (.rob p0))], []) from rfl)) ?_
    refine Tri.seq_region [] none [0] [] (TT ∧ True)
        ([(0, .sc (.rob p0))], [])
        32 (by kernel_rfl) rfl (by kernel_rfl) (⟨tt, trivial⟩) ?_
    refine Tri.seq_region [] none [3, 0] [] (TT ∧ True)
        ([(3, .sc (.nils)), (0, .sc (.rob p0))], [])
        48 (by kernel_rfl) rfl (by kernel_rfl) (⟨tt, trivial⟩) ?_
    refine Tri.seq ?_
    refine Tri.seq_region [] none [4, 3, 0] [] (TT ∧ True)
        ([(4, .sc (.i .i64 0)), (3, .sc (.nils)), (0, .sc (.rob p0))], [])
        64 (by kernel_rfl) rfl (by kernel_rfl) (⟨tt, trivial⟩) ?_
    refine Tri.block ?_
    refine Tri.sub (Sub.openNil (U := 64) (U' := 80) 3 64 1 .u8 none (.inl rfl) (by decide) (by decide) (by kernel_rfl) (by kernel_rfl)) ?_
    refine Tri.count 80 p0.length (FwrJoinl0 p0) ([] : List Int) (fun k0 z0 => z0 = (p0.take k0).flatten) (fun k0 z0 => ([(3, .sc (.sl 64 0 z0.length 1 none)), (4, .sc (.i .i64 ((k0 : Nat) : Int))), (0, .sc (.rob p0))], [(64, .ints .u8 z0.length z0)])) rfl (Sub.of_eq (by kernel_rfl)) ?_
    intro k0 z0 hk0 hz0 hJ0
    refine Tri.seq ?_
    refine Tri.seq_region [] none [8, 3, 4, 0] [64] (TT ∧ (TT ∧ (TT ∧ (TT ∧ True))))
        ([(8, .sc (.b (decide ((((k0 : Nat) : Int) : Int) < ((p0.length : Nat) : Int))))), (3, .sc (.sl 64 0 z0.length 1 none)), (4, .sc (.i .i64 ((k0 : Nat) : Int))), (0, .sc (.rob p0))], [(64, .ints .u8 z0.length z0)])
        144 (by kernel_rfl) rfl (by kernel_rfl) (⟨tt, ⟨tt, ⟨tt, ⟨tt, trivial⟩⟩⟩⟩) ?_
    refine Tri.cond (x := (decide ((((k0 : Nat) : Int) : Int) < ((p0.length : Nat) : Int)))) (by kernel_rfl) (fun h1 => ?_) (fun h1 => ?_)
    ·
      have h1' := of_decide_eq_true h1
      refine Tri.skip ?_
      change Tri _ _ _ _ _ _
      refine Tri.seq ?_
      refine Tri.block ?_
      refine Tri.region' [] none [3, 4, 0] [224] (TT ∧ (TT ∧ (TT ∧ ((((0 : Int) ≤ ((k0 : Nat) : Int) ∧ ((k0 : Nat) : Int) < (p0.length : Int)) ∧ True) ∧ (TT ∧ ((((((True ∧ (1 = 1)) ∧ ((0 < 1) ∧ (((z0.length + ((p0.getD k0 []).length)) * 1 ≤ 140737488355328) ∧ (z0.length + ((p0.getD k0 []).length) ≤ 140737488355328)))) ∧ ((p0.getD k0 []).length = ((p0.getD k0 []).length) * 1)) ∧ ((1 = 1) ∧ (0 + z0.length * 1 = z0.length))) ∧ True) ∧ (TT ∧ True)))))))
          ([(3, .sc (.sl 224 0 (z0.length + ((p0.getD k0 []).length)) 1 none)), (4, .sc (.i .i64 ((k0 : Nat) : Int))), (0, .sc (.rob p0))], [(224, .ints .u8 (z0.length + ((p0.getD k0 []).length)) (z0 ++ (p0.getD k0 [])))])
          256 (by kernel_rfl) rfl (by kernel_rfl) (⟨tt, ⟨tt, ⟨tt, ⟨⟨(by first | omega | decide | (have hq := (flat_step p0 k0 (by omega)).1; rw [hJ0]; omega)), trivial⟩, ⟨tt, ⟨⟨⟨⟨⟨⟨trivial, (rfl)⟩, ⟨(by first | omega | decide | (have hq := (flat_step p0 k0 (by omega)).1; rw [hJ0]; omega)), ⟨(by first | omega | decide | (have hq := (flat_step p0 k0 (by omega)).1; rw [hJ0]; omega)), (by first | omega | decide | (have hq := (flat_step p0 k0 (by omega)).1; rw [hJ0]; omega))⟩⟩⟩, (by first | omega | decide | (have hq := (flat_step p0 k0 (by omega)).1; rw [hJ0]; omega))⟩, ⟨(rfl), (by first | omega | decide | (have hq := (flat_step p0 k0 (by omega)).1; rw [hJ0]; omega))⟩⟩, trivial⟩, ⟨tt, trivial⟩⟩⟩⟩⟩⟩⟩) ?_
      change Tri _ _ _ _ _ _
      refine Tri.region' [(10, qi ((k0 + 1 : Nat) : Int))] none [4, 3, 0] [224] (TT ∧ ((True ∧ ((iAdd .i64 ((k0 : Nat) : Int) 1) = ((k0 + 1 : Nat) : Int))) ∧ (TT ∧ True)))
          ([(4, .sc (.i .i64 ((k0 + 1 : Nat) : Int))), (3, .sc (.sl 224 0 (z0.length + ((p0.getD k0 []).length)) 1 none)), (0, .sc (.rob p0))], [(224, .ints .u8 (z0.length + ((p0.getD k0 []).length)) (z0 ++ (p0.getD k0 [])))])
          304 (by kernel_rfl) rfl (by kernel_rfl) (⟨tt, ⟨⟨trivial, (iAdd_nat (a := k0) (b := 1) (by omega))⟩, ⟨tt, trivial⟩⟩⟩) ?_
      repeat (refine blkP_normal ?_)
      refine countP_normal (by omega) (by unfold FwrJoinl0; rw [hJ0, (flat_step p0 k0 (by omega)).2]) ?_
      exact (Sub.ren (ns := [(224, 64)]) (kf := [3, 4, 0]) (s' := ([(3, .sc (.sl 64 0 (z0.length + ((p0.getD k0 []).length)) 1 none)), (4, .sc (.i .i64 ((k0 + 1 : Nat) : Int))), (0, .sc (.rob p0))], [(64, .ints .u8 (z0.length + ((p0.getD k0 []).length)) (z0 ++ (p0.getD k0 [])))])) (by kernel_rfl) (by kernel_rfl)).trans (Sub.of_eq (by simp only [FwrJoinl0, h1, sel_true, sel_false, List.length_append, List.length_set, List.length_cons, List.length_nil, Nat.zero_add, Nat.reduceAdd]))
    ·
      have h1' := of_decide_eq_false h1
      refine Tri.exit ?_
      have hend0 : k0 = p0.length := by (have := of_decide_eq_false h1; omega)
      subst hend0; subst hz0
      change Tri _ _ _ _ _ _
      refine Tri.seq_region [] none [2] [64] (TT ∧ (TT ∧ True))
          ([(2, .sc (.sl 64 0 ((itr (FwrJoinl0 p0) p0.length ([] : List Int)).length) 1 none))], [(64, .ints .u8 ((itr (FwrJoinl0 p0) p0.length ([] : List Int)).length) (itr (FwrJoinl0 p0) p0.length ([] : List Int)))])
          176 (by kernel_rfl) rfl (by kernel_rfl) (⟨tt, ⟨tt, trivial⟩⟩) ?_
      refine Tri.ret ?_
      repeat (first | refine thenP_ret ?_ | refine blkP_ret ?_ | refine countP_ret ?_ | refine joinP_ret ?_ | refine iterP_ret ?_)
      exact endP.ret [(64, 0)] TT (by kernel_rfl) (by kernel_rfl) tt

theorem rJoin_is (p0 : List (List Int)) : FwrJoin p0 = p0.flatten := by
  have h : ∀ k, k ≤ p0.length → itr (FwrJoinl0 p0) k [] = (p0.take k).flatten := by
    intro k
    induction k with
    | zero => intro _; rw [itr_zero]; rfl
    | succ k ih => intro hk; rw [itr_succ, ih (by omega)]; unfold FwrJoinl0; rw [(flat_step p0 k (by omega)).2]
  unfold FwrJoin
  rw [h p0.length (Nat.le_refl _), List.take_length]


noncomputable def FwwU32 (p0 : Nat) (p2 : List Int) (p3 : Int) : List Int :=
  p2 ++ [(IntKind.wrap .u8 (iShr .u32 p3 24)), (IntKind.wrap .u8 (iShr .u32 p3 16)), (IntKind.wrap .u8 (iShr .u32 p3 8)), (IntKind.wrap .u8 p3)]

noncomputable def SwwU32 : List AV → List Blk → Option (Prop × Ret)
  | [.sc (.sl 0 0 p0 1 none), .sc (.i .u32 p3)], [.ints .u8 p1 p2] => some (((p0 = p1) ∧ (p0 ≤ 1000000000)), ⟨.sc (.sl 1 0 (p0 + 4) 1 none), [none, some (.ints .u8 (p0 + 4) (FwwU32 p0 p2 p3))]⟩)
  | _, _ => none

noncomputable def BwwU32 : Bs := { P := Go.Proofs.Try.prog, G := noG, tab := tabOf [], n := 19 }

theorem BwwU32.ok : BwwU32.Ok := ⟨tabOk (P := Go.Proofs.Try.prog) (G := noG) (l := []) True.intro, mixed⟩

theorem KwwU32 : Known Go.Proofs.Try.prog noG 29 ⟨1, 1, SwwU32⟩ := by
  refine Known.walk (B := BwwU32) (fn := Go.Proofs.Try.f29) BwwU32.ok (by kernel_rfl) rfl (by kernel_rfl) (by kernel_rfl) (by decide) (by decide) ?_
  · intro E args ks C r h hC hlen
    simp only at h
    unfold SwwU32 at h
    split at h
    rotate_left
    · cases h
    rename_i p0 p3 p1 p2
    cases h
    simp only [lens] at hlen
    have hEp1 := hC.1
    have hC := hC.2
    subst hEp1
    refine ⟨show 2 ≤ 19 from by decide, ?_⟩
    refine Tri.sub (Sub.of_eq (show _ = ([(0, .sc (.sl 0 0 p0 1 none)), (1, .sc (.i .u32 p3))], [(0, .ints .u8 p0 p2)]) from rfl)) ?_
    refine Tri.seq_region [] none [0, 1] [0] (TT ∧ True)
        ([(0, .sc (.sl 0 0 p0 1 none)), (1, .sc (.i .u32 p3))], [(0, .ints .u8 p0 p2)])
        32 (by kernel_rfl) rfl (by kernel_rfl) (⟨tt, trivial⟩) ?_
    refine Tri.len 0 rfl (fun hl1 => ?_)
    refine Tri.seq_region [] none [4] [240] (TT ∧ (TT ∧ ((((0 : Int) ≤ 24) ∧ True) ∧ (TT ∧ (TT ∧ ((((0 : Int) ≤ 16) ∧ True) ∧ (TT ∧ (TT ∧ ((((0 : Int) ≤ 8) ∧ True) ∧ (TT ∧ (TT ∧ (TT ∧ ((((((0 < 4) ∧ (1 = 1)) ∧ (((1 < 4) ∧ (1 = 1)) ∧ (((2 < 4) ∧ (1 = 1)) ∧ (((3 < 4) ∧ (1 = 1)) ∧ True)))) ∧ ((4 * 1 ≤ 16777216) ∧ (1 = 1))) ∧ True) ∧ ((((((True ∧ (1 = 1)) ∧ ((0 < 1) ∧ (((p0 + 4) * 1 ≤ 140737488355328) ∧ (p0 + 4 ≤ 140737488355328)))) ∧ (4 = 4 * 1)) ∧ ((1 = 1) ∧ (0 + p0 * 1 = p0))) ∧ True) ∧ (TT ∧ True)))))))))))))))
        ([(4, .sc (.sl 240 0 (p0 + 4) 1 none))], [(240, .ints .u8 (p0 + 4) (p2 ++ [(IntKind.wrap .u8 (iShr .u32 p3 24)), (IntKind.wrap .u8 (iShr .u32 p3 16)), (IntKind.wrap .u8 (iShr .u32 p3 8)), (IntKind.wrap .u8 p3)]))])
        272 (by kernel_rfl) rfl (by kernel_rfl) (⟨tt, ⟨tt, ⟨⟨(by first | omega | (rw [adr_eq]; omega) | exact iAnd_nn _ _ | exact iSub_nn _ _ | exact part1_le (by omega) (by first | omega | (simp only [List.length_append]; omega)) | decide), trivial⟩, ⟨tt, ⟨tt, ⟨⟨(by first | omega | (rw [adr_eq]; omega) | exact iAnd_nn _ _ | exact iSub_nn _ _ | exact part1_le (by omega) (by first | omega | (simp only [List.length_append]; omega)) | decide), trivial⟩, ⟨tt, ⟨tt, ⟨⟨(by first | omega | (rw [adr_eq]; omega) | exact iAnd_nn _ _ | exact iSub_nn _ _ | exact part1_le (by omega) (by first | omega | (simp only [List.length_append]; omega)) | decide), trivial⟩, ⟨tt, ⟨tt, ⟨tt, ⟨⟨⟨⟨⟨(by first | omega | (rw [adr_eq]; omega) | exact iAnd_nn _ _ | exact iSub_nn _ _ | exact part1_le (by omega) (by first | omega | (simp only [List.length_append]; omega)) | decide), (rfl)⟩, ⟨⟨(by first | omega | (rw [adr_eq]; omega) | exact iAnd_nn _ _ | exact iSub_nn _ _ | exact part1_le (by omega) (by first | omega | (simp only [List.length_append]; omega)) | decide), (rfl)⟩, ⟨⟨(by first | omega | (rw [adr_eq]; omega) | exact iAnd_nn _ _ | exact iSub_nn _ _ | exact part1_le (by omega) (by first | omega | (simp only [List.length_append]; omega)) | decide), (rfl)⟩, ⟨⟨(by first | omega | (rw [adr_eq]; omega) | exact iAnd_nn _ _ | exact iSub_nn _ _ | exact part1_le (by omega) (by first | omega | (simp only [List.length_append]; omega)) | decide), (rfl)⟩, trivial⟩⟩⟩⟩, ⟨(by first | omega | (rw [adr_eq]; omega) | exact iAnd_nn _ _ | exact iSub_nn _ _ | exact part1_le (by omega) (by first | omega | (simp only [List.length_append]; omega)) | decide), (rfl)⟩⟩, trivial⟩, ⟨⟨⟨⟨⟨⟨trivial, (rfl)⟩, ⟨(by first | omega | (rw [adr_eq]; omega) | exact iAnd_nn _ _ | exact iSub_nn _ _ | exact part1_le (by omega) (by first | omega | (simp only [List.length_append]; omega)) | decide), ⟨(by first | omega | (rw [adr_eq]; omega) | exact iAnd_nn _ _ | exact iSub_nn _ _ | exact part1_le (by omega) (by first | omega | (simp only [List.length_append]; omega)) | decide), (by first | omega | (rw [adr_eq]; omega) | exact iAnd_nn _ _ | exact iSub_nn _ _ | exact part1_le (by omega) (by first | omega | (simp only [List.length_append]; omega)) | decide)⟩⟩⟩, (by first | omega | (rw [adr_eq]; omega) | exact iAnd_nn _ _ | exact iSub_nn _ _ | exact part1_le (by omega) (by first | omega | (simp only [List.length_append]; omega)) | decide)⟩, ⟨(rfl), (by first | omega | (rw [adr_eq]; omega) | exact iAnd_nn _ _ | exact iSub_nn _ _ | exact part1_le (by omega) (by first | omega | (simp only [List.length_append]; omega)) | decide)⟩⟩, trivial⟩, ⟨tt, trivial⟩⟩⟩⟩⟩⟩⟩⟩⟩⟩⟩⟩⟩⟩⟩) ?_
    refine Tri.ret ?_
    repeat (first | refine thenP_ret ?_ | refine blkP_ret ?_ | refine countP_ret ?_ | refine joinP_ret ?_ | refine iterP_ret ?_)
    exact endP.ret [(240, 1)] TT (by kernel_rfl) (by kernel_rfl) tt




noncomputable def FwwU32z (p0 : Nat) (p2 : List Int) (p3 : Int) : List Int :=
  part1 (p2 ++ [(IntKind.wrap .u8 (iShr .u32 p3 24)), (IntKind.wrap .u8 (iShr .u32 p3 16)), (IntKind.wrap .u8 (iShr .u32 p3 8)), (IntKind.wrap .u8 p3)]) (p0 + 4) 0 (p0 + 4)

noncomputable def SwwU32z : List AV → List Blk → Option (Prop × Ret)
  | [.sc (.sl 0 0 p0 1 none), .sc (.i .u32 p3)], [.ints .u8 p1 p2] => some (((p0 = p1) ∧ (p0 ≤ 1000000000)), ⟨.sc (.ro .u8 (FwwU32z p0 p2 p3)), [none]⟩)
  | _, _ => none

noncomputable def BwwU32z : Bs := { P := Go.Proofs.Try.prog, G := noG, tab := tabOf [], n := 19 }

theorem BwwU32z.ok : BwwU32z.Ok := ⟨tabOk (P := Go.Proofs.Try.prog) (G := noG) (l := []) True.intro, mixed⟩

theorem KwwU32z : Known Go.Proofs.Try.prog noG 29 ⟨1, 0, SwwU32z⟩ := by
  refine Known.walk (B := BwwU32z) (fn := Go.Proofs.Try.f29) BwwU32z.ok (by kernel_rfl) rfl (by kernel_rfl) (by kernel_rfl) (by decide) (by decide) ?_
  · intro E args ks C r h hC hlen
    simp only at h
    unfold SwwU32z at h
    split at h
    rotate_left
    · cases h
    rename_i p0 p3 p1 p2
    cases h
    simp only [lens] at hlen
    have hEp1 := hC.1
    have hC := hC.2
    subst hEp1
    refine ⟨show 2 ≤ 19 from by decide, ?_⟩
    refine Tri.sub (Sub.of_eq (show _ = ([(0, .sc (.sl 0 0 p0 1 none)), (1, .sc (.i .u32 p3))], [(0, .ints .u8 p0 p2)]) from rfl)) ?_
    refine Tri.seq_region [] none [0, 1] [0] (TT ∧ True)
        ([(0, .sc (.sl 0 0 p0 1 none)), (1, .sc (.i .u32 p3))], [(0, .ints .u8 p0 p2)])
        32 (by kernel_rfl) rfl (by kernel_rfl) (⟨tt, trivial⟩) ?_
    refine Tri.len 0 rfl (fun hl1 => ?_)
    refine Tri.seq_region [] none [4] [240] (TT ∧ (TT ∧ ((((0 : Int) ≤ 24) ∧ True) ∧ (TT ∧ (TT ∧ ((((0 : Int) ≤ 16) ∧ True) ∧ (TT ∧ (TT ∧ ((((0 : Int) ≤ 8) ∧ True) ∧ (TT ∧ (TT ∧ (TT ∧ ((((((0 < 4) ∧ (1 = 1)) ∧ (((1 < 4) ∧ (1 = 1)) ∧ (((2 < 4) ∧ (1 = 1)) ∧ (((3 < 4) ∧ (1 = 1)) ∧ True)))) ∧ ((4 * 1 ≤ 16777216) ∧ (1 = 1))) ∧ True) ∧ ((((((True ∧ (1 = 1)) ∧ ((0 < 1) ∧ (((p0 + 4) * 1 ≤ 140737488355328) ∧ (p0 + 4 ≤ 140737488355328)))) ∧ (4 = 4 * 1)) ∧ ((1 = 1) ∧ (0 + p0 * 1 = p0))) ∧ True) ∧ (TT ∧ True)))))))))))))))
        ([(4, .sc (.sl 240 0 (p0 + 4) 1 none))], [(240, .ints .u8 (p0 + 4) (p2 ++ [(IntKind.wrap .u8 (iShr .u32 p3 24)), (IntKind.wrap .u8 (iShr .u32 p3 16)), (IntKind.wrap .u8 (iShr .u32 p3 8)), (IntKind.wrap .u8 p3)]))])
        272 (by kernel_rfl) rfl (by kernel_rfl) (⟨tt, ⟨tt, ⟨⟨(by first | omega | (rw [adr_eq]; omega) | exact iAnd_nn _ _ | exact iSub_nn _ _ | exact part1_le (by omega) (by first | omega | (simp only [List.length_append]; omega)) | decide), trivial⟩, ⟨tt, ⟨tt, ⟨⟨(by first | omega | (rw [adr_eq]; omega) | exact iAnd_nn _ _ | exact iSub_nn _ _ | exact part1_le (by omega) (by first | omega | (simp only [List.length_append]; omega)) | decide), trivial⟩, ⟨tt, ⟨tt, ⟨⟨(by first | omega | (rw [adr_eq]; omega) | exact iAnd_nn _ _ | exact iSub_nn _ _ | exact part1_le (by omega) (by first | omega | (simp only [List.length_append]; omega)) | decide), trivial⟩, ⟨tt, ⟨tt, ⟨tt, ⟨⟨⟨⟨⟨(by first | omega | (rw [adr_eq]; omega) | exact iAnd_nn _ _ | exact iSub_nn _ _ | exact part1_le (by omega) (by first | omega | (simp only [List.length_append]; omega)) | decide), (rfl)⟩, ⟨⟨(by first | omega | (rw [adr_eq]; omega) | exact iAnd_nn _ _ | exact iSub_nn _ _ | exact part1_le (by omega) (by first | omega | (simp only [List.length_append]; omega)) | decide), (rfl)⟩, ⟨⟨(by first | omega | (rw [adr_eq]; omega) | exact iAnd_nn _ _ | exact iSub_nn _ _ | exact part1_le (by omega) (by first | omega | (simp only [List.length_append]; omega)) | decide), (rfl)⟩, ⟨⟨(by first | omega | (rw [adr_eq]; omega) | exact iAnd_nn _ _ | exact iSub_nn _ _ | exact part1_le (by omega) (by first | omega | (simp only [List.length_append]; omega)) | decide), (rfl)⟩, trivial⟩⟩⟩⟩, ⟨(by first | omega | (rw [adr_eq]; omega) | exact iAnd_nn _ _ | exact iSub_nn _ _ | exact part1_le (by omega) (by first | omega | (simp only [List.length_append]; omega)) | decide), (rfl)⟩⟩, trivial⟩, ⟨⟨⟨⟨⟨⟨trivial, (rfl)⟩, ⟨(by first | omega | (rw [adr_eq]; omega) | exact iAnd_nn _ _ | exact iSub_nn _ _ | exact part1_le (by omega) (by first | omega | (simp only [List.length_append]; omega)) | decide), ⟨(by first | omega | (rw [adr_eq]; omega) | exact iAnd_nn _ _ | exact iSub_nn _ _ | exact part1_le (by omega) (by first | omega | (simp only [List.length_append]; omega)) | decide), (by first | omega | (rw [adr_eq]; omega) | exact iAnd_nn _ _ | exact iSub_nn _ _ | exact part1_le (by omega) (by first | omega | (simp only [List.length_append]; omega)) | decide)⟩⟩⟩, (by first | omega | (rw [adr_eq]; omega) | exact iAnd_nn _ _ | exact iSub_nn _ _ | exact part1_le (by omega) (by first | omega | (simp only [List.length_append]; omega)) | decide)⟩, ⟨(rfl), (by first | omega | (rw [adr_eq]; omega) | exact iAnd_nn _ _ | exact iSub_nn _ _ | exact part1_le (by omega) (by first | omega | (simp only [List.length_append]; omega)) | decide)⟩⟩, trivial⟩, ⟨tt, trivial⟩⟩⟩⟩⟩⟩⟩⟩⟩⟩⟩⟩⟩⟩⟩) ?_
    refine Tri.sub (Sub.still (s' := ([(4, .sc (.ro .u8 (part1 (p2 ++ [(IntKind.wrap .u8 (iShr .u32 p3 24)), (IntKind.wrap .u8 (iShr .u32 p3 16)), (IntKind.wrap .u8 (iShr .u32 p3 8)), (IntKind.wrap .u8 p3)]) (p0 + 4) 0 (p0 + 4))))], [])) 240 (.ints .u8 (p0 + 4) (p2 ++ [(IntKind.wrap .u8 (iShr .u32 p3 24)), (IntKind.wrap .u8 (iShr .u32 p3 16)), (IntKind.wrap .u8 (iShr .u32 p3 8)), (IntKind.wrap .u8 p3)])) (by kernel_rfl) (show 0 + (p0 + 4) ≤ p0 + 4 from by first | omega | (rw [adr_eq]; omega) | exact iAnd_nn _ _ | exact iSub_nn _ _ | exact part1_le (by omega) (by first | omega | (simp only [List.length_append]; omega)) | decide) (by kernel_rfl)) ?_
    refine Tri.ret ?_
    repeat (first | refine thenP_ret ?_ | refine blkP_ret ?_ | refine countP_ret ?_ | refine joinP_ret ?_ | refine iterP_ret ?_)
    exact endP.ret [] TT (by kernel_rfl) (by kernel_rfl) tt




noncomputable def FwwText (p0 : Nat) (p2 : List Int) (p3 : ByteArray) : List Int :=
  (FwwU32 p0 p2 (IntKind.wrap .u32 ((p3.size : Nat) : Int))) ++ (bytesI p3)

noncomputable def SwwText : List AV → List Blk → Option (Prop × Ret)
  | [.sc (.sl 0 0 p0 1 none), .sc (.s p3)], [.ints .u8 p1 p2] => some (((p0 = p1) ∧ (p0 ≤ 1000000000 ∧ p3.size ≤ 1000000000)), ⟨.sc (.sl 1 0 ((p0 + 4) + p3.size) 1 none), [none, some (.ints .u8 ((p0 + 4) + p3.size) (FwwText p0 p2 p3))]⟩)
  | _, _ => none

noncomputable def BwwText : Bs := { P := Go.Proofs.Try.prog, G := noG, tab := tabOf [⟨29, 96, [.io, .val], [], [0], ⟨1, 1, SwwU32⟩, false⟩], n := 12 }

theorem BwwText.ok : BwwText.Ok := ⟨tabOk (P := Go.Proofs.Try.prog) (G := noG) (l := [⟨29, 96, [.io, .val], [], [0], ⟨1, 1, SwwU32⟩, false⟩]) (And.intro KwwU32 True.intro), mixed⟩

theorem KwwText : Known Go.Proofs.Try.prog noG 30 ⟨1, 1, SwwText⟩ := by
  refine Known.walk (B := BwwText) (fn := Go.Proofs.Try.f30) BwwText.ok (by kernel_rfl) rfl (by kernel_rfl) (by kernel_rfl) (by decide) (by decide) ?_
  · intro E args ks C r h hC hlen
    simp only at h
    unfold SwwText at h
    split at h
    rotate_left
    · cases h
    rename_i p0 p3 p1 p2
    cases h
    simp only [lens] at hlen
    have hEp1 := hC.1
    have hC := hC.2
    subst hEp1
    refine ⟨show 2 ≤ 12 from by decide, ?_⟩
    refine Tri.sub (Sub.of_eq (show _ = ([(0, .sc (.sl 0 0 p0 1 none)), (1, .sc (.s p3))], [(0, .ints .u8 p0 p2)]) from rfl)) ?_
    refine Tri.seq_region [] none [0, 1] [0] (TT ∧ True)
        ([(0, .sc (.sl 0 0 p0 1 none)), (1, .sc (.s p3))], [(0, .ints .u8 p0 p2)])
        32 (by kernel_rfl) rfl (by kernel_rfl) (⟨tt, trivial⟩) ?_
    refine Tri.len 0 rfl (fun hl1 => ?_)
    refine Tri.seq_region [] none [4] [128] (TT ∧ (TT ∧ (TT ∧ (TT ∧ (((True ∧ ((p0 = p0) ∧ (p0 ≤ 1000000000))) ∧ True) ∧ (TT ∧ ((((((True ∧ (1 = 1)) ∧ ((0 < 1) ∧ ((((p0 + 4) + p3.size) * 1 ≤ 140737488355328) ∧ ((p0 + 4) + p3.size ≤ 140737488355328)))) ∧ (p3.size = p3.size * 1)) ∧ ((1 = 1) ∧ (0 + (p0 + 4) * 1 = p0 + 4))) ∧ True) ∧ (TT ∧ True))))))))
        ([(4, .sc (.sl 128 0 ((p0 + 4) + p3.size) 1 none))], [(128, .ints .u8 ((p0 + 4) + p3.size) ((FwwU32 p0 p2 (IntKind.wrap .u32 ((p3.size : Nat) : Int))) ++ (bytesI p3)))])
        160 (by kernel_rfl) rfl (by kernel_rfl) (⟨tt, ⟨tt, ⟨tt, ⟨tt, ⟨⟨⟨trivial, ⟨(rfl), (by first | omega | (rw [adr_eq]; omega) | exact iAnd_nn _ _ | exact iSub_nn _ _ | exact part1_le (by omega) (by first | omega | (simp only [List.length_append]; omega)) | decide)⟩⟩, trivial⟩, ⟨tt, ⟨⟨⟨⟨⟨⟨trivial, (rfl)⟩, ⟨(by first | omega | (rw [adr_eq]; omega) | exact iAnd_nn _ _ | exact iSub_nn _ _ | exact part1_le (by omega) (by first | omega | (simp only [List.length_append]; omega)) | decide), ⟨(by first | omega | (rw [adr_eq]; omega) | exact iAnd_nn _ _ | exact iSub_nn _ _ | exact part1_le (by omega) (by first | omega | (simp only [List.length_append]; omega)) | decide), (by first | omega | (rw [adr_eq]; omega) | exact iAnd_nn _ _ | exact iSub_nn _ _ | exact part1_le (by omega) (by first | omega | (simp only [List.length_append]; omega)) | decide)⟩⟩⟩, (by first | omega | (rw [adr_eq]; omega) | exact iAnd_nn _ _ | exact iSub_nn _ _ | exact part1_le (by omega) (by first | omega | (simp only [List.length_append]; omega)) | decide)⟩, ⟨(rfl), (by first | omega | (rw [adr_eq]; omega) | exact iAnd_nn _ _ | exact iSub_nn _ _ | exact part1_le (by omega) (by first | omega | (simp only [List.length_append]; omega)) | decide)⟩⟩, trivial⟩, ⟨tt, trivial⟩⟩⟩⟩⟩⟩⟩⟩) ?_
    refine Tri.ret ?_
    repeat (first | refine thenP_ret ?_ | refine blkP_ret ?_ | refine countP_ret ?_ | refine joinP_ret ?_ | refine iterP_ret ?_)
    exact endP.ret [(128, 1)] TT (by kernel_rfl) (by kernel_rfl) tt




noncomputable def FwwTextz (p0 : Nat) (p2 : List Int) (p3 : ByteArray) : List Int :=
  part1 ((FwwU32 p0 p2 (IntKind.wrap .u32 ((p3.size : Nat) : Int))) ++ (bytesI p3)) ((p0 + 4) + p3.size) 0 ((p0 + 4) + p3.size)

noncomputable def SwwTextz : List AV → List Blk → Option (Prop × Ret)
  | [.sc (.sl 0 0 p0 1 none), .sc (.s p3)], [.ints .u8 p1 p2] => some (((p0 = p1) ∧ (p0 ≤ 1000000000 ∧ p3.size ≤ 1000000000)), ⟨.sc (.ro .u8 (FwwTextz p0 p2 p3)), [none]⟩)
  | _, _ => none

noncomputable def BwwTextz : Bs := { P := Go.Proofs.Try.prog, G := noG, tab := tabOf [⟨29, 96, [.io, .val], [], [0], ⟨1, 1, SwwU32⟩, false⟩], n := 12 }

theorem BwwTextz.ok : BwwTextz.Ok := ⟨tabOk (P := Go.Proofs.Try.prog) (G := noG) (l := [⟨29, 96, [.io, .val], [], [0], ⟨1, 1, SwwU32⟩, false⟩]) (And.intro KwwU32 True.intro), mixed⟩

theorem KwwTextz : Known Go.Proofs.Try.prog noG 30 ⟨1, 0, SwwTextz⟩ := by
  refine Known.walk (B := BwwTextz) (fn := Go.Proofs.Try.f30) BwwTextz.ok (by kernel_rfl) rfl (by kernel_rfl) (by kernel_rfl) (by decide) (by decide) ?_
  · intro E args ks C r h hC hlen
    simp only at h
    unfold SwwTextz at h
    split at h
    rotate_left
    · cases h
    rename_i p0 p3 p1 p2
    cases h
    simp only [lens] at hlen
    have hEp1 := hC.1
    have hC := hC.2
    subst hEp1
    refine ⟨show 2 ≤ 12 from by decide, ?_⟩
    refine Tri.sub (Sub.of_eq (show _ = ([(0, .sc (.sl 0 0 p0 1 none)), (1, .sc (.s p3))], [(0, .ints .u8 p0 p2)]) from rfl)) ?_
    refine Tri.seq_region [] none [0, 1] [0] (TT ∧ True)
        ([(0, .sc (.sl 0 0 p0 1 none)), (1, .sc (.s p3))], [(0, .ints .u8 p0 p2)])
        32 (by kernel_rfl) rfl (by kernel_rfl) (⟨tt, trivial⟩) ?_
    refine Tri.len 0 rfl (fun hl1 => ?_)
    refine Tri.seq_region [] none [4] [128] (TT ∧ (TT ∧ (TT ∧ (TT ∧ (((True ∧ ((p0 = p0) ∧ (p0 ≤ 1000000000))) ∧ True) ∧ (TT ∧ ((((((True ∧ (1 = 1)) ∧ ((0 < 1) ∧ ((((p0 + 4) + p3.size) * 1 ≤ 140737488355328) ∧ ((p0 + 4) + p3.size ≤ 140737488355328)))) ∧ (p3.size = p3.size * 1)) ∧ ((1 = 1) ∧ (0 + (p0 + 4) * 1 = p0 + 4))) ∧ True) ∧ (TT ∧ True))))))))
        ([(4, .sc (.sl 128 0 ((p0 + 4) + p3.size) 1 none))], [(128, .ints .u8 ((p0 + 4) + p3.size) ((FwwU32 p0 p2 (IntKind.wrap .u32 ((p3.size : Nat) : Int))) ++ (bytesI p3)))])
        160 (by kernel_rfl) rfl (by kernel_rfl) (⟨tt, ⟨tt, ⟨tt, ⟨tt, ⟨⟨⟨trivial, ⟨(rfl), (by first | omega | (rw [adr_eq]; omega) | exact iAnd_nn _ _ | exact iSub_nn _ _ | exact part1_le (by omega) (by first | omega | (simp only [List.length_append]; omega)) | decide)⟩⟩, trivial⟩, ⟨tt, ⟨⟨⟨⟨⟨⟨trivial, (rfl)⟩, ⟨(by first | omega | (rw [adr_eq]; omega) | exact iAnd_nn _ _ | exact iSub_nn _ _ | exact part1_le (by omega) (by first | omega | (simp only [List.length_append]; omega)) | decide), ⟨(by first | omega | (rw [adr_eq]; omega) | exact iAnd_nn _ _ | exact iSub_nn _ _ | exact part1_le (by omega) (by first | omega | (simp only [List.length_append]; omega)) | decide), (by first | omega | (rw [adr_eq]; omega) | exact iAnd_nn _ _ | exact iSub_nn _ _ | exact part1_le (by omega) (by first | omega | (simp only [List.length_append]; omega)) | decide)⟩⟩⟩, (by first | omega | (rw [adr_eq]; omega) | exact iAnd_nn _ _ | exact iSub_nn _ _ | exact part1_le (by omega) (by first | omega | (simp only [List.length_append]; omega)) | decide)⟩, ⟨(rfl), (by first | omega | (rw [adr_eq]; omega) | exact iAnd_nn _ _ | exact iSub_nn _ _ | exact part1_le (by omega) (by first | omega | (simp only [List.length_append]; omega)) | decide)⟩⟩, trivial⟩, ⟨tt, trivial⟩⟩⟩⟩⟩⟩⟩⟩) ?_
    refine Tri.sub (Sub.still (s' := ([(4, .sc (.ro .u8 (part1 ((FwwU32 p0 p2 (IntKind.wrap .u32 ((p3.size : Nat) : Int))) ++ (bytesI p3)) ((p0 + 4) + p3.size) 0 ((p0 + 4) + p3.size))))], [])) 128 (.ints .u8 ((p0 + 4) + p3.size) ((FwwU32 p0 p2 (IntKind.wrap .u32 ((p3.size : Nat) : Int))) ++ (bytesI p3))) (by kernel_rfl) (show 0 + ((p0 + 4) + p3.size) ≤ (p0 + 4) + p3.size from by first | omega | (rw [adr_eq]; omega) | exact iAnd_nn _ _ | exact iSub_nn _ _ | exact part1_le (by omega) (by first | omega | (simp only [List.length_append]; omega)) | decide) (by kernel_rfl)) ?_
    refine Tri.ret ?_
    repeat (first | refine thenP_ret ?_ | refine blkP_ret ?_ | refine countP_ret ?_ | refine joinP_ret ?_ | refine iterP_ret ?_)
    exact endP.ret [] TT (by kernel_rfl) (by kernel_rfl) tt




noncomputable def FwwFlag (p0 : Nat) (p2 : List Int) (p3 : Bool) : List Int :=
  (sel p3 (p2 ++ [1]) (p2 ++ [0]))

noncomputable def SwwFlag : List AV → List Blk → Option (Prop × Ret)
  | [.sc (.sl 0 0 p0 1 none), .sc (.b p3)], [.ints .u8 p1 p2] => some (((p0 = p1) ∧ (p0 ≤ 1000000000)), ⟨.sc (.sl 1 0 (p0 + 1) 1 none), [none, some (.ints .u8 (p0 + 1) (FwwFlag p0 p2 p3))]⟩)
  | _, _ => none

noncomputable def BwwFlag : Bs := { P := Go.Proofs.Try.prog, G := noG, tab := tabOf [], n := 12 }

theorem BwwFlag.ok : BwwFlag.Ok := ⟨tabOk (P := Go.Proofs.Try.prog) (G := noG) (l := []) True.intro, mixed⟩

theorem KwwFlag : Known Go.Proofs.Try.prog noG 45 ⟨1, 1, SwwFlag⟩ := by
  refine Known.walk (B := BwwFlag) (fn := Go.Proofs.Try.f45) BwwFlag.ok (by kernel_rfl) rfl (by kernel_rfl) (by kernel_rfl) (by decide) (by decide) ?_
  · intro E args ks C r h hC hlen
    simp only at h
    unfold SwwFlag at h
    split at h
    rotate_left
    · cases h
    rename_i p0 p3 p1 p2
    cases h
    simp only [lens] at hlen
    have hEp1 := hC.1
    have hC := hC.2
    subst hEp1
    refine ⟨show 2 ≤ 12 from by decide, ?_⟩
    refine Tri.sub (Sub.of_eq (show _ = ([(0, .sc (.sl 0 0 p0 1 none)), (1, .sc (.b p3))], [(0, .ints .u8 p0 p2)]) from rfl)) ?_
    refine Tri.seq_region [] none [0, 1] [0] (TT ∧ True)
        ([(0, .sc (.sl 0 0 p0 1 none)), (1, .sc (.b p3))], [(0, .ints .u8 p0 p2)])
        32 (by kernel_rfl) rfl (by kernel_rfl) (⟨tt, trivial⟩) ?_
    refine Tri.seq ?_
    refine Tri.seq_region [] none [5, 0] [0] (TT ∧ True)
        ([(5, .sc (.b p3)), (0, .sc (.sl 0 0 p0 1 none))], [(0, .ints .u8 p0 p2)])
        48 (by kernel_rfl) rfl (by kernel_rfl) (⟨tt, trivial⟩) ?_
    refine Tri.cond (x := p3) (by kernel_rfl) (fun h1 => ?_) (fun h1 => ?_)
    ·
      refine Tri.len 0 rfl (fun hl2 => ?_)
      refine Tri.seq_region [] none [4] [80] (TT ∧ ((((((0 < 1) ∧ (1 = 1)) ∧ True) ∧ ((1 * 1 ≤ 16777216) ∧ (1 = 1))) ∧ True) ∧ ((((((True ∧ (1 = 1)) ∧ ((0 < 1) ∧ (((p0 + 1) * 1 ≤ 140737488355328) ∧ (p0 + 1 ≤ 140737488355328)))) ∧ (1 = 1 * 1)) ∧ ((1 = 1) ∧ (0 + p0 * 1 = p0))) ∧ True) ∧ (TT ∧ True))))
          ([(4, .sc (.sl 80 0 (p0 + 1) 1 none))], [(80, .ints .u8 (p0 + 1) (p2 ++ [1]))])
          112 (by kernel_rfl) rfl (by kernel_rfl) (⟨tt, ⟨⟨⟨⟨⟨(by first | omega | (rw [adr_eq]; omega) | exact iAnd_nn _ _ | exact iSub_nn _ _ | exact part1_le (by omega) (by first | omega | (simp only [List.length_append]; omega)) | decide), (rfl)⟩, trivial⟩, ⟨(by first | omega | (rw [adr_eq]; omega) | exact iAnd_nn _ _ | exact iSub_nn _ _ | exact part1_le (by omega) (by first | omega | (simp only [List.length_append]; omega)) | decide), (rfl)⟩⟩, trivial⟩, ⟨⟨⟨⟨⟨⟨trivial, (rfl)⟩, ⟨(by first | omega | (rw [adr_eq]; omega) | exact iAnd_nn _ _ | exact iSub_nn _ _ | exact part1_le (by omega) (by first | omega | (simp only [List.length_append]; omega)) | decide), ⟨(by first | omega | (rw [adr_eq]; omega) | exact iAnd_nn _ _ | exact iSub_nn _ _ | exact part1_le (by omega) (by first | omega | (simp only [List.length_append]; omega)) | decide), (by first | omega | (rw [adr_eq]; omega) | exact iAnd_nn _ _ | exact iSub_nn _ _ | exact part1_le (by omega) (by first | omega | (simp only [List.length_append]; omega)) | decide)⟩⟩⟩, (by first | omega | (rw [adr_eq]; omega) | exact iAnd_nn _ _ | exact iSub_nn _ _ | exact part1_le (by omega) (by first | omega | (simp only [List.length_append]; omega)) | decide)⟩, ⟨(rfl), (by first | omega | (rw [adr_eq]; omega) | exact iAnd_nn _ _ | exact iSub_nn _ _ | exact part1_le (by omega) (by first | omega | (simp only [List.length_append]; omega)) | decide)⟩⟩, trivial⟩, ⟨tt, trivial⟩⟩⟩⟩) ?_
      refine Tri.ret ?_
      repeat (first | refine thenP_ret ?_ | refine blkP_ret ?_ | refine countP_ret ?_ | refine joinP_ret ?_ | refine iterP_ret ?_)
      refine endP.conv (r' := ⟨.sc (.sl 1 0 (p0 + 1) 1 none), [none, some (.ints .u8 (p0 + 1) (p2 ++ [1]))]⟩) (by simp only [FwwFlag, h1, sel_true, sel_false]) ?_
      exact endP.ret [(80, 1)] TT (by kernel_rfl) (by kernel_rfl) tt
    ·
      refine Tri.skip ?_
      change Tri _ _ _ _ _ _
      refine Tri.len 0 rfl (fun hl3 => ?_)
      refine Tri.seq_region [] none [4] [80] (TT ∧ ((((((0 < 1) ∧ (1 = 1)) ∧ True) ∧ ((1 * 1 ≤ 16777216) ∧ (1 = 1))) ∧ True) ∧ ((((((True ∧ (1 = 1)) ∧ ((0 < 1) ∧ (((p0 + 1) * 1 ≤ 140737488355328) ∧ (p0 + 1 ≤ 140737488355328)))) ∧ (1 = 1 * 1)) ∧ ((1 = 1) ∧ (0 + p0 * 1 = p0))) ∧ True) ∧ (TT ∧ True))))
          ([(4, .sc (.sl 80 0 (p0 + 1) 1 none))], [(80, .ints .u8 (p0 + 1) (p2 ++ [0]))])
          112 (by kernel_rfl) rfl (by kernel_rfl) (⟨tt, ⟨⟨⟨⟨⟨(by first | omega | (rw [adr_eq]; omega) | exact iAnd_nn _ _ | exact iSub_nn _ _ | exact part1_le (by omega) (by first | omega | (simp only [List.length_append]; omega)) | decide), (rfl)⟩, trivial⟩, ⟨(by first | omega | (rw [adr_eq]; omega) | exact iAnd_nn _ _ | exact iSub_nn _ _ | exact part1_le (by omega) (by first | omega | (simp only [List.length_append]; omega)) | decide), (rfl)⟩⟩, trivial⟩, ⟨⟨⟨⟨⟨⟨trivial, (rfl)⟩, ⟨(by first | omega | (rw [adr_eq]; omega) | exact iAnd_nn _ _ | exact iSub_nn _ _ | exact part1_le (by omega) (by first | omega | (simp only [List.length_append]; omega)) | decide), ⟨(by first | omega | (rw [adr_eq]; omega) | exact iAnd_nn _ _ | exact iSub_nn _ _ | exact part1_le (by omega) (by first | omega | (simp only [List.length_append]; omega)) | decide), (by first | omega | (rw [adr_eq]; omega) | exact iAnd_nn _ _ | exact iSub_nn _ _ | exact part1_le (by omega) (by first | omega | (simp only [List.length_append]; omega)) | decide)⟩⟩⟩, (by first | omega | (rw [adr_eq]; omega) | exact iAnd_nn _ _ | exact iSub_nn _ _ | exact part1_le (by omega) (by first | omega | (simp only [List.length_append]; omega)) | decide)⟩, ⟨(rfl), (by first | omega | (rw [adr_eq]; omega) | exact iAnd_nn _ _ | exact iSub_nn _ _ | exact part1_le (by omega) (by first | omega | (simp only [List.length_append]; omega)) | decide)⟩⟩, trivial⟩, ⟨tt, trivial⟩⟩⟩⟩) ?_
      refine Tri.ret ?_
      repeat (first | refine thenP_ret ?_ | refine blkP_ret ?_ | refine countP_ret ?_ | refine joinP_ret ?_ | refine iterP_ret ?_)
      refine endP.conv (r' := ⟨.sc (.sl 1 0 (p0 + 1) 1 none), [none, some (.ints .u8 (p0 + 1) (p2 ++ [0]))]⟩) (by simp only [FwwFlag, h1, sel_true, sel_false]) ?_
      exact endP.ret [(80, 1)] TT (by kernel_rfl) (by kernel_rfl) tt



end Go.Vm
