/- What the functions compute, and that they do: walked by a printed text. -/
import Derived.Test.YtclfmaifcelcpaaDoorWk2
set_option linter.unusedVariables false
set_option linter.unusedSimpArgs false
set_option maxRecDepth 4000
namespace Go.Vm
open Go

noncomputable def Fwtextsl0 (k0 : Nat) (z0 : Unit) : Unit :=
  ()

noncomputable def Fwtextss0 (p0 : List ByteArray) (p1 : List ByteArray) (k0 : Nat) : Bool :=
  (sel (!(strEq (p0.getD k0 ⟨#[]⟩) (p1.getD k0 ⟨#[]⟩))) true false)

noncomputable def Fwtexts (p0 : List ByteArray) (p1 : List ByteArray) : Bool :=
  (sel ((((p0.length : Nat) : Int) : Int) != ((p1.length : Nat) : Int)) false (sel (Nat.blt (fstB (Fwtextss0 p0 p1) p0.length) p0.length) false true))

noncomputable def Swtexts : List AV → List Blk → Option (Prop × Ret)
  | [.sc (.ros p0), .sc (.ros p1)], [] => some ((p0.length ≤ 1000000000), ⟨.sc (.b (Fwtexts p0 p1)), []⟩)
  | _, _ => none

noncomputable def Bwtexts : Bs := { P := Go.Proofs.Tryd.prog, G := noG, tab := tabOf [], n := 26 }

theorem Bwtexts.ok : Bwtexts.Ok := ⟨tabOk (P := Go.Proofs.Tryd.prog) (G := noG) (l := []) True.intro, mixed⟩

theorem Kwtexts : Known Go.Proofs.Tryd.prog noG 20 ⟨0, 0, Swtexts⟩ := by
  refine Known.walk (B := Bwtexts) (fn := Go.Proofs.Tryd.f20) Bwtexts.ok (by kernel_rfl) rfl (by kernel_rfl) (by kernel_rfl) (by decide) (by decide) ?_
  · intro E args ks C r h hC hlen
    simp only at h
    unfold Swtexts at h
    split at h
    rotate_left
    · cases h
    rename_i p0 p1
    cases h
    simp only [lens] at hlen
    refine ⟨show 2 ≤ 26 from by decide, ?_⟩
    refine Tri.sub (Sub.of_eq (show _ = ([(0, .sc (.ros p0)), (1, .sc (.ros p1))], []) from rfl)) ?_
    refine Tri.seq_region [] none [0, 1] [] ((True ∧ True) ∧ True)
        ([(0, .sc (.ros p0)), (1, .sc (.ros p1))], [])
        32 (by kernel_rfl) rfl (by kernel_rfl) (⟨⟨trivial, trivial⟩, trivial⟩) ?_
    refine Tri.seq ?_
    refine Tri.seq_region [] none [10, 0, 1] [] ((True ∧ True) ∧ ((True ∧ True) ∧ ((True ∧ True) ∧ ((True ∧ True) ∧ ((True ∧ True) ∧ True)))))
        ([(10, .sc (.b ((((p0.length : Nat) : Int) : Int) != ((p1.length : Nat) : Int)))), (0, .sc (.ros p0)), (1, .sc (.ros p1))], [])
        112 (by kernel_rfl) rfl (by kernel_rfl) (⟨⟨trivial, trivial⟩, ⟨⟨trivial, trivial⟩, ⟨⟨trivial, trivial⟩, ⟨⟨trivial, trivial⟩, ⟨⟨trivial, trivial⟩, trivial⟩⟩⟩⟩⟩) ?_
    refine Tri.cond (x := ((((p0.length : Nat) : Int) : Int) != ((p1.length : Nat) : Int))) (by kernel_rfl) (fun h1 => ?_) (fun h1 => ?_)
    ·
      have h1' := ne_true_i h1
      refine Tri.seq_region [] none [4] [] ((True ∧ True) ∧ True)
          ([(4, .sc (.b false))], [])
          128 (by kernel_rfl) rfl (by kernel_rfl) (⟨⟨trivial, trivial⟩, trivial⟩) ?_
      refine Tri.ret ?_
      repeat (first | refine thenP_ret ?_ | refine blkP_ret ?_ | refine countP_ret ?_ | refine joinP_ret ?_ | refine iterP_ret ?_)
      refine endP.conv (r' := ⟨.sc (.b false), []⟩) (by simp only [Fwtexts, h1, sel_true, sel_false]) ?_
      exact endP.ret [] (True ∧ True) (by kernel_rfl) (by kernel_rfl) ⟨trivial, trivial⟩
    ·
      have h1' := ne_false_i h1
      refine Tri.skip ?_
      change Tri _ _ _ _ _ _
      refine Tri.seq ?_
      refine Tri.seq_region [] none [13, 12, 0, 1] [] ((True ∧ True) ∧ ((True ∧ True) ∧ ((True ∧ True) ∧ True)))
          ([(13, .sc (.i .i64 0)), (12, .sc (.i .i64 ((p0.length : Nat) : Int))), (0, .sc (.ros p0)), (1, .sc (.ros p1))], [])
          160 (by kernel_rfl) rfl (by kernel_rfl) (⟨⟨trivial, trivial⟩, ⟨⟨trivial, trivial⟩, ⟨⟨trivial, trivial⟩, trivial⟩⟩⟩) ?_
      refine Tri.block ?_
      refine Tri.count 160 p0.length (Fwtextsl0) (()) (fun k0 z0 => (∀ j, j < k0 → (Fwtextss0 p0 p1) j = false)) (fun k0 z0 => ([(13, .sc (.i .i64 ((k0 : Nat) : Int))), (12, .sc (.i .i64 ((p0.length : Nat) : Int))), (0, .sc (.ros p0)), (1, .sc (.ros p1))], [])) (fun j hj => absurd hj (Nat.not_lt_zero j)) (Sub.of_eq (by kernel_rfl)) ?_
      intro k0 z0 hk0 hz0 hJ0
      refine Tri.seq_region [] none [14, 13, 12, 0, 1] [] ((True ∧ True) ∧ True)
          ([(14, .sc (.b (decide ((((k0 : Nat) : Int) : Int) < ((p0.length : Nat) : Int))))), (13, .sc (.i .i64 ((k0 : Nat) : Int))), (12, .sc (.i .i64 ((p0.length : Nat) : Int))), (0, .sc (.ros p0)), (1, .sc (.ros p1))], [])
          176 (by kernel_rfl) rfl (by kernel_rfl) (⟨⟨trivial, trivial⟩, trivial⟩) ?_
      refine Tri.seq ?_
      refine Tri.cond (x := (decide ((((k0 : Nat) : Int) : Int) < ((p0.length : Nat) : Int)))) (by kernel_rfl) (fun h2 => ?_) (fun h2 => ?_)
      ·
        have h2' := of_decide_eq_true h2
        refine Tri.skip ?_
        change Tri _ _ _ _ _ _
        refine Tri.seq ?_
        refine Tri.block ?_
        refine Tri.seq_region [] none [5, 13, 12, 0, 1] [] ((True ∧ True) ∧ ((True ∧ True) ∧ True))
            ([(5, .sc (.i .i64 ((k0 : Nat) : Int))), (13, .sc (.i .i64 ((k0 : Nat) : Int))), (12, .sc (.i .i64 ((p0.length : Nat) : Int))), (0, .sc (.ros p0)), (1, .sc (.ros p1))], [])
            208 (by kernel_rfl) rfl (by kernel_rfl) (⟨⟨trivial, trivial⟩, ⟨⟨trivial, trivial⟩, trivial⟩⟩) ?_
        refine Tri.seq_region [] (some [0, 0, 3, 7, 0, 0, 48, 112, 255]) [24, 13, 12, 0, 1] [] ((True ∧ True) ∧ ((True ∧ True) ∧ ((((0 : Int) ≤ ((k0 : Nat) : Int) ∧ ((k0 : Nat) : Int) < (p0.length : Int)) ∧ True) ∧ ((True ∧ True) ∧ ((True ∧ True) ∧ ((True ∧ True) ∧ ((((0 : Int) ≤ ((k0 : Nat) : Int) ∧ ((k0 : Nat) : Int) < (p1.length : Int)) ∧ True) ∧ ((True ∧ True) ∧ ((True ∧ True) ∧ True)))))))))
            ([(24, .sc (.b (!(strEq (p0.getD k0 ⟨#[]⟩) (p1.getD k0 ⟨#[]⟩))))), (13, .sc (.i .i64 ((k0 : Nat) : Int))), (12, .sc (.i .i64 ((p0.length : Nat) : Int))), (0, .sc (.ros p0)), (1, .sc (.ros p1))], [])
            352 (by kernel_rfl) rfl (by kernel_rfl) (⟨⟨trivial, trivial⟩, ⟨⟨trivial, trivial⟩, ⟨⟨(by first | omega | (rw [adr_eq]; omega) | exact iAnd_nn _ _ | exact iSub_nn _ _ | exact part1_le (by omega) (by first | omega | (simp only [List.length_append]; omega)) | decide), trivial⟩, ⟨⟨trivial, trivial⟩, ⟨⟨trivial, trivial⟩, ⟨⟨trivial, trivial⟩, ⟨⟨(by first | omega | (rw [adr_eq]; omega) | exact iAnd_nn _ _ | exact iSub_nn _ _ | exact part1_le (by omega) (by first | omega | (simp only [List.length_append]; omega)) | decide), trivial⟩, ⟨⟨trivial, trivial⟩, ⟨⟨trivial, trivial⟩, trivial⟩⟩⟩⟩⟩⟩⟩⟩⟩) ?_
        refine Tri.cond (x := (!(strEq (p0.getD k0 ⟨#[]⟩) (p1.getD k0 ⟨#[]⟩)))) (by kernel_rfl) (fun h3 => ?_) (fun h3 => ?_)
        ·
          refine Tri.seq_region [] none [4] [] ((True ∧ True) ∧ True)
              ([(4, .sc (.b false))], [])
              368 (by kernel_rfl) rfl (by kernel_rfl) (⟨⟨trivial, trivial⟩, trivial⟩) ?_
          refine Tri.ret ?_
          subst hz0
          have hf0 : fstB (Fwtextss0 p0 p1) p0.length = k0 := fst_found (by omega) hJ0 (by simp only [Fwtextss0, h1, h2, h3, sel_true, sel_false])
          have hb0 : Nat.blt k0 p0.length = true := blt_true (by omega)
          have hq0 : Nat.blt (fstB (Fwtextss0 p0 p1) p0.length) p0.length = true := by rw [hf0]; exact hb0
          repeat (first | refine thenP_ret ?_ | refine blkP_ret ?_ | refine countP_ret ?_ | refine joinP_ret ?_ | refine iterP_ret ?_)
          refine endP.conv (r' := ⟨.sc (.b false), []⟩) (by simp only [Fwtexts, h1, hq0, hf0, hb0, sel_true, sel_false]) ?_
          exact endP.ret [] (True ∧ True) (by kernel_rfl) (by kernel_rfl) ⟨trivial, trivial⟩
        ·
          refine Tri.skip ?_
          change Tri _ _ _ _ _ _
          refine Tri.region' [(25, qi ((k0 + 1 : Nat) : Int))] none [13, 12, 0, 1] [] ((True ∧ ((iAdd .i64 ((k0 : Nat) : Int) 1) = ((k0 + 1 : Nat) : Int))) ∧ ((True ∧ True) ∧ True))
              ([(13, .sc (.i .i64 ((k0 + 1 : Nat) : Int))), (12, .sc (.i .i64 ((p0.length : Nat) : Int))), (0, .sc (.ros p0)), (1, .sc (.ros p1))], [])
              384 (by kernel_rfl) rfl (by kernel_rfl) (⟨⟨trivial, (iAdd_nat (a := k0) (b := 1) (by omega))⟩, ⟨⟨trivial, trivial⟩, trivial⟩⟩) ?_
          repeat (refine blkP_normal ?_)
          refine countP_normal (by omega) (below_succ hJ0 (by subst hz0; simp only [Fwtextss0, h1, h2, h3, sel_true, sel_false])) ?_
          exact Sub.ren (ns := []) (kf := [13, 12, 0, 1]) (by kernel_rfl) (by kernel_rfl)
      ·
        have h2' := of_decide_eq_false h2
        refine Tri.exit ?_
        have hend0 : k0 = p0.length := by (have := of_decide_eq_false h2; omega)
        subst hend0; subst hz0
        have hf0 : fstB (Fwtextss0 p0 p1) p0.length = p0.length := fst_none hJ0
        have hb0 : Nat.blt p0.length p0.length = false := blt_self _
        have hq0 : Nat.blt (fstB (Fwtextss0 p0 p1) p0.length) p0.length = false := by rw [hf0]; exact hb0
        change Tri _ _ _ _ _ _
        refine Tri.seq_region [] none [4] [] ((True ∧ True) ∧ True)
            ([(4, .sc (.b true))], [])
            192 (by kernel_rfl) rfl (by kernel_rfl) (⟨⟨trivial, trivial⟩, trivial⟩) ?_
        refine Tri.ret ?_
        repeat (first | refine thenP_ret ?_ | refine blkP_ret ?_ | refine countP_ret ?_ | refine joinP_ret ?_ | refine iterP_ret ?_)
        refine endP.conv (r' := ⟨.sc (.b true), []⟩) (by simp only [Fwtexts, h1, hq0, hf0, hb0, sel_true, sel_false]) ?_
        exact endP.ret [] (True ∧ True) (by kernel_rfl) (by kernel_rfl) ⟨trivial, trivial⟩




noncomputable def FwNamesl0 (k0 : Nat) (z0 : Unit) : Unit :=
  ()

noncomputable def FwNamess0 (p0 : List Int) (p1 : Bool) (k0 : Nat) : Bool :=
  (sel (strEq ((FwSplit (FwText p0 p1)).getD k0 (⟨#[]⟩ : ByteArray)) (⟨#[]⟩ : ByteArray)) true false)

noncomputable def FwNames (p0 : List Int) (p1 : Bool) : List ByteArray :=
  (sel (strEq (FwText p0 p1) (⟨#[]⟩ : ByteArray)) [] (sel (Nat.blt (fstB (FwNamess0 p0 p1) (FwgenSplitn0 (FwText p0 p1))) (FwgenSplitn0 (FwText p0 p1))) [] (partV (FwSplit (FwText p0 p1)) 0 (FwgenSplitn0 (FwText p0 p1)))))

noncomputable def FwNames_1 (p0 : List Int) (p1 : Bool) : List Int :=
  (sel (strEq (FwText p0 p1) (⟨#[]⟩ : ByteArray)) (FwText_1 p0 p1) (sel (Nat.blt (fstB (FwNamess0 p0 p1) (FwgenSplitn0 (FwText p0 p1))) (FwgenSplitn0 (FwText p0 p1))) (FwtakeF_1 (FwText_1 p0 p1) (FwText_2 p0 p1) 1073741824) (FwText_1 p0 p1)))

noncomputable def FwNames_2 (p0 : List Int) (p1 : Bool) : Bool :=
  (sel (strEq (FwText p0 p1) (⟨#[]⟩ : ByteArray)) (FwText_2 p0 p1) (sel (Nat.blt (fstB (FwNamess0 p0 p1) (FwgenSplitn0 (FwText p0 p1))) (FwgenSplitn0 (FwText p0 p1))) (FwtakeF_2 (FwText_1 p0 p1) (FwText_2 p0 p1) 1073741824) (FwText_2 p0 p1)))

noncomputable def SwNames : List AV → List Blk → Option (Prop × Ret)
  | [.sc (.p 0 0)], [.cells [.ro .u8 p0, .b p1]] => some (True, ⟨.sc (.ros (FwNames p0 p1)), [some (.cells [.ro .u8 (FwNames_1 p0 p1), .b (FwNames_2 p0 p1)])]⟩)
  | _, _ => none

noncomputable def BwNames : Bs := { P := Go.Proofs.Tryd.prog, G := noG, tab := tabOf [⟨18, 48, [.io], [], [0], ⟨1, 0, SwText⟩⟩, ⟨43, 320, [.io, .val], [], [0], ⟨1, 0, SwtakeF⟩⟩, ⟨44, 128, [.val, .val], [], [], ⟨0, 1, SwSplit⟩⟩], n := 25 }

theorem BwNames.ok : BwNames.Ok := ⟨tabOk (P := Go.Proofs.Tryd.prog) (G := noG) (l := [⟨18, 48, [.io], [], [0], ⟨1, 0, SwText⟩⟩, ⟨43, 320, [.io, .val], [], [0], ⟨1, 0, SwtakeF⟩⟩, ⟨44, 128, [.val, .val], [], [], ⟨0, 1, SwSplit⟩⟩]) (And.intro KwText (And.intro KwtakeF (And.intro KwSplit True.intro))), mixed⟩

theorem KwNames : Known Go.Proofs.Tryd.prog noG 21 ⟨1, 0, SwNames⟩ := by
  refine Known.walk (B := BwNames) (fn := Go.Proofs.Tryd.f21) BwNames.ok (by kernel_rfl) rfl (by kernel_rfl) (by kernel_rfl) (by decide) (by decide) ?_
  · intro E args ks C r h hC hlen
    simp only at h
    unfold SwNames at h
    split at h
    rotate_left
    · cases h
    rename_i p0 p1
    cases h
    simp only [lens] at hlen
    have hs := size_FwText p0 p1
    have hn := n_FwSplit (FwText p0 p1)
    have hm := len_FwSplit (FwText p0 p1)
    have hm1 := le_FwCount (FwText p0 p1)
    refine ⟨show 1 ≤ 25 from by decide, ?_⟩
    refine Tri.sub (Sub.of_eq (show _ = ([(0, .sc (.p 0 0))], [(0, .cells [.ro .u8 p0, .b p1])]) from rfl)) ?_
    refine Tri.seq_region [] none [0] [0] ((True ∧ True) ∧ True)
        ([(0, .sc (.p 0 0))], [(0, .cells [.ro .u8 p0, .b p1])])
        32 (by kernel_rfl) rfl (by kernel_rfl) (⟨⟨trivial, trivial⟩, trivial⟩) ?_
    refine Tri.seq_region [] none [3, 0] [0] ((True ∧ True) ∧ (((True ∧ True) ∧ True) ∧ ((True ∧ True) ∧ True)))
        ([(3, .sc (.s (FwText p0 p1))), (0, .sc (.p 0 0))], [(0, .cells [.ro .u8 (FwText_1 p0 p1), .b (FwText_2 p0 p1)])])
        80 (by kernel_rfl) rfl (by kernel_rfl) (⟨⟨trivial, trivial⟩, ⟨⟨⟨trivial, trivial⟩, trivial⟩, ⟨⟨trivial, trivial⟩, trivial⟩⟩⟩) ?_
    refine Tri.seq ?_
    refine Tri.seq_region [] none [10, 3, 0] [0] ((True ∧ True) ∧ ((True ∧ True) ∧ True))
        ([(10, .sc (.b (strEq (FwText p0 p1) (⟨#[]⟩ : ByteArray)))), (3, .sc (.s (FwText p0 p1))), (0, .sc (.p 0 0))], [(0, .cells [.ro .u8 (FwText_1 p0 p1), .b (FwText_2 p0 p1)])])
        112 (by kernel_rfl) rfl (by kernel_rfl) (⟨⟨trivial, trivial⟩, ⟨⟨trivial, trivial⟩, trivial⟩⟩) ?_
    refine Tri.cond (x := (strEq (FwText p0 p1) (⟨#[]⟩ : ByteArray))) (by kernel_rfl) (fun h1 => ?_) (fun h1 => ?_)
    ·
      refine Tri.seq_region [] none [2] [0] ((True ∧ True) ∧ True)
          ([(2, .sc (.nils))], [(0, .cells [.ro .u8 (FwText_1 p0 p1), .b (FwText_2 p0 p1)])])
          128 (by kernel_rfl) rfl (by kernel_rfl) (⟨⟨trivial, trivial⟩, trivial⟩) ?_
      refine Tri.sub (Sub.nilRos 2 (by kernel_rfl)) ?_
      refine Tri.ret ?_
      repeat (first | refine thenP_ret ?_ | refine blkP_ret ?_ | refine countP_ret ?_ | refine joinP_ret ?_ | refine iterP_ret ?_)
      refine endP.conv (r' := ⟨.sc (.ros []), [some (.cells [.ro .u8 (FwText_1 p0 p1), .b (FwText_2 p0 p1)])]⟩) (by simp only [FwNames, FwNames_1, FwNames_2, h1, sel_true, sel_false]) ?_
      exact endP.ret [(0, 0)] (True ∧ True) (by kernel_rfl) (by kernel_rfl) ⟨trivial, trivial⟩
    ·
      refine Tri.skip ?_
      change Tri _ _ _ _ _ _
      refine Tri.seq_region [] none [4, 0] [128, 0] ((True ∧ True) ∧ (((True ∧ (((⟨#[44]⟩ : ByteArray) = (⟨#[44]⟩ : ByteArray)) ∧ ((FwText p0 p1).size ≤ 1000000000))) ∧ True) ∧ ((True ∧ True) ∧ True)))
          ([(4, .sc (.sl 128 0 (FwgenSplitn0 (FwText p0 p1)) 1 none)), (0, .sc (.p 0 0))], [(128, .vec .str (FwSplit (FwText p0 p1))), (0, .cells [.ro .u8 (FwText_1 p0 p1), .b (FwText_2 p0 p1)])])
          160 (by kernel_rfl) rfl (by kernel_rfl) (⟨⟨trivial, trivial⟩, ⟨⟨⟨trivial, ⟨(rfl), (by first | omega | (rw [adr_eq]; omega) | exact iAnd_nn _ _ | exact iSub_nn _ _ | exact part1_le (by omega) (by first | omega | (simp only [List.length_append]; omega)) | decide)⟩⟩, trivial⟩, ⟨⟨trivial, trivial⟩, trivial⟩⟩⟩) ?_
      refine Tri.seq ?_
      refine Tri.seq_region [] none [15, 14, 13, 4, 0] [128, 0] ((True ∧ True) ∧ ((True ∧ True) ∧ ((True ∧ True) ∧ True)))
          ([(15, .sc (.i .i64 0)), (14, .sc (.i .i64 (((FwgenSplitn0 (FwText p0 p1)) : Nat) : Int))), (13, .sc (.sl 128 0 (FwgenSplitn0 (FwText p0 p1)) 1 none)), (4, .sc (.sl 128 0 (FwgenSplitn0 (FwText p0 p1)) 1 none)), (0, .sc (.p 0 0))], [(128, .vec .str (FwSplit (FwText p0 p1))), (0, .cells [.ro .u8 (FwText_1 p0 p1), .b (FwText_2 p0 p1)])])
          208 (by kernel_rfl) rfl (by kernel_rfl) (⟨⟨trivial, trivial⟩, ⟨⟨trivial, trivial⟩, ⟨⟨trivial, trivial⟩, trivial⟩⟩⟩) ?_
      refine Tri.block ?_
      refine Tri.count 208 (FwgenSplitn0 (FwText p0 p1)) (FwNamesl0) (()) (fun k0 z0 => (∀ j, j < k0 → (FwNamess0 p0 p1) j = false)) (fun k0 z0 => ([(15, .sc (.i .i64 ((k0 : Nat) : Int))), (14, .sc (.i .i64 (((FwgenSplitn0 (FwText p0 p1)) : Nat) : Int))), (13, .sc (.sl 128 0 (FwgenSplitn0 (FwText p0 p1)) 1 none)), (4, .sc (.sl 128 0 (FwgenSplitn0 (FwText p0 p1)) 1 none)), (0, .sc (.p 0 0))], [(128, .vec .str (FwSplit (FwText p0 p1))), (0, .cells [.ro .u8 (FwText_1 p0 p1), .b (FwText_2 p0 p1)])])) (fun j hj => absurd hj (Nat.not_lt_zero j)) (Sub.of_eq (by kernel_rfl)) ?_
      intro k0 z0 hk0 hz0 hJ0
      refine Tri.seq_region [] none [16, 15, 14, 13, 4, 0] [128, 0] ((True ∧ True) ∧ True)
          ([(16, .sc (.b (decide ((((k0 : Nat) : Int) : Int) < (((FwgenSplitn0 (FwText p0 p1)) : Nat) : Int))))), (15, .sc (.i .i64 ((k0 : Nat) : Int))), (14, .sc (.i .i64 (((FwgenSplitn0 (FwText p0 p1)) : Nat) : Int))), (13, .sc (.sl 128 0 (FwgenSplitn0 (FwText p0 p1)) 1 none)), (4, .sc (.sl 128 0 (FwgenSplitn0 (FwText p0 p1)) 1 none)), (0, .sc (.p 0 0))], [(128, .vec .str (FwSplit (FwText p0 p1))), (0, .cells [.ro .u8 (FwText_1 p0 p1), .b (FwText_2 p0 p1)])])
          224 (by kernel_rfl) rfl (by kernel_rfl) (⟨⟨trivial, trivial⟩, trivial⟩) ?_
      refine Tri.seq ?_
      refine Tri.cond (x := (decide ((((k0 : Nat) : Int) : Int) < (((FwgenSplitn0 (FwText p0 p1)) : Nat) : Int)))) (by kernel_rfl) (fun h2 => ?_) (fun h2 => ?_)
      ·
        have h2' := of_decide_eq_true h2
        refine Tri.skip ?_
        change Tri _ _ _ _ _ _
        refine Tri.seq ?_
        refine Tri.block ?_
        refine Tri.seq_region [] none [6, 15, 14, 13, 4, 0] [128, 0] ((((0 : Int) ≤ ((k0 : Nat) : Int) ∧ ((k0 : Nat) : Int) < (((FwgenSplitn0 (FwText p0 p1)) : Nat) : Int)) ∧ True) ∧ (((k0 < (FwSplit (FwText p0 p1)).length) ∧ True) ∧ ((True ∧ True) ∧ True)))
            ([(6, .sc (.s ((FwSplit (FwText p0 p1)).getD k0 (⟨#[]⟩ : ByteArray)))), (15, .sc (.i .i64 ((k0 : Nat) : Int))), (14, .sc (.i .i64 (((FwgenSplitn0 (FwText p0 p1)) : Nat) : Int))), (13, .sc (.sl 128 0 (FwgenSplitn0 (FwText p0 p1)) 1 none)), (4, .sc (.sl 128 0 (FwgenSplitn0 (FwText p0 p1)) 1 none)), (0, .sc (.p 0 0))], [(128, .vec .str (FwSplit (FwText p0 p1))), (0, .cells [.ro .u8 (FwText_1 p0 p1), .b (FwText_2 p0 p1)])])
            272 (by kernel_rfl) rfl (by kernel_rfl) (⟨⟨(by first | omega | (rw [adr_eq]; omega) | exact iAnd_nn _ _ | exact iSub_nn _ _ | exact part1_le (by omega) (by first | omega | (simp only [List.length_append]; omega)) | decide), trivial⟩, ⟨⟨(by first | omega | (rw [adr_eq]; omega) | exact iAnd_nn _ _ | exact iSub_nn _ _ | exact part1_le (by omega) (by first | omega | (simp only [List.length_append]; omega)) | decide), trivial⟩, ⟨⟨trivial, trivial⟩, trivial⟩⟩⟩) ?_
        refine Tri.seq_region [] none [20, 15, 14, 13, 4, 0] [128, 0] ((True ∧ True) ∧ ((True ∧ True) ∧ True))
            ([(20, .sc (.b (strEq ((FwSplit (FwText p0 p1)).getD k0 (⟨#[]⟩ : ByteArray)) (⟨#[]⟩ : ByteArray)))), (15, .sc (.i .i64 ((k0 : Nat) : Int))), (14, .sc (.i .i64 (((FwgenSplitn0 (FwText p0 p1)) : Nat) : Int))), (13, .sc (.sl 128 0 (FwgenSplitn0 (FwText p0 p1)) 1 none)), (4, .sc (.sl 128 0 (FwgenSplitn0 (FwText p0 p1)) 1 none)), (0, .sc (.p 0 0))], [(128, .vec .str (FwSplit (FwText p0 p1))), (0, .cells [.ro .u8 (FwText_1 p0 p1), .b (FwText_2 p0 p1)])])
            304 (by kernel_rfl) rfl (by kernel_rfl) (⟨⟨trivial, trivial⟩, ⟨⟨trivial, trivial⟩, trivial⟩⟩) ?_
        refine Tri.cond (x := (strEq ((FwSplit (FwText p0 p1)).getD k0 (⟨#[]⟩ : ByteArray)) (⟨#[]⟩ : ByteArray))) (by kernel_rfl) (fun h3 => ?_) (fun h3 => ?_)
        ·
          refine Tri.seq_region [] none [] [0] ((True ∧ True) ∧ (((True ∧ ((0 : Int) ≤ 1073741824)) ∧ True) ∧ True))
              ([], [(0, .cells [.ro .u8 (FwtakeF_1 (FwText_1 p0 p1) (FwText_2 p0 p1) 1073741824), .b (FwtakeF_2 (FwText_1 p0 p1) (FwText_2 p0 p1) 1073741824)])])
              336 (by kernel_rfl) rfl (by kernel_rfl) (⟨⟨trivial, trivial⟩, ⟨⟨⟨trivial, (by first | omega | (rw [adr_eq]; omega) | exact iAnd_nn _ _ | exact iSub_nn _ _ | exact part1_le (by omega) (by first | omega | (simp only [List.length_append]; omega)) | decide)⟩, trivial⟩, trivial⟩⟩) ?_
          refine Tri.seq_region [] none [2] [0] ((True ∧ True) ∧ True)
              ([(2, .sc (.nils))], [(0, .cells [.ro .u8 (FwtakeF_1 (FwText_1 p0 p1) (FwText_2 p0 p1) 1073741824), .b (FwtakeF_2 (FwText_1 p0 p1) (FwText_2 p0 p1) 1073741824)])])
              352 (by kernel_rfl) rfl (by kernel_rfl) (⟨⟨trivial, trivial⟩, trivial⟩) ?_
          refine Tri.sub (Sub.nilRos 2 (by kernel_rfl)) ?_
          refine Tri.ret ?_
          subst hz0
          have hf0 : fstB (FwNamess0 p0 p1) (FwgenSplitn0 (FwText p0 p1)) = k0 := fst_found (by omega) hJ0 (by simp only [FwNamess0, h1, h2, h3, sel_true, sel_false])
          have hb0 : Nat.blt k0 (FwgenSplitn0 (FwText p0 p1)) = true := blt_true (by omega)
          have hq0 : Nat.blt (fstB (FwNamess0 p0 p1) (FwgenSplitn0 (FwText p0 p1))) (FwgenSplitn0 (FwText p0 p1)) = true := by rw [hf0]; exact hb0
          repeat (first | refine thenP_ret ?_ | refine blkP_ret ?_ | refine countP_ret ?_ | refine joinP_ret ?_ | refine iterP_ret ?_)
          refine endP.conv (r' := ⟨.sc (.ros []), [some (.cells [.ro .u8 (FwtakeF_1 (FwText_1 p0 p1) (FwText_2 p0 p1) 1073741824), .b (FwtakeF_2 (FwText_1 p0 p1) (FwText_2 p0 p1) 1073741824)])]⟩) (by simp only [FwNames, FwNames_1, FwNames_2, h1, hq0, hf0, hb0, sel_true, sel_false]) ?_
          exact endP.ret [(0, 0)] (True ∧ True) (by kernel_rfl) (by kernel_rfl) ⟨trivial, trivial⟩
        ·
          refine Tri.skip ?_
          change Tri _ _ _ _ _ _
          refine Tri.region' [(23, qi ((k0 + 1 : Nat) : Int))] none [15, 14, 13, 4, 0] [128, 0] ((True ∧ ((iAdd .i64 ((k0 : Nat) : Int) 1) = ((k0 + 1 : Nat) : Int))) ∧ ((True ∧ True) ∧ True))
              ([(15, .sc (.i .i64 ((k0 + 1 : Nat) : Int))), (14, .sc (.i .i64 (((FwgenSplitn0 (FwText p0 p1)) : Nat) : Int))), (13, .sc (.sl 128 0 (FwgenSplitn0 (FwText p0 p1)) 1 none)), (4, .sc (.sl 128 0 (FwgenSplitn0 (FwText p0 p1)) 1 none)), (0, .sc (.p 0 0))], [(128, .vec .str (FwSplit (FwText p0 p1))), (0, .cells [.ro .u8 (FwText_1 p0 p1), .b (FwText_2 p0 p1)])])
              336 (by kernel_rfl) rfl (by kernel_rfl) (⟨⟨trivial, (iAdd_nat (a := k0) (b := 1) (by omega))⟩, ⟨⟨trivial, trivial⟩, trivial⟩⟩) ?_
          repeat (refine blkP_normal ?_)
          refine countP_normal (by omega) (below_succ hJ0 (by subst hz0; simp only [FwNamess0, h1, h2, h3, sel_true, sel_false])) ?_
          exact Sub.ren (ns := [(128, 128), (0, 0)]) (kf := [15, 14, 13, 4, 0]) (by kernel_rfl) (by kernel_rfl)
      ·
        have h2' := of_decide_eq_false h2
        refine Tri.exit ?_
        have hend0 : k0 = (FwgenSplitn0 (FwText p0 p1)) := by (have := of_decide_eq_false h2; omega)
        subst hend0; subst hz0
        have hf0 : fstB (FwNamess0 p0 p1) (FwgenSplitn0 (FwText p0 p1)) = (FwgenSplitn0 (FwText p0 p1)) := fst_none hJ0
        have hb0 : Nat.blt (FwgenSplitn0 (FwText p0 p1)) (FwgenSplitn0 (FwText p0 p1)) = false := blt_self _
        have hq0 : Nat.blt (fstB (FwNamess0 p0 p1) (FwgenSplitn0 (FwText p0 p1))) (FwgenSplitn0 (FwText p0 p1)) = false := by rw [hf0]; exact hb0
        change Tri _ _ _ _ _ _
        refine Tri.seq_region [] none [2] [128, 0] ((True ∧ True) ∧ ((True ∧ True) ∧ True))
            ([(2, .sc (.sl 128 0 (FwgenSplitn0 (FwText p0 p1)) 1 none))], [(128, .vec .str (FwSplit (FwText p0 p1))), (0, .cells [.ro .u8 (FwText_1 p0 p1), .b (FwText_2 p0 p1)])])
            256 (by kernel_rfl) rfl (by kernel_rfl) (⟨⟨trivial, trivial⟩, ⟨⟨trivial, trivial⟩, trivial⟩⟩) ?_
        refine Tri.sub (Sub.still (s' := ([(2, .sc (.ros (partV (FwSplit (FwText p0 p1)) 0 (FwgenSplitn0 (FwText p0 p1)))))], [(0, .cells [.ro .u8 (FwText_1 p0 p1), .b (FwText_2 p0 p1)])])) 128 (.vec .str (FwSplit (FwText p0 p1))) (by kernel_rfl) (show 0 + (FwgenSplitn0 (FwText p0 p1)) ≤ (FwSplit (FwText p0 p1)).length from by first | omega | (rw [adr_eq]; omega) | exact iAnd_nn _ _ | exact iSub_nn _ _ | exact part1_le (by omega) (by first | omega | (simp only [List.length_append]; omega)) | decide) (by kernel_rfl)) ?_
        refine Tri.ret ?_
        repeat (first | refine thenP_ret ?_ | refine blkP_ret ?_ | refine countP_ret ?_ | refine joinP_ret ?_ | refine iterP_ret ?_)
        refine endP.conv (r' := ⟨.sc (.ros (partV (FwSplit (FwText p0 p1)) 0 (FwgenSplitn0 (FwText p0 p1)))), [some (.cells [.ro .u8 (FwText_1 p0 p1), .b (FwText_2 p0 p1)])]⟩) (by simp only [FwNames, FwNames_1, FwNames_2, h1, hq0, hf0, hb0, sel_true, sel_false]) ?_
        exact endP.ret [(0, 0)] (True ∧ True) (by kernel_rfl) (by kernel_rfl) ⟨trivial, trivial⟩

theorem len_FwNames (p0 : List Int) (p1 : Bool) : (FwNames p0 p1).length ≤ 16385 := by
  have h0 := size_FwText p0 p1
  have h1 := len_FwSplit (FwText p0 p1)
  unfold FwNames
  exact len_sel (Nat.zero_le _) (len_sel (Nat.zero_le _) (by rw [partV_eq, List.length_take, List.length_drop]; omega))


noncomputable def FwcTake (p0 : List Int) (p1 : Int) (p2 : Bool) (p3 : Int) : List Int :=
  (sel p2 ([] : List Int) (sel (decide ((p3 : Int) < 0)) ([] : List Int) (sel (decide ((p3 : Int) > (iSub .i64 ((p0.length : Nat) : Int) p1))) ([] : List Int) ((p0.drop (((iSub .i64 (iAdd .i64 p1 p3) p3)).toNat)).take ((((iAdd .i64 p1 p3)).toNat) - (((iSub .i64 (iAdd .i64 p1 p3) p3)).toNat))))))

noncomputable def FwcTake_1 (p0 : List Int) (p1 : Int) (p2 : Bool) (p3 : Int) : Int :=
  (sel p2 p1 (sel (decide ((p3 : Int) < 0)) p1 (sel (decide ((p3 : Int) > (iSub .i64 ((p0.length : Nat) : Int) p1))) p1 (iAdd .i64 p1 p3))))

noncomputable def FwcTake_2 (p0 : List Int) (p1 : Int) (p2 : Bool) (p3 : Int) : Bool :=
  (sel p2 true (sel (decide ((p3 : Int) < 0)) true (sel (decide ((p3 : Int) > (iSub .i64 ((p0.length : Nat) : Int) p1))) true p2)))

noncomputable def SwcTake : List AV → List Blk → Option (Prop × Ret)
  | [.sc (.p 0 0), .sc (.i .i64 p3)], [.cells [.ro .u8 p0, .i .i64 p1, .b p2]] => some ((p0.length ≤ 1000000000 ∧ (0 : Int) ≤ p1 ∧ p1 ≤ (p0.length : Int)), ⟨.sc (.ro .u8 (FwcTake p0 p1 p2 p3)), [some (.cells [.ro .u8 p0, .i .i64 (FwcTake_1 p0 p1 p2 p3), .b (FwcTake_2 p0 p1 p2 p3)])]⟩)
  | _, _ => none

noncomputable def BwcTake : Bs := { P := Go.Proofs.Tryd.prog, G := noG, tab := tabOf [], n := 53 }

theorem BwcTake.ok : BwcTake.Ok := ⟨tabOk (P := Go.Proofs.Tryd.prog) (G := noG) (l := []) True.intro, mixed⟩

theorem KwcTake : Known Go.Proofs.Tryd.prog noG 26 ⟨1, 0, SwcTake⟩ := by
  refine Known.walk (B := BwcTake) (fn := Go.Proofs.Tryd.f26) BwcTake.ok (by kernel_rfl) rfl (by kernel_rfl) (by kernel_rfl) (by decide) (by decide) ?_
  · intro E args ks C r h hC hlen
    simp only at h
    unfold SwcTake at h
    split at h
    rotate_left
    · cases h
    rename_i p3 p0 p1 p2
    cases h
    simp only [lens] at hlen
    refine ⟨show 2 ≤ 53 from by decide, ?_⟩
    refine Tri.sub (Sub.of_eq (show _ = ([(0, .sc (.p 0 0)), (1, .sc (.i .i64 p3))], [(0, .cells [.ro .u8 p0, .i .i64 p1, .b p2])]) from rfl)) ?_
    refine Tri.seq_region [] none [0, 1] [0] ((True ∧ True) ∧ True)
        ([(0, .sc (.p 0 0)), (1, .sc (.i .i64 p3))], [(0, .cells [.ro .u8 p0, .i .i64 p1, .b p2])])
        32 (by kernel_rfl) rfl (by kernel_rfl) (⟨⟨trivial, trivial⟩, trivial⟩) ?_
    refine Tri.seq ?_
    refine Tri.split p2 (fun h1 => ?_) (fun h1 => ?_)
    ·
      refine Tri.seq_region [(9, qb true)] (some [0, 1, 3, 7, 15, 31, 63, 127, 255, 511, 511, 1535, 3583, 7679, 15871, 511, 33279, 98815, 229887, 523775, 1048575, 2097151]) [26, 0, 1] [0] ((True ∧ True) ∧ ((True ∧ True) ∧ ((True ∧ True) ∧ (((2 < 3) ∧ True) ∧ ((True ∧ (p2 = true)) ∧ ((True ∧ True) ∧ ((True ∧ True) ∧ ((True ∧ True) ∧ ((True ∧ True) ∧ ((True ∧ True) ∧ ((True ∧ True) ∧ ((True ∧ True) ∧ ((True ∧ True) ∧ ((True ∧ True) ∧ ((True ∧ True) ∧ ((True ∧ True) ∧ ((True ∧ True) ∧ ((True ∧ True) ∧ ((True ∧ True) ∧ ((True ∧ True) ∧ ((True ∧ True) ∧ ((True ∧ True) ∧ True))))))))))))))))))))))
          ([(26, .sc (.b true)), (0, .sc (.p 0 0)), (1, .sc (.i .i64 p3))], [(0, .cells [.ro .u8 p0, .i .i64 p1, .b p2])])
          384 (by kernel_rfl) rfl (by kernel_rfl) (⟨⟨trivial, trivial⟩, ⟨⟨trivial, trivial⟩, ⟨⟨trivial, trivial⟩, ⟨⟨(by first | omega | (have a1 : iSub .i64 ((p0.length : Nat) : Int) p1 = (p0.length : Int) - p1 := iSub_i64 (by omega) (by omega); have a2 : iAdd .i64 p1 p3 = p1 + p3 := iAdd_i64 (by omega) (by omega); have a3 : iSub .i64 (iAdd .i64 p1 p3) p3 = iAdd .i64 p1 p3 - p3 := iSub_i64 (by omega) (by omega); omega)), trivial⟩, ⟨⟨trivial, (h1)⟩, ⟨⟨trivial, trivial⟩, ⟨⟨trivial, trivial⟩, ⟨⟨trivial, trivial⟩, ⟨⟨trivial, trivial⟩, ⟨⟨trivial, trivial⟩, ⟨⟨trivial, trivial⟩, ⟨⟨trivial, trivial⟩, ⟨⟨trivial, trivial⟩, ⟨⟨trivial, trivial⟩, ⟨⟨trivial, trivial⟩, ⟨⟨trivial, trivial⟩, ⟨⟨trivial, trivial⟩, ⟨⟨trivial, trivial⟩, ⟨⟨trivial, trivial⟩, ⟨⟨trivial, trivial⟩, ⟨⟨trivial, trivial⟩, ⟨⟨trivial, trivial⟩, trivial⟩⟩⟩⟩⟩⟩⟩⟩⟩⟩⟩⟩⟩⟩⟩⟩⟩⟩⟩⟩⟩⟩) ?_
      refine Tri.cond_true (by kernel_rfl) ?_
      refine Tri.seq_region [] none [] [0] ((True ∧ True) ∧ ((True ∧ True) ∧ ((True ∧ True) ∧ ((((2 < 3) ∧ (1 = 1)) ∧ True) ∧ True))))
          ([], [(0, .cells [.ro .u8 p0, .i .i64 p1, .b true])])
          448 (by kernel_rfl) rfl (by kernel_rfl) (⟨⟨trivial, trivial⟩, ⟨⟨trivial, trivial⟩, ⟨⟨trivial, trivial⟩, ⟨⟨⟨(by first | omega | (have a1 : iSub .i64 ((p0.length : Nat) : Int) p1 = (p0.length : Int) - p1 := iSub_i64 (by omega) (by omega); have a2 : iAdd .i64 p1 p3 = p1 + p3 := iAdd_i64 (by omega) (by omega); have a3 : iSub .i64 (iAdd .i64 p1 p3) p3 = iAdd .i64 p1 p3 - p3 := iSub_i64 (by omega) (by omega); omega)), (rfl)⟩, trivial⟩, trivial⟩⟩⟩⟩) ?_
      refine Tri.seq_region [] none [4] [0] ((True ∧ True) ∧ True)
          ([(4, .sc (.nils))], [(0, .cells [.ro .u8 p0, .i .i64 p1, .b true])])
          464 (by kernel_rfl) rfl (by kernel_rfl) (⟨⟨trivial, trivial⟩, trivial⟩) ?_
      refine Tri.sub (Sub.nilRo 4 .u8 (by kernel_rfl)) ?_
      refine Tri.ret ?_
      repeat (first | refine thenP_ret ?_ | refine blkP_ret ?_ | refine countP_ret ?_ | refine joinP_ret ?_ | refine iterP_ret ?_)
      refine endP.conv (r' := ⟨.sc (.ro .u8 ([] : List Int)), [some (.cells [.ro .u8 p0, .i .i64 p1, .b true])]⟩) (by simp only [FwcTake, FwcTake_1, FwcTake_2, h1, sel_true, sel_false]) ?_
      exact endP.ret [(0, 0)] (True ∧ True) (by kernel_rfl) (by kernel_rfl) ⟨trivial, trivial⟩
    ·
      refine Tri.split (decide ((p3 : Int) < 0)) (fun h2 => ?_) (fun h2 => ?_)
      ·
        have h2' := of_decide_eq_true h2
        refine Tri.seq_region [(9, qb false), (13, qb true)] (some [0, 1, 3, 7, 15, 31, 63, 127, 255, 511, 511, 1535, 3583, 7679, 15871, 511, 33279, 98815, 229887, 523775, 1048575, 2097151]) [26, 0, 1] [0] ((True ∧ True) ∧ ((True ∧ True) ∧ ((True ∧ True) ∧ (((2 < 3) ∧ True) ∧ ((True ∧ (p2 = false)) ∧ ((True ∧ True) ∧ ((True ∧ True) ∧ ((True ∧ True) ∧ ((True ∧ ((decide ((p3 : Int) < 0)) = true)) ∧ ((True ∧ True) ∧ ((True ∧ True) ∧ ((True ∧ True) ∧ ((True ∧ True) ∧ ((True ∧ True) ∧ ((True ∧ True) ∧ ((True ∧ True) ∧ ((True ∧ True) ∧ ((True ∧ True) ∧ ((True ∧ True) ∧ ((True ∧ True) ∧ ((True ∧ True) ∧ ((True ∧ True) ∧ True))))))))))))))))))))))
            ([(26, .sc (.b true)), (0, .sc (.p 0 0)), (1, .sc (.i .i64 p3))], [(0, .cells [.ro .u8 p0, .i .i64 p1, .b p2])])
            384 (by kernel_rfl) rfl (by kernel_rfl) (⟨⟨trivial, trivial⟩, ⟨⟨trivial, trivial⟩, ⟨⟨trivial, trivial⟩, ⟨⟨(by first | omega | (have a1 : iSub .i64 ((p0.length : Nat) : Int) p1 = (p0.length : Int) - p1 := iSub_i64 (by omega) (by omega); have a2 : iAdd .i64 p1 p3 = p1 + p3 := iAdd_i64 (by omega) (by omega); have a3 : iSub .i64 (iAdd .i64 p1 p3) p3 = iAdd .i64 p1 p3 - p3 := iSub_i64 (by omega) (by omega); omega)), trivial⟩, ⟨⟨trivial, (h1)⟩, ⟨⟨trivial, trivial⟩, ⟨⟨trivial, trivial⟩, ⟨⟨trivial, trivial⟩, ⟨⟨trivial, (h2)⟩, ⟨⟨trivial, trivial⟩, ⟨⟨trivial, trivial⟩, ⟨⟨trivial, trivial⟩, ⟨⟨trivial, trivial⟩, ⟨⟨trivial, trivial⟩, ⟨⟨trivial, trivial⟩, ⟨⟨trivial, trivial⟩, ⟨⟨trivial, trivial⟩, ⟨⟨trivial, trivial⟩, ⟨⟨trivial, trivial⟩, ⟨⟨trivial, trivial⟩, ⟨⟨trivial, trivial⟩, ⟨⟨trivial, trivial⟩, trivial⟩⟩⟩⟩⟩⟩⟩⟩⟩⟩⟩⟩⟩⟩⟩⟩⟩⟩⟩⟩⟩⟩) ?_
        refine Tri.cond_true (by kernel_rfl) ?_
        refine Tri.seq_region [] none [] [0] ((True ∧ True) ∧ ((True ∧ True) ∧ ((True ∧ True) ∧ ((((2 < 3) ∧ (1 = 1)) ∧ True) ∧ True))))
            ([], [(0, .cells [.ro .u8 p0, .i .i64 p1, .b true])])
            448 (by kernel_rfl) rfl (by kernel_rfl) (⟨⟨trivial, trivial⟩, ⟨⟨trivial, trivial⟩, ⟨⟨trivial, trivial⟩, ⟨⟨⟨(by first | omega | (have a1 : iSub .i64 ((p0.length : Nat) : Int) p1 = (p0.length : Int) - p1 := iSub_i64 (by omega) (by omega); have a2 : iAdd .i64 p1 p3 = p1 + p3 := iAdd_i64 (by omega) (by omega); have a3 : iSub .i64 (iAdd .i64 p1 p3) p3 = iAdd .i64 p1 p3 - p3 := iSub_i64 (by omega) (by omega); omega)), (rfl)⟩, trivial⟩, trivial⟩⟩⟩⟩) ?_
        refine Tri.seq_region [] none [4] [0] ((True ∧ True) ∧ True)
            ([(4, .sc (.nils))], [(0, .cells [.ro .u8 p0, .i .i64 p1, .b true])])
            464 (by kernel_rfl) rfl (by kernel_rfl) (⟨⟨trivial, trivial⟩, trivial⟩) ?_
        refine Tri.sub (Sub.nilRo 4 .u8 (by kernel_rfl)) ?_
        refine Tri.ret ?_
        repeat (first | refine thenP_ret ?_ | refine blkP_ret ?_ | refine countP_ret ?_ | refine joinP_ret ?_ | refine iterP_ret ?_)
        refine endP.conv (r' := ⟨.sc (.ro .u8 ([] : List Int)), [some (.cells [.ro .u8 p0, .i .i64 p1, .b true])]⟩) (by simp only [FwcTake, FwcTake_1, FwcTake_2, h1, h2, sel_true, sel_false]) ?_
        exact endP.ret [(0, 0)] (True ∧ True) (by kernel_rfl) (by kernel_rfl) ⟨trivial, trivial⟩
      ·
        have h2' := of_decide_eq_false h2
        refine Tri.seq_region [(9, qb false), (13, qb false)] (some [0, 1, 3, 7, 15, 31, 63, 127, 255, 511, 511, 1535, 3583, 7679, 15871, 511, 33279, 98815, 229887, 523775, 1048575, 2097151]) [26, 0, 1] [0] ((True ∧ True) ∧ ((True ∧ True) ∧ ((True ∧ True) ∧ (((2 < 3) ∧ True) ∧ ((True ∧ (p2 = false)) ∧ ((True ∧ True) ∧ ((True ∧ True) ∧ ((True ∧ True) ∧ ((True ∧ ((decide ((p3 : Int) < 0)) = false)) ∧ ((True ∧ True) ∧ ((True ∧ True) ∧ ((True ∧ True) ∧ ((True ∧ True) ∧ (((0 < 3) ∧ True) ∧ ((True ∧ True) ∧ ((True ∧ True) ∧ ((True ∧ True) ∧ ((True ∧ True) ∧ (((1 < 3) ∧ True) ∧ ((True ∧ True) ∧ ((True ∧ True) ∧ ((True ∧ True) ∧ True))))))))))))))))))))))
            ([(26, .sc (.b (decide ((p3 : Int) > (iSub .i64 ((p0.length : Nat) : Int) p1))))), (0, .sc (.p 0 0)), (1, .sc (.i .i64 p3))], [(0, .cells [.ro .u8 p0, .i .i64 p1, .b p2])])
            384 (by kernel_rfl) rfl (by kernel_rfl) (⟨⟨trivial, trivial⟩, ⟨⟨trivial, trivial⟩, ⟨⟨trivial, trivial⟩, ⟨⟨(by first | omega | (have a1 : iSub .i64 ((p0.length : Nat) : Int) p1 = (p0.length : Int) - p1 := iSub_i64 (by omega) (by omega); have a2 : iAdd .i64 p1 p3 = p1 + p3 := iAdd_i64 (by omega) (by omega); have a3 : iSub .i64 (iAdd .i64 p1 p3) p3 = iAdd .i64 p1 p3 - p3 := iSub_i64 (by omega) (by omega); omega)), trivial⟩, ⟨⟨trivial, (h1)⟩, ⟨⟨trivial, trivial⟩, ⟨⟨trivial, trivial⟩, ⟨⟨trivial, trivial⟩, ⟨⟨trivial, (h2)⟩, ⟨⟨trivial, trivial⟩, ⟨⟨trivial, trivial⟩, ⟨⟨trivial, trivial⟩, ⟨⟨trivial, trivial⟩, ⟨⟨(by first | omega | (have a1 : iSub .i64 ((p0.length : Nat) : Int) p1 = (p0.length : Int) - p1 := iSub_i64 (by omega) (by omega); have a2 : iAdd .i64 p1 p3 = p1 + p3 := iAdd_i64 (by omega) (by omega); have a3 : iSub .i64 (iAdd .i64 p1 p3) p3 = iAdd .i64 p1 p3 - p3 := iSub_i64 (by omega) (by omega); omega)), trivial⟩, ⟨⟨trivial, trivial⟩, ⟨⟨trivial, trivial⟩, ⟨⟨trivial, trivial⟩, ⟨⟨trivial, trivial⟩, ⟨⟨(by first | omega | (have a1 : iSub .i64 ((p0.length : Nat) : Int) p1 = (p0.length : Int) - p1 := iSub_i64 (by omega) (by omega); have a2 : iAdd .i64 p1 p3 = p1 + p3 := iAdd_i64 (by omega) (by omega); have a3 : iSub .i64 (iAdd .i64 p1 p3) p3 = iAdd .i64 p1 p3 - p3 := iSub_i64 (by omega) (by omega); omega)), trivial⟩, ⟨⟨trivial, trivial⟩, ⟨⟨trivial, trivial⟩, ⟨⟨trivial, trivial⟩, trivial⟩⟩⟩⟩⟩⟩⟩⟩⟩⟩⟩⟩⟩⟩⟩⟩⟩⟩⟩⟩⟩⟩) ?_
        refine Tri.cond (x := (decide ((p3 : Int) > (iSub .i64 ((p0.length : Nat) : Int) p1)))) (by kernel_rfl) (fun h3 => ?_) (fun h3 => ?_)
        ·
          have h3' := of_decide_eq_true h3
          refine Tri.seq_region [] none [] [0] ((True ∧ True) ∧ ((True ∧ True) ∧ ((True ∧ True) ∧ ((((2 < 3) ∧ (1 = 1)) ∧ True) ∧ True))))
              ([], [(0, .cells [.ro .u8 p0, .i .i64 p1, .b true])])
              448 (by kernel_rfl) rfl (by kernel_rfl) (⟨⟨trivial, trivial⟩, ⟨⟨trivial, trivial⟩, ⟨⟨trivial, trivial⟩, ⟨⟨⟨(by first | omega | (have a1 : iSub .i64 ((p0.length : Nat) : Int) p1 = (p0.length : Int) - p1 := iSub_i64 (by omega) (by omega); have a2 : iAdd .i64 p1 p3 = p1 + p3 := iAdd_i64 (by omega) (by omega); have a3 : iSub .i64 (iAdd .i64 p1 p3) p3 = iAdd .i64 p1 p3 - p3 := iSub_i64 (by omega) (by omega); omega)), (rfl)⟩, trivial⟩, trivial⟩⟩⟩⟩) ?_
          refine Tri.seq_region [] none [4] [0] ((True ∧ True) ∧ True)
              ([(4, .sc (.nils))], [(0, .cells [.ro .u8 p0, .i .i64 p1, .b true])])
              464 (by kernel_rfl) rfl (by kernel_rfl) (⟨⟨trivial, trivial⟩, trivial⟩) ?_
          refine Tri.sub (Sub.nilRo 4 .u8 (by kernel_rfl)) ?_
          refine Tri.ret ?_
          repeat (first | refine thenP_ret ?_ | refine blkP_ret ?_ | refine countP_ret ?_ | refine joinP_ret ?_ | refine iterP_ret ?_)
          refine endP.conv (r' := ⟨.sc (.ro .u8 ([] : List Int)), [some (.cells [.ro .u8 p0, .i .i64 p1, .b true])]⟩) (by simp only [FwcTake, FwcTake_1, FwcTake_2, h1, h2, h3, sel_true, sel_false]) ?_
          exact endP.ret [(0, 0)] (True ∧ True) (by kernel_rfl) (by kernel_rfl) ⟨trivial, trivial⟩
        ·
          have h3' := of_decide_eq_false h3
          refine Tri.skip ?_
          change Tri _ _ _ _ _ _
          refine Tri.seq_region [] none [0, 1] [0] ((True ∧ True) ∧ ((True ∧ True) ∧ ((True ∧ True) ∧ (((1 < 3) ∧ True) ∧ ((True ∧ True) ∧ ((True ∧ True) ∧ ((True ∧ True) ∧ ((True ∧ True) ∧ ((((1 < 3) ∧ (1 = 1)) ∧ True) ∧ True)))))))))
              ([(0, .sc (.p 0 0)), (1, .sc (.i .i64 p3))], [(0, .cells [.ro .u8 p0, .i .i64 (iAdd .i64 p1 p3), .b p2])])
              528 (by kernel_rfl) rfl (by kernel_rfl) (⟨⟨trivial, trivial⟩, ⟨⟨trivial, trivial⟩, ⟨⟨trivial, trivial⟩, ⟨⟨(by first | omega | (have a1 : iSub .i64 ((p0.length : Nat) : Int) p1 = (p0.length : Int) - p1 := iSub_i64 (by omega) (by omega); have a2 : iAdd .i64 p1 p3 = p1 + p3 := iAdd_i64 (by omega) (by omega); have a3 : iSub .i64 (iAdd .i64 p1 p3) p3 = iAdd .i64 p1 p3 - p3 := iSub_i64 (by omega) (by omega); omega)), trivial⟩, ⟨⟨trivial, trivial⟩, ⟨⟨trivial, trivial⟩, ⟨⟨trivial, trivial⟩, ⟨⟨trivial, trivial⟩, ⟨⟨⟨(by first | omega | (have a1 : iSub .i64 ((p0.length : Nat) : Int) p1 = (p0.length : Int) - p1 := iSub_i64 (by omega) (by omega); have a2 : iAdd .i64 p1 p3 = p1 + p3 := iAdd_i64 (by omega) (by omega); have a3 : iSub .i64 (iAdd .i64 p1 p3) p3 = iAdd .i64 p1 p3 - p3 := iSub_i64 (by omega) (by omega); omega)), (rfl)⟩, trivial⟩, trivial⟩⟩⟩⟩⟩⟩⟩⟩⟩) ?_
          refine Tri.seq_region [] (some [0, 1, 3, 7, 0, 16, 48, 112, 0, 496, 0, 1024, 3072, 7168, 16383, 32767]) [4] [0] ((True ∧ True) ∧ ((True ∧ True) ∧ ((True ∧ True) ∧ (((0 < 3) ∧ True) ∧ ((True ∧ True) ∧ ((True ∧ True) ∧ ((True ∧ True) ∧ (((1 < 3) ∧ True) ∧ ((True ∧ True) ∧ ((True ∧ True) ∧ ((True ∧ True) ∧ ((True ∧ True) ∧ ((True ∧ True) ∧ (((1 < 3) ∧ True) ∧ ((((0 : Int) ≤ (iSub .i64 (iAdd .i64 p1 p3) p3) ∧ ((iSub .i64 (iAdd .i64 p1 p3) p3) : Int) ≤ (iAdd .i64 p1 p3) ∧ (iAdd .i64 p1 p3) ≤ (p0.length : Int)) ∧ True) ∧ ((True ∧ True) ∧ True))))))))))))))))
              ([(4, .sc (.ro .u8 ((p0.drop (((iSub .i64 (iAdd .i64 p1 p3) p3)).toNat)).take ((((iAdd .i64 p1 p3)).toNat) - (((iSub .i64 (iAdd .i64 p1 p3) p3)).toNat)))))], [(0, .cells [.ro .u8 p0, .i .i64 (iAdd .i64 p1 p3), .b p2])])
              784 (by kernel_rfl) rfl (by kernel_rfl) (⟨⟨trivial, trivial⟩, ⟨⟨trivial, trivial⟩, ⟨⟨trivial, trivial⟩, ⟨⟨(by first | omega | (have a1 : iSub .i64 ((p0.length : Nat) : Int) p1 = (p0.length : Int) - p1 := iSub_i64 (by omega) (by omega); have a2 : iAdd .i64 p1 p3 = p1 + p3 := iAdd_i64 (by omega) (by omega); have a3 : iSub .i64 (iAdd .i64 p1 p3) p3 = iAdd .i64 p1 p3 - p3 := iSub_i64 (by omega) (by omega); omega)), trivial⟩, ⟨⟨trivial, trivial⟩, ⟨⟨trivial, trivial⟩, ⟨⟨trivial, trivial⟩, ⟨⟨(by first | omega | (have a1 : iSub .i64 ((p0.length : Nat) : Int) p1 = (p0.length : Int) - p1 := iSub_i64 (by omega) (by omega); have a2 : iAdd .i64 p1 p3 = p1 + p3 := iAdd_i64 (by omega) (by omega); have a3 : iSub .i64 (iAdd .i64 p1 p3) p3 = iAdd .i64 p1 p3 - p3 := iSub_i64 (by omega) (by omega); omega)), trivial⟩, ⟨⟨trivial, trivial⟩, ⟨⟨trivial, trivial⟩, ⟨⟨trivial, trivial⟩, ⟨⟨trivial, trivial⟩, ⟨⟨trivial, trivial⟩, ⟨⟨(by first | omega | (have a1 : iSub .i64 ((p0.length : Nat) : Int) p1 = (p0.length : Int) - p1 := iSub_i64 (by omega) (by omega); have a2 : iAdd .i64 p1 p3 = p1 + p3 := iAdd_i64 (by omega) (by omega); have a3 : iSub .i64 (iAdd .i64 p1 p3) p3 = iAdd .i64 p1 p3 - p3 := iSub_i64 (by omega) (by omega); omega)), trivial⟩, ⟨⟨(by first | omega | (have a1 : iSub .i64 ((p0.length : Nat) : Int) p1 = (p0.length : Int) - p1 := iSub_i64 (by omega) (by omega); have a2 : iAdd .i64 p1 p3 = p1 + p3 := iAdd_i64 (by omega) (by omega); have a3 : iSub .i64 (iAdd .i64 p1 p3) p3 = iAdd .i64 p1 p3 - p3 := iSub_i64 (by omega) (by omega); omega)), trivial⟩, ⟨⟨trivial, trivial⟩, trivial⟩⟩⟩⟩⟩⟩⟩⟩⟩⟩⟩⟩⟩⟩⟩⟩) ?_
          refine Tri.ret ?_
          repeat (first | refine thenP_ret ?_ | refine blkP_ret ?_ | refine countP_ret ?_ | refine joinP_ret ?_ | refine iterP_ret ?_)
          refine endP.conv (r' := ⟨.sc (.ro .u8 ((p0.drop (((iSub .i64 (iAdd .i64 p1 p3) p3)).toNat)).take ((((iAdd .i64 p1 p3)).toNat) - (((iSub .i64 (iAdd .i64 p1 p3) p3)).toNat)))), [some (.cells [.ro .u8 p0, .i .i64 (iAdd .i64 p1 p3), .b p2])]⟩) (by simp only [FwcTake, FwcTake_1, FwcTake_2, h1, h2, h3, sel_true, sel_false]) ?_
          exact endP.ret [(0, 0)] (True ∧ True) (by kernel_rfl) (by kernel_rfl) ⟨trivial, trivial⟩

theorem cTake_is {p0 : List Int} {p1 : Int} (p2 : Bool) (n : Int) (h : p0.length ≤ 1000000000 ∧ (0 : Int) ≤ p1 ∧ p1 ≤ (p0.length : Int)) :
    (p2 = false ∧ 0 ≤ n ∧ p1 + n ≤ (p0.length : Int) ∧ FwcTake p0 p1 p2 n = (p0.drop p1.toNat).take n.toNat ∧ FwcTake_1 p0 p1 p2 n = p1 + n ∧ FwcTake_2 p0 p1 p2 n = false) ∨
    (¬ (p2 = false ∧ 0 ≤ n ∧ p1 + n ≤ (p0.length : Int)) ∧ FwcTake p0 p1 p2 n = [] ∧ FwcTake_1 p0 p1 p2 n = p1 ∧ FwcTake_2 p0 p1 p2 n = true) := by
  obtain ⟨h1, h2, h3⟩ := h
  unfold FwcTake FwcTake_1 FwcTake_2
  cases p2
  · simp only [sel_false]
    cases h4 : decide (n < 0)
    · have h4' := of_decide_eq_false h4
      simp only [sel_false]
      have a1 : iSub .i64 ((p0.length : Nat) : Int) p1 = (p0.length : Int) - p1 := iSub_i64 (by omega) (by omega)
      rw [a1]
      cases h5 : decide (n > (p0.length : Int) - p1)
      · have h5' := of_decide_eq_false h5
        simp only [sel_false]
        have a2 : iAdd .i64 p1 n = p1 + n := iAdd_i64 (by omega) (by omega)
        have a3 : iSub .i64 (p1 + n) n = p1 := by rw [iSub_i64 (by omega) (by omega)]; omega
        rw [a2, a3]
        have a4 : (p1 + n).toNat - p1.toNat = n.toNat := by omega
        rw [a4]
        first | exact .inl ⟨rfl, by omega, by omega, rfl, rfl, rfl⟩ | exact .inl ⟨trivial, by omega, by omega, rfl, rfl, trivial⟩ | exact .inl ⟨trivial, by omega, by omega, trivial, trivial, trivial⟩
      · have h5' := of_decide_eq_true h5
        simp only [sel_true]
        exact .inr ⟨fun ⟨_, _, h⟩ => by omega, trivial, trivial, trivial⟩
    · have h4' := of_decide_eq_true h4
      simp only [sel_true]
      exact .inr ⟨fun ⟨_, h, _⟩ => by omega, trivial, trivial, trivial⟩
  · simp only [sel_true]
    exact .inr ⟨fun ⟨h, _⟩ => (by cases h), trivial, trivial, trivial⟩
theorem in_cTake {p0 : List Int} {p1 : Int} (p2 : Bool) (n : Int) (h : p0.length ≤ 1000000000 ∧ (0 : Int) ≤ p1 ∧ p1 ≤ (p0.length : Int)) : 0 ≤ FwcTake_1 p0 p1 p2 n ∧ FwcTake_1 p0 p1 p2 n ≤ (p0.length : Int) := by
  rcases cTake_is p2 n h with ⟨_, _, _, _, h1, _⟩ | ⟨_, _, h1, _⟩ <;> rw [h1] <;> omega
theorem len_cTake {p0 : List Int} {p1 : Int} {p2 : Bool} {n : Int} (h : p0.length ≤ 1000000000 ∧ (0 : Int) ≤ p1 ∧ p1 ≤ (p0.length : Int)) (hb : FwcTake_2 p0 p1 p2 n = false) : ((FwcTake p0 p1 p2 n).length : Int) = n := by
  rcases cTake_is p2 n h with ⟨_, _, _, h1, _⟩ | ⟨_, _, _, h1⟩
  · rw [h1, List.length_take, List.length_drop]; omega
  · rw [h1] at hb; cases hb
theorem le_cTake {p0 : List Int} {p1 : Int} (p2 : Bool) (n : Int) (h : p0.length ≤ 1000000000 ∧ (0 : Int) ≤ p1 ∧ p1 ≤ (p0.length : Int)) : (FwcTake p0 p1 p2 n).length ≤ n.toNat := by
  rcases cTake_is p2 n h with ⟨_, _, _, h1, _⟩ | ⟨_, h1, _⟩ <;> rw [h1]
  · rw [List.length_take]; omega
  · exact Nat.zero_le _


noncomputable def FwcByte (p0 : List Int) (p1 : Int) (p2 : Bool) : Int :=
  (sel (FwcTake_2 p0 p1 p2 1) 0 (IntKind.wrap .i64 ((FwcTake p0 p1 p2 1).getD 0 0)))

noncomputable def FwcByte_1 (p0 : List Int) (p1 : Int) (p2 : Bool) : Int :=
  (FwcTake_1 p0 p1 p2 1)

noncomputable def FwcByte_2 (p0 : List Int) (p1 : Int) (p2 : Bool) : Bool :=
  (FwcTake_2 p0 p1 p2 1)

noncomputable def SwcByte : List AV → List Blk → Option (Prop × Ret)
  | [.sc (.p 0 0)], [.cells [.ro .u8 p0, .i .i64 p1, .b p2]] => some ((p0.length ≤ 1000000000 ∧ (0 : Int) ≤ p1 ∧ p1 ≤ (p0.length : Int)), ⟨.sc (.i .i64 (FwcByte p0 p1 p2)), [some (.cells [.ro .u8 p0, .i .i64 (FwcByte_1 p0 p1 p2), .b (FwcByte_2 p0 p1 p2)])]⟩)
  | _, _ => none

noncomputable def BwcByte : Bs := { P := Go.Proofs.Tryd.prog, G := noG, tab := tabOf [⟨26, 48, [.io, .val], [], [0], ⟨1, 0, SwcTake⟩⟩], n := 14 }

theorem BwcByte.ok : BwcByte.Ok := ⟨tabOk (P := Go.Proofs.Tryd.prog) (G := noG) (l := [⟨26, 48, [.io, .val], [], [0], ⟨1, 0, SwcTake⟩⟩]) (And.intro KwcTake True.intro), mixed⟩

theorem KwcByte : Known Go.Proofs.Tryd.prog noG 14 ⟨1, 0, SwcByte⟩ := by
  refine Known.walk (B := BwcByte) (fn := Go.Proofs.Tryd.f14) BwcByte.ok (by kernel_rfl) rfl (by kernel_rfl) (by kernel_rfl) (by decide) (by decide) ?_
  · intro E args ks C r h hC hlen
    simp only at h
    unfold SwcByte at h
    split at h
    rotate_left
    · cases h
    rename_i p0 p1 p2
    cases h
    simp only [lens] at hlen
    refine ⟨show 1 ≤ 14 from by decide, ?_⟩
    refine Tri.sub (Sub.of_eq (show _ = ([(0, .sc (.p 0 0))], [(0, .cells [.ro .u8 p0, .i .i64 p1, .b p2])]) from rfl)) ?_
    refine Tri.seq_region [] none [0] [0] ((True ∧ True) ∧ True)
        ([(0, .sc (.p 0 0))], [(0, .cells [.ro .u8 p0, .i .i64 p1, .b p2])])
        32 (by kernel_rfl) rfl (by kernel_rfl) (⟨⟨trivial, trivial⟩, trivial⟩) ?_
    refine Tri.seq_region [] none [3, 0] [0] ((True ∧ True) ∧ (((True ∧ (p0.length ≤ 1000000000 ∧ (0 : Int) ≤ p1 ∧ p1 ≤ (p0.length : Int))) ∧ True) ∧ ((True ∧ True) ∧ True)))
        ([(3, .sc (.ro .u8 (FwcTake p0 p1 p2 1))), (0, .sc (.p 0 0))], [(0, .cells [.ro .u8 p0, .i .i64 (FwcTake_1 p0 p1 p2 1), .b (FwcTake_2 p0 p1 p2 1)])])
        80 (by kernel_rfl) rfl (by kernel_rfl) (⟨⟨trivial, trivial⟩, ⟨⟨⟨trivial, (by first | omega | (have hq := len_cTake hC (n := 1) (by assumption); omega) | decide)⟩, trivial⟩, ⟨⟨trivial, trivial⟩, trivial⟩⟩⟩) ?_
    refine Tri.seq ?_
    refine Tri.seq_region [] none [9, 3] [0] ((True ∧ True) ∧ ((True ∧ True) ∧ ((True ∧ True) ∧ (((2 < 3) ∧ True) ∧ True))))
        ([(9, .sc (.b (FwcTake_2 p0 p1 p2 1))), (3, .sc (.ro .u8 (FwcTake p0 p1 p2 1)))], [(0, .cells [.ro .u8 p0, .i .i64 (FwcTake_1 p0 p1 p2 1), .b (FwcTake_2 p0 p1 p2 1)])])
        144 (by kernel_rfl) rfl (by kernel_rfl) (⟨⟨trivial, trivial⟩, ⟨⟨trivial, trivial⟩, ⟨⟨trivial, trivial⟩, ⟨⟨(by first | omega | (have hq := len_cTake hC (n := 1) (by assumption); omega) | decide), trivial⟩, trivial⟩⟩⟩⟩) ?_
    refine Tri.cond (x := (FwcTake_2 p0 p1 p2 1)) (by kernel_rfl) (fun h1 => ?_) (fun h1 => ?_)
    ·
      refine Tri.seq_region [] none [2] [0] ((True ∧ True) ∧ True)
          ([(2, .sc (.i .i64 0))], [(0, .cells [.ro .u8 p0, .i .i64 (FwcTake_1 p0 p1 p2 1), .b (FwcTake_2 p0 p1 p2 1)])])
          160 (by kernel_rfl) rfl (by kernel_rfl) (⟨⟨trivial, trivial⟩, trivial⟩) ?_
      refine Tri.ret ?_
      repeat (first | refine thenP_ret ?_ | refine blkP_ret ?_ | refine countP_ret ?_ | refine joinP_ret ?_ | refine iterP_ret ?_)
      refine endP.conv (r' := ⟨.sc (.i .i64 0), [some (.cells [.ro .u8 p0, .i .i64 (FwcTake_1 p0 p1 p2 1), .b (FwcTake_2 p0 p1 p2 1)])]⟩) (by simp only [FwcByte, FwcByte_1, FwcByte_2, h1, sel_true, sel_false]) ?_
      exact endP.ret [(0, 0)] (True ∧ True) (by kernel_rfl) (by kernel_rfl) ⟨trivial, trivial⟩
    ·
      refine Tri.skip ?_
      change Tri _ _ _ _ _ _
      refine Tri.seq_region [] none [2] [0] ((True ∧ True) ∧ ((((0 : Int) ≤ 0 ∧ 0 < ((FwcTake p0 p1 p2 1).length : Int)) ∧ True) ∧ (((0 < (FwcTake p0 p1 p2 1).length) ∧ True) ∧ ((True ∧ True) ∧ ((True ∧ True) ∧ True)))))
          ([(2, .sc (.i .i64 (IntKind.wrap .i64 ((FwcTake p0 p1 p2 1).getD 0 0))))], [(0, .cells [.ro .u8 p0, .i .i64 (FwcTake_1 p0 p1 p2 1), .b (FwcTake_2 p0 p1 p2 1)])])
          224 (by kernel_rfl) rfl (by kernel_rfl) (⟨⟨trivial, trivial⟩, ⟨⟨(by first | omega | (have hq := len_cTake hC (n := 1) (by assumption); omega) | decide), trivial⟩, ⟨⟨(by first | omega | (have hq := len_cTake hC (n := 1) (by assumption); omega) | decide), trivial⟩, ⟨⟨trivial, trivial⟩, ⟨⟨trivial, trivial⟩, trivial⟩⟩⟩⟩⟩) ?_
      refine Tri.ret ?_
      repeat (first | refine thenP_ret ?_ | refine blkP_ret ?_ | refine countP_ret ?_ | refine joinP_ret ?_ | refine iterP_ret ?_)
      refine endP.conv (r' := ⟨.sc (.i .i64 (IntKind.wrap .i64 ((FwcTake p0 p1 p2 1).getD 0 0))), [some (.cells [.ro .u8 p0, .i .i64 (FwcTake_1 p0 p1 p2 1), .b (FwcTake_2 p0 p1 p2 1)])]⟩) (by simp only [FwcByte, FwcByte_1, FwcByte_2, h1, sel_true, sel_false]) ?_
      exact endP.ret [(0, 0)] (True ∧ True) (by kernel_rfl) (by kernel_rfl) ⟨trivial, trivial⟩

theorem in_cByte {p0 : List Int} {p1 : Int} (p2 : Bool) (h : p0.length ≤ 1000000000 ∧ (0 : Int) ≤ p1 ∧ p1 ≤ (p0.length : Int)) : 0 ≤ FwcByte_1 p0 p1 p2 ∧ FwcByte_1 p0 p1 p2 ≤ (p0.length : Int) := in_cTake p2 1 h


noncomputable def FwcU32 (p0 : List Int) (p1 : Int) (p2 : Bool) : Int :=
  (sel (FwcTake_2 p0 p1 p2 4) 0 (iAdd .i64 (iAdd .i64 (iAdd .i64 (iMul .i64 (IntKind.wrap .i64 ((FwcTake p0 p1 p2 4).getD 0 0)) 16777216) (iMul .i64 (IntKind.wrap .i64 ((FwcTake p0 p1 p2 4).getD 1 0)) 65536)) (iMul .i64 (IntKind.wrap .i64 ((FwcTake p0 p1 p2 4).getD 2 0)) 256)) (IntKind.wrap .i64 ((FwcTake p0 p1 p2 4).getD 3 0))))

noncomputable def FwcU32_1 (p0 : List Int) (p1 : Int) (p2 : Bool) : Int :=
  (FwcTake_1 p0 p1 p2 4)

noncomputable def FwcU32_2 (p0 : List Int) (p1 : Int) (p2 : Bool) : Bool :=
  (FwcTake_2 p0 p1 p2 4)

noncomputable def SwcU32 : List AV → List Blk → Option (Prop × Ret)
  | [.sc (.p 0 0)], [.cells [.ro .u8 p0, .i .i64 p1, .b p2]] => some ((p0.length ≤ 1000000000 ∧ (0 : Int) ≤ p1 ∧ p1 ≤ (p0.length : Int)), ⟨.sc (.i .i64 (FwcU32 p0 p1 p2)), [some (.cells [.ro .u8 p0, .i .i64 (FwcU32_1 p0 p1 p2), .b (FwcU32_2 p0 p1 p2)])]⟩)
  | _, _ => none

noncomputable def BwcU32 : Bs := { P := Go.Proofs.Tryd.prog, G := noG, tab := tabOf [⟨26, 48, [.io, .val], [], [0], ⟨1, 0, SwcTake⟩⟩], n := 32 }

theorem BwcU32.ok : BwcU32.Ok := ⟨tabOk (P := Go.Proofs.Tryd.prog) (G := noG) (l := [⟨26, 48, [.io, .val], [], [0], ⟨1, 0, SwcTake⟩⟩]) (And.intro KwcTake True.intro), mixed⟩

theorem KwcU32 : Known Go.Proofs.Tryd.prog noG 17 ⟨1, 0, SwcU32⟩ := by
  refine Known.walk (B := BwcU32) (fn := Go.Proofs.Tryd.f17) BwcU32.ok (by kernel_rfl) rfl (by kernel_rfl) (by kernel_rfl) (by decide) (by decide) ?_
  · intro E args ks C r h hC hlen
    simp only at h
    unfold SwcU32 at h
    split at h
    rotate_left
    · cases h
    rename_i p0 p1 p2
    cases h
    simp only [lens] at hlen
    refine ⟨show 1 ≤ 32 from by decide, ?_⟩
    refine Tri.sub (Sub.of_eq (show _ = ([(0, .sc (.p 0 0))], [(0, .cells [.ro .u8 p0, .i .i64 p1, .b p2])]) from rfl)) ?_
    refine Tri.seq_region [] none [0] [0] ((True ∧ True) ∧ True)
        ([(0, .sc (.p 0 0))], [(0, .cells [.ro .u8 p0, .i .i64 p1, .b p2])])
        32 (by kernel_rfl) rfl (by kernel_rfl) (⟨⟨trivial, trivial⟩, trivial⟩) ?_
    refine Tri.seq_region [] none [3, 0] [0] ((True ∧ True) ∧ (((True ∧ (p0.length ≤ 1000000000 ∧ (0 : Int) ≤ p1 ∧ p1 ≤ (p0.length : Int))) ∧ True) ∧ ((True ∧ True) ∧ True)))
        ([(3, .sc (.ro .u8 (FwcTake p0 p1 p2 4))), (0, .sc (.p 0 0))], [(0, .cells [.ro .u8 p0, .i .i64 (FwcTake_1 p0 p1 p2 4), .b (FwcTake_2 p0 p1 p2 4)])])
        80 (by kernel_rfl) rfl (by kernel_rfl) (⟨⟨trivial, trivial⟩, ⟨⟨⟨trivial, (by first | omega | (have hq := len_cTake hC (n := 4) (by assumption); omega) | decide)⟩, trivial⟩, ⟨⟨trivial, trivial⟩, trivial⟩⟩⟩) ?_
    refine Tri.seq ?_
    refine Tri.seq_region [] none [9, 3] [0] ((True ∧ True) ∧ ((True ∧ True) ∧ ((True ∧ True) ∧ (((2 < 3) ∧ True) ∧ True))))
        ([(9, .sc (.b (FwcTake_2 p0 p1 p2 4))), (3, .sc (.ro .u8 (FwcTake p0 p1 p2 4)))], [(0, .cells [.ro .u8 p0, .i .i64 (FwcTake_1 p0 p1 p2 4), .b (FwcTake_2 p0 p1 p2 4)])])
        144 (by kernel_rfl) rfl (by kernel_rfl) (⟨⟨trivial, trivial⟩, ⟨⟨trivial, trivial⟩, ⟨⟨trivial, trivial⟩, ⟨⟨(by first | omega | (have hq := len_cTake hC (n := 4) (by assumption); omega) | decide), trivial⟩, trivial⟩⟩⟩⟩) ?_
    refine Tri.cond (x := (FwcTake_2 p0 p1 p2 4)) (by kernel_rfl) (fun h1 => ?_) (fun h1 => ?_)
    ·
      refine Tri.seq_region [] none [2] [0] ((True ∧ True) ∧ True)
          ([(2, .sc (.i .i64 0))], [(0, .cells [.ro .u8 p0, .i .i64 (FwcTake_1 p0 p1 p2 4), .b (FwcTake_2 p0 p1 p2 4)])])
          160 (by kernel_rfl) rfl (by kernel_rfl) (⟨⟨trivial, trivial⟩, trivial⟩) ?_
      refine Tri.ret ?_
      repeat (first | refine thenP_ret ?_ | refine blkP_ret ?_ | refine countP_ret ?_ | refine joinP_ret ?_ | refine iterP_ret ?_)
      refine endP.conv (r' := ⟨.sc (.i .i64 0), [some (.cells [.ro .u8 p0, .i .i64 (FwcTake_1 p0 p1 p2 4), .b (FwcTake_2 p0 p1 p2 4)])]⟩) (by simp only [FwcU32, FwcU32_1, FwcU32_2, h1, sel_true, sel_false]) ?_
      exact endP.ret [(0, 0)] (True ∧ True) (by kernel_rfl) (by kernel_rfl) ⟨trivial, trivial⟩
    ·
      refine Tri.skip ?_
      change Tri _ _ _ _ _ _
      refine Tri.seq_region [] (some [0, 1, 3, 7, 15, 0, 32, 96, 224, 480, 1023, 0, 2048, 6144, 14336, 30720, 65535, 0, 131072, 393216, 917504, 2097151, 4194303]) [2] [0] ((True ∧ True) ∧ ((((0 : Int) ≤ 0 ∧ 0 < ((FwcTake p0 p1 p2 4).length : Int)) ∧ True) ∧ (((0 < (FwcTake p0 p1 p2 4).length) ∧ True) ∧ ((True ∧ True) ∧ ((True ∧ True) ∧ ((True ∧ True) ∧ ((((0 : Int) ≤ 1 ∧ 1 < ((FwcTake p0 p1 p2 4).length : Int)) ∧ True) ∧ (((1 < (FwcTake p0 p1 p2 4).length) ∧ True) ∧ ((True ∧ True) ∧ ((True ∧ True) ∧ ((True ∧ True) ∧ ((True ∧ True) ∧ ((((0 : Int) ≤ 2 ∧ 2 < ((FwcTake p0 p1 p2 4).length : Int)) ∧ True) ∧ (((2 < (FwcTake p0 p1 p2 4).length) ∧ True) ∧ ((True ∧ True) ∧ ((True ∧ True) ∧ ((True ∧ True) ∧ ((True ∧ True) ∧ ((((0 : Int) ≤ 3 ∧ 3 < ((FwcTake p0 p1 p2 4).length : Int)) ∧ True) ∧ (((3 < (FwcTake p0 p1 p2 4).length) ∧ True) ∧ ((True ∧ True) ∧ ((True ∧ True) ∧ ((True ∧ True) ∧ True)))))))))))))))))))))))
          ([(2, .sc (.i .i64 (iAdd .i64 (iAdd .i64 (iAdd .i64 (iMul .i64 (IntKind.wrap .i64 ((FwcTake p0 p1 p2 4).getD 0 0)) 16777216) (iMul .i64 (IntKind.wrap .i64 ((FwcTake p0 p1 p2 4).getD 1 0)) 65536)) (iMul .i64 (IntKind.wrap .i64 ((FwcTake p0 p1 p2 4).getD 2 0)) 256)) (IntKind.wrap .i64 ((FwcTake p0 p1 p2 4).getD 3 0)))))], [(0, .cells [.ro .u8 p0, .i .i64 (FwcTake_1 p0 p1 p2 4), .b (FwcTake_2 p0 p1 p2 4)])])
          512 (by kernel_rfl) rfl (by kernel_rfl) (⟨⟨trivial, trivial⟩, ⟨⟨(by first | omega | (have hq := len_cTake hC (n := 4) (by assumption); omega) | decide), trivial⟩, ⟨⟨(by first | omega | (have hq := len_cTake hC (n := 4) (by assumption); omega) | decide), trivial⟩, ⟨⟨trivial, trivial⟩, ⟨⟨trivial, trivial⟩, ⟨⟨trivial, trivial⟩, ⟨⟨(by first | omega | (have hq := len_cTake hC (n := 4) (by assumption); omega) | decide), trivial⟩, ⟨⟨(by first | omega | (have hq := len_cTake hC (n := 4) (by assumption); omega) | decide), trivial⟩, ⟨⟨trivial, trivial⟩, ⟨⟨trivial, trivial⟩, ⟨⟨trivial, trivial⟩, ⟨⟨trivial, trivial⟩, ⟨⟨(by first | omega | (have hq := len_cTake hC (n := 4) (by assumption); omega) | decide), trivial⟩, ⟨⟨(by first | omega | (have hq := len_cTake hC (n := 4) (by assumption); omega) | decide), trivial⟩, ⟨⟨trivial, trivial⟩, ⟨⟨trivial, trivial⟩, ⟨⟨trivial, trivial⟩, ⟨⟨trivial, trivial⟩, ⟨⟨(by first | omega | (have hq := len_cTake hC (n := 4) (by assumption); omega) | decide), trivial⟩, ⟨⟨(by first | omega | (have hq := len_cTake hC (n := 4) (by assumption); omega) | decide), trivial⟩, ⟨⟨trivial, trivial⟩, ⟨⟨trivial, trivial⟩, ⟨⟨trivial, trivial⟩, trivial⟩⟩⟩⟩⟩⟩⟩⟩⟩⟩⟩⟩⟩⟩⟩⟩⟩⟩⟩⟩⟩⟩⟩) ?_
      refine Tri.ret ?_
      repeat (first | refine thenP_ret ?_ | refine blkP_ret ?_ | refine countP_ret ?_ | refine joinP_ret ?_ | refine iterP_ret ?_)
      refine endP.conv (r' := ⟨.sc (.i .i64 (iAdd .i64 (iAdd .i64 (iAdd .i64 (iMul .i64 (IntKind.wrap .i64 ((FwcTake p0 p1 p2 4).getD 0 0)) 16777216) (iMul .i64 (IntKind.wrap .i64 ((FwcTake p0 p1 p2 4).getD 1 0)) 65536)) (iMul .i64 (IntKind.wrap .i64 ((FwcTake p0 p1 p2 4).getD 2 0)) 256)) (IntKind.wrap .i64 ((FwcTake p0 p1 p2 4).getD 3 0)))), [some (.cells [.ro .u8 p0, .i .i64 (FwcTake_1 p0 p1 p2 4), .b (FwcTake_2 p0 p1 p2 4)])]⟩) (by simp only [FwcU32, FwcU32_1, FwcU32_2, h1, sel_true, sel_false]) ?_
      exact endP.ret [(0, 0)] (True ∧ True) (by kernel_rfl) (by kernel_rfl) ⟨trivial, trivial⟩

theorem in_cU32 {p0 : List Int} {p1 : Int} (p2 : Bool) (h : p0.length ≤ 1000000000 ∧ (0 : Int) ≤ p1 ∧ p1 ≤ (p0.length : Int)) : 0 ≤ FwcU32_1 p0 p1 p2 ∧ FwcU32_1 p0 p1 p2 ≤ (p0.length : Int) := in_cTake p2 4 h


noncomputable def FwcText (p0 : List Int) (p1 : Int) (p2 : Bool) : ByteArray :=
  (bytesOf (FwcTake p0 (FwcU32_1 p0 p1 p2) (sel (decide (((FwcU32 p0 p1 p2) : Int) > 16384)) true (FwcU32_2 p0 p1 p2)) (FwcU32 p0 p1 p2)))

noncomputable def FwcText_1 (p0 : List Int) (p1 : Int) (p2 : Bool) : Int :=
  (FwcTake_1 p0 (FwcU32_1 p0 p1 p2) (sel (decide (((FwcU32 p0 p1 p2) : Int) > 16384)) true (FwcU32_2 p0 p1 p2)) (FwcU32 p0 p1 p2))

noncomputable def FwcText_2 (p0 : List Int) (p1 : Int) (p2 : Bool) : Bool :=
  (FwcTake_2 p0 (FwcU32_1 p0 p1 p2) (sel (decide (((FwcU32 p0 p1 p2) : Int) > 16384)) true (FwcU32_2 p0 p1 p2)) (FwcU32 p0 p1 p2))

noncomputable def SwcText : List AV → List Blk → Option (Prop × Ret)
  | [.sc (.p 0 0)], [.cells [.ro .u8 p0, .i .i64 p1, .b p2]] => some ((p0.length ≤ 1000000000 ∧ (0 : Int) ≤ p1 ∧ p1 ≤ (p0.length : Int)), ⟨.sc (.s (FwcText p0 p1 p2)), [some (.cells [.ro .u8 p0, .i .i64 (FwcText_1 p0 p1 p2), .b (FwcText_2 p0 p1 p2)])]⟩)
  | _, _ => none

noncomputable def BwcText : Bs := { P := Go.Proofs.Tryd.prog, G := noG, tab := tabOf [⟨17, 48, [.io], [], [0], ⟨1, 0, SwcU32⟩⟩, ⟨26, 208, [.io, .val], [], [0], ⟨1, 0, SwcTake⟩⟩], n := 15 }

theorem BwcText.ok : BwcText.Ok := ⟨tabOk (P := Go.Proofs.Tryd.prog) (G := noG) (l := [⟨17, 48, [.io], [], [0], ⟨1, 0, SwcU32⟩⟩, ⟨26, 208, [.io, .val], [], [0], ⟨1, 0, SwcTake⟩⟩]) (And.intro KwcU32 (And.intro KwcTake True.intro)), mixed⟩

theorem KwcText : Known Go.Proofs.Tryd.prog noG 19 ⟨1, 0, SwcText⟩ := by
  refine Known.walk (B := BwcText) (fn := Go.Proofs.Tryd.f19) BwcText.ok (by kernel_rfl) rfl (by kernel_rfl) (by kernel_rfl) (by decide) (by decide) ?_
  · intro E args ks C r h hC hlen
    simp only at h
    unfold SwcText at h
    split at h
    rotate_left
    · cases h
    rename_i p0 p1 p2
    cases h
    simp only [lens] at hlen
    refine ⟨show 1 ≤ 15 from by decide, ?_⟩
    refine Tri.sub (Sub.of_eq (show _ = ([(0, .sc (.p 0 0))], [(0, .cells [.ro .u8 p0, .i .i64 p1, .b p2])]) from rfl)) ?_
    refine Tri.seq_region [] none [0] [0] ((True ∧ True) ∧ True)
        ([(0, .sc (.p 0 0))], [(0, .cells [.ro .u8 p0, .i .i64 p1, .b p2])])
        32 (by kernel_rfl) rfl (by kernel_rfl) (⟨⟨trivial, trivial⟩, trivial⟩) ?_
    refine Tri.seq_region [] none [3, 0] [0] ((True ∧ True) ∧ (((True ∧ (p0.length ≤ 1000000000 ∧ (0 : Int) ≤ p1 ∧ p1 ≤ (p0.length : Int))) ∧ True) ∧ ((True ∧ True) ∧ True)))
        ([(3, .sc (.i .i64 (FwcU32 p0 p1 p2))), (0, .sc (.p 0 0))], [(0, .cells [.ro .u8 p0, .i .i64 (FwcU32_1 p0 p1 p2), .b (FwcU32_2 p0 p1 p2)])])
        80 (by kernel_rfl) rfl (by kernel_rfl) (⟨⟨trivial, trivial⟩, ⟨⟨⟨trivial, (by first | omega | (have hq := in_cU32 p2 hC; exact ⟨hC.1, hq.1, hq.2⟩))⟩, trivial⟩, ⟨⟨trivial, trivial⟩, trivial⟩⟩⟩) ?_
    refine Tri.seq ?_
    refine Tri.seq_region [] none [7, 3, 0] [0] ((True ∧ True) ∧ ((True ∧ True) ∧ True))
        ([(7, .sc (.b (decide (((FwcU32 p0 p1 p2) : Int) > 16384)))), (3, .sc (.i .i64 (FwcU32 p0 p1 p2))), (0, .sc (.p 0 0))], [(0, .cells [.ro .u8 p0, .i .i64 (FwcU32_1 p0 p1 p2), .b (FwcU32_2 p0 p1 p2)])])
        112 (by kernel_rfl) rfl (by kernel_rfl) (⟨⟨trivial, trivial⟩, ⟨⟨trivial, trivial⟩, trivial⟩⟩) ?_
    refine Tri.join (x := (decide (((FwcU32 p0 p1 p2) : Int) > 16384))) (fun bb => ([(3, .sc (.i .i64 (FwcU32 p0 p1 p2))), (0, .sc (.p 0 0))], [(0, .cells [.ro .u8 p0, .i .i64 (FwcU32_1 p0 p1 p2), .b (sel bb true (FwcU32_2 p0 p1 p2))])])) 176 (by kernel_rfl) (fun h1 => ?_) (fun h1 => ?_) ?_
    ·
      have h1' := of_decide_eq_true h1
      refine Tri.region' [] none [3, 0] [0] ((True ∧ True) ∧ ((True ∧ True) ∧ ((True ∧ True) ∧ ((((2 < 3) ∧ (1 = 1)) ∧ True) ∧ True))))
          ([(3, .sc (.i .i64 (FwcU32 p0 p1 p2))), (0, .sc (.p 0 0))], [(0, .cells [.ro .u8 p0, .i .i64 (FwcU32_1 p0 p1 p2), .b true])])
          176 (by kernel_rfl) rfl (by kernel_rfl) (⟨⟨trivial, trivial⟩, ⟨⟨trivial, trivial⟩, ⟨⟨trivial, trivial⟩, ⟨⟨⟨(by first | omega | (have hq := in_cU32 p2 hC; exact ⟨hC.1, hq.1, hq.2⟩)), (rfl)⟩, trivial⟩, trivial⟩⟩⟩⟩) ?_
      exact (Sub.ren (ns := [(0, 0)]) (kf := [3, 0]) (s' := ([(3, .sc (.i .i64 (FwcU32 p0 p1 p2))), (0, .sc (.p 0 0))], [(0, .cells [.ro .u8 p0, .i .i64 (FwcU32_1 p0 p1 p2), .b true])])) (by kernel_rfl) (by kernel_rfl)).trans (Sub.of_eq (by simp only [sel_true, sel_false]))
    ·
      have h1' := of_decide_eq_false h1
      refine Tri.skip ?_
      exact (Sub.ren (ns := [(0, 0)]) (kf := [3, 0]) (s' := ([(3, .sc (.i .i64 (FwcU32 p0 p1 p2))), (0, .sc (.p 0 0))], [(0, .cells [.ro .u8 p0, .i .i64 (FwcU32_1 p0 p1 p2), .b (FwcU32_2 p0 p1 p2)])])) (by kernel_rfl) (by kernel_rfl)).trans (Sub.of_eq (by simp only [sel_true, sel_false]))
    ·
      change Tri _ _ _ _ _ _
      refine Tri.seq_region [] none [2] [0] ((True ∧ True) ∧ ((True ∧ True) ∧ (((True ∧ (p0.length ≤ 1000000000 ∧ (0 : Int) ≤ (FwcU32_1 p0 p1 p2) ∧ (FwcU32_1 p0 p1 p2) ≤ (p0.length : Int))) ∧ True) ∧ ((True ∧ True) ∧ ((True ∧ True) ∧ True)))))
          ([(2, .sc (.s (bytesOf (FwcTake p0 (FwcU32_1 p0 p1 p2) (sel (decide (((FwcU32 p0 p1 p2) : Int) > 16384)) true (FwcU32_2 p0 p1 p2)) (FwcU32 p0 p1 p2)))))], [(0, .cells [.ro .u8 p0, .i .i64 (FwcTake_1 p0 (FwcU32_1 p0 p1 p2) (sel (decide (((FwcU32 p0 p1 p2) : Int) > 16384)) true (FwcU32_2 p0 p1 p2)) (FwcU32 p0 p1 p2)), .b (FwcTake_2 p0 (FwcU32_1 p0 p1 p2) (sel (decide (((FwcU32 p0 p1 p2) : Int) > 16384)) true (FwcU32_2 p0 p1 p2)) (FwcU32 p0 p1 p2))])])
          256 (by kernel_rfl) rfl (by kernel_rfl) (⟨⟨trivial, trivial⟩, ⟨⟨trivial, trivial⟩, ⟨⟨⟨trivial, (by first | omega | (have hq := in_cU32 p2 hC; exact ⟨hC.1, hq.1, hq.2⟩))⟩, trivial⟩, ⟨⟨trivial, trivial⟩, ⟨⟨trivial, trivial⟩, trivial⟩⟩⟩⟩⟩) ?_
      refine Tri.ret ?_
      repeat (first | refine thenP_ret ?_ | refine blkP_ret ?_ | refine countP_ret ?_ | refine joinP_ret ?_ | refine iterP_ret ?_)
      exact endP.ret [(0, 0)] (True ∧ True) (by kernel_rfl) (by kernel_rfl) ⟨trivial, trivial⟩

theorem in_cText {p0 : List Int} {p1 : Int} (p2 : Bool) (h : p0.length ≤ 1000000000 ∧ (0 : Int) ≤ p1 ∧ p1 ≤ (p0.length : Int)) : 0 ≤ FwcText_1 p0 p1 p2 ∧ FwcText_1 p0 p1 p2 ≤ (p0.length : Int) := by
  have hc := in_cU32 p2 h
  exact in_cTake _ _ ⟨h.1, hc.1, hc.2⟩
theorem size_cText {p0 : List Int} {p1 : Int} (p2 : Bool) (h : p0.length ≤ 1000000000 ∧ (0 : Int) ≤ p1 ∧ p1 ≤ (p0.length : Int)) : (FwcText p0 p1 p2).size ≤ 16384 := by
  have hc := in_cU32 p2 h
  unfold FwcText
  rw [size_bytesOf]
  rcases cTake_is (sel (decide (((FwcU32 p0 p1 p2) : Int) > 16384)) true (FwcU32_2 p0 p1 p2)) (FwcU32 p0 p1 p2) ⟨h.1, hc.1, hc.2⟩ with ⟨hb, _, _, h1, _⟩ | ⟨_, h1, _⟩
  · rw [h1, List.length_take]
    cases hd : decide (FwcU32 p0 p1 p2 > 16384)
    · have := of_decide_eq_false hd
      omega
    · rw [hd, sel_true] at hb; cases hb
  · rw [h1]; exact Nat.zero_le _


noncomputable def FwcEnd (p0 : List Int) (p1 : Int) (p2 : Bool) : Bool :=
  (sel (!p2) ((p1 : Int) == ((p0.length : Nat) : Int)) false)

noncomputable def SwcEnd : List AV → List Blk → Option (Prop × Ret)
  | [.sc (.p 0 0)], [.cells [.ro .u8 p0, .i .i64 p1, .b p2]] => some (True, ⟨.sc (.b (FwcEnd p0 p1 p2)), [some (.cells [.ro .u8 p0, .i .i64 p1, .b p2])]⟩)
  | _, _ => none

noncomputable def BwcEnd : Bs := { P := Go.Proofs.Tryd.prog, G := noG, tab := tabOf [], n := 20 }

theorem BwcEnd.ok : BwcEnd.Ok := ⟨tabOk (P := Go.Proofs.Tryd.prog) (G := noG) (l := []) True.intro, mixed⟩

theorem KwcEnd : Known Go.Proofs.Tryd.prog noG 29 ⟨1, 0, SwcEnd⟩ := by
  refine Known.walk (B := BwcEnd) (fn := Go.Proofs.Tryd.f29) BwcEnd.ok (by kernel_rfl) rfl (by kernel_rfl) (by kernel_rfl) (by decide) (by decide) ?_
  · intro E args ks C r h hC hlen
    simp only at h
    unfold SwcEnd at h
    split at h
    rotate_left
    · cases h
    rename_i p0 p1 p2
    cases h
    simp only [lens] at hlen
    refine ⟨show 1 ≤ 20 from by decide, ?_⟩
    refine Tri.sub (Sub.of_eq (show _ = ([(0, .sc (.p 0 0))], [(0, .cells [.ro .u8 p0, .i .i64 p1, .b p2])]) from rfl)) ?_
    refine Tri.seq_region [] none [0] [0] ((True ∧ True) ∧ True)
        ([(0, .sc (.p 0 0))], [(0, .cells [.ro .u8 p0, .i .i64 p1, .b p2])])
        32 (by kernel_rfl) rfl (by kernel_rfl) (⟨⟨trivial, trivial⟩, trivial⟩) ?_
    refine Tri.split (!p2) (fun h1 => ?_) (fun h1 => ?_)
    ·
      refine Tri.seq_region [(8, qb true)] (some [0, 1, 3, 7, 15, 31, 63, 127, 255, 511, 63, 1087, 3135, 7231, 15423, 32767, 65535, 131071]) [2] [0] ((True ∧ True) ∧ ((True ∧ True) ∧ ((True ∧ True) ∧ (((2 < 3) ∧ True) ∧ ((True ∧ True) ∧ ((True ∧ ((!p2) = true)) ∧ ((True ∧ True) ∧ ((True ∧ True) ∧ ((True ∧ True) ∧ (((1 < 3) ∧ True) ∧ ((True ∧ True) ∧ ((True ∧ True) ∧ ((True ∧ True) ∧ (((0 < 3) ∧ True) ∧ ((True ∧ True) ∧ ((True ∧ True) ∧ ((True ∧ True) ∧ ((True ∧ True) ∧ True))))))))))))))))))
          ([(2, .sc (.b ((p1 : Int) == ((p0.length : Nat) : Int))))], [(0, .cells [.ro .u8 p0, .i .i64 p1, .b p2])])
          320 (by kernel_rfl) rfl (by kernel_rfl) (⟨⟨trivial, trivial⟩, ⟨⟨trivial, trivial⟩, ⟨⟨trivial, trivial⟩, ⟨⟨(by first | omega | (rw [adr_eq]; omega) | exact iAnd_nn _ _ | exact iSub_nn _ _ | exact part1_le (by omega) (by first | omega | (simp only [List.length_append]; omega)) | decide), trivial⟩, ⟨⟨trivial, trivial⟩, ⟨⟨trivial, (h1)⟩, ⟨⟨trivial, trivial⟩, ⟨⟨trivial, trivial⟩, ⟨⟨trivial, trivial⟩, ⟨⟨(by first | omega | (rw [adr_eq]; omega) | exact iAnd_nn _ _ | exact iSub_nn _ _ | exact part1_le (by omega) (by first | omega | (simp only [List.length_append]; omega)) | decide), trivial⟩, ⟨⟨trivial, trivial⟩, ⟨⟨trivial, trivial⟩, ⟨⟨trivial, trivial⟩, ⟨⟨(by first | omega | (rw [adr_eq]; omega) | exact iAnd_nn _ _ | exact iSub_nn _ _ | exact part1_le (by omega) (by first | omega | (simp only [List.length_append]; omega)) | decide), trivial⟩, ⟨⟨trivial, trivial⟩, ⟨⟨trivial, trivial⟩, ⟨⟨trivial, trivial⟩, ⟨⟨trivial, trivial⟩, trivial⟩⟩⟩⟩⟩⟩⟩⟩⟩⟩⟩⟩⟩⟩⟩⟩⟩⟩) ?_
      refine Tri.ret ?_
      repeat (first | refine thenP_ret ?_ | refine blkP_ret ?_ | refine countP_ret ?_ | refine joinP_ret ?_ | refine iterP_ret ?_)
      refine endP.conv (r' := ⟨.sc (.b ((p1 : Int) == ((p0.length : Nat) : Int))), [some (.cells [.ro .u8 p0, .i .i64 p1, .b p2])]⟩) (by simp only [FwcEnd, h1, sel_true, sel_false]) ?_
      exact endP.ret [(0, 0)] (True ∧ True) (by kernel_rfl) (by kernel_rfl) ⟨trivial, trivial⟩
    ·
      refine Tri.seq_region [(8, qb false)] (some [0, 1, 3, 7, 15, 31, 63, 127, 255, 511, 63, 1087, 3135, 7231, 15423, 32767, 65535, 131071]) [2] [0] ((True ∧ True) ∧ ((True ∧ True) ∧ ((True ∧ True) ∧ (((2 < 3) ∧ True) ∧ ((True ∧ True) ∧ ((True ∧ ((!p2) = false)) ∧ ((True ∧ True) ∧ ((True ∧ True) ∧ ((True ∧ True) ∧ ((True ∧ True) ∧ ((True ∧ True) ∧ ((True ∧ True) ∧ ((True ∧ True) ∧ ((True ∧ True) ∧ ((True ∧ True) ∧ ((True ∧ True) ∧ ((True ∧ True) ∧ ((True ∧ True) ∧ True))))))))))))))))))
          ([(2, .sc (.b false))], [(0, .cells [.ro .u8 p0, .i .i64 p1, .b p2])])
          320 (by kernel_rfl) rfl (by kernel_rfl) (⟨⟨trivial, trivial⟩, ⟨⟨trivial, trivial⟩, ⟨⟨trivial, trivial⟩, ⟨⟨(by first | omega | (rw [adr_eq]; omega) | exact iAnd_nn _ _ | exact iSub_nn _ _ | exact part1_le (by omega) (by first | omega | (simp only [List.length_append]; omega)) | decide), trivial⟩, ⟨⟨trivial, trivial⟩, ⟨⟨trivial, (h1)⟩, ⟨⟨trivial, trivial⟩, ⟨⟨trivial, trivial⟩, ⟨⟨trivial, trivial⟩, ⟨⟨trivial, trivial⟩, ⟨⟨trivial, trivial⟩, ⟨⟨trivial, trivial⟩, ⟨⟨trivial, trivial⟩, ⟨⟨trivial, trivial⟩, ⟨⟨trivial, trivial⟩, ⟨⟨trivial, trivial⟩, ⟨⟨trivial, trivial⟩, ⟨⟨trivial, trivial⟩, trivial⟩⟩⟩⟩⟩⟩⟩⟩⟩⟩⟩⟩⟩⟩⟩⟩⟩⟩) ?_
      refine Tri.ret ?_
      repeat (first | refine thenP_ret ?_ | refine blkP_ret ?_ | refine countP_ret ?_ | refine joinP_ret ?_ | refine iterP_ret ?_)
      refine endP.conv (r' := ⟨.sc (.b false), [some (.cells [.ro .u8 p0, .i .i64 p1, .b p2])]⟩) (by simp only [FwcEnd, h1, sel_true, sel_false]) ?_
      exact endP.ret [(0, 0)] (True ∧ True) (by kernel_rfl) (by kernel_rfl) ⟨trivial, trivial⟩



end Go.Vm
