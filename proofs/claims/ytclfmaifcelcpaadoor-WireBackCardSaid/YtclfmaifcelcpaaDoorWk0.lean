/- What the functions compute, and that they do: walked by a printed text. -/
import Derived.Test.YtclfmaifcelcpaaDoorChecked
import Derived.Test.YtclfmaifcelcpaaDoorVnZb
import Derived.Test.YtclfmaifcelcpaaDoorLj
set_option linter.unusedVariables false
set_option linter.unusedSimpArgs false
set_option maxRecDepth 4000
namespace Go.Vm
open Go

theorem mixed : Go.Proofs.Tryd.prog.follows .mixedOrders = true := by kernel_rfl
theorem Kjoin : Known Go.Proofs.Tryd.prog noG 48 ⟨0, 0, specJoin⟩ := known_join (by kernel_rfl) Go.Proofs.Tryd.strings_Join_none Go.Proofs.Tryd.strings_Join
theorem Kidx : Known Go.Proofs.Tryd.prog noG 77 ⟨0, 0, specIdx⟩ := known_idx (fn := Go.Proofs.Tryd.f77) (by kernel_rfl) (by kernel_rfl) (by kernel_rfl) (by kernel_rfl) (by kernel_rfl)
theorem Kcnt : Known Go.Proofs.Tryd.prog noG 68 ⟨0, 0, specCnt⟩ := known_cnt (fn := Go.Proofs.Tryd.f68) (by kernel_rfl) (by kernel_rfl) (by kernel_rfl) (by kernel_rfl) (by kernel_rfl)


noncomputable def FwIdxByte (p0 : ByteArray) (p1 : Int) : Int :=
  (idxB p0 p1)

noncomputable def SwIdxByte : List AV → List Blk → Option (Prop × Ret)
  | [.sc (.s p0), .sc (.i .u8 p1)], [] => some (True, ⟨.sc (.i .i64 (FwIdxByte p0 p1)), []⟩)
  | _, _ => none

noncomputable def BwIdxByte : Bs := { P := Go.Proofs.Tryd.prog, G := noG, tab := tabOf [⟨77, 64, [.val, .val], [], [], ⟨0, 0, specIdx⟩⟩], n := 8 }

theorem BwIdxByte.ok : BwIdxByte.Ok := ⟨tabOk (P := Go.Proofs.Tryd.prog) (G := noG) (l := [⟨77, 64, [.val, .val], [], [], ⟨0, 0, specIdx⟩⟩]) (And.intro Kidx True.intro), mixed⟩

theorem KwIdxByte : Known Go.Proofs.Tryd.prog noG 73 ⟨0, 0, SwIdxByte⟩ := by
  refine Known.walk (B := BwIdxByte) (fn := Go.Proofs.Tryd.f73) BwIdxByte.ok (by kernel_rfl) rfl (by kernel_rfl) (by kernel_rfl) (by decide) (by decide) ?_
  · intro E args ks C r h hC hlen
    simp only at h
    unfold SwIdxByte at h
    split at h
    rotate_left
    · cases h
    rename_i p0 p1
    cases h
    simp only [lens] at hlen
    refine ⟨show 2 ≤ 8 from by decide, ?_⟩
    refine Tri.sub (Sub.of_eq (show _ = ([(0, .sc (.s p0)), (1, .sc (.i .u8 p1))], []) from rfl)) ?_
    refine Tri.seq_region [] none [0, 1] [] ((True ∧ True) ∧ True)
        ([(0, .sc (.s p0)), (1, .sc (.i .u8 p1))], [])
        32 (by kernel_rfl) rfl (by kernel_rfl) (⟨⟨trivial, trivial⟩, trivial⟩) ?_
    refine Tri.seq_region [] none [4] [] ((True ∧ True) ∧ ((True ∧ True) ∧ (((True ∧ True) ∧ True) ∧ ((True ∧ True) ∧ True))))
        ([(4, .sc (.i .i64 (idxB p0 p1)))], [])
        96 (by kernel_rfl) rfl (by kernel_rfl) (⟨⟨trivial, trivial⟩, ⟨⟨trivial, trivial⟩, ⟨⟨⟨trivial, trivial⟩, trivial⟩, ⟨⟨trivial, trivial⟩, trivial⟩⟩⟩⟩) ?_
    refine Tri.ret ?_
    repeat (first | refine thenP_ret ?_ | refine blkP_ret ?_ | refine countP_ret ?_ | refine joinP_ret ?_ | refine iterP_ret ?_)
    exact endP.ret [] (True ∧ True) (by kernel_rfl) (by kernel_rfl) ⟨trivial, trivial⟩




noncomputable def FwslIndex (p0 : ByteArray) : Int :=
  (sel (strEq (⟨#[44]⟩ : ByteArray) p0) 0 (FwIdxByte p0 44))

noncomputable def SwslIndex : List AV → List Blk → Option (Prop × Ret)
  | [.sc (.s p0), .sc (.s p1)], [] => some ((((⟨#[44]⟩ : ByteArray) = p1) ∧ True), ⟨.sc (.i .i64 (FwslIndex p0)), []⟩)
  | _, _ => none

noncomputable def BwslIndex : Bs := { P := Go.Proofs.Tryd.prog, G := noG, tab := tabOf [⟨73, 304, [.val, .val], [], [], ⟨0, 0, SwIdxByte⟩⟩], n := 143 }

theorem BwslIndex.ok : BwslIndex.Ok := ⟨tabOk (P := Go.Proofs.Tryd.prog) (G := noG) (l := [⟨73, 304, [.val, .val], [], [], ⟨0, 0, SwIdxByte⟩⟩]) (And.intro KwIdxByte True.intro), mixed⟩

theorem KwslIndex : Known Go.Proofs.Tryd.prog noG 69 ⟨0, 0, SwslIndex⟩ := by
  refine Known.walk (B := BwslIndex) (fn := Go.Proofs.Tryd.f69) BwslIndex.ok (by kernel_rfl) rfl (by kernel_rfl) (by kernel_rfl) (by decide) (by decide) ?_
  · intro E args ks C r h hC hlen
    simp only at h
    unfold SwslIndex at h
    split at h
    rotate_left
    · cases h
    rename_i p0 p1
    cases h
    simp only [lens] at hlen
    have hEp1 := hC.1
    have hC := hC.2
    subst hEp1
    refine ⟨show 2 ≤ 143 from by decide, ?_⟩
    refine Tri.sub (Sub.of_eq (show _ = ([(0, .sc (.s p0)), (1, .sc (.s (⟨#[44]⟩ : ByteArray)))], []) from rfl)) ?_
    refine Tri.seq_region [] none [0, 1] [] ((True ∧ True) ∧ True)
        ([(0, .sc (.s p0)), (1, .sc (.s (⟨#[44]⟩ : ByteArray)))], [])
        32 (by kernel_rfl) rfl (by kernel_rfl) (⟨⟨trivial, trivial⟩, trivial⟩) ?_
    refine Tri.seq_region [] none [5, 0, 1] [] ((True ∧ True) ∧ ((True ∧ True) ∧ ((True ∧ True) ∧ True)))
        ([(5, .sc (.i .i64 1)), (0, .sc (.s p0)), (1, .sc (.s (⟨#[44]⟩ : ByteArray)))], [])
        80 (by kernel_rfl) rfl (by kernel_rfl) (⟨⟨trivial, trivial⟩, ⟨⟨trivial, trivial⟩, ⟨⟨trivial, trivial⟩, trivial⟩⟩⟩) ?_
    refine Tri.seq ?_
    refine Tri.block ?_
    refine Tri.seq_region [] none [16, 5, 0, 1] [] ((True ∧ True) ∧ ((True ∧ True) ∧ ((True ∧ True) ∧ ((True ∧ True) ∧ ((True ∧ True) ∧ ((True ∧ True) ∧ ((True ∧ True) ∧ ((True ∧ True) ∧ True))))))))
        ([(16, .sc (.b (strEq (⟨#[44]⟩ : ByteArray) p0))), (5, .sc (.i .i64 1)), (0, .sc (.s p0)), (1, .sc (.s (⟨#[44]⟩ : ByteArray)))], [])
        208 (by kernel_rfl) rfl (by kernel_rfl) (⟨⟨trivial, trivial⟩, ⟨⟨trivial, trivial⟩, ⟨⟨trivial, trivial⟩, ⟨⟨trivial, trivial⟩, ⟨⟨trivial, trivial⟩, ⟨⟨trivial, trivial⟩, ⟨⟨trivial, trivial⟩, ⟨⟨trivial, trivial⟩, trivial⟩⟩⟩⟩⟩⟩⟩⟩) ?_
    refine Tri.cond (x := (strEq (⟨#[44]⟩ : ByteArray) p0)) (by kernel_rfl) (fun h1 => ?_) (fun h1 => ?_)
    ·
      refine Tri.seq_region [] none [4] [] ((True ∧ True) ∧ True)
          ([(4, .sc (.i .i64 0))], [])
          224 (by kernel_rfl) rfl (by kernel_rfl) (⟨⟨trivial, trivial⟩, trivial⟩) ?_
      refine Tri.ret ?_
      repeat (first | refine thenP_ret ?_ | refine blkP_ret ?_ | refine countP_ret ?_ | refine joinP_ret ?_ | refine iterP_ret ?_)
      refine endP.conv (r' := ⟨.sc (.i .i64 0), []⟩) (by simp only [FwslIndex, h1, sel_true, sel_false]) ?_
      exact endP.ret [] (True ∧ True) (by kernel_rfl) (by kernel_rfl) ⟨trivial, trivial⟩
    ·
      refine Tri.seq_region [] none [24, 5, 0, 1] [] ((True ∧ True) ∧ ((True ∧ True) ∧ ((True ∧ True) ∧ True)))
          ([(24, .sc (.b true)), (5, .sc (.i .i64 1)), (0, .sc (.s p0)), (1, .sc (.s (⟨#[44]⟩ : ByteArray)))], [])
          256 (by kernel_rfl) rfl (by kernel_rfl) (⟨⟨trivial, trivial⟩, ⟨⟨trivial, trivial⟩, ⟨⟨trivial, trivial⟩, trivial⟩⟩⟩) ?_
      refine Tri.cond_true (by kernel_rfl) ?_
      refine Tri.seq_region [(29, .sc (.i .u8 44))] none [4] [] ((True ∧ True) ∧ ((True ∧ True) ∧ ((((0 : Int) ≤ 0 ∧ 0 < ((⟨#[44]⟩ : ByteArray).size : Int)) ∧ ((byteAt (⟨#[44]⟩ : ByteArray) 0) = 44)) ∧ (((True ∧ True) ∧ True) ∧ ((True ∧ True) ∧ True)))))
          ([(4, .sc (.i .i64 (FwIdxByte p0 44)))], [])
          336 (by kernel_rfl) rfl (by kernel_rfl) (⟨⟨trivial, trivial⟩, ⟨⟨trivial, trivial⟩, ⟨⟨(by decide), (by decide)⟩, ⟨⟨⟨trivial, trivial⟩, trivial⟩, ⟨⟨trivial, trivial⟩, trivial⟩⟩⟩⟩⟩) ?_
      refine Tri.ret ?_
      repeat (first | refine thenP_ret ?_ | refine blkP_ret ?_ | refine countP_ret ?_ | refine joinP_ret ?_ | refine iterP_ret ?_)
      refine endP.conv (r' := ⟨.sc (.i .i64 (FwIdxByte p0 44)), []⟩) (by simp only [FwslIndex, h1, sel_true, sel_false]) ?_
      exact endP.ret [] (True ∧ True) (by kernel_rfl) (by kernel_rfl) ⟨trivial, trivial⟩




noncomputable def FwIndex (p0 : ByteArray) : Int :=
  (FwslIndex p0)

noncomputable def SwIndex : List AV → List Blk → Option (Prop × Ret)
  | [.sc (.s p0), .sc (.s p1)], [] => some ((((⟨#[44]⟩ : ByteArray) = p1) ∧ True), ⟨.sc (.i .i64 (FwIndex p0)), []⟩)
  | _, _ => none

noncomputable def BwIndex : Bs := { P := Go.Proofs.Tryd.prog, G := noG, tab := tabOf [⟨69, 64, [.val, .val], [], [], ⟨0, 0, SwslIndex⟩⟩], n := 8 }

theorem BwIndex.ok : BwIndex.Ok := ⟨tabOk (P := Go.Proofs.Tryd.prog) (G := noG) (l := [⟨69, 64, [.val, .val], [], [], ⟨0, 0, SwslIndex⟩⟩]) (And.intro KwslIndex True.intro), mixed⟩

theorem KwIndex : Known Go.Proofs.Tryd.prog noG 63 ⟨0, 0, SwIndex⟩ := by
  refine Known.walk (B := BwIndex) (fn := Go.Proofs.Tryd.f63) BwIndex.ok (by kernel_rfl) rfl (by kernel_rfl) (by kernel_rfl) (by decide) (by decide) ?_
  · intro E args ks C r h hC hlen
    simp only at h
    unfold SwIndex at h
    split at h
    rotate_left
    · cases h
    rename_i p0 p1
    cases h
    simp only [lens] at hlen
    have hEp1 := hC.1
    have hC := hC.2
    subst hEp1
    refine ⟨show 2 ≤ 8 from by decide, ?_⟩
    refine Tri.sub (Sub.of_eq (show _ = ([(0, .sc (.s p0)), (1, .sc (.s (⟨#[44]⟩ : ByteArray)))], []) from rfl)) ?_
    refine Tri.seq_region [] none [0, 1] [] ((True ∧ True) ∧ True)
        ([(0, .sc (.s p0)), (1, .sc (.s (⟨#[44]⟩ : ByteArray)))], [])
        32 (by kernel_rfl) rfl (by kernel_rfl) (⟨⟨trivial, trivial⟩, trivial⟩) ?_
    refine Tri.seq_region [] none [4] [] ((True ∧ True) ∧ ((True ∧ True) ∧ (((True ∧ (((⟨#[44]⟩ : ByteArray) = (⟨#[44]⟩ : ByteArray)) ∧ True)) ∧ True) ∧ ((True ∧ True) ∧ True))))
        ([(4, .sc (.i .i64 (FwslIndex p0)))], [])
        96 (by kernel_rfl) rfl (by kernel_rfl) (⟨⟨trivial, trivial⟩, ⟨⟨trivial, trivial⟩, ⟨⟨⟨trivial, ⟨(rfl), trivial⟩⟩, trivial⟩, ⟨⟨trivial, trivial⟩, trivial⟩⟩⟩⟩) ?_
    refine Tri.ret ?_
    repeat (first | refine thenP_ret ?_ | refine blkP_ret ?_ | refine countP_ret ?_ | refine joinP_ret ?_ | refine iterP_ret ?_)
    exact endP.ret [] (True ∧ True) (by kernel_rfl) (by kernel_rfl) ⟨trivial, trivial⟩

theorem in_FwIndex (p0 : ByteArray) : -1 ≤ FwIndex p0 ∧ FwIndex p0 < (p0.size : Int) := by
  unfold FwIndex FwslIndex
  cases h : strEq (⟨#[44]⟩ : ByteArray) p0
  · rw [sel_false]; exact idx_in p0 44
  · rw [sel_true, ← strEq_eq h]; exact ⟨by decide, by decide⟩


noncomputable def FwCount (p0 : ByteArray) : Nat :=
  (cntB p0 44)

noncomputable def SwCount : List AV → List Blk → Option (Prop × Ret)
  | [.sc (.s p0), .sc (.s p1)], [] => some ((((⟨#[44]⟩ : ByteArray) = p1) ∧ True), ⟨.sc (.i .i64 (((FwCount p0) : Nat) : Int)), []⟩)
  | _, _ => none

noncomputable def BwCount : Bs := { P := Go.Proofs.Tryd.prog, G := noG, tab := tabOf [⟨68, 176, [.val, .val], [], [], ⟨0, 0, specCnt⟩⟩], n := 34 }

theorem BwCount.ok : BwCount.Ok := ⟨tabOk (P := Go.Proofs.Tryd.prog) (G := noG) (l := [⟨68, 176, [.val, .val], [], [], ⟨0, 0, specCnt⟩⟩]) (And.intro Kcnt True.intro), mixed⟩

theorem KwCount : Known Go.Proofs.Tryd.prog noG 62 ⟨0, 0, SwCount⟩ := by
  refine Known.walk (B := BwCount) (fn := Go.Proofs.Tryd.f62) BwCount.ok (by kernel_rfl) rfl (by kernel_rfl) (by kernel_rfl) (by decide) (by decide) ?_
  · intro E args ks C r h hC hlen
    simp only at h
    unfold SwCount at h
    split at h
    rotate_left
    · cases h
    rename_i p0 p1
    cases h
    simp only [lens] at hlen
    have hEp1 := hC.1
    have hC := hC.2
    subst hEp1
    refine ⟨show 2 ≤ 34 from by decide, ?_⟩
    refine Tri.sub (Sub.of_eq (show _ = ([(0, .sc (.s p0)), (1, .sc (.s (⟨#[44]⟩ : ByteArray)))], []) from rfl)) ?_
    refine Tri.seq_region [] none [0, 1] [] ((True ∧ True) ∧ True)
        ([(0, .sc (.s p0)), (1, .sc (.s (⟨#[44]⟩ : ByteArray)))], [])
        32 (by kernel_rfl) rfl (by kernel_rfl) (⟨⟨trivial, trivial⟩, trivial⟩) ?_
    refine Tri.seq ?_
    refine Tri.seq_region [] none [9, 0, 1] [] ((True ∧ True) ∧ ((True ∧ True) ∧ ((True ∧ True) ∧ True)))
        ([(9, .sc (.b false)), (0, .sc (.s p0)), (1, .sc (.s (⟨#[44]⟩ : ByteArray)))], [])
        80 (by kernel_rfl) rfl (by kernel_rfl) (⟨⟨trivial, trivial⟩, ⟨⟨trivial, trivial⟩, ⟨⟨trivial, trivial⟩, trivial⟩⟩⟩) ?_
    refine Tri.cond_false (by kernel_rfl) ?_
    refine Tri.skip ?_
    change Tri _ _ _ _ _ _
    refine Tri.seq ?_
    refine Tri.seq_region [] none [15, 0, 1] [] ((True ∧ True) ∧ ((True ∧ True) ∧ ((True ∧ True) ∧ True)))
        ([(15, .sc (.b true)), (0, .sc (.s p0)), (1, .sc (.s (⟨#[44]⟩ : ByteArray)))], [])
        128 (by kernel_rfl) rfl (by kernel_rfl) (⟨⟨trivial, trivial⟩, ⟨⟨trivial, trivial⟩, ⟨⟨trivial, trivial⟩, trivial⟩⟩⟩) ?_
    refine Tri.cond_true (by kernel_rfl) ?_
    refine Tri.seq_region [(18, .sc (.i .u8 44))] none [4] [] ((True ∧ True) ∧ ((True ∧ True) ∧ ((((0 : Int) ≤ 0 ∧ 0 < ((⟨#[44]⟩ : ByteArray).size : Int)) ∧ ((byteAt (⟨#[44]⟩ : ByteArray) 0) = 44)) ∧ (((True ∧ True) ∧ True) ∧ ((True ∧ True) ∧ True)))))
        ([(4, .sc (.i .i64 (((cntB p0 44) : Nat) : Int)))], [])
        208 (by kernel_rfl) rfl (by kernel_rfl) (⟨⟨trivial, trivial⟩, ⟨⟨trivial, trivial⟩, ⟨⟨(by decide), (by decide)⟩, ⟨⟨⟨trivial, trivial⟩, trivial⟩, ⟨⟨trivial, trivial⟩, trivial⟩⟩⟩⟩⟩) ?_
    refine Tri.ret ?_
    repeat (first | refine thenP_ret ?_ | refine blkP_ret ?_ | refine countP_ret ?_ | refine joinP_ret ?_ | refine iterP_ret ?_)
    exact endP.ret [] (True ∧ True) (by kernel_rfl) (by kernel_rfl) ⟨trivial, trivial⟩

theorem le_FwCount (p0 : ByteArray) : FwCount p0 ≤ p0.size := cnt_le p0 44


noncomputable def FwgenSplitl0 (k0 : Nat) (z0 : ByteArray × List ByteArray) : ByteArray × List ByteArray :=
  ((z0.1.extract (((iAdd .i64 (FwIndex z0.1) 1)).toNat) z0.1.size), z0.2.set k0 (z0.1.extract 0 (((iAdd .i64 (FwIndex z0.1) 0)).toNat)))

noncomputable def FwgenSplits0 (p0 : ByteArray) (k0 : Nat) : Bool :=
  (sel (decide (((FwIndex (itr (FwgenSplitl0) k0 (p0, List.replicate (min ((FwCount p0) + 1) (p0.size + 1)) (⟨#[]⟩ : ByteArray))).1) : Int) < 0)) true false)

noncomputable def FwgenSplit (p0 : ByteArray) : List ByteArray :=
  (sel (Nat.blt (fstB (FwgenSplits0 p0) ((min ((FwCount p0) + 1) (p0.size + 1)) - 1)) ((min ((FwCount p0) + 1) (p0.size + 1)) - 1)) (((itr (FwgenSplitl0) (fstB (FwgenSplits0 p0) ((min ((FwCount p0) + 1) (p0.size + 1)) - 1)) (p0, List.replicate (min ((FwCount p0) + 1) (p0.size + 1)) (⟨#[]⟩ : ByteArray))).2).set (fstB (FwgenSplits0 p0) ((min ((FwCount p0) + 1) (p0.size + 1)) - 1)) ((itr (FwgenSplitl0) (fstB (FwgenSplits0 p0) ((min ((FwCount p0) + 1) (p0.size + 1)) - 1)) (p0, List.replicate (min ((FwCount p0) + 1) (p0.size + 1)) (⟨#[]⟩ : ByteArray))).1)) (((itr (FwgenSplitl0) ((min ((FwCount p0) + 1) (p0.size + 1)) - 1) (p0, List.replicate (min ((FwCount p0) + 1) (p0.size + 1)) (⟨#[]⟩ : ByteArray))).2).set ((min ((FwCount p0) + 1) (p0.size + 1)) - 1) ((itr (FwgenSplitl0) ((min ((FwCount p0) + 1) (p0.size + 1)) - 1) (p0, List.replicate (min ((FwCount p0) + 1) (p0.size + 1)) (⟨#[]⟩ : ByteArray))).1)))

noncomputable def FwgenSplitn0 (p0 : ByteArray) : Nat :=
  (sel (Nat.blt (fstB (FwgenSplits0 p0) ((min ((FwCount p0) + 1) (p0.size + 1)) - 1)) ((min ((FwCount p0) + 1) (p0.size + 1)) - 1)) (((fstB (FwgenSplits0 p0) ((min ((FwCount p0) + 1) (p0.size + 1)) - 1)) + 1) - 0) ((((min ((FwCount p0) + 1) (p0.size + 1)) - 1) + 1) - 0))

noncomputable def SwgenSplit : List AV → List Blk → Option (Prop × Ret)
  | [.sc (.s p0), .sc (.s p1), .sc (.i .i64 p2), .sc (.i .i64 p3)], [] => some ((((⟨#[44]⟩ : ByteArray) = p1) ∧ (((0 : Int) = p2) ∧ (((-1 : Int) = p3) ∧ (p0.size ≤ 1000000000)))), ⟨.sc (.sl 0 0 (FwgenSplitn0 p0) 1 none), [some (.vec .str (FwgenSplit p0))]⟩)
  | _, _ => none

noncomputable def BwgenSplit : Bs := { P := Go.Proofs.Tryd.prog, G := noG, tab := tabOf [⟨62, 160, [.val, .val], [], [], ⟨0, 0, SwCount⟩⟩, ⟨63, 496, [.val, .val], [], [], ⟨0, 0, SwIndex⟩⟩], n := 66 }

theorem BwgenSplit.ok : BwgenSplit.Ok := ⟨tabOk (P := Go.Proofs.Tryd.prog) (G := noG) (l := [⟨62, 160, [.val, .val], [], [], ⟨0, 0, SwCount⟩⟩, ⟨63, 496, [.val, .val], [], [], ⟨0, 0, SwIndex⟩⟩]) (And.intro KwCount (And.intro KwIndex True.intro)), mixed⟩

theorem KwgenSplit : Known Go.Proofs.Tryd.prog noG 55 ⟨0, 1, SwgenSplit⟩ := by
  refine Known.walk (B := BwgenSplit) (fn := Go.Proofs.Tryd.f55) BwgenSplit.ok (by kernel_rfl) rfl (by kernel_rfl) (by kernel_rfl) (by decide) (by decide) ?_
  · intro E args ks C r h hC hlen
    simp only at h
    unfold SwgenSplit at h
    split at h
    rotate_left
    · cases h
    rename_i p0 p1 p2 p3
    cases h
    simp only [lens] at hlen
    have hEp1 := hC.1
    have hEp2 := hC.2.1
    have hEp3 := hC.2.2.1
    have hC := hC.2.2.2
    subst hEp1
    subst hEp2
    subst hEp3
    have hc := le_FwCount p0
    refine ⟨show 4 ≤ 66 from by decide, ?_⟩
    refine Tri.sub (Sub.of_eq (show _ = ([(0, .sc (.s p0)), (1, .sc (.s (⟨#[44]⟩ : ByteArray))), (2, .sc (.i .i64 0)), (3, .sc (.i .i64 (-1)))], []) from rfl)) ?_
    refine Tri.seq_region [] none [0, 1, 2, 3] [] ((True ∧ True) ∧ True)
        ([(0, .sc (.s p0)), (1, .sc (.s (⟨#[44]⟩ : ByteArray))), (2, .sc (.i .i64 0)), (3, .sc (.i .i64 (-1)))], [])
        32 (by kernel_rfl) rfl (by kernel_rfl) (⟨⟨trivial, trivial⟩, trivial⟩) ?_
    refine Tri.seq ?_
    refine Tri.seq_region [] none [13, 0, 1, 2, 3] [] ((True ∧ True) ∧ ((True ∧ True) ∧ True))
        ([(13, .sc (.b false)), (0, .sc (.s p0)), (1, .sc (.s (⟨#[44]⟩ : ByteArray))), (2, .sc (.i .i64 0)), (3, .sc (.i .i64 (-1)))], [])
        64 (by kernel_rfl) rfl (by kernel_rfl) (⟨⟨trivial, trivial⟩, ⟨⟨trivial, trivial⟩, trivial⟩⟩) ?_
    refine Tri.cond_false (by kernel_rfl) ?_
    refine Tri.skip ?_
    change Tri _ _ _ _ _ _
    refine Tri.seq ?_
    refine Tri.seq_region [] none [15, 0, 1, 2, 3] [] ((True ∧ True) ∧ ((True ∧ True) ∧ True))
        ([(15, .sc (.b (strEq (⟨#[44]⟩ : ByteArray) (⟨#[]⟩ : ByteArray)))), (0, .sc (.s p0)), (1, .sc (.s (⟨#[44]⟩ : ByteArray))), (2, .sc (.i .i64 0)), (3, .sc (.i .i64 (-1)))], [])
        96 (by kernel_rfl) rfl (by kernel_rfl) (⟨⟨trivial, trivial⟩, ⟨⟨trivial, trivial⟩, trivial⟩⟩) ?_
    refine Tri.cond (x := (strEq (⟨#[44]⟩ : ByteArray) (⟨#[]⟩ : ByteArray))) (by kernel_rfl) (fun h => absurd (h.symm.trans (by rw [strEq_data] <;> decide)) (by decide)) (fun h => ?_)
    refine Tri.skip ?_
    change Tri _ _ _ _ _ _
    refine Tri.seq ?_
    refine Tri.seq_region [] none [20, 0, 1, 2, 3] [] ((True ∧ True) ∧ ((True ∧ True) ∧ True))
        ([(20, .sc (.b true)), (0, .sc (.s p0)), (1, .sc (.s (⟨#[44]⟩ : ByteArray))), (2, .sc (.i .i64 0)), (3, .sc (.i .i64 (-1)))], [])
        128 (by kernel_rfl) rfl (by kernel_rfl) (⟨⟨trivial, trivial⟩, ⟨⟨trivial, trivial⟩, trivial⟩⟩) ?_
    refine Tri.cond_true (by kernel_rfl) ?_
    refine Tri.region' [(24, qi (((FwCount p0) + 1 : Nat) : Int))] none [3, 0, 1, 2] [] ((True ∧ True) ∧ ((True ∧ True) ∧ (((True ∧ (((⟨#[44]⟩ : ByteArray) = (⟨#[44]⟩ : ByteArray)) ∧ True)) ∧ True) ∧ ((True ∧ ((iAdd .i64 (((FwCount p0) : Nat) : Int) 1) = (((FwCount p0) + 1 : Nat) : Int))) ∧ ((True ∧ True) ∧ True)))))
        ([(3, .sc (.i .i64 (((FwCount p0) + 1 : Nat) : Int))), (0, .sc (.s p0)), (1, .sc (.s (⟨#[44]⟩ : ByteArray))), (2, .sc (.i .i64 0))], [])
        208 (by kernel_rfl) rfl (by kernel_rfl) (⟨⟨trivial, trivial⟩, ⟨⟨trivial, trivial⟩, ⟨⟨⟨trivial, ⟨(rfl), trivial⟩⟩, trivial⟩, ⟨⟨trivial, (iAdd_nat (a := (FwCount p0)) (b := 1) (by omega))⟩, ⟨⟨trivial, trivial⟩, trivial⟩⟩⟩⟩⟩) ?_
    change Tri _ _ _ _ _ _
    refine Tri.seq_region [(28, qi ((p0.size + 1 : Nat) : Int)), (29, qi ((min ((FwCount p0) + 1) (p0.size + 1) : Nat) : Int))] none [3, 0, 1, 2] [] ((True ∧ True) ∧ ((True ∧ True) ∧ ((True ∧ True) ∧ ((True ∧ ((iAdd .i64 ((p0.size : Nat) : Int) 1) = ((p0.size + 1 : Nat) : Int))) ∧ ((True ∧ ((minI (((FwCount p0) + 1 : Nat) : Int) ((p0.size + 1 : Nat) : Int)) = ((min ((FwCount p0) + 1) (p0.size + 1) : Nat) : Int))) ∧ ((True ∧ True) ∧ True))))))
        ([(3, .sc (.i .i64 ((min ((FwCount p0) + 1) (p0.size + 1) : Nat) : Int))), (0, .sc (.s p0)), (1, .sc (.s (⟨#[44]⟩ : ByteArray))), (2, .sc (.i .i64 0))], [])
        304 (by kernel_rfl) rfl (by kernel_rfl) (⟨⟨trivial, trivial⟩, ⟨⟨trivial, trivial⟩, ⟨⟨trivial, trivial⟩, ⟨⟨trivial, (iAdd_nat (a := p0.size) (b := 1) (by omega))⟩, ⟨⟨trivial, (minI_nat ((FwCount p0) + 1) (p0.size + 1))⟩, ⟨⟨trivial, trivial⟩, trivial⟩⟩⟩⟩⟩⟩) ?_
    refine Tri.seq_region [] none [9, 3, 0, 1, 2] [320] ((True ∧ True) ∧ (((((0 : Int) ≤ ((min ((FwCount p0) + 1) (p0.size + 1) : Nat) : Int) ∧ (((min ((FwCount p0) + 1) (p0.size + 1) : Nat) : Int) : Int) = ((min ((FwCount p0) + 1) (p0.size + 1) : Nat) : Int)) ∧ ((((min ((FwCount p0) + 1) (p0.size + 1) : Nat) : Int) ≤ (140737488355328 : Int)) ∧ (((16 : Nat) : Int) * ((min ((FwCount p0) + 1) (p0.size + 1) : Nat) : Int) ≤ 281474976710656))) ∧ True) ∧ ((True ∧ True) ∧ True)))
        ([(9, .sc (.sl 320 0 (min ((FwCount p0) + 1) (p0.size + 1)) 1 none)), (3, .sc (.i .i64 ((min ((FwCount p0) + 1) (p0.size + 1) : Nat) : Int))), (0, .sc (.s p0)), (1, .sc (.s (⟨#[44]⟩ : ByteArray))), (2, .sc (.i .i64 0))], [(320, .vec .str (List.replicate (min ((FwCount p0) + 1) (p0.size + 1)) (⟨#[]⟩ : ByteArray)))])
        352 (by kernel_rfl) rfl (by kernel_rfl) (⟨⟨trivial, trivial⟩, ⟨⟨⟨(by first | omega | (rw [adr_eq]; omega) | exact iAnd_nn _ _ | exact iSub_nn _ _ | exact part1_le (by omega) (by first | omega | (simp only [List.length_append]; omega)) | decide), ⟨(by first | omega | (rw [adr_eq]; omega) | exact iAnd_nn _ _ | exact iSub_nn _ _ | exact part1_le (by omega) (by first | omega | (simp only [List.length_append]; omega)) | decide), (by first | omega | (rw [adr_eq]; omega) | exact iAnd_nn _ _ | exact iSub_nn _ _ | exact part1_le (by omega) (by first | omega | (simp only [List.length_append]; omega)) | decide)⟩⟩, trivial⟩, ⟨⟨trivial, trivial⟩, trivial⟩⟩⟩) ?_
    refine Tri.seq_region [(33, qi (((min ((FwCount p0) + 1) (p0.size + 1)) - 1 : Nat) : Int))] none [3, 9, 0, 1, 2] [320] ((True ∧ True) ∧ ((True ∧ ((iSub .i64 ((min ((FwCount p0) + 1) (p0.size + 1) : Nat) : Int) 1) = (((min ((FwCount p0) + 1) (p0.size + 1)) - 1 : Nat) : Int))) ∧ ((True ∧ True) ∧ True)))
        ([(3, .sc (.i .i64 (((min ((FwCount p0) + 1) (p0.size + 1)) - 1 : Nat) : Int))), (9, .sc (.sl 320 0 (min ((FwCount p0) + 1) (p0.size + 1)) 1 none)), (0, .sc (.s p0)), (1, .sc (.s (⟨#[44]⟩ : ByteArray))), (2, .sc (.i .i64 0))], [(320, .vec .str (List.replicate (min ((FwCount p0) + 1) (p0.size + 1)) (⟨#[]⟩ : ByteArray)))])
        400 (by kernel_rfl) rfl (by kernel_rfl) (⟨⟨trivial, trivial⟩, ⟨⟨trivial, (iSub_nat (a := min ((FwCount p0) + 1) (p0.size + 1)) (b := 1) (by omega) (by omega))⟩, ⟨⟨trivial, trivial⟩, trivial⟩⟩⟩) ?_
    refine Tri.seq_region [] none [10, 3, 9, 0, 1, 2] [320] ((True ∧ True) ∧ True)
        ([(10, .sc (.i .i64 0)), (3, .sc (.i .i64 (((min ((FwCount p0) + 1) (p0.size + 1)) - 1 : Nat) : Int))), (9, .sc (.sl 320 0 (min ((FwCount p0) + 1) (p0.size + 1)) 1 none)), (0, .sc (.s p0)), (1, .sc (.s (⟨#[44]⟩ : ByteArray))), (2, .sc (.i .i64 0))], [(320, .vec .str (List.replicate (min ((FwCount p0) + 1) (p0.size + 1)) (⟨#[]⟩ : ByteArray)))])
        416 (by kernel_rfl) rfl (by kernel_rfl) (⟨⟨trivial, trivial⟩, trivial⟩) ?_
    refine Tri.seq ?_
    refine Tri.block ?_
    refine Tri.count 416 ((min ((FwCount p0) + 1) (p0.size + 1)) - 1) (FwgenSplitl0) (p0, List.replicate (min ((FwCount p0) + 1) (p0.size + 1)) (⟨#[]⟩ : ByteArray)) (fun k0 z0 => (z0.2.length = min (FwCount p0 + 1) (p0.size + 1) ∧ z0.1.size ≤ 1000000000) ∧ (∀ j, j < k0 → (FwgenSplits0 p0) j = false)) (fun k0 z0 => ([(10, .sc (.i .i64 ((k0 : Nat) : Int))), (3, .sc (.i .i64 (((min ((FwCount p0) + 1) (p0.size + 1)) - 1 : Nat) : Int))), (9, .sc (.sl 320 0 (min ((FwCount p0) + 1) (p0.size + 1)) 1 none)), (0, .sc (.s z0.1)), (1, .sc (.s (⟨#[44]⟩ : ByteArray))), (2, .sc (.i .i64 0))], [(320, .vec .str z0.2)])) (⟨⟨by rw [List.length_replicate], by omega⟩, (fun j hj => absurd hj (Nat.not_lt_zero j))⟩) (Sub.of_eq (by kernel_rfl)) ?_
    intro k0 z0 hk0 hz0 hJ0
    have hx := in_FwIndex z0.1
    have hy : iAdd .i64 (FwIndex z0.1) 1 = FwIndex z0.1 + 1 := iAdd_i64 (by omega) (by omega)
    have hy0 : iAdd .i64 (FwIndex z0.1) 0 = FwIndex z0.1 + 0 := iAdd_i64 (by omega) (by omega)
    refine Tri.seq ?_
    refine Tri.seq_region [] none [36, 10, 3, 9, 0, 1, 2] [320] ((True ∧ True) ∧ ((True ∧ True) ∧ ((True ∧ True) ∧ True)))
        ([(36, .sc (.b (decide ((((k0 : Nat) : Int) : Int) < (((min ((FwCount p0) + 1) (p0.size + 1)) - 1 : Nat) : Int))))), (10, .sc (.i .i64 ((k0 : Nat) : Int))), (3, .sc (.i .i64 (((min ((FwCount p0) + 1) (p0.size + 1)) - 1 : Nat) : Int))), (9, .sc (.sl 320 0 (min ((FwCount p0) + 1) (p0.size + 1)) 1 none)), (0, .sc (.s z0.1)), (1, .sc (.s (⟨#[44]⟩ : ByteArray))), (2, .sc (.i .i64 0))], [(320, .vec .str z0.2)])
        464 (by kernel_rfl) rfl (by kernel_rfl) (⟨⟨trivial, trivial⟩, ⟨⟨trivial, trivial⟩, ⟨⟨trivial, trivial⟩, trivial⟩⟩⟩) ?_
    refine Tri.cond (x := (decide ((((k0 : Nat) : Int) : Int) < (((min ((FwCount p0) + 1) (p0.size + 1)) - 1 : Nat) : Int)))) (by kernel_rfl) (fun h1 => ?_) (fun h1 => ?_)
    ·
      have h1' := of_decide_eq_true h1
      refine Tri.skip ?_
      change Tri _ _ _ _ _ _
      refine Tri.block ?_
      refine Tri.seq_region [] none [11, 10, 3, 9, 0, 1, 2] [320] ((True ∧ True) ∧ ((True ∧ True) ∧ (((True ∧ (((⟨#[44]⟩ : ByteArray) = (⟨#[44]⟩ : ByteArray)) ∧ True)) ∧ True) ∧ ((True ∧ True) ∧ True))))
          ([(11, .sc (.i .i64 (FwIndex z0.1))), (10, .sc (.i .i64 ((k0 : Nat) : Int))), (3, .sc (.i .i64 (((min ((FwCount p0) + 1) (p0.size + 1)) - 1 : Nat) : Int))), (9, .sc (.sl 320 0 (min ((FwCount p0) + 1) (p0.size + 1)) 1 none)), (0, .sc (.s z0.1)), (1, .sc (.s (⟨#[44]⟩ : ByteArray))), (2, .sc (.i .i64 0))], [(320, .vec .str z0.2)])
          528 (by kernel_rfl) rfl (by kernel_rfl) (⟨⟨trivial, trivial⟩, ⟨⟨trivial, trivial⟩, ⟨⟨⟨trivial, ⟨(rfl), trivial⟩⟩, trivial⟩, ⟨⟨trivial, trivial⟩, trivial⟩⟩⟩⟩) ?_
      refine Tri.seq ?_
      refine Tri.seq_region [] none [41, 11, 10, 3, 9, 0, 1, 2] [320] ((True ∧ True) ∧ ((True ∧ True) ∧ True))
          ([(41, .sc (.b (decide (((FwIndex z0.1) : Int) < 0)))), (11, .sc (.i .i64 (FwIndex z0.1))), (10, .sc (.i .i64 ((k0 : Nat) : Int))), (3, .sc (.i .i64 (((min ((FwCount p0) + 1) (p0.size + 1)) - 1 : Nat) : Int))), (9, .sc (.sl 320 0 (min ((FwCount p0) + 1) (p0.size + 1)) 1 none)), (0, .sc (.s z0.1)), (1, .sc (.s (⟨#[44]⟩ : ByteArray))), (2, .sc (.i .i64 0))], [(320, .vec .str z0.2)])
          560 (by kernel_rfl) rfl (by kernel_rfl) (⟨⟨trivial, trivial⟩, ⟨⟨trivial, trivial⟩, trivial⟩⟩) ?_
      refine Tri.cond (x := (decide (((FwIndex z0.1) : Int) < 0))) (by kernel_rfl) (fun h2 => ?_) (fun h2 => ?_)
      ·
        have h2' := of_decide_eq_true h2
        refine Tri.exit ?_
        subst hz0
        have hf0 : fstB (FwgenSplits0 p0) ((min ((FwCount p0) + 1) (p0.size + 1)) - 1) = k0 := fst_found (by omega) hJ0.2 (by simp only [FwgenSplits0, h1, h2, sel_true, sel_false])
        have hb0 : Nat.blt k0 ((min ((FwCount p0) + 1) (p0.size + 1)) - 1) = true := blt_true (by omega)
        have hq0 : Nat.blt (fstB (FwgenSplits0 p0) ((min ((FwCount p0) + 1) (p0.size + 1)) - 1)) ((min ((FwCount p0) + 1) (p0.size + 1)) - 1) = true := by rw [hf0]; exact hb0
        change Tri _ _ _ _ _ _
        refine Tri.seq_region [] none [10, 9] [320] ((True ∧ True) ∧ ((True ∧ True) ∧ ((True ∧ True) ∧ ((((0 : Int) ≤ ((k0 : Nat) : Int) ∧ ((k0 : Nat) : Int) < ((min ((FwCount p0) + 1) (p0.size + 1) : Nat) : Int)) ∧ True) ∧ ((((k0 < ((itr (FwgenSplitl0) k0 (p0, List.replicate (min ((FwCount p0) + 1) (p0.size + 1)) (⟨#[]⟩ : ByteArray))).2).length) ∧ (1 = 1)) ∧ True) ∧ True)))))
            ([(10, .sc (.i .i64 ((k0 : Nat) : Int))), (9, .sc (.sl 320 0 (min ((FwCount p0) + 1) (p0.size + 1)) 1 none))], [(320, .vec .str (((itr (FwgenSplitl0) k0 (p0, List.replicate (min ((FwCount p0) + 1) (p0.size + 1)) (⟨#[]⟩ : ByteArray))).2).set k0 ((itr (FwgenSplitl0) k0 (p0, List.replicate (min ((FwCount p0) + 1) (p0.size + 1)) (⟨#[]⟩ : ByteArray))).1)))])
            640 (by kernel_rfl) rfl (by kernel_rfl) (⟨⟨trivial, trivial⟩, ⟨⟨trivial, trivial⟩, ⟨⟨trivial, trivial⟩, ⟨⟨(by first | omega | (rw [adr_eq]; omega) | exact iAnd_nn _ _ | exact iSub_nn _ _ | exact part1_le (by omega) (by first | omega | (simp only [List.length_append]; omega)) | decide), trivial⟩, ⟨⟨⟨(by first | omega | (rw [adr_eq]; omega) | exact iAnd_nn _ _ | exact iSub_nn _ _ | exact part1_le (by omega) (by first | omega | (simp only [List.length_append]; omega)) | decide), (rfl)⟩, trivial⟩, trivial⟩⟩⟩⟩⟩) ?_
        refine Tri.seq_region [(64, qi ((k0 + 1 : Nat) : Int))] none [8] [320] ((True ∧ True) ∧ ((True ∧ True) ∧ ((True ∧ ((iAdd .i64 ((k0 : Nat) : Int) 1) = ((k0 + 1 : Nat) : Int))) ∧ ((((0 : Int) ≤ 0 ∧ (0 : Int) ≤ ((k0 + 1 : Nat) : Int) ∧ ((k0 + 1 : Nat) : Int) ≤ ((min ((FwCount p0) + 1) (p0.size + 1) : Nat) : Int)) ∧ True) ∧ ((True ∧ True) ∧ True)))))
            ([(8, .sc (.sl 320 0 ((k0 + 1) - 0) 1 none))], [(320, .vec .str (((itr (FwgenSplitl0) k0 (p0, List.replicate (min ((FwCount p0) + 1) (p0.size + 1)) (⟨#[]⟩ : ByteArray))).2).set k0 ((itr (FwgenSplitl0) k0 (p0, List.replicate (min ((FwCount p0) + 1) (p0.size + 1)) (⟨#[]⟩ : ByteArray))).1)))])
            720 (by kernel_rfl) rfl (by kernel_rfl) (⟨⟨trivial, trivial⟩, ⟨⟨trivial, trivial⟩, ⟨⟨trivial, (iAdd_nat (a := k0) (b := 1) (by omega))⟩, ⟨⟨(by first | omega | (rw [adr_eq]; omega) | exact iAnd_nn _ _ | exact iSub_nn _ _ | exact part1_le (by omega) (by first | omega | (simp only [List.length_append]; omega)) | decide), trivial⟩, ⟨⟨trivial, trivial⟩, trivial⟩⟩⟩⟩⟩) ?_
        refine Tri.ret ?_
        repeat (first | refine thenP_ret ?_ | refine blkP_ret ?_ | refine countP_ret ?_ | refine joinP_ret ?_ | refine iterP_ret ?_)
        refine endP.conv (r' := ⟨.sc (.sl 0 0 ((k0 + 1) - 0) 1 none), [some (.vec .str (((itr (FwgenSplitl0) k0 (p0, List.replicate (min ((FwCount p0) + 1) (p0.size + 1)) (⟨#[]⟩ : ByteArray))).2).set k0 ((itr (FwgenSplitl0) k0 (p0, List.replicate (min ((FwCount p0) + 1) (p0.size + 1)) (⟨#[]⟩ : ByteArray))).1)))]⟩) (by simp only [FwgenSplit, FwgenSplitn0, hq0, hf0, hb0, sel_true, sel_false]) ?_
        exact endP.ret [(320, 0)] (True ∧ True) (by kernel_rfl) (by kernel_rfl) ⟨trivial, trivial⟩
      ·
        have h2' := of_decide_eq_false h2
        refine Tri.skip ?_
        change Tri _ _ _ _ _ _
        refine Tri.seq_region [] none [11, 10, 3, 9, 0, 1, 2] [320] ((True ∧ True) ∧ ((True ∧ True) ∧ ((True ∧ True) ∧ ((True ∧ True) ∧ ((True ∧ True) ∧ ((True ∧ True) ∧ ((((0 : Int) ≤ 0 ∧ (0 : Int) ≤ (iAdd .i64 (FwIndex z0.1) 0) ∧ (iAdd .i64 (FwIndex z0.1) 0) ≤ (z0.1.size : Int)) ∧ True) ∧ ((((0 : Int) ≤ ((k0 : Nat) : Int) ∧ ((k0 : Nat) : Int) < ((min ((FwCount p0) + 1) (p0.size + 1) : Nat) : Int)) ∧ True) ∧ ((((k0 < z0.2.length) ∧ (1 = 1)) ∧ True) ∧ True)))))))))
            ([(11, .sc (.i .i64 (FwIndex z0.1))), (10, .sc (.i .i64 ((k0 : Nat) : Int))), (3, .sc (.i .i64 (((min ((FwCount p0) + 1) (p0.size + 1)) - 1 : Nat) : Int))), (9, .sc (.sl 320 0 (min ((FwCount p0) + 1) (p0.size + 1)) 1 none)), (0, .sc (.s z0.1)), (1, .sc (.s (⟨#[44]⟩ : ByteArray))), (2, .sc (.i .i64 0))], [(320, .vec .str (z0.2.set k0 (z0.1.extract 0 (((iAdd .i64 (FwIndex z0.1) 0)).toNat))))])
            704 (by kernel_rfl) rfl (by kernel_rfl) (⟨⟨trivial, trivial⟩, ⟨⟨trivial, trivial⟩, ⟨⟨trivial, trivial⟩, ⟨⟨trivial, trivial⟩, ⟨⟨trivial, trivial⟩, ⟨⟨trivial, trivial⟩, ⟨⟨(by first | omega | (rw [adr_eq]; omega) | exact iAnd_nn _ _ | exact iSub_nn _ _ | exact part1_le (by omega) (by first | omega | (simp only [List.length_append]; omega)) | decide), trivial⟩, ⟨⟨(by first | omega | (rw [adr_eq]; omega) | exact iAnd_nn _ _ | exact iSub_nn _ _ | exact part1_le (by omega) (by first | omega | (simp only [List.length_append]; omega)) | decide), trivial⟩, ⟨⟨⟨(by first | omega | (rw [adr_eq]; omega) | exact iAnd_nn _ _ | exact iSub_nn _ _ | exact part1_le (by omega) (by first | omega | (simp only [List.length_append]; omega)) | decide), (rfl)⟩, trivial⟩, trivial⟩⟩⟩⟩⟩⟩⟩⟩⟩) ?_
        refine Tri.seq_region [] none [0, 10, 3, 9, 1, 2] [320] ((True ∧ True) ∧ ((True ∧ True) ∧ ((True ∧ True) ∧ ((True ∧ True) ∧ ((True ∧ True) ∧ ((((0 : Int) ≤ (iAdd .i64 (FwIndex z0.1) 1) ∧ ((iAdd .i64 (FwIndex z0.1) 1) : Int) ≤ ((z0.1.size : Nat) : Int) ∧ ((z0.1.size : Nat) : Int) ≤ (z0.1.size : Int)) ∧ True) ∧ ((True ∧ True) ∧ True)))))))
            ([(0, .sc (.s (z0.1.extract (((iAdd .i64 (FwIndex z0.1) 1)).toNat) z0.1.size))), (10, .sc (.i .i64 ((k0 : Nat) : Int))), (3, .sc (.i .i64 (((min ((FwCount p0) + 1) (p0.size + 1)) - 1 : Nat) : Int))), (9, .sc (.sl 320 0 (min ((FwCount p0) + 1) (p0.size + 1)) 1 none)), (1, .sc (.s (⟨#[44]⟩ : ByteArray))), (2, .sc (.i .i64 0))], [(320, .vec .str (z0.2.set k0 (z0.1.extract 0 (((iAdd .i64 (FwIndex z0.1) 0)).toNat))))])
            816 (by kernel_rfl) rfl (by kernel_rfl) (⟨⟨trivial, trivial⟩, ⟨⟨trivial, trivial⟩, ⟨⟨trivial, trivial⟩, ⟨⟨trivial, trivial⟩, ⟨⟨trivial, trivial⟩, ⟨⟨(by first | omega | (rw [adr_eq]; omega) | exact iAnd_nn _ _ | exact iSub_nn _ _ | exact part1_le (by omega) (by first | omega | (simp only [List.length_append]; omega)) | decide), trivial⟩, ⟨⟨trivial, trivial⟩, trivial⟩⟩⟩⟩⟩⟩⟩) ?_
        refine Tri.region' [(57, qi ((k0 + 1 : Nat) : Int))] none [10, 0, 3, 9, 1, 2] [320] ((True ∧ True) ∧ ((True ∧ ((iAdd .i64 ((k0 : Nat) : Int) 1) = ((k0 + 1 : Nat) : Int))) ∧ ((True ∧ True) ∧ True)))
            ([(10, .sc (.i .i64 ((k0 + 1 : Nat) : Int))), (0, .sc (.s (z0.1.extract (((iAdd .i64 (FwIndex z0.1) 1)).toNat) z0.1.size))), (3, .sc (.i .i64 (((min ((FwCount p0) + 1) (p0.size + 1)) - 1 : Nat) : Int))), (9, .sc (.sl 320 0 (min ((FwCount p0) + 1) (p0.size + 1)) 1 none)), (1, .sc (.s (⟨#[44]⟩ : ByteArray))), (2, .sc (.i .i64 0))], [(320, .vec .str (z0.2.set k0 (z0.1.extract 0 (((iAdd .i64 (FwIndex z0.1) 0)).toNat))))])
            864 (by kernel_rfl) rfl (by kernel_rfl) (⟨⟨trivial, trivial⟩, ⟨⟨trivial, (iAdd_nat (a := k0) (b := 1) (by omega))⟩, ⟨⟨trivial, trivial⟩, trivial⟩⟩⟩) ?_
        repeat (refine blkP_normal ?_)
        refine countP_normal (by omega) (⟨(by unfold FwgenSplitl0; exact ⟨by rw [List.length_set]; exact hJ0.1.1, Nat.le_trans (extract_le _ _ _) hJ0.1.2⟩), (below_succ hJ0.2 (by subst hz0; simp only [FwgenSplits0, h1, h2, sel_true, sel_false]))⟩) ?_
        exact Sub.ren (ns := [(320, 320)]) (kf := [10, 3, 9, 0, 1, 2]) (by kernel_rfl) (by kernel_rfl)
    ·
      have h1' := of_decide_eq_false h1
      refine Tri.exit ?_
      have hend0 : k0 = ((min ((FwCount p0) + 1) (p0.size + 1)) - 1) := by (have := of_decide_eq_false h1; omega)
      subst hend0; subst hz0
      have hf0 : fstB (FwgenSplits0 p0) ((min ((FwCount p0) + 1) (p0.size + 1)) - 1) = ((min ((FwCount p0) + 1) (p0.size + 1)) - 1) := fst_none hJ0.2
      have hb0 : Nat.blt ((min ((FwCount p0) + 1) (p0.size + 1)) - 1) ((min ((FwCount p0) + 1) (p0.size + 1)) - 1) = false := blt_self _
      have hq0 : Nat.blt (fstB (FwgenSplits0 p0) ((min ((FwCount p0) + 1) (p0.size + 1)) - 1)) ((min ((FwCount p0) + 1) (p0.size + 1)) - 1) = false := by rw [hf0]; exact hb0
      change Tri _ _ _ _ _ _
      refine Tri.seq_region [] none [10, 9] [320] ((True ∧ True) ∧ ((True ∧ True) ∧ ((True ∧ True) ∧ ((((0 : Int) ≤ ((((min ((FwCount p0) + 1) (p0.size + 1)) - 1) : Nat) : Int) ∧ ((((min ((FwCount p0) + 1) (p0.size + 1)) - 1) : Nat) : Int) < ((min ((FwCount p0) + 1) (p0.size + 1) : Nat) : Int)) ∧ True) ∧ ((((((min ((FwCount p0) + 1) (p0.size + 1)) - 1) < ((itr (FwgenSplitl0) ((min ((FwCount p0) + 1) (p0.size + 1)) - 1) (p0, List.replicate (min ((FwCount p0) + 1) (p0.size + 1)) (⟨#[]⟩ : ByteArray))).2).length) ∧ (1 = 1)) ∧ True) ∧ True)))))
          ([(10, .sc (.i .i64 ((((min ((FwCount p0) + 1) (p0.size + 1)) - 1) : Nat) : Int))), (9, .sc (.sl 320 0 (min ((FwCount p0) + 1) (p0.size + 1)) 1 none))], [(320, .vec .str (((itr (FwgenSplitl0) ((min ((FwCount p0) + 1) (p0.size + 1)) - 1) (p0, List.replicate (min ((FwCount p0) + 1) (p0.size + 1)) (⟨#[]⟩ : ByteArray))).2).set ((min ((FwCount p0) + 1) (p0.size + 1)) - 1) ((itr (FwgenSplitl0) ((min ((FwCount p0) + 1) (p0.size + 1)) - 1) (p0, List.replicate (min ((FwCount p0) + 1) (p0.size + 1)) (⟨#[]⟩ : ByteArray))).1)))])
          544 (by kernel_rfl) rfl (by kernel_rfl) (⟨⟨trivial, trivial⟩, ⟨⟨trivial, trivial⟩, ⟨⟨trivial, trivial⟩, ⟨⟨(by first | omega | (rw [adr_eq]; omega) | exact iAnd_nn _ _ | exact iSub_nn _ _ | exact part1_le (by omega) (by first | omega | (simp only [List.length_append]; omega)) | decide), trivial⟩, ⟨⟨⟨(by first | omega | (rw [adr_eq]; omega) | exact iAnd_nn _ _ | exact iSub_nn _ _ | exact part1_le (by omega) (by first | omega | (simp only [List.length_append]; omega)) | decide), (rfl)⟩, trivial⟩, trivial⟩⟩⟩⟩⟩) ?_
      refine Tri.seq_region [(64, qi ((((min ((FwCount p0) + 1) (p0.size + 1)) - 1) + 1 : Nat) : Int))] none [8] [320] ((True ∧ True) ∧ ((True ∧ True) ∧ ((True ∧ ((iAdd .i64 ((((min ((FwCount p0) + 1) (p0.size + 1)) - 1) : Nat) : Int) 1) = ((((min ((FwCount p0) + 1) (p0.size + 1)) - 1) + 1 : Nat) : Int))) ∧ ((((0 : Int) ≤ 0 ∧ (0 : Int) ≤ ((((min ((FwCount p0) + 1) (p0.size + 1)) - 1) + 1 : Nat) : Int) ∧ ((((min ((FwCount p0) + 1) (p0.size + 1)) - 1) + 1 : Nat) : Int) ≤ ((min ((FwCount p0) + 1) (p0.size + 1) : Nat) : Int)) ∧ True) ∧ ((True ∧ True) ∧ True)))))
          ([(8, .sc (.sl 320 0 ((((min ((FwCount p0) + 1) (p0.size + 1)) - 1) + 1) - 0) 1 none))], [(320, .vec .str (((itr (FwgenSplitl0) ((min ((FwCount p0) + 1) (p0.size + 1)) - 1) (p0, List.replicate (min ((FwCount p0) + 1) (p0.size + 1)) (⟨#[]⟩ : ByteArray))).2).set ((min ((FwCount p0) + 1) (p0.size + 1)) - 1) ((itr (FwgenSplitl0) ((min ((FwCount p0) + 1) (p0.size + 1)) - 1) (p0, List.replicate (min ((FwCount p0) + 1) (p0.size + 1)) (⟨#[]⟩ : ByteArray))).1)))])
          624 (by kernel_rfl) rfl (by kernel_rfl) (⟨⟨trivial, trivial⟩, ⟨⟨trivial, trivial⟩, ⟨⟨trivial, (iAdd_nat (a := ((min ((FwCount p0) + 1) (p0.size + 1)) - 1)) (b := 1) (by omega))⟩, ⟨⟨(by first | omega | (rw [adr_eq]; omega) | exact iAnd_nn _ _ | exact iSub_nn _ _ | exact part1_le (by omega) (by first | omega | (simp only [List.length_append]; omega)) | decide), trivial⟩, ⟨⟨trivial, trivial⟩, trivial⟩⟩⟩⟩⟩) ?_
      refine Tri.ret ?_
      repeat (first | refine thenP_ret ?_ | refine blkP_ret ?_ | refine countP_ret ?_ | refine joinP_ret ?_ | refine iterP_ret ?_)
      refine endP.conv (r' := ⟨.sc (.sl 0 0 ((((min ((FwCount p0) + 1) (p0.size + 1)) - 1) + 1) - 0) 1 none), [some (.vec .str (((itr (FwgenSplitl0) ((min ((FwCount p0) + 1) (p0.size + 1)) - 1) (p0, List.replicate (min ((FwCount p0) + 1) (p0.size + 1)) (⟨#[]⟩ : ByteArray))).2).set ((min ((FwCount p0) + 1) (p0.size + 1)) - 1) ((itr (FwgenSplitl0) ((min ((FwCount p0) + 1) (p0.size + 1)) - 1) (p0, List.replicate (min ((FwCount p0) + 1) (p0.size + 1)) (⟨#[]⟩ : ByteArray))).1)))]⟩) (by simp only [FwgenSplit, FwgenSplitn0, hq0, hf0, hb0, sel_true, sel_false]) ?_
      exact endP.ret [(320, 0)] (True ∧ True) (by kernel_rfl) (by kernel_rfl) ⟨trivial, trivial⟩




noncomputable def FwSplit (p0 : ByteArray) : List ByteArray :=
  (FwgenSplit p0)

noncomputable def SwSplit : List AV → List Blk → Option (Prop × Ret)
  | [.sc (.s p0), .sc (.s p1)], [] => some ((((⟨#[44]⟩ : ByteArray) = p1) ∧ (p0.size ≤ 1000000000)), ⟨.sc (.sl 0 0 (FwgenSplitn0 p0) 1 none), [some (.vec .str (FwSplit p0))]⟩)
  | _, _ => none

noncomputable def BwSplit : Bs := { P := Go.Proofs.Tryd.prog, G := noG, tab := tabOf [⟨55, 64, [.val, .val, .val, .val], [], [], ⟨0, 1, SwgenSplit⟩⟩], n := 8 }

theorem BwSplit.ok : BwSplit.Ok := ⟨tabOk (P := Go.Proofs.Tryd.prog) (G := noG) (l := [⟨55, 64, [.val, .val, .val, .val], [], [], ⟨0, 1, SwgenSplit⟩⟩]) (And.intro KwgenSplit True.intro), mixed⟩

theorem KwSplit : Known Go.Proofs.Tryd.prog noG 44 ⟨0, 1, SwSplit⟩ := by
  refine Known.walk (B := BwSplit) (fn := Go.Proofs.Tryd.f44) BwSplit.ok (by kernel_rfl) rfl (by kernel_rfl) (by kernel_rfl) (by decide) (by decide) ?_
  · intro E args ks C r h hC hlen
    simp only at h
    unfold SwSplit at h
    split at h
    rotate_left
    · cases h
    rename_i p0 p1
    cases h
    simp only [lens] at hlen
    have hEp1 := hC.1
    have hC := hC.2
    subst hEp1
    refine ⟨show 2 ≤ 8 from by decide, ?_⟩
    refine Tri.sub (Sub.of_eq (show _ = ([(0, .sc (.s p0)), (1, .sc (.s (⟨#[44]⟩ : ByteArray)))], []) from rfl)) ?_
    refine Tri.seq_region [] none [0, 1] [] ((True ∧ True) ∧ True)
        ([(0, .sc (.s p0)), (1, .sc (.s (⟨#[44]⟩ : ByteArray)))], [])
        32 (by kernel_rfl) rfl (by kernel_rfl) (⟨⟨trivial, trivial⟩, trivial⟩) ?_
    refine Tri.seq_region [] none [4] [64] ((True ∧ True) ∧ ((True ∧ True) ∧ (((True ∧ (((⟨#[44]⟩ : ByteArray) = (⟨#[44]⟩ : ByteArray)) ∧ (((0 : Int) = (0 : Int)) ∧ (((-1 : Int) = (-1 : Int)) ∧ (p0.size ≤ 1000000000))))) ∧ True) ∧ ((True ∧ True) ∧ True))))
        ([(4, .sc (.sl 64 0 (FwgenSplitn0 p0) 1 none))], [(64, .vec .str (FwgenSplit p0))])
        96 (by kernel_rfl) rfl (by kernel_rfl) (⟨⟨trivial, trivial⟩, ⟨⟨trivial, trivial⟩, ⟨⟨⟨trivial, ⟨(rfl), ⟨(rfl), ⟨(rfl), (by first | omega | (rw [adr_eq]; omega) | exact iAnd_nn _ _ | exact iSub_nn _ _ | exact part1_le (by omega) (by first | omega | (simp only [List.length_append]; omega)) | decide)⟩⟩⟩⟩, trivial⟩, ⟨⟨trivial, trivial⟩, trivial⟩⟩⟩⟩) ?_
    refine Tri.ret ?_
    repeat (first | refine thenP_ret ?_ | refine blkP_ret ?_ | refine countP_ret ?_ | refine joinP_ret ?_ | refine iterP_ret ?_)
    exact endP.ret [(64, 0)] (True ∧ True) (by kernel_rfl) (by kernel_rfl) ⟨trivial, trivial⟩

theorem len_FwSplit (s : ByteArray) : (FwSplit s).length = min (FwCount s + 1) (s.size + 1) := by
  have h : ∀ k, (itr FwgenSplitl0 k (s, List.replicate (min (FwCount s + 1) (s.size + 1)) (⟨#[]⟩ : ByteArray))).2.length = min (FwCount s + 1) (s.size + 1) := by
    intro k
    induction k with
    | zero => rw [itr_zero, List.length_replicate]
    | succ k ih => rw [itr_succ]; unfold FwgenSplitl0; rw [List.length_set]; exact ih
  unfold FwSplit FwgenSplit
  cases Nat.blt (fstB (FwgenSplits0 s) ((min ((FwCount s) + 1) (s.size + 1)) - 1)) ((min ((FwCount s) + 1) (s.size + 1)) - 1)
  · rw [sel_false, List.length_set]; exact h _
  · rw [sel_true, List.length_set]; exact h _
theorem n_FwSplit (s : ByteArray) : FwgenSplitn0 s ≤ (FwSplit s).length := by
  rw [len_FwSplit]
  have := fst_le (FwgenSplits0 s) ((min ((FwCount s) + 1) (s.size + 1)) - 1)
  unfold FwgenSplitn0
  cases Nat.blt (fstB (FwgenSplits0 s) ((min ((FwCount s) + 1) (s.size + 1)) - 1)) ((min ((FwCount s) + 1) (s.size + 1)) - 1)
  · rw [sel_false]; omega
  · rw [sel_true]; omega

end Go.Vm
