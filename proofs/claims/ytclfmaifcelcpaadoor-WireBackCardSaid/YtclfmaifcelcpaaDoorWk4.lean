/- What the functions compute, and that they do: walked by a printed text. -/
import Derived.Test.YtclfmaifcelcpaaDoorWk3
set_option linter.unusedVariables false
set_option linter.unusedSimpArgs false
set_option maxRecDepth 4000
namespace Go.Vm
open Go

noncomputable def FwrU32 (p0 : Int) : List Int :=
  [(IntKind.wrap .u8 (iQuo .i64 p0 16777216)), (IntKind.wrap .u8 (iQuo .i64 p0 65536)), (IntKind.wrap .u8 (iQuo .i64 p0 256)), (IntKind.wrap .u8 p0)]

noncomputable def SwrU32 : List AV → List Blk → Option (Prop × Ret)
  | [.sc (.i .i64 p0)], [] => some (True, ⟨.sc (.sl 0 0 4 1 none), [some (.ints .u8 4 (FwrU32 p0))]⟩)
  | _, _ => none

noncomputable def BwrU32 : Bs := { P := Go.Proofs.Tryd.prog, G := noG, tab := tabOf [], n := 15 }

theorem BwrU32.ok : BwrU32.Ok := ⟨tabOk (P := Go.Proofs.Tryd.prog) (G := noG) (l := []) True.intro, mixed⟩

theorem KwrU32 : Known Go.Proofs.Tryd.prog noG 56 ⟨0, 1, SwrU32⟩ := by
  refine Known.walk (B := BwrU32) (fn := Go.Proofs.Tryd.f56) BwrU32.ok (by kernel_rfl) rfl (by kernel_rfl) (by kernel_rfl) (by decide) (by decide) ?_
  · intro E args ks C r h hC hlen
    simp only at h
    unfold SwrU32 at h
    split at h
    rotate_left
    · cases h
    rename_i p0
    cases h
    simp only [lens] at hlen
    refine ⟨show 1 ≤ 15 from by decide, ?_⟩
    refine Tri.sub (Sub.of_eq (show _ = ([(0, .sc (.i .i64 p0))], []) from rfl)) ?_
    refine Tri.seq_region [] none [0] [] ((True ∧ True) ∧ True)
        ([(0, .sc (.i .i64 p0))], [])
        32 (by kernel_rfl) rfl (by kernel_rfl) (⟨⟨trivial, trivial⟩, trivial⟩) ?_
    refine Tri.seq_region [] none [2] [208] ((True ∧ True) ∧ (((16777216 ≠ (0 : Int)) ∧ True) ∧ ((True ∧ True) ∧ ((True ∧ True) ∧ (((65536 ≠ (0 : Int)) ∧ True) ∧ ((True ∧ True) ∧ ((True ∧ True) ∧ (((256 ≠ (0 : Int)) ∧ True) ∧ ((True ∧ True) ∧ ((True ∧ True) ∧ ((True ∧ True) ∧ ((((((0 < 4) ∧ (1 = 1)) ∧ (((1 < 4) ∧ (1 = 1)) ∧ (((2 < 4) ∧ (1 = 1)) ∧ (((3 < 4) ∧ (1 = 1)) ∧ True)))) ∧ ((4 * 1 ≤ 16777216) ∧ (1 = 1))) ∧ True) ∧ ((True ∧ True) ∧ True)))))))))))))
        ([(2, .sc (.sl 208 0 4 1 none))], [(208, .ints .u8 4 [(IntKind.wrap .u8 (iQuo .i64 p0 16777216)), (IntKind.wrap .u8 (iQuo .i64 p0 65536)), (IntKind.wrap .u8 (iQuo .i64 p0 256)), (IntKind.wrap .u8 p0)])])
        240 (by kernel_rfl) rfl (by kernel_rfl) (⟨⟨trivial, trivial⟩, ⟨⟨(by first | omega | (rw [adr_eq]; omega) | exact iAnd_nn _ _ | exact iSub_nn _ _ | exact part1_le (by omega) (by first | omega | (simp only [List.length_append]; omega)) | decide), trivial⟩, ⟨⟨trivial, trivial⟩, ⟨⟨trivial, trivial⟩, ⟨⟨(by first | omega | (rw [adr_eq]; omega) | exact iAnd_nn _ _ | exact iSub_nn _ _ | exact part1_le (by omega) (by first | omega | (simp only [List.length_append]; omega)) | decide), trivial⟩, ⟨⟨trivial, trivial⟩, ⟨⟨trivial, trivial⟩, ⟨⟨(by first | omega | (rw [adr_eq]; omega) | exact iAnd_nn _ _ | exact iSub_nn _ _ | exact part1_le (by omega) (by first | omega | (simp only [List.length_append]; omega)) | decide), trivial⟩, ⟨⟨trivial, trivial⟩, ⟨⟨trivial, trivial⟩, ⟨⟨trivial, trivial⟩, ⟨⟨⟨⟨⟨(by first | omega | (rw [adr_eq]; omega) | exact iAnd_nn _ _ | exact iSub_nn _ _ | exact part1_le (by omega) (by first | omega | (simp only [List.length_append]; omega)) | decide), (rfl)⟩, ⟨⟨(by first | omega | (rw [adr_eq]; omega) | exact iAnd_nn _ _ | exact iSub_nn _ _ | exact part1_le (by omega) (by first | omega | (simp only [List.length_append]; omega)) | decide), (rfl)⟩, ⟨⟨(by first | omega | (rw [adr_eq]; omega) | exact iAnd_nn _ _ | exact iSub_nn _ _ | exact part1_le (by omega) (by first | omega | (simp only [List.length_append]; omega)) | decide), (rfl)⟩, ⟨⟨(by first | omega | (rw [adr_eq]; omega) | exact iAnd_nn _ _ | exact iSub_nn _ _ | exact part1_le (by omega) (by first | omega | (simp only [List.length_append]; omega)) | decide), (rfl)⟩, trivial⟩⟩⟩⟩, ⟨(by first | omega | (rw [adr_eq]; omega) | exact iAnd_nn _ _ | exact iSub_nn _ _ | exact part1_le (by omega) (by first | omega | (simp only [List.length_append]; omega)) | decide), (rfl)⟩⟩, trivial⟩, ⟨⟨trivial, trivial⟩, trivial⟩⟩⟩⟩⟩⟩⟩⟩⟩⟩⟩⟩⟩) ?_
    refine Tri.ret ?_
    repeat (first | refine thenP_ret ?_ | refine blkP_ret ?_ | refine countP_ret ?_ | refine joinP_ret ?_ | refine iterP_ret ?_)
    exact endP.ret [(208, 0)] (True ∧ True) (by kernel_rfl) (by kernel_rfl) ⟨trivial, trivial⟩




noncomputable def FwrText (p0 : ByteArray) : List Int :=
  (FwrU32 ((p0.size : Nat) : Int)) ++ (bytesI p0)

noncomputable def SwrText : List AV → List Blk → Option (Prop × Ret)
  | [.sc (.s p0)], [] => some ((p0.size ≤ 1000000000), ⟨.sc (.sl 0 0 (4 + p0.size) 1 none), [some (.ints .u8 (4 + p0.size) (FwrText p0))]⟩)
  | _, _ => none

noncomputable def BwrText : Bs := { P := Go.Proofs.Tryd.prog, G := noG, tab := tabOf [⟨56, 64, [.val], [], [], ⟨0, 1, SwrU32⟩⟩], n := 8 }

theorem BwrText.ok : BwrText.Ok := ⟨tabOk (P := Go.Proofs.Tryd.prog) (G := noG) (l := [⟨56, 64, [.val], [], [], ⟨0, 1, SwrU32⟩⟩]) (And.intro KwrU32 True.intro), mixed⟩

theorem KwrText : Known Go.Proofs.Tryd.prog noG 46 ⟨0, 1, SwrText⟩ := by
  refine Known.walk (B := BwrText) (fn := Go.Proofs.Tryd.f46) BwrText.ok (by kernel_rfl) rfl (by kernel_rfl) (by kernel_rfl) (by decide) (by decide) ?_
  · intro E args ks C r h hC hlen
    simp only at h
    unfold SwrText at h
    split at h
    rotate_left
    · cases h
    rename_i p0
    cases h
    simp only [lens] at hlen
    refine ⟨show 1 ≤ 8 from by decide, ?_⟩
    refine Tri.sub (Sub.of_eq (show _ = ([(0, .sc (.s p0))], []) from rfl)) ?_
    refine Tri.seq_region [] none [0] [] ((True ∧ True) ∧ True)
        ([(0, .sc (.s p0))], [])
        32 (by kernel_rfl) rfl (by kernel_rfl) (⟨⟨trivial, trivial⟩, trivial⟩) ?_
    refine Tri.seq_region [] none [2] [96] ((True ∧ True) ∧ ((True ∧ True) ∧ (((True ∧ True) ∧ True) ∧ ((True ∧ True) ∧ ((((((True ∧ (1 = 1)) ∧ ((0 < 1) ∧ (((4 + p0.size) * 1 ≤ 140737488355328) ∧ (4 + p0.size ≤ 140737488355328)))) ∧ (p0.size = p0.size * 1)) ∧ ((1 = 1) ∧ (0 + 4 * 1 = 4))) ∧ True) ∧ ((True ∧ True) ∧ True))))))
        ([(2, .sc (.sl 96 0 (4 + p0.size) 1 none))], [(96, .ints .u8 (4 + p0.size) ((FwrU32 ((p0.size : Nat) : Int)) ++ (bytesI p0)))])
        128 (by kernel_rfl) rfl (by kernel_rfl) (⟨⟨trivial, trivial⟩, ⟨⟨trivial, trivial⟩, ⟨⟨⟨trivial, trivial⟩, trivial⟩, ⟨⟨trivial, trivial⟩, ⟨⟨⟨⟨⟨⟨trivial, (rfl)⟩, ⟨(by first | omega | (rw [adr_eq]; omega) | exact iAnd_nn _ _ | exact iSub_nn _ _ | exact part1_le (by omega) (by first | omega | (simp only [List.length_append]; omega)) | decide), ⟨(by first | omega | (rw [adr_eq]; omega) | exact iAnd_nn _ _ | exact iSub_nn _ _ | exact part1_le (by omega) (by first | omega | (simp only [List.length_append]; omega)) | decide), (by first | omega | (rw [adr_eq]; omega) | exact iAnd_nn _ _ | exact iSub_nn _ _ | exact part1_le (by omega) (by first | omega | (simp only [List.length_append]; omega)) | decide)⟩⟩⟩, (by first | omega | (rw [adr_eq]; omega) | exact iAnd_nn _ _ | exact iSub_nn _ _ | exact part1_le (by omega) (by first | omega | (simp only [List.length_append]; omega)) | decide)⟩, ⟨(rfl), (by first | omega | (rw [adr_eq]; omega) | exact iAnd_nn _ _ | exact iSub_nn _ _ | exact part1_le (by omega) (by first | omega | (simp only [List.length_append]; omega)) | decide)⟩⟩, trivial⟩, ⟨⟨trivial, trivial⟩, trivial⟩⟩⟩⟩⟩⟩) ?_
    refine Tri.ret ?_
    repeat (first | refine thenP_ret ?_ | refine blkP_ret ?_ | refine countP_ret ?_ | refine joinP_ret ?_ | refine iterP_ret ?_)
    exact endP.ret [(96, 0)] (True ∧ True) (by kernel_rfl) (by kernel_rfl) ⟨trivial, trivial⟩




noncomputable def FwrIntl0 (k0 : Nat) (z0 : Unit) : Unit :=
  ()

noncomputable def FwrInts0 (p0 : List Int) (k0 : Nat) : Bool :=
  (sel ((p0.getD k0 0 : Int) == 0) false true)

noncomputable def FwrInt (p0 : List Int) : List Int :=
  (sel (Nat.blt (fstB (FwrInts0 p0) p0.length) p0.length) (sel (!(strEq (bytesOf ((p0.drop (fstB (FwrInts0 p0) p0.length)).take (p0.length - (fstB (FwrInts0 p0) p0.length)))) (⟨#[]⟩ : ByteArray))) (FwrText (sel (decide (((byteAt (bytesOf ((p0.drop (fstB (FwrInts0 p0) p0.length)).take (p0.length - (fstB (FwrInts0 p0) p0.length)))) 0) : Int) ≥ 128)) ((⟨#[0]⟩ : ByteArray) ++ (bytesOf ((p0.drop (fstB (FwrInts0 p0) p0.length)).take (p0.length - (fstB (FwrInts0 p0) p0.length))))) (bytesOf ((p0.drop (fstB (FwrInts0 p0) p0.length)).take (p0.length - (fstB (FwrInts0 p0) p0.length)))))) (FwrText (bytesOf ((p0.drop (fstB (FwrInts0 p0) p0.length)).take (p0.length - (fstB (FwrInts0 p0) p0.length)))))) (sel (!(strEq (bytesOf ((p0.drop p0.length).take (p0.length - p0.length))) (⟨#[]⟩ : ByteArray))) (FwrText (sel (decide (((byteAt (bytesOf ((p0.drop p0.length).take (p0.length - p0.length))) 0) : Int) ≥ 128)) ((⟨#[0]⟩ : ByteArray) ++ (bytesOf ((p0.drop p0.length).take (p0.length - p0.length)))) (bytesOf ((p0.drop p0.length).take (p0.length - p0.length))))) (FwrText (bytesOf ((p0.drop p0.length).take (p0.length - p0.length))))))

noncomputable def FwrIntn0 (p0 : List Int) : Nat :=
  (sel (Nat.blt (fstB (FwrInts0 p0) p0.length) p0.length) (sel (!(strEq (bytesOf ((p0.drop (fstB (FwrInts0 p0) p0.length)).take (p0.length - (fstB (FwrInts0 p0) p0.length)))) (⟨#[]⟩ : ByteArray))) (4 + (sel (decide (((byteAt (bytesOf ((p0.drop (fstB (FwrInts0 p0) p0.length)).take (p0.length - (fstB (FwrInts0 p0) p0.length)))) 0) : Int) ≥ 128)) ((⟨#[0]⟩ : ByteArray) ++ (bytesOf ((p0.drop (fstB (FwrInts0 p0) p0.length)).take (p0.length - (fstB (FwrInts0 p0) p0.length))))) (bytesOf ((p0.drop (fstB (FwrInts0 p0) p0.length)).take (p0.length - (fstB (FwrInts0 p0) p0.length))))).size) (4 + (bytesOf ((p0.drop (fstB (FwrInts0 p0) p0.length)).take (p0.length - (fstB (FwrInts0 p0) p0.length)))).size)) (sel (!(strEq (bytesOf ((p0.drop p0.length).take (p0.length - p0.length))) (⟨#[]⟩ : ByteArray))) (4 + (sel (decide (((byteAt (bytesOf ((p0.drop p0.length).take (p0.length - p0.length))) 0) : Int) ≥ 128)) ((⟨#[0]⟩ : ByteArray) ++ (bytesOf ((p0.drop p0.length).take (p0.length - p0.length)))) (bytesOf ((p0.drop p0.length).take (p0.length - p0.length)))).size) (4 + (bytesOf ((p0.drop p0.length).take (p0.length - p0.length))).size)))

noncomputable def SwrInt : List AV → List Blk → Option (Prop × Ret)
  | [.sc (.ro .u8 p0)], [] => some ((p0.length ≤ 900000000), ⟨.sc (.sl 0 0 (FwrIntn0 p0) 1 none), [some (.ints .u8 (FwrIntn0 p0) (FwrInt p0))]⟩)
  | _, _ => none

noncomputable def BwrInt : Bs := { P := Go.Proofs.Tryd.prog, G := noG, tab := tabOf [⟨46, 432, [.val], [], [], ⟨0, 1, SwrText⟩⟩, ⟨46, 480, [.val], [], [], ⟨0, 1, SwrText⟩⟩], n := 33 }

theorem BwrInt.ok : BwrInt.Ok := ⟨tabOk (P := Go.Proofs.Tryd.prog) (G := noG) (l := [⟨46, 432, [.val], [], [], ⟨0, 1, SwrText⟩⟩, ⟨46, 480, [.val], [], [], ⟨0, 1, SwrText⟩⟩]) (And.intro KwrText (And.intro KwrText True.intro)), mixed⟩

theorem KwrInt : Known Go.Proofs.Tryd.prog noG 45 ⟨0, 1, SwrInt⟩ := by
  refine Known.walk (B := BwrInt) (fn := Go.Proofs.Tryd.f45) BwrInt.ok (by kernel_rfl) rfl (by kernel_rfl) (by kernel_rfl) (by decide) (by decide) ?_
  · intro E args ks C r h hC hlen
    simp only at h
    unfold SwrInt at h
    split at h
    rotate_left
    · cases h
    rename_i p0
    cases h
    simp only [lens] at hlen
    refine ⟨show 1 ≤ 33 from by decide, ?_⟩
    refine Tri.sub (Sub.of_eq (show _ = ([(0, .sc (.ro .u8 p0))], []) from rfl)) ?_
    refine Tri.seq_region [] none [0] [] ((True ∧ True) ∧ True)
        ([(0, .sc (.ro .u8 p0))], [])
        32 (by kernel_rfl) rfl (by kernel_rfl) (⟨⟨trivial, trivial⟩, trivial⟩) ?_
    refine Tri.seq_region [] none [3, 0] [] ((True ∧ True) ∧ True)
        ([(3, .sc (.i .i64 0)), (0, .sc (.ro .u8 p0))], [])
        48 (by kernel_rfl) rfl (by kernel_rfl) (⟨⟨trivial, trivial⟩, trivial⟩) ?_
    refine Tri.seq ?_
    refine Tri.block ?_
    refine Tri.count 48 p0.length (FwrIntl0) (()) (fun k0 z0 => (∀ j, j < k0 → (FwrInts0 p0) j = false)) (fun k0 z0 => ([(3, .sc (.i .i64 ((k0 : Nat) : Int))), (0, .sc (.ro .u8 p0))], [])) (fun j hj => absurd hj (Nat.not_lt_zero j)) (Sub.of_eq (by kernel_rfl)) ?_
    intro k0 z0 hk0 hz0 hJ0
    refine Tri.seq ?_
    refine Tri.split (decide ((((k0 : Nat) : Int) : Int) < ((p0.length : Nat) : Int))) (fun h1 => ?_) (fun h1 => ?_)
    ·
      have h1' := of_decide_eq_true h1
      refine Tri.seq_region [(9, qb true)] none [15, 3, 0] [] ((True ∧ True) ∧ ((True ∧ True) ∧ ((True ∧ True) ∧ ((True ∧ True) ∧ ((True ∧ ((decide ((((k0 : Nat) : Int) : Int) < ((p0.length : Nat) : Int))) = true)) ∧ ((True ∧ True) ∧ ((True ∧ True) ∧ ((((0 : Int) ≤ ((k0 : Nat) : Int) ∧ ((k0 : Nat) : Int) < (p0.length : Int)) ∧ True) ∧ (((k0 < p0.length) ∧ True) ∧ ((True ∧ True) ∧ ((True ∧ True) ∧ True)))))))))))
          ([(15, .sc (.b ((p0.getD k0 0 : Int) == 0))), (3, .sc (.i .i64 ((k0 : Nat) : Int))), (0, .sc (.ro .u8 p0))], [])
          224 (by kernel_rfl) rfl (by kernel_rfl) (⟨⟨trivial, trivial⟩, ⟨⟨trivial, trivial⟩, ⟨⟨trivial, trivial⟩, ⟨⟨trivial, trivial⟩, ⟨⟨trivial, (h1)⟩, ⟨⟨trivial, trivial⟩, ⟨⟨trivial, trivial⟩, ⟨⟨(by first | omega | decide | (simp only [size_bytesOf, List.length_take, List.length_drop, ByteArray.size_append]; omega) | exact ⟨by decide, by have := strEq_nz (by assumption); omega⟩ | exact size_sel (by rw [ByteArray.size_append, size_bytesOf, List.length_take, List.length_drop]; show 1 + _ ≤ _; omega) (by rw [size_bytesOf, List.length_take, List.length_drop]; omega) | (simp only [size_bytesOf, List.length_take, List.length_drop]; show 1 + _ ≤ _; omega)), trivial⟩, ⟨⟨(by first | omega | decide | (simp only [size_bytesOf, List.length_take, List.length_drop, ByteArray.size_append]; omega) | exact ⟨by decide, by have := strEq_nz (by assumption); omega⟩ | exact size_sel (by rw [ByteArray.size_append, size_bytesOf, List.length_take, List.length_drop]; show 1 + _ ≤ _; omega) (by rw [size_bytesOf, List.length_take, List.length_drop]; omega) | (simp only [size_bytesOf, List.length_take, List.length_drop]; show 1 + _ ≤ _; omega)), trivial⟩, ⟨⟨trivial, trivial⟩, ⟨⟨trivial, trivial⟩, trivial⟩⟩⟩⟩⟩⟩⟩⟩⟩⟩⟩) ?_
      refine Tri.cond (x := ((p0.getD k0 0 : Int) == 0)) (by kernel_rfl) (fun h2 => ?_) (fun h2 => ?_)
      ·
        have h2' := eq_true_i h2
        refine Tri.skip ?_
        change Tri _ _ _ _ _ _
        refine Tri.block ?_
        refine Tri.region' [(17, qi ((k0 + 1 : Nat) : Int))] none [3, 0] [] ((True ∧ True) ∧ ((True ∧ ((iAdd .i64 ((k0 : Nat) : Int) 1) = ((k0 + 1 : Nat) : Int))) ∧ ((True ∧ True) ∧ True)))
            ([(3, .sc (.i .i64 ((k0 + 1 : Nat) : Int))), (0, .sc (.ro .u8 p0))], [])
            272 (by kernel_rfl) rfl (by kernel_rfl) (⟨⟨trivial, trivial⟩, ⟨⟨trivial, (iAdd_nat (a := k0) (b := 1) (by omega))⟩, ⟨⟨trivial, trivial⟩, trivial⟩⟩⟩) ?_
        repeat (refine blkP_normal ?_)
        refine countP_normal (by omega) (below_succ hJ0 (by subst hz0; simp only [FwrInts0, h1, h2, sel_true, sel_false])) ?_
        exact Sub.ren (ns := []) (kf := [3, 0]) (by kernel_rfl) (by kernel_rfl)
      ·
        have h2' := eq_false_i h2
        refine Tri.exit ?_
        subst hz0
        have hf0 : fstB (FwrInts0 p0) p0.length = k0 := fst_found (by omega) hJ0 (by simp only [FwrInts0, h1, h2, sel_true, sel_false])
        have hb0 : Nat.blt k0 p0.length = true := blt_true (by omega)
        have hq0 : Nat.blt (fstB (FwrInts0 p0) p0.length) p0.length = true := by rw [hf0]; exact hb0
        change Tri _ _ _ _ _ _
        refine Tri.seq_region [] none [4] [] ((True ∧ True) ∧ ((True ∧ True) ∧ ((((0 : Int) ≤ ((k0 : Nat) : Int) ∧ (((k0 : Nat) : Int) : Int) ≤ ((p0.length : Nat) : Int) ∧ ((p0.length : Nat) : Int) ≤ (p0.length : Int)) ∧ True) ∧ ((True ∧ True) ∧ ((True ∧ True) ∧ True)))))
            ([(4, .sc (.s (bytesOf ((p0.drop k0).take (p0.length - k0)))))], [])
            304 (by kernel_rfl) rfl (by kernel_rfl) (⟨⟨trivial, trivial⟩, ⟨⟨trivial, trivial⟩, ⟨⟨(by first | omega | decide | (simp only [size_bytesOf, List.length_take, List.length_drop, ByteArray.size_append]; omega) | exact ⟨by decide, by have := strEq_nz (by assumption); omega⟩ | exact size_sel (by rw [ByteArray.size_append, size_bytesOf, List.length_take, List.length_drop]; show 1 + _ ≤ _; omega) (by rw [size_bytesOf, List.length_take, List.length_drop]; omega) | (simp only [size_bytesOf, List.length_take, List.length_drop]; show 1 + _ ≤ _; omega)), trivial⟩, ⟨⟨trivial, trivial⟩, ⟨⟨trivial, trivial⟩, trivial⟩⟩⟩⟩⟩) ?_
        refine Tri.seq ?_
        refine Tri.split (!(strEq (bytesOf ((p0.drop k0).take (p0.length - k0))) (⟨#[]⟩ : ByteArray))) (fun h3 => ?_) (fun h3 => ?_)
        ·
          refine Tri.seq_region [(24, qb true)] none [28, 4] [] ((True ∧ True) ∧ ((True ∧ True) ∧ ((True ∧ ((!(strEq (bytesOf ((p0.drop k0).take (p0.length - k0))) (⟨#[]⟩ : ByteArray))) = true)) ∧ ((True ∧ True) ∧ ((((0 : Int) ≤ 0 ∧ 0 < ((bytesOf ((p0.drop k0).take (p0.length - k0))).size : Int)) ∧ True) ∧ ((True ∧ True) ∧ ((True ∧ True) ∧ True)))))))
              ([(28, .sc (.b (decide (((byteAt (bytesOf ((p0.drop k0).take (p0.length - k0))) 0) : Int) ≥ 128)))), (4, .sc (.s (bytesOf ((p0.drop k0).take (p0.length - k0)))))], [])
              416 (by kernel_rfl) rfl (by kernel_rfl) (⟨⟨trivial, trivial⟩, ⟨⟨trivial, trivial⟩, ⟨⟨trivial, (h3)⟩, ⟨⟨trivial, trivial⟩, ⟨⟨(by first | omega | decide | (simp only [size_bytesOf, List.length_take, List.length_drop, ByteArray.size_append]; omega) | exact ⟨by decide, by have := strEq_nz (by assumption); omega⟩ | exact size_sel (by rw [ByteArray.size_append, size_bytesOf, List.length_take, List.length_drop]; show 1 + _ ≤ _; omega) (by rw [size_bytesOf, List.length_take, List.length_drop]; omega) | (simp only [size_bytesOf, List.length_take, List.length_drop]; show 1 + _ ≤ _; omega)), trivial⟩, ⟨⟨trivial, trivial⟩, ⟨⟨trivial, trivial⟩, trivial⟩⟩⟩⟩⟩⟩⟩) ?_
          refine Tri.join (x := (decide (((byteAt (bytesOf ((p0.drop k0).take (p0.length - k0))) 0) : Int) ≥ 128))) (fun bb => ([(4, .sc (.s (sel bb ((⟨#[0]⟩ : ByteArray) ++ (bytesOf ((p0.drop k0).take (p0.length - k0)))) (bytesOf ((p0.drop k0).take (p0.length - k0))))))], [])) 464 (by kernel_rfl) (fun h4 => ?_) (fun h4 => ?_) ?_
          ·
            have h4' := of_decide_eq_true h4
            refine Tri.region' [] none [4] [] ((True ∧ True) ∧ ((((⟨#[0]⟩ : ByteArray).size + (bytesOf ((p0.drop k0).take (p0.length - k0))).size ≤ 9223372036854775807) ∧ True) ∧ ((True ∧ True) ∧ True)))
                ([(4, .sc (.s ((⟨#[0]⟩ : ByteArray) ++ (bytesOf ((p0.drop k0).take (p0.length - k0))))))], [])
                464 (by kernel_rfl) rfl (by kernel_rfl) (⟨⟨trivial, trivial⟩, ⟨⟨(by first | omega | decide | (simp only [size_bytesOf, List.length_take, List.length_drop, ByteArray.size_append]; omega) | exact ⟨by decide, by have := strEq_nz (by assumption); omega⟩ | exact size_sel (by rw [ByteArray.size_append, size_bytesOf, List.length_take, List.length_drop]; show 1 + _ ≤ _; omega) (by rw [size_bytesOf, List.length_take, List.length_drop]; omega) | (simp only [size_bytesOf, List.length_take, List.length_drop]; show 1 + _ ≤ _; omega)), trivial⟩, ⟨⟨trivial, trivial⟩, trivial⟩⟩⟩) ?_
            exact (Sub.ren (ns := []) (kf := [4]) (s' := ([(4, .sc (.s ((⟨#[0]⟩ : ByteArray) ++ (bytesOf ((p0.drop k0).take (p0.length - k0))))))], [])) (by kernel_rfl) (by kernel_rfl)).trans (Sub.of_eq (by simp only [sel_true, sel_false]))
          ·
            have h4' := of_decide_eq_false h4
            refine Tri.skip ?_
            exact (Sub.ren (ns := []) (kf := [4]) (s' := ([(4, .sc (.s (bytesOf ((p0.drop k0).take (p0.length - k0)))))], [])) (by kernel_rfl) (by kernel_rfl)).trans (Sub.of_eq (by simp only [sel_true, sel_false]))
          ·
            change Tri _ _ _ _ _ _
            refine Tri.seq_region [] none [2] [480] ((True ∧ True) ∧ (((True ∧ ((sel (decide (((byteAt (bytesOf ((p0.drop k0).take (p0.length - k0))) 0) : Int) ≥ 128)) ((⟨#[0]⟩ : ByteArray) ++ (bytesOf ((p0.drop k0).take (p0.length - k0)))) (bytesOf ((p0.drop k0).take (p0.length - k0)))).size ≤ 1000000000)) ∧ True) ∧ ((True ∧ True) ∧ True)))
                ([(2, .sc (.sl 480 0 (4 + (sel (decide (((byteAt (bytesOf ((p0.drop k0).take (p0.length - k0))) 0) : Int) ≥ 128)) ((⟨#[0]⟩ : ByteArray) ++ (bytesOf ((p0.drop k0).take (p0.length - k0)))) (bytesOf ((p0.drop k0).take (p0.length - k0)))).size) 1 none))], [(480, .ints .u8 (4 + (sel (decide (((byteAt (bytesOf ((p0.drop k0).take (p0.length - k0))) 0) : Int) ≥ 128)) ((⟨#[0]⟩ : ByteArray) ++ (bytesOf ((p0.drop k0).take (p0.length - k0)))) (bytesOf ((p0.drop k0).take (p0.length - k0)))).size) (FwrText (sel (decide (((byteAt (bytesOf ((p0.drop k0).take (p0.length - k0))) 0) : Int) ≥ 128)) ((⟨#[0]⟩ : ByteArray) ++ (bytesOf ((p0.drop k0).take (p0.length - k0)))) (bytesOf ((p0.drop k0).take (p0.length - k0))))))])
                512 (by kernel_rfl) rfl (by kernel_rfl) (⟨⟨trivial, trivial⟩, ⟨⟨⟨trivial, (by first | omega | decide | (simp only [size_bytesOf, List.length_take, List.length_drop, ByteArray.size_append]; omega) | exact ⟨by decide, by have := strEq_nz (by assumption); omega⟩ | exact size_sel (by rw [ByteArray.size_append, size_bytesOf, List.length_take, List.length_drop]; show 1 + _ ≤ _; omega) (by rw [size_bytesOf, List.length_take, List.length_drop]; omega) | (simp only [size_bytesOf, List.length_take, List.length_drop]; show 1 + _ ≤ _; omega))⟩, trivial⟩, ⟨⟨trivial, trivial⟩, trivial⟩⟩⟩) ?_
            refine Tri.ret ?_
            repeat (first | refine thenP_ret ?_ | refine blkP_ret ?_ | refine countP_ret ?_ | refine joinP_ret ?_ | refine iterP_ret ?_)
            refine endP.conv (r' := ⟨.sc (.sl 0 0 (4 + (sel (decide (((byteAt (bytesOf ((p0.drop k0).take (p0.length - k0))) 0) : Int) ≥ 128)) ((⟨#[0]⟩ : ByteArray) ++ (bytesOf ((p0.drop k0).take (p0.length - k0)))) (bytesOf ((p0.drop k0).take (p0.length - k0)))).size) 1 none), [some (.ints .u8 (4 + (sel (decide (((byteAt (bytesOf ((p0.drop k0).take (p0.length - k0))) 0) : Int) ≥ 128)) ((⟨#[0]⟩ : ByteArray) ++ (bytesOf ((p0.drop k0).take (p0.length - k0)))) (bytesOf ((p0.drop k0).take (p0.length - k0)))).size) (FwrText (sel (decide (((byteAt (bytesOf ((p0.drop k0).take (p0.length - k0))) 0) : Int) ≥ 128)) ((⟨#[0]⟩ : ByteArray) ++ (bytesOf ((p0.drop k0).take (p0.length - k0)))) (bytesOf ((p0.drop k0).take (p0.length - k0))))))]⟩) (by simp only [FwrInt, FwrIntn0, hq0, hf0, hb0, h3, sel_true, sel_false]) ?_
            exact endP.ret [(480, 0)] (True ∧ True) (by kernel_rfl) (by kernel_rfl) ⟨trivial, trivial⟩
        ·
          refine Tri.seq_region [(24, qb false)] none [28, 4] [] ((True ∧ True) ∧ ((True ∧ True) ∧ ((True ∧ ((!(strEq (bytesOf ((p0.drop k0).take (p0.length - k0))) (⟨#[]⟩ : ByteArray))) = false)) ∧ ((True ∧ True) ∧ ((True ∧ True) ∧ ((True ∧ True) ∧ ((True ∧ True) ∧ True)))))))
              ([(28, .sc (.b false)), (4, .sc (.s (bytesOf ((p0.drop k0).take (p0.length - k0)))))], [])
              416 (by kernel_rfl) rfl (by kernel_rfl) (⟨⟨trivial, trivial⟩, ⟨⟨trivial, trivial⟩, ⟨⟨trivial, (h3)⟩, ⟨⟨trivial, trivial⟩, ⟨⟨trivial, trivial⟩, ⟨⟨trivial, trivial⟩, ⟨⟨trivial, trivial⟩, trivial⟩⟩⟩⟩⟩⟩⟩) ?_
          refine Tri.cond_false (by kernel_rfl) ?_
          refine Tri.skip ?_
          change Tri _ _ _ _ _ _
          refine Tri.seq_region [] none [2] [432] ((True ∧ True) ∧ (((True ∧ ((bytesOf ((p0.drop k0).take (p0.length - k0))).size ≤ 1000000000)) ∧ True) ∧ ((True ∧ True) ∧ True)))
              ([(2, .sc (.sl 432 0 (4 + (bytesOf ((p0.drop k0).take (p0.length - k0))).size) 1 none))], [(432, .ints .u8 (4 + (bytesOf ((p0.drop k0).take (p0.length - k0))).size) (FwrText (bytesOf ((p0.drop k0).take (p0.length - k0)))))])
              464 (by kernel_rfl) rfl (by kernel_rfl) (⟨⟨trivial, trivial⟩, ⟨⟨⟨trivial, (by first | omega | decide | (simp only [size_bytesOf, List.length_take, List.length_drop, ByteArray.size_append]; omega) | exact ⟨by decide, by have := strEq_nz (by assumption); omega⟩ | exact size_sel (by rw [ByteArray.size_append, size_bytesOf, List.length_take, List.length_drop]; show 1 + _ ≤ _; omega) (by rw [size_bytesOf, List.length_take, List.length_drop]; omega) | (simp only [size_bytesOf, List.length_take, List.length_drop]; show 1 + _ ≤ _; omega))⟩, trivial⟩, ⟨⟨trivial, trivial⟩, trivial⟩⟩⟩) ?_
          refine Tri.ret ?_
          repeat (first | refine thenP_ret ?_ | refine blkP_ret ?_ | refine countP_ret ?_ | refine joinP_ret ?_ | refine iterP_ret ?_)
          refine endP.conv (r' := ⟨.sc (.sl 0 0 (4 + (bytesOf ((p0.drop k0).take (p0.length - k0))).size) 1 none), [some (.ints .u8 (4 + (bytesOf ((p0.drop k0).take (p0.length - k0))).size) (FwrText (bytesOf ((p0.drop k0).take (p0.length - k0)))))]⟩) (by simp only [FwrInt, FwrIntn0, hq0, hf0, hb0, h3, sel_true, sel_false]) ?_
          exact endP.ret [(432, 0)] (True ∧ True) (by kernel_rfl) (by kernel_rfl) ⟨trivial, trivial⟩
    ·
      have h1' := of_decide_eq_false h1
      refine Tri.seq_region [(9, qb false)] none [15, 3, 0] [] ((True ∧ True) ∧ ((True ∧ True) ∧ ((True ∧ True) ∧ ((True ∧ True) ∧ ((True ∧ ((decide ((((k0 : Nat) : Int) : Int) < ((p0.length : Nat) : Int))) = false)) ∧ ((True ∧ True) ∧ ((True ∧ True) ∧ ((True ∧ True) ∧ ((True ∧ True) ∧ ((True ∧ True) ∧ ((True ∧ True) ∧ True)))))))))))
          ([(15, .sc (.b false)), (3, .sc (.i .i64 ((k0 : Nat) : Int))), (0, .sc (.ro .u8 p0))], [])
          224 (by kernel_rfl) rfl (by kernel_rfl) (⟨⟨trivial, trivial⟩, ⟨⟨trivial, trivial⟩, ⟨⟨trivial, trivial⟩, ⟨⟨trivial, trivial⟩, ⟨⟨trivial, (h1)⟩, ⟨⟨trivial, trivial⟩, ⟨⟨trivial, trivial⟩, ⟨⟨trivial, trivial⟩, ⟨⟨trivial, trivial⟩, ⟨⟨trivial, trivial⟩, ⟨⟨trivial, trivial⟩, trivial⟩⟩⟩⟩⟩⟩⟩⟩⟩⟩⟩) ?_
      refine Tri.cond_false (by kernel_rfl) ?_
      refine Tri.exit ?_
      have hend0 : k0 = p0.length := by (have := of_decide_eq_false h1; omega)
      subst hend0; subst hz0
      have hf0 : fstB (FwrInts0 p0) p0.length = p0.length := fst_none hJ0
      have hb0 : Nat.blt p0.length p0.length = false := blt_self _
      have hq0 : Nat.blt (fstB (FwrInts0 p0) p0.length) p0.length = false := by rw [hf0]; exact hb0
      change Tri _ _ _ _ _ _
      refine Tri.seq_region [] none [4] [] ((True ∧ True) ∧ ((True ∧ True) ∧ ((((0 : Int) ≤ ((p0.length : Nat) : Int) ∧ (((p0.length : Nat) : Int) : Int) ≤ ((p0.length : Nat) : Int) ∧ ((p0.length : Nat) : Int) ≤ (p0.length : Int)) ∧ True) ∧ ((True ∧ True) ∧ ((True ∧ True) ∧ True)))))
          ([(4, .sc (.s (bytesOf ((p0.drop p0.length).take (p0.length - p0.length)))))], [])
          304 (by kernel_rfl) rfl (by kernel_rfl) (⟨⟨trivial, trivial⟩, ⟨⟨trivial, trivial⟩, ⟨⟨(by first | omega | decide | (simp only [size_bytesOf, List.length_take, List.length_drop, ByteArray.size_append]; omega) | exact ⟨by decide, by have := strEq_nz (by assumption); omega⟩ | exact size_sel (by rw [ByteArray.size_append, size_bytesOf, List.length_take, List.length_drop]; show 1 + _ ≤ _; omega) (by rw [size_bytesOf, List.length_take, List.length_drop]; omega) | (simp only [size_bytesOf, List.length_take, List.length_drop]; show 1 + _ ≤ _; omega)), trivial⟩, ⟨⟨trivial, trivial⟩, ⟨⟨trivial, trivial⟩, trivial⟩⟩⟩⟩⟩) ?_
      refine Tri.seq ?_
      refine Tri.split (!(strEq (bytesOf ((p0.drop p0.length).take (p0.length - p0.length))) (⟨#[]⟩ : ByteArray))) (fun h5 => ?_) (fun h5 => ?_)
      ·
        refine Tri.seq_region [(24, qb true)] none [28, 4] [] ((True ∧ True) ∧ ((True ∧ True) ∧ ((True ∧ ((!(strEq (bytesOf ((p0.drop p0.length).take (p0.length - p0.length))) (⟨#[]⟩ : ByteArray))) = true)) ∧ ((True ∧ True) ∧ ((((0 : Int) ≤ 0 ∧ 0 < ((bytesOf ((p0.drop p0.length).take (p0.length - p0.length))).size : Int)) ∧ True) ∧ ((True ∧ True) ∧ ((True ∧ True) ∧ True)))))))
            ([(28, .sc (.b (decide (((byteAt (bytesOf ((p0.drop p0.length).take (p0.length - p0.length))) 0) : Int) ≥ 128)))), (4, .sc (.s (bytesOf ((p0.drop p0.length).take (p0.length - p0.length)))))], [])
            416 (by kernel_rfl) rfl (by kernel_rfl) (⟨⟨trivial, trivial⟩, ⟨⟨trivial, trivial⟩, ⟨⟨trivial, (h5)⟩, ⟨⟨trivial, trivial⟩, ⟨⟨(by first | omega | decide | (simp only [size_bytesOf, List.length_take, List.length_drop, ByteArray.size_append]; omega) | exact ⟨by decide, by have := strEq_nz (by assumption); omega⟩ | exact size_sel (by rw [ByteArray.size_append, size_bytesOf, List.length_take, List.length_drop]; show 1 + _ ≤ _; omega) (by rw [size_bytesOf, List.length_take, List.length_drop]; omega) | (simp only [size_bytesOf, List.length_take, List.length_drop]; show 1 + _ ≤ _; omega)), trivial⟩, ⟨⟨trivial, trivial⟩, ⟨⟨trivial, trivial⟩, trivial⟩⟩⟩⟩⟩⟩⟩) ?_
        refine Tri.join (x := (decide (((byteAt (bytesOf ((p0.drop p0.length).take (p0.length - p0.length))) 0) : Int) ≥ 128))) (fun bb => ([(4, .sc (.s (sel bb ((⟨#[0]⟩ : ByteArray) ++ (bytesOf ((p0.drop p0.length).take (p0.length - p0.length)))) (bytesOf ((p0.drop p0.length).take (p0.length - p0.length))))))], [])) 464 (by kernel_rfl) (fun h6 => ?_) (fun h6 => ?_) ?_
        ·
          have h6' := of_decide_eq_true h6
          refine Tri.region' [] none [4] [] ((True ∧ True) ∧ ((((⟨#[0]⟩ : ByteArray).size + (bytesOf ((p0.drop p0.length).take (p0.length - p0.length))).size ≤ 9223372036854775807) ∧ True) ∧ ((True ∧ True) ∧ True)))
              ([(4, .sc (.s ((⟨#[0]⟩ : ByteArray) ++ (bytesOf ((p0.drop p0.length).take (p0.length - p0.length))))))], [])
              464 (by kernel_rfl) rfl (by kernel_rfl) (⟨⟨trivial, trivial⟩, ⟨⟨(by first | omega | decide | (simp only [size_bytesOf, List.length_take, List.length_drop, ByteArray.size_append]; omega) | exact ⟨by decide, by have := strEq_nz (by assumption); omega⟩ | exact size_sel (by rw [ByteArray.size_append, size_bytesOf, List.length_take, List.length_drop]; show 1 + _ ≤ _; omega) (by rw [size_bytesOf, List.length_take, List.length_drop]; omega) | (simp only [size_bytesOf, List.length_take, List.length_drop]; show 1 + _ ≤ _; omega)), trivial⟩, ⟨⟨trivial, trivial⟩, trivial⟩⟩⟩) ?_
          exact (Sub.ren (ns := []) (kf := [4]) (s' := ([(4, .sc (.s ((⟨#[0]⟩ : ByteArray) ++ (bytesOf ((p0.drop p0.length).take (p0.length - p0.length))))))], [])) (by kernel_rfl) (by kernel_rfl)).trans (Sub.of_eq (by simp only [sel_true, sel_false]))
        ·
          have h6' := of_decide_eq_false h6
          refine Tri.skip ?_
          exact (Sub.ren (ns := []) (kf := [4]) (s' := ([(4, .sc (.s (bytesOf ((p0.drop p0.length).take (p0.length - p0.length)))))], [])) (by kernel_rfl) (by kernel_rfl)).trans (Sub.of_eq (by simp only [sel_true, sel_false]))
        ·
          change Tri _ _ _ _ _ _
          refine Tri.seq_region [] none [2] [480] ((True ∧ True) ∧ (((True ∧ ((sel (decide (((byteAt (bytesOf ((p0.drop p0.length).take (p0.length - p0.length))) 0) : Int) ≥ 128)) ((⟨#[0]⟩ : ByteArray) ++ (bytesOf ((p0.drop p0.length).take (p0.length - p0.length)))) (bytesOf ((p0.drop p0.length).take (p0.length - p0.length)))).size ≤ 1000000000)) ∧ True) ∧ ((True ∧ True) ∧ True)))
              ([(2, .sc (.sl 480 0 (4 + (sel (decide (((byteAt (bytesOf ((p0.drop p0.length).take (p0.length - p0.length))) 0) : Int) ≥ 128)) ((⟨#[0]⟩ : ByteArray) ++ (bytesOf ((p0.drop p0.length).take (p0.length - p0.length)))) (bytesOf ((p0.drop p0.length).take (p0.length - p0.length)))).size) 1 none))], [(480, .ints .u8 (4 + (sel (decide (((byteAt (bytesOf ((p0.drop p0.length).take (p0.length - p0.length))) 0) : Int) ≥ 128)) ((⟨#[0]⟩ : ByteArray) ++ (bytesOf ((p0.drop p0.length).take (p0.length - p0.length)))) (bytesOf ((p0.drop p0.length).take (p0.length - p0.length)))).size) (FwrText (sel (decide (((byteAt (bytesOf ((p0.drop p0.length).take (p0.length - p0.length))) 0) : Int) ≥ 128)) ((⟨#[0]⟩ : ByteArray) ++ (bytesOf ((p0.drop p0.length).take (p0.length - p0.length)))) (bytesOf ((p0.drop p0.length).take (p0.length - p0.length))))))])
              512 (by kernel_rfl) rfl (by kernel_rfl) (⟨⟨trivial, trivial⟩, ⟨⟨⟨trivial, (by first | omega | decide | (simp only [size_bytesOf, List.length_take, List.length_drop, ByteArray.size_append]; omega) | exact ⟨by decide, by have := strEq_nz (by assumption); omega⟩ | exact size_sel (by rw [ByteArray.size_append, size_bytesOf, List.length_take, List.length_drop]; show 1 + _ ≤ _; omega) (by rw [size_bytesOf, List.length_take, List.length_drop]; omega) | (simp only [size_bytesOf, List.length_take, List.length_drop]; show 1 + _ ≤ _; omega))⟩, trivial⟩, ⟨⟨trivial, trivial⟩, trivial⟩⟩⟩) ?_
          refine Tri.ret ?_
          repeat (first | refine thenP_ret ?_ | refine blkP_ret ?_ | refine countP_ret ?_ | refine joinP_ret ?_ | refine iterP_ret ?_)
          refine endP.conv (r' := ⟨.sc (.sl 0 0 (4 + (sel (decide (((byteAt (bytesOf ((p0.drop p0.length).take (p0.length - p0.length))) 0) : Int) ≥ 128)) ((⟨#[0]⟩ : ByteArray) ++ (bytesOf ((p0.drop p0.length).take (p0.length - p0.length)))) (bytesOf ((p0.drop p0.length).take (p0.length - p0.length)))).size) 1 none), [some (.ints .u8 (4 + (sel (decide (((byteAt (bytesOf ((p0.drop p0.length).take (p0.length - p0.length))) 0) : Int) ≥ 128)) ((⟨#[0]⟩ : ByteArray) ++ (bytesOf ((p0.drop p0.length).take (p0.length - p0.length)))) (bytesOf ((p0.drop p0.length).take (p0.length - p0.length)))).size) (FwrText (sel (decide (((byteAt (bytesOf ((p0.drop p0.length).take (p0.length - p0.length))) 0) : Int) ≥ 128)) ((⟨#[0]⟩ : ByteArray) ++ (bytesOf ((p0.drop p0.length).take (p0.length - p0.length)))) (bytesOf ((p0.drop p0.length).take (p0.length - p0.length))))))]⟩) (by simp only [FwrInt, FwrIntn0, hq0, hf0, hb0, h5, sel_true, sel_false]) ?_
          exact endP.ret [(480, 0)] (True ∧ True) (by kernel_rfl) (by kernel_rfl) ⟨trivial, trivial⟩
      ·
        refine Tri.seq_region [(24, qb false)] none [28, 4] [] ((True ∧ True) ∧ ((True ∧ True) ∧ ((True ∧ ((!(strEq (bytesOf ((p0.drop p0.length).take (p0.length - p0.length))) (⟨#[]⟩ : ByteArray))) = false)) ∧ ((True ∧ True) ∧ ((True ∧ True) ∧ ((True ∧ True) ∧ ((True ∧ True) ∧ True)))))))
            ([(28, .sc (.b false)), (4, .sc (.s (bytesOf ((p0.drop p0.length).take (p0.length - p0.length)))))], [])
            416 (by kernel_rfl) rfl (by kernel_rfl) (⟨⟨trivial, trivial⟩, ⟨⟨trivial, trivial⟩, ⟨⟨trivial, (h5)⟩, ⟨⟨trivial, trivial⟩, ⟨⟨trivial, trivial⟩, ⟨⟨trivial, trivial⟩, ⟨⟨trivial, trivial⟩, trivial⟩⟩⟩⟩⟩⟩⟩) ?_
        refine Tri.cond_false (by kernel_rfl) ?_
        refine Tri.skip ?_
        change Tri _ _ _ _ _ _
        refine Tri.seq_region [] none [2] [432] ((True ∧ True) ∧ (((True ∧ ((bytesOf ((p0.drop p0.length).take (p0.length - p0.length))).size ≤ 1000000000)) ∧ True) ∧ ((True ∧ True) ∧ True)))
            ([(2, .sc (.sl 432 0 (4 + (bytesOf ((p0.drop p0.length).take (p0.length - p0.length))).size) 1 none))], [(432, .ints .u8 (4 + (bytesOf ((p0.drop p0.length).take (p0.length - p0.length))).size) (FwrText (bytesOf ((p0.drop p0.length).take (p0.length - p0.length)))))])
            464 (by kernel_rfl) rfl (by kernel_rfl) (⟨⟨trivial, trivial⟩, ⟨⟨⟨trivial, (by first | omega | decide | (simp only [size_bytesOf, List.length_take, List.length_drop, ByteArray.size_append]; omega) | exact ⟨by decide, by have := strEq_nz (by assumption); omega⟩ | exact size_sel (by rw [ByteArray.size_append, size_bytesOf, List.length_take, List.length_drop]; show 1 + _ ≤ _; omega) (by rw [size_bytesOf, List.length_take, List.length_drop]; omega) | (simp only [size_bytesOf, List.length_take, List.length_drop]; show 1 + _ ≤ _; omega))⟩, trivial⟩, ⟨⟨trivial, trivial⟩, trivial⟩⟩⟩) ?_
        refine Tri.ret ?_
        repeat (first | refine thenP_ret ?_ | refine blkP_ret ?_ | refine countP_ret ?_ | refine joinP_ret ?_ | refine iterP_ret ?_)
        refine endP.conv (r' := ⟨.sc (.sl 0 0 (4 + (bytesOf ((p0.drop p0.length).take (p0.length - p0.length))).size) 1 none), [some (.ints .u8 (4 + (bytesOf ((p0.drop p0.length).take (p0.length - p0.length))).size) (FwrText (bytesOf ((p0.drop p0.length).take (p0.length - p0.length)))))]⟩) (by simp only [FwrInt, FwrIntn0, hq0, hf0, hb0, h5, sel_true, sel_false]) ?_
        exact endP.ret [(432, 0)] (True ∧ True) (by kernel_rfl) (by kernel_rfl) ⟨trivial, trivial⟩




noncomputable def FwcIntl0 (k0 : Nat) (z0 : Unit) : Unit :=
  ()

noncomputable def FwcInts0 (p0 : List Int) (p1 : Int) (p2 : Bool) (k0 : Nat) : Bool :=
  (sel (((bytesI (FwcText p0 p1 p2)).getD k0 0 : Int) == 0) false true)

noncomputable def FwcInt (p0 : List Int) (p1 : Int) (p2 : Bool) : List Int :=
  (sel (Nat.blt (fstB (FwcInts0 p0 p1 p2) ((FwcText p0 p1 p2).size)) ((FwcText p0 p1 p2).size)) (sel (decide (((((FwcText p0 p1 p2).size : Nat) : Int) : Int) > 0)) (sel (decide (((bytesI (FwcText p0 p1 p2)).getD 0 0 : Int) ≥ 128)) ([] : List Int) (sel (!(strEq (bytesOf (((FwrInt (part1 (bytesI (FwcText p0 p1 p2)) ((FwcText p0 p1 p2).size) 0 ((FwcText p0 p1 p2).size))).drop 0).take (FwrIntn0 (part1 (bytesI (FwcText p0 p1 p2)) ((FwcText p0 p1 p2).size) 0 ((FwcText p0 p1 p2).size))))) (bytesOf (((FwrText (bytesOf (((bytesI (FwcText p0 p1 p2)).drop 0).take ((FwcText p0 p1 p2).size)))).drop 0).take (4 + (bytesOf (((bytesI (FwcText p0 p1 p2)).drop 0).take ((FwcText p0 p1 p2).size))).size))))) ([] : List Int) (part1 (bytesI (FwcText p0 p1 p2)) ((FwcText p0 p1 p2).size) (0 + ((fstB (FwcInts0 p0 p1 p2) ((FwcText p0 p1 p2).size)) * 1)) (((FwcText p0 p1 p2).size) - (fstB (FwcInts0 p0 p1 p2) ((FwcText p0 p1 p2).size)))))) (sel (!(strEq (bytesOf (((FwrInt (part1 (bytesI (FwcText p0 p1 p2)) ((FwcText p0 p1 p2).size) 0 ((FwcText p0 p1 p2).size))).drop 0).take (FwrIntn0 (part1 (bytesI (FwcText p0 p1 p2)) ((FwcText p0 p1 p2).size) 0 ((FwcText p0 p1 p2).size))))) (bytesOf (((FwrText (bytesOf (((bytesI (FwcText p0 p1 p2)).drop 0).take ((FwcText p0 p1 p2).size)))).drop 0).take (4 + (bytesOf (((bytesI (FwcText p0 p1 p2)).drop 0).take ((FwcText p0 p1 p2).size))).size))))) ([] : List Int) (part1 (bytesI (FwcText p0 p1 p2)) ((FwcText p0 p1 p2).size) (0 + ((fstB (FwcInts0 p0 p1 p2) ((FwcText p0 p1 p2).size)) * 1)) (((FwcText p0 p1 p2).size) - (fstB (FwcInts0 p0 p1 p2) ((FwcText p0 p1 p2).size)))))) (sel (decide (((((FwcText p0 p1 p2).size : Nat) : Int) : Int) > 0)) (sel (decide (((bytesI (FwcText p0 p1 p2)).getD 0 0 : Int) ≥ 128)) ([] : List Int) (sel (!(strEq (bytesOf (((FwrInt (part1 (bytesI (FwcText p0 p1 p2)) ((FwcText p0 p1 p2).size) 0 ((FwcText p0 p1 p2).size))).drop 0).take (FwrIntn0 (part1 (bytesI (FwcText p0 p1 p2)) ((FwcText p0 p1 p2).size) 0 ((FwcText p0 p1 p2).size))))) (bytesOf (((FwrText (bytesOf (((bytesI (FwcText p0 p1 p2)).drop 0).take ((FwcText p0 p1 p2).size)))).drop 0).take (4 + (bytesOf (((bytesI (FwcText p0 p1 p2)).drop 0).take ((FwcText p0 p1 p2).size))).size))))) ([] : List Int) (part1 (bytesI (FwcText p0 p1 p2)) ((FwcText p0 p1 p2).size) (0 + (((FwcText p0 p1 p2).size) * 1)) (((FwcText p0 p1 p2).size) - ((FwcText p0 p1 p2).size))))) (sel (!(strEq (bytesOf (((FwrInt (part1 (bytesI (FwcText p0 p1 p2)) ((FwcText p0 p1 p2).size) 0 ((FwcText p0 p1 p2).size))).drop 0).take (FwrIntn0 (part1 (bytesI (FwcText p0 p1 p2)) ((FwcText p0 p1 p2).size) 0 ((FwcText p0 p1 p2).size))))) (bytesOf (((FwrText (bytesOf (((bytesI (FwcText p0 p1 p2)).drop 0).take ((FwcText p0 p1 p2).size)))).drop 0).take (4 + (bytesOf (((bytesI (FwcText p0 p1 p2)).drop 0).take ((FwcText p0 p1 p2).size))).size))))) ([] : List Int) (part1 (bytesI (FwcText p0 p1 p2)) ((FwcText p0 p1 p2).size) (0 + (((FwcText p0 p1 p2).size) * 1)) (((FwcText p0 p1 p2).size) - ((FwcText p0 p1 p2).size))))))

noncomputable def FwcInt_1 (p0 : List Int) (p1 : Int) (p2 : Bool) : Int :=
  (FwcText_1 p0 p1 p2)

noncomputable def FwcInt_2 (p0 : List Int) (p1 : Int) (p2 : Bool) : Bool :=
  (sel (decide (((((FwcText p0 p1 p2).size : Nat) : Int) : Int) > 0)) (sel (decide (((bytesI (FwcText p0 p1 p2)).getD 0 0 : Int) ≥ 128)) true (sel (!(strEq (bytesOf (((FwrInt (part1 (bytesI (FwcText p0 p1 p2)) ((FwcText p0 p1 p2).size) 0 ((FwcText p0 p1 p2).size))).drop 0).take (FwrIntn0 (part1 (bytesI (FwcText p0 p1 p2)) ((FwcText p0 p1 p2).size) 0 ((FwcText p0 p1 p2).size))))) (bytesOf (((FwrText (bytesOf (((bytesI (FwcText p0 p1 p2)).drop 0).take ((FwcText p0 p1 p2).size)))).drop 0).take (4 + (bytesOf (((bytesI (FwcText p0 p1 p2)).drop 0).take ((FwcText p0 p1 p2).size))).size))))) true (FwcText_2 p0 p1 p2))) (sel (!(strEq (bytesOf (((FwrInt (part1 (bytesI (FwcText p0 p1 p2)) ((FwcText p0 p1 p2).size) 0 ((FwcText p0 p1 p2).size))).drop 0).take (FwrIntn0 (part1 (bytesI (FwcText p0 p1 p2)) ((FwcText p0 p1 p2).size) 0 ((FwcText p0 p1 p2).size))))) (bytesOf (((FwrText (bytesOf (((bytesI (FwcText p0 p1 p2)).drop 0).take ((FwcText p0 p1 p2).size)))).drop 0).take (4 + (bytesOf (((bytesI (FwcText p0 p1 p2)).drop 0).take ((FwcText p0 p1 p2).size))).size))))) true (FwcText_2 p0 p1 p2)))

noncomputable def SwcInt : List AV → List Blk → Option (Prop × Ret)
  | [.sc (.p 0 0)], [.cells [.ro .u8 p0, .i .i64 p1, .b p2]] => some ((p0.length ≤ 1000000000 ∧ (0 : Int) ≤ p1 ∧ p1 ≤ (p0.length : Int)), ⟨.sc (.ro .u8 (FwcInt p0 p1 p2)), [some (.cells [.ro .u8 p0, .i .i64 (FwcInt_1 p0 p1 p2), .b (FwcInt_2 p0 p1 p2)])]⟩)
  | _, _ => none

noncomputable def BwcInt : Bs := { P := Go.Proofs.Tryd.prog, G := noG, tab := tabOf [⟨19, 48, [.io], [], [0], ⟨1, 0, SwcText⟩⟩, ⟨45, 464, [.ro .u8], [64], [], ⟨0, 1, SwrInt⟩⟩, ⟨46, 528, [.val], [], [], ⟨0, 1, SwrText⟩⟩], n := 46 }

theorem BwcInt.ok : BwcInt.Ok := ⟨tabOk (P := Go.Proofs.Tryd.prog) (G := noG) (l := [⟨19, 48, [.io], [], [0], ⟨1, 0, SwcText⟩⟩, ⟨45, 464, [.ro .u8], [64], [], ⟨0, 1, SwrInt⟩⟩, ⟨46, 528, [.val], [], [], ⟨0, 1, SwrText⟩⟩]) (And.intro KwcText (And.intro KwrInt (And.intro KwrText True.intro))), mixed⟩

theorem KwcInt : Known Go.Proofs.Tryd.prog noG 24 ⟨1, 0, SwcInt⟩ := by
  refine Known.walk (B := BwcInt) (fn := Go.Proofs.Tryd.f24) BwcInt.ok (by kernel_rfl) rfl (by kernel_rfl) (by kernel_rfl) (by decide) (by decide) ?_
  · intro E args ks C r h hC hlen
    simp only at h
    unfold SwcInt at h
    split at h
    rotate_left
    · cases h
    rename_i p0 p1 p2
    cases h
    simp only [lens] at hlen
    have hs := size_cText p2 hC
    have hb := bytesI_length (FwcText p0 p1 p2)
    refine ⟨show 1 ≤ 46 from by decide, ?_⟩
    refine Tri.sub (Sub.of_eq (show _ = ([(0, .sc (.p 0 0))], [(0, .cells [.ro .u8 p0, .i .i64 p1, .b p2])]) from rfl)) ?_
    refine Tri.seq_region [] none [0] [0] ((True ∧ True) ∧ True)
        ([(0, .sc (.p 0 0))], [(0, .cells [.ro .u8 p0, .i .i64 p1, .b p2])])
        32 (by kernel_rfl) rfl (by kernel_rfl) (⟨⟨trivial, trivial⟩, trivial⟩) ?_
    refine Tri.seq_region [] none [3, 0] [64, 0] ((True ∧ True) ∧ (((True ∧ (p0.length ≤ 1000000000 ∧ (0 : Int) ≤ p1 ∧ p1 ≤ (p0.length : Int))) ∧ True) ∧ ((True ∧ True) ∧ ((True ∧ True) ∧ True))))
        ([(3, .sc (.sl 64 0 ((FwcText p0 p1 p2).size) 1 none)), (0, .sc (.p 0 0))], [(64, .ints .u8 ((FwcText p0 p1 p2).size) (bytesI (FwcText p0 p1 p2))), (0, .cells [.ro .u8 p0, .i .i64 (FwcText_1 p0 p1 p2), .b (FwcText_2 p0 p1 p2)])])
        96 (by kernel_rfl) rfl (by kernel_rfl) (⟨⟨trivial, trivial⟩, ⟨⟨⟨trivial, (by first | omega | decide | exact part1_le (by omega) (by omega) | (simp only [size_bytesOf, List.length_take, List.length_drop, ByteArray.size_append]; omega) | (have hq := in_cU32 p2 hC; exact ⟨hC.1, hq.1, hq.2⟩))⟩, trivial⟩, ⟨⟨trivial, trivial⟩, ⟨⟨trivial, trivial⟩, trivial⟩⟩⟩⟩) ?_
    refine Tri.seq_region [] none [4, 3, 0] [64, 0] ((True ∧ True) ∧ True)
        ([(4, .sc (.i .i64 0)), (3, .sc (.sl 64 0 ((FwcText p0 p1 p2).size) 1 none)), (0, .sc (.p 0 0))], [(64, .ints .u8 ((FwcText p0 p1 p2).size) (bytesI (FwcText p0 p1 p2))), (0, .cells [.ro .u8 p0, .i .i64 (FwcText_1 p0 p1 p2), .b (FwcText_2 p0 p1 p2)])])
        112 (by kernel_rfl) rfl (by kernel_rfl) (⟨⟨trivial, trivial⟩, trivial⟩) ?_
    refine Tri.seq ?_
    refine Tri.block ?_
    refine Tri.count 112 ((FwcText p0 p1 p2).size) (FwcIntl0) (()) (fun k0 z0 => (∀ j, j < k0 → (FwcInts0 p0 p1 p2) j = false)) (fun k0 z0 => ([(4, .sc (.i .i64 ((k0 : Nat) : Int))), (3, .sc (.sl 64 0 ((FwcText p0 p1 p2).size) 1 none)), (0, .sc (.p 0 0))], [(64, .ints .u8 ((FwcText p0 p1 p2).size) (bytesI (FwcText p0 p1 p2))), (0, .cells [.ro .u8 p0, .i .i64 (FwcText_1 p0 p1 p2), .b (FwcText_2 p0 p1 p2)])])) (fun j hj => absurd hj (Nat.not_lt_zero j)) (Sub.of_eq (by kernel_rfl)) ?_
    intro k0 z0 hk0 hz0 hJ0
    refine Tri.seq ?_
    refine Tri.split (decide ((((k0 : Nat) : Int) : Int) < (((FwcText p0 p1 p2).size : Nat) : Int))) (fun h1 => ?_) (fun h1 => ?_)
    ·
      have h1' := of_decide_eq_true h1
      refine Tri.len 64 rfl (fun hl2 => ?_)
      refine Tri.seq_region [(12, qb true)] none [18, 4, 3, 0] [64, 0] ((True ∧ True) ∧ ((True ∧ True) ∧ ((True ∧ True) ∧ ((True ∧ True) ∧ ((True ∧ ((decide ((((k0 : Nat) : Int) : Int) < (((FwcText p0 p1 p2).size : Nat) : Int))) = true)) ∧ ((True ∧ True) ∧ ((True ∧ True) ∧ ((((0 : Int) ≤ ((k0 : Nat) : Int) ∧ ((k0 : Nat) : Int) < (((FwcText p0 p1 p2).size : Nat) : Int)) ∧ True) ∧ (((k0 < (FwcText p0 p1 p2).size) ∧ True) ∧ ((True ∧ True) ∧ ((True ∧ True) ∧ True)))))))))))
          ([(18, .sc (.b (((bytesI (FwcText p0 p1 p2)).getD k0 0 : Int) == 0))), (4, .sc (.i .i64 ((k0 : Nat) : Int))), (3, .sc (.sl 64 0 ((FwcText p0 p1 p2).size) 1 none)), (0, .sc (.p 0 0))], [(64, .ints .u8 ((FwcText p0 p1 p2).size) (bytesI (FwcText p0 p1 p2))), (0, .cells [.ro .u8 p0, .i .i64 (FwcText_1 p0 p1 p2), .b (FwcText_2 p0 p1 p2)])])
          288 (by kernel_rfl) rfl (by kernel_rfl) (⟨⟨trivial, trivial⟩, ⟨⟨trivial, trivial⟩, ⟨⟨trivial, trivial⟩, ⟨⟨trivial, trivial⟩, ⟨⟨trivial, (h1)⟩, ⟨⟨trivial, trivial⟩, ⟨⟨trivial, trivial⟩, ⟨⟨(by first | omega | decide | exact part1_le (by omega) (by omega) | (simp only [size_bytesOf, List.length_take, List.length_drop, ByteArray.size_append]; omega) | (have hq := in_cU32 p2 hC; exact ⟨hC.1, hq.1, hq.2⟩)), trivial⟩, ⟨⟨(by first | omega | decide | exact part1_le (by omega) (by omega) | (simp only [size_bytesOf, List.length_take, List.length_drop, ByteArray.size_append]; omega) | (have hq := in_cU32 p2 hC; exact ⟨hC.1, hq.1, hq.2⟩)), trivial⟩, ⟨⟨trivial, trivial⟩, ⟨⟨trivial, trivial⟩, trivial⟩⟩⟩⟩⟩⟩⟩⟩⟩⟩⟩) ?_
      refine Tri.cond (x := (((bytesI (FwcText p0 p1 p2)).getD k0 0 : Int) == 0)) (by kernel_rfl) (fun h3 => ?_) (fun h3 => ?_)
      ·
        have h3' := eq_true_i h3
        refine Tri.skip ?_
        change Tri _ _ _ _ _ _
        refine Tri.block ?_
        refine Tri.region' [(20, qi ((k0 + 1 : Nat) : Int))] none [4, 3, 0] [64, 0] ((True ∧ True) ∧ ((True ∧ ((iAdd .i64 ((k0 : Nat) : Int) 1) = ((k0 + 1 : Nat) : Int))) ∧ ((True ∧ True) ∧ True)))
            ([(4, .sc (.i .i64 ((k0 + 1 : Nat) : Int))), (3, .sc (.sl 64 0 ((FwcText p0 p1 p2).size) 1 none)), (0, .sc (.p 0 0))], [(64, .ints .u8 ((FwcText p0 p1 p2).size) (bytesI (FwcText p0 p1 p2))), (0, .cells [.ro .u8 p0, .i .i64 (FwcText_1 p0 p1 p2), .b (FwcText_2 p0 p1 p2)])])
            336 (by kernel_rfl) rfl (by kernel_rfl) (⟨⟨trivial, trivial⟩, ⟨⟨trivial, (iAdd_nat (a := k0) (b := 1) (by omega))⟩, ⟨⟨trivial, trivial⟩, trivial⟩⟩⟩) ?_
        repeat (refine blkP_normal ?_)
        refine countP_normal (by omega) (below_succ hJ0 (by subst hz0; simp only [FwcInts0, h1, h3, sel_true, sel_false])) ?_
        exact Sub.ren (ns := [(64, 64), (0, 0)]) (kf := [4, 3, 0]) (by kernel_rfl) (by kernel_rfl)
      ·
        have h3' := eq_false_i h3
        refine Tri.exit ?_
        subst hz0
        have hf0 : fstB (FwcInts0 p0 p1 p2) ((FwcText p0 p1 p2).size) = k0 := fst_found (by omega) hJ0 (by simp only [FwcInts0, h1, h3, sel_true, sel_false])
        have hb0 : Nat.blt k0 ((FwcText p0 p1 p2).size) = true := blt_true (by omega)
        have hq0 : Nat.blt (fstB (FwcInts0 p0 p1 p2) ((FwcText p0 p1 p2).size)) ((FwcText p0 p1 p2).size) = true := by rw [hf0]; exact hb0
        change Tri _ _ _ _ _ _
        refine Tri.seq ?_
        refine Tri.split (decide (((((FwcText p0 p1 p2).size : Nat) : Int) : Int) > 0)) (fun h4 => ?_) (fun h4 => ?_)
        ·
          have h4' := of_decide_eq_true h4
          refine Tri.split (decide (((bytesI (FwcText p0 p1 p2)).getD 0 0 : Int) ≥ 128)) (fun h5 => ?_) (fun h5 => ?_)
          ·
            have h5' := of_decide_eq_true h5
            refine Tri.len 64 rfl (fun hl6 => ?_)
            refine Tri.seq_region [(24, qb true), (30, qb true)] (some [0, 1, 3, 7, 15, 31, 63, 127, 255, 511, 1023, 2047, 4095, 1023, 9215, 28671, 61439, 131071, 262143]) [39, 4, 3, 0] [64, 0] ((True ∧ True) ∧ ((True ∧ True) ∧ ((True ∧ True) ∧ ((True ∧ ((decide (((((FwcText p0 p1 p2).size : Nat) : Int) : Int) > 0)) = true)) ∧ ((True ∧ True) ∧ ((((0 : Int) ≤ 0 ∧ 0 < (((FwcText p0 p1 p2).size : Nat) : Int)) ∧ True) ∧ (((0 < (FwcText p0 p1 p2).size) ∧ True) ∧ ((True ∧ True) ∧ ((True ∧ True) ∧ ((True ∧ ((decide (((bytesI (FwcText p0 p1 p2)).getD 0 0 : Int) ≥ 128)) = true)) ∧ ((True ∧ True) ∧ ((True ∧ True) ∧ ((True ∧ True) ∧ ((True ∧ True) ∧ ((True ∧ True) ∧ ((True ∧ True) ∧ ((True ∧ True) ∧ ((True ∧ True) ∧ ((True ∧ True) ∧ True)))))))))))))))))))
                ([(39, .sc (.b true)), (4, .sc (.i .i64 ((k0 : Nat) : Int))), (3, .sc (.sl 64 0 ((FwcText p0 p1 p2).size) 1 none)), (0, .sc (.p 0 0))], [(64, .ints .u8 ((FwcText p0 p1 p2).size) (bytesI (FwcText p0 p1 p2))), (0, .cells [.ro .u8 p0, .i .i64 (FwcText_1 p0 p1 p2), .b (FwcText_2 p0 p1 p2)])])
                592 (by kernel_rfl) rfl (by kernel_rfl) (⟨⟨trivial, trivial⟩, ⟨⟨trivial, trivial⟩, ⟨⟨trivial, trivial⟩, ⟨⟨trivial, (h4)⟩, ⟨⟨trivial, trivial⟩, ⟨⟨(by first | omega | decide | exact part1_le (by omega) (by omega) | (simp only [size_bytesOf, List.length_take, List.length_drop, ByteArray.size_append]; omega) | (have hq := in_cU32 p2 hC; exact ⟨hC.1, hq.1, hq.2⟩)), trivial⟩, ⟨⟨(by first | omega | decide | exact part1_le (by omega) (by omega) | (simp only [size_bytesOf, List.length_take, List.length_drop, ByteArray.size_append]; omega) | (have hq := in_cU32 p2 hC; exact ⟨hC.1, hq.1, hq.2⟩)), trivial⟩, ⟨⟨trivial, trivial⟩, ⟨⟨trivial, trivial⟩, ⟨⟨trivial, (h5)⟩, ⟨⟨trivial, trivial⟩, ⟨⟨trivial, trivial⟩, ⟨⟨trivial, trivial⟩, ⟨⟨trivial, trivial⟩, ⟨⟨trivial, trivial⟩, ⟨⟨trivial, trivial⟩, ⟨⟨trivial, trivial⟩, ⟨⟨trivial, trivial⟩, ⟨⟨trivial, trivial⟩, trivial⟩⟩⟩⟩⟩⟩⟩⟩⟩⟩⟩⟩⟩⟩⟩⟩⟩⟩⟩) ?_
            refine Tri.cond_true (by kernel_rfl) ?_
            refine Tri.len 64 rfl (fun hl7 => ?_)
            refine Tri.seq_region [] none [] [0] ((True ∧ True) ∧ ((True ∧ True) ∧ ((True ∧ True) ∧ ((((2 < 3) ∧ (1 = 1)) ∧ True) ∧ True))))
                ([], [(0, .cells [.ro .u8 p0, .i .i64 (FwcText_1 p0 p1 p2), .b true])])
                656 (by kernel_rfl) rfl (by kernel_rfl) (⟨⟨trivial, trivial⟩, ⟨⟨trivial, trivial⟩, ⟨⟨trivial, trivial⟩, ⟨⟨⟨(by first | omega | decide | exact part1_le (by omega) (by omega) | (simp only [size_bytesOf, List.length_take, List.length_drop, ByteArray.size_append]; omega) | (have hq := in_cU32 p2 hC; exact ⟨hC.1, hq.1, hq.2⟩)), (rfl)⟩, trivial⟩, trivial⟩⟩⟩⟩) ?_
            refine Tri.seq_region [] none [2] [0] ((True ∧ True) ∧ True)
                ([(2, .sc (.nils))], [(0, .cells [.ro .u8 p0, .i .i64 (FwcText_1 p0 p1 p2), .b true])])
                672 (by kernel_rfl) rfl (by kernel_rfl) (⟨⟨trivial, trivial⟩, trivial⟩) ?_
            refine Tri.sub (Sub.nilRo 2 .u8 (by kernel_rfl)) ?_
            refine Tri.ret ?_
            repeat (first | refine thenP_ret ?_ | refine blkP_ret ?_ | refine countP_ret ?_ | refine joinP_ret ?_ | refine iterP_ret ?_)
            refine endP.conv (r' := ⟨.sc (.ro .u8 ([] : List Int)), [some (.cells [.ro .u8 p0, .i .i64 (FwcText_1 p0 p1 p2), .b true])]⟩) (by simp only [FwcInt, FwcInt_1, FwcInt_2, hq0, hf0, hb0, h4, h5, sel_true, sel_false]) ?_
            exact endP.ret [(0, 0)] (True ∧ True) (by kernel_rfl) (by kernel_rfl) ⟨trivial, trivial⟩
          ·
            have h5' := of_decide_eq_false h5
            refine Tri.len 64 rfl (fun hl8 => ?_)
            refine Tri.seq_region [(24, qb true), (30, qb false)] (some [0, 1, 3, 7, 15, 31, 63, 127, 255, 511, 1023, 2047, 4095, 1023, 9215, 28671, 61439, 131071, 262143]) [39, 4, 3, 0] [64, 0] ((True ∧ True) ∧ ((True ∧ True) ∧ ((True ∧ True) ∧ ((True ∧ ((decide (((((FwcText p0 p1 p2).size : Nat) : Int) : Int) > 0)) = true)) ∧ ((True ∧ True) ∧ ((((0 : Int) ≤ 0 ∧ 0 < (((FwcText p0 p1 p2).size : Nat) : Int)) ∧ True) ∧ (((0 < (FwcText p0 p1 p2).size) ∧ True) ∧ ((True ∧ True) ∧ ((True ∧ True) ∧ ((True ∧ ((decide (((bytesI (FwcText p0 p1 p2)).getD 0 0 : Int) ≥ 128)) = false)) ∧ ((True ∧ True) ∧ (((((0 + ((FwcText p0 p1 p2).size) ≤ (FwcText p0 p1 p2).size) ∧ True) ∧ ((part1 (bytesI (FwcText p0 p1 p2)) ((FwcText p0 p1 p2).size) 0 ((FwcText p0 p1 p2).size)).length ≤ 900000000)) ∧ True) ∧ (((0 + (FwrIntn0 (part1 (bytesI (FwcText p0 p1 p2)) ((FwcText p0 p1 p2).size) 0 ((FwcText p0 p1 p2).size))) ≤ (FwrIntn0 (part1 (bytesI (FwcText p0 p1 p2)) ((FwcText p0 p1 p2).size) 0 ((FwcText p0 p1 p2).size)))) ∧ True) ∧ ((True ∧ True) ∧ (((0 + ((FwcText p0 p1 p2).size) ≤ (FwcText p0 p1 p2).size) ∧ True) ∧ (((True ∧ ((bytesOf (((bytesI (FwcText p0 p1 p2)).drop 0).take ((FwcText p0 p1 p2).size))).size ≤ 1000000000)) ∧ True) ∧ (((0 + (4 + (bytesOf (((bytesI (FwcText p0 p1 p2)).drop 0).take ((FwcText p0 p1 p2).size))).size) ≤ 4 + (bytesOf (((bytesI (FwcText p0 p1 p2)).drop 0).take ((FwcText p0 p1 p2).size))).size) ∧ True) ∧ ((True ∧ True) ∧ ((True ∧ True) ∧ True)))))))))))))))))))
                ([(39, .sc (.b (!(strEq (bytesOf (((FwrInt (part1 (bytesI (FwcText p0 p1 p2)) ((FwcText p0 p1 p2).size) 0 ((FwcText p0 p1 p2).size))).drop 0).take (FwrIntn0 (part1 (bytesI (FwcText p0 p1 p2)) ((FwcText p0 p1 p2).size) 0 ((FwcText p0 p1 p2).size))))) (bytesOf (((FwrText (bytesOf (((bytesI (FwcText p0 p1 p2)).drop 0).take ((FwcText p0 p1 p2).size)))).drop 0).take (4 + (bytesOf (((bytesI (FwcText p0 p1 p2)).drop 0).take ((FwcText p0 p1 p2).size))).size))))))), (4, .sc (.i .i64 ((k0 : Nat) : Int))), (3, .sc (.sl 64 0 ((FwcText p0 p1 p2).size) 1 none)), (0, .sc (.p 0 0))], [(64, .ints .u8 ((FwcText p0 p1 p2).size) (bytesI (FwcText p0 p1 p2))), (0, .cells [.ro .u8 p0, .i .i64 (FwcText_1 p0 p1 p2), .b (FwcText_2 p0 p1 p2)])])
                592 (by kernel_rfl) rfl (by kernel_rfl) (⟨⟨trivial, trivial⟩, ⟨⟨trivial, trivial⟩, ⟨⟨trivial, trivial⟩, ⟨⟨trivial, (h4)⟩, ⟨⟨trivial, trivial⟩, ⟨⟨(by first | omega | decide | exact part1_le (by omega) (by omega) | (simp only [size_bytesOf, List.length_take, List.length_drop, ByteArray.size_append]; omega) | (have hq := in_cU32 p2 hC; exact ⟨hC.1, hq.1, hq.2⟩)), trivial⟩, ⟨⟨(by first | omega | decide | exact part1_le (by omega) (by omega) | (simp only [size_bytesOf, List.length_take, List.length_drop, ByteArray.size_append]; omega) | (have hq := in_cU32 p2 hC; exact ⟨hC.1, hq.1, hq.2⟩)), trivial⟩, ⟨⟨trivial, trivial⟩, ⟨⟨trivial, trivial⟩, ⟨⟨trivial, (h5)⟩, ⟨⟨trivial, trivial⟩, ⟨⟨⟨⟨(by first | omega | decide | exact part1_le (by omega) (by omega) | (simp only [size_bytesOf, List.length_take, List.length_drop, ByteArray.size_append]; omega) | (have hq := in_cU32 p2 hC; exact ⟨hC.1, hq.1, hq.2⟩)), trivial⟩, (by first | omega | decide | exact part1_le (by omega) (by omega) | (simp only [size_bytesOf, List.length_take, List.length_drop, ByteArray.size_append]; omega) | (have hq := in_cU32 p2 hC; exact ⟨hC.1, hq.1, hq.2⟩))⟩, trivial⟩, ⟨⟨(by first | omega | decide | exact part1_le (by omega) (by omega) | (simp only [size_bytesOf, List.length_take, List.length_drop, ByteArray.size_append]; omega) | (have hq := in_cU32 p2 hC; exact ⟨hC.1, hq.1, hq.2⟩)), trivial⟩, ⟨⟨trivial, trivial⟩, ⟨⟨(by first | omega | decide | exact part1_le (by omega) (by omega) | (simp only [size_bytesOf, List.length_take, List.length_drop, ByteArray.size_append]; omega) | (have hq := in_cU32 p2 hC; exact ⟨hC.1, hq.1, hq.2⟩)), trivial⟩, ⟨⟨⟨trivial, (by first | omega | decide | exact part1_le (by omega) (by omega) | (simp only [size_bytesOf, List.length_take, List.length_drop, ByteArray.size_append]; omega) | (have hq := in_cU32 p2 hC; exact ⟨hC.1, hq.1, hq.2⟩))⟩, trivial⟩, ⟨⟨(by first | omega | decide | exact part1_le (by omega) (by omega) | (simp only [size_bytesOf, List.length_take, List.length_drop, ByteArray.size_append]; omega) | (have hq := in_cU32 p2 hC; exact ⟨hC.1, hq.1, hq.2⟩)), trivial⟩, ⟨⟨trivial, trivial⟩, ⟨⟨trivial, trivial⟩, trivial⟩⟩⟩⟩⟩⟩⟩⟩⟩⟩⟩⟩⟩⟩⟩⟩⟩⟩⟩) ?_
            refine Tri.cond (x := (!(strEq (bytesOf (((FwrInt (part1 (bytesI (FwcText p0 p1 p2)) ((FwcText p0 p1 p2).size) 0 ((FwcText p0 p1 p2).size))).drop 0).take (FwrIntn0 (part1 (bytesI (FwcText p0 p1 p2)) ((FwcText p0 p1 p2).size) 0 ((FwcText p0 p1 p2).size))))) (bytesOf (((FwrText (bytesOf (((bytesI (FwcText p0 p1 p2)).drop 0).take ((FwcText p0 p1 p2).size)))).drop 0).take (4 + (bytesOf (((bytesI (FwcText p0 p1 p2)).drop 0).take ((FwcText p0 p1 p2).size))).size)))))) (by kernel_rfl) (fun h9 => ?_) (fun h9 => ?_)
            ·
              refine Tri.len 64 rfl (fun hl10 => ?_)
              refine Tri.seq_region [] none [] [0] ((True ∧ True) ∧ ((True ∧ True) ∧ ((True ∧ True) ∧ ((((2 < 3) ∧ (1 = 1)) ∧ True) ∧ True))))
                  ([], [(0, .cells [.ro .u8 p0, .i .i64 (FwcText_1 p0 p1 p2), .b true])])
                  656 (by kernel_rfl) rfl (by kernel_rfl) (⟨⟨trivial, trivial⟩, ⟨⟨trivial, trivial⟩, ⟨⟨trivial, trivial⟩, ⟨⟨⟨(by first | omega | decide | exact part1_le (by omega) (by omega) | (simp only [size_bytesOf, List.length_take, List.length_drop, ByteArray.size_append]; omega) | (have hq := in_cU32 p2 hC; exact ⟨hC.1, hq.1, hq.2⟩)), (rfl)⟩, trivial⟩, trivial⟩⟩⟩⟩) ?_
              refine Tri.seq_region [] none [2] [0] ((True ∧ True) ∧ True)
                  ([(2, .sc (.nils))], [(0, .cells [.ro .u8 p0, .i .i64 (FwcText_1 p0 p1 p2), .b true])])
                  672 (by kernel_rfl) rfl (by kernel_rfl) (⟨⟨trivial, trivial⟩, trivial⟩) ?_
              refine Tri.sub (Sub.nilRo 2 .u8 (by kernel_rfl)) ?_
              refine Tri.ret ?_
              repeat (first | refine thenP_ret ?_ | refine blkP_ret ?_ | refine countP_ret ?_ | refine joinP_ret ?_ | refine iterP_ret ?_)
              refine endP.conv (r' := ⟨.sc (.ro .u8 ([] : List Int)), [some (.cells [.ro .u8 p0, .i .i64 (FwcText_1 p0 p1 p2), .b true])]⟩) (by simp only [FwcInt, FwcInt_1, FwcInt_2, hq0, hf0, hb0, h4, h5, h9, sel_true, sel_false]) ?_
              exact endP.ret [(0, 0)] (True ∧ True) (by kernel_rfl) (by kernel_rfl) ⟨trivial, trivial⟩
            ·
              refine Tri.skip ?_
              change Tri _ _ _ _ _ _
              refine Tri.len 64 rfl (fun hl11 => ?_)
              refine Tri.seq_region [] none [2] [64, 0] ((True ∧ True) ∧ ((True ∧ True) ∧ ((((0 : Int) ≤ ((k0 : Nat) : Int) ∧ (((k0 : Nat) : Int) : Int) ≤ (((FwcText p0 p1 p2).size : Nat) : Int) ∧ (((FwcText p0 p1 p2).size : Nat) : Int) ≤ (((FwcText p0 p1 p2).size : Nat) : Int)) ∧ True) ∧ ((True ∧ True) ∧ True))))
                  ([(2, .sc (.sl 64 (0 + (k0 * 1)) (((FwcText p0 p1 p2).size) - k0) 1 none))], [(64, .ints .u8 ((FwcText p0 p1 p2).size) (bytesI (FwcText p0 p1 p2))), (0, .cells [.ro .u8 p0, .i .i64 (FwcText_1 p0 p1 p2), .b (FwcText_2 p0 p1 p2)])])
                  656 (by kernel_rfl) rfl (by kernel_rfl) (⟨⟨trivial, trivial⟩, ⟨⟨trivial, trivial⟩, ⟨⟨(by first | omega | decide | exact part1_le (by omega) (by omega) | (simp only [size_bytesOf, List.length_take, List.length_drop, ByteArray.size_append]; omega) | (have hq := in_cU32 p2 hC; exact ⟨hC.1, hq.1, hq.2⟩)), trivial⟩, ⟨⟨trivial, trivial⟩, trivial⟩⟩⟩⟩) ?_
              refine Tri.sub (Sub.still (s' := ([(2, .sc (.ro .u8 (part1 (bytesI (FwcText p0 p1 p2)) ((FwcText p0 p1 p2).size) (0 + (k0 * 1)) (((FwcText p0 p1 p2).size) - k0))))], [(0, .cells [.ro .u8 p0, .i .i64 (FwcText_1 p0 p1 p2), .b (FwcText_2 p0 p1 p2)])])) 64 (.ints .u8 ((FwcText p0 p1 p2).size) (bytesI (FwcText p0 p1 p2))) (by kernel_rfl) (show (0 + (k0 * 1)) + (((FwcText p0 p1 p2).size) - k0) ≤ (FwcText p0 p1 p2).size from by first | omega | (rw [adr_eq]; omega) | exact iAnd_nn _ _ | exact iSub_nn _ _ | exact part1_le (by omega) (by first | omega | (simp only [List.length_append]; omega)) | decide) (by kernel_rfl)) ?_
              refine Tri.ret ?_
              repeat (first | refine thenP_ret ?_ | refine blkP_ret ?_ | refine countP_ret ?_ | refine joinP_ret ?_ | refine iterP_ret ?_)
              refine endP.conv (r' := ⟨.sc (.ro .u8 (part1 (bytesI (FwcText p0 p1 p2)) ((FwcText p0 p1 p2).size) (0 + (k0 * 1)) (((FwcText p0 p1 p2).size) - k0))), [some (.cells [.ro .u8 p0, .i .i64 (FwcText_1 p0 p1 p2), .b (FwcText_2 p0 p1 p2)])]⟩) (by simp only [FwcInt, FwcInt_1, FwcInt_2, hq0, hf0, hb0, h4, h5, h9, sel_true, sel_false]) ?_
              exact endP.ret [(0, 0)] (True ∧ True) (by kernel_rfl) (by kernel_rfl) ⟨trivial, trivial⟩
        ·
          have h4' := of_decide_eq_false h4
          refine Tri.len 64 rfl (fun hl12 => ?_)
          refine Tri.seq_region [(24, qb false)] (some [0, 1, 3, 7, 15, 31, 63, 127, 255, 511, 1023, 2047, 4095, 1023, 9215, 28671, 61439, 131071, 262143]) [39, 4, 3, 0] [64, 0] ((True ∧ True) ∧ ((True ∧ True) ∧ ((True ∧ True) ∧ ((True ∧ ((decide (((((FwcText p0 p1 p2).size : Nat) : Int) : Int) > 0)) = false)) ∧ ((True ∧ True) ∧ ((True ∧ True) ∧ ((True ∧ True) ∧ ((True ∧ True) ∧ ((True ∧ True) ∧ ((True ∧ True) ∧ ((True ∧ True) ∧ (((((0 + ((FwcText p0 p1 p2).size) ≤ (FwcText p0 p1 p2).size) ∧ True) ∧ ((part1 (bytesI (FwcText p0 p1 p2)) ((FwcText p0 p1 p2).size) 0 ((FwcText p0 p1 p2).size)).length ≤ 900000000)) ∧ True) ∧ (((0 + (FwrIntn0 (part1 (bytesI (FwcText p0 p1 p2)) ((FwcText p0 p1 p2).size) 0 ((FwcText p0 p1 p2).size))) ≤ (FwrIntn0 (part1 (bytesI (FwcText p0 p1 p2)) ((FwcText p0 p1 p2).size) 0 ((FwcText p0 p1 p2).size)))) ∧ True) ∧ ((True ∧ True) ∧ (((0 + ((FwcText p0 p1 p2).size) ≤ (FwcText p0 p1 p2).size) ∧ True) ∧ (((True ∧ ((bytesOf (((bytesI (FwcText p0 p1 p2)).drop 0).take ((FwcText p0 p1 p2).size))).size ≤ 1000000000)) ∧ True) ∧ (((0 + (4 + (bytesOf (((bytesI (FwcText p0 p1 p2)).drop 0).take ((FwcText p0 p1 p2).size))).size) ≤ 4 + (bytesOf (((bytesI (FwcText p0 p1 p2)).drop 0).take ((FwcText p0 p1 p2).size))).size) ∧ True) ∧ ((True ∧ True) ∧ ((True ∧ True) ∧ True)))))))))))))))))))
              ([(39, .sc (.b (!(strEq (bytesOf (((FwrInt (part1 (bytesI (FwcText p0 p1 p2)) ((FwcText p0 p1 p2).size) 0 ((FwcText p0 p1 p2).size))).drop 0).take (FwrIntn0 (part1 (bytesI (FwcText p0 p1 p2)) ((FwcText p0 p1 p2).size) 0 ((FwcText p0 p1 p2).size))))) (bytesOf (((FwrText (bytesOf (((bytesI (FwcText p0 p1 p2)).drop 0).take ((FwcText p0 p1 p2).size)))).drop 0).take (4 + (bytesOf (((bytesI (FwcText p0 p1 p2)).drop 0).take ((FwcText p0 p1 p2).size))).size))))))), (4, .sc (.i .i64 ((k0 : Nat) : Int))), (3, .sc (.sl 64 0 ((FwcText p0 p1 p2).size) 1 none)), (0, .sc (.p 0 0))], [(64, .ints .u8 ((FwcText p0 p1 p2).size) (bytesI (FwcText p0 p1 p2))), (0, .cells [.ro .u8 p0, .i .i64 (FwcText_1 p0 p1 p2), .b (FwcText_2 p0 p1 p2)])])
              592 (by kernel_rfl) rfl (by kernel_rfl) (⟨⟨trivial, trivial⟩, ⟨⟨trivial, trivial⟩, ⟨⟨trivial, trivial⟩, ⟨⟨trivial, (h4)⟩, ⟨⟨trivial, trivial⟩, ⟨⟨trivial, trivial⟩, ⟨⟨trivial, trivial⟩, ⟨⟨trivial, trivial⟩, ⟨⟨trivial, trivial⟩, ⟨⟨trivial, trivial⟩, ⟨⟨trivial, trivial⟩, ⟨⟨⟨⟨(by first | omega | decide | exact part1_le (by omega) (by omega) | (simp only [size_bytesOf, List.length_take, List.length_drop, ByteArray.size_append]; omega) | (have hq := in_cU32 p2 hC; exact ⟨hC.1, hq.1, hq.2⟩)), trivial⟩, (by first | omega | decide | exact part1_le (by omega) (by omega) | (simp only [size_bytesOf, List.length_take, List.length_drop, ByteArray.size_append]; omega) | (have hq := in_cU32 p2 hC; exact ⟨hC.1, hq.1, hq.2⟩))⟩, trivial⟩, ⟨⟨(by first | omega | decide | exact part1_le (by omega) (by omega) | (simp only [size_bytesOf, List.length_take, List.length_drop, ByteArray.size_append]; omega) | (have hq := in_cU32 p2 hC; exact ⟨hC.1, hq.1, hq.2⟩)), trivial⟩, ⟨⟨trivial, trivial⟩, ⟨⟨(by first | omega | decide | exact part1_le (by omega) (by omega) | (simp only [size_bytesOf, List.length_take, List.length_drop, ByteArray.size_append]; omega) | (have hq := in_cU32 p2 hC; exact ⟨hC.1, hq.1, hq.2⟩)), trivial⟩, ⟨⟨⟨trivial, (by first | omega | decide | exact part1_le (by omega) (by omega) | (simp only [size_bytesOf, List.length_take, List.length_drop, ByteArray.size_append]; omega) | (have hq := in_cU32 p2 hC; exact ⟨hC.1, hq.1, hq.2⟩))⟩, trivial⟩, ⟨⟨(by first | omega | decide | exact part1_le (by omega) (by omega) | (simp only [size_bytesOf, List.length_take, List.length_drop, ByteArray.size_append]; omega) | (have hq := in_cU32 p2 hC; exact ⟨hC.1, hq.1, hq.2⟩)), trivial⟩, ⟨⟨trivial, trivial⟩, ⟨⟨trivial, trivial⟩, trivial⟩⟩⟩⟩⟩⟩⟩⟩⟩⟩⟩⟩⟩⟩⟩⟩⟩⟩⟩) ?_
          refine Tri.cond (x := (!(strEq (bytesOf (((FwrInt (part1 (bytesI (FwcText p0 p1 p2)) ((FwcText p0 p1 p2).size) 0 ((FwcText p0 p1 p2).size))).drop 0).take (FwrIntn0 (part1 (bytesI (FwcText p0 p1 p2)) ((FwcText p0 p1 p2).size) 0 ((FwcText p0 p1 p2).size))))) (bytesOf (((FwrText (bytesOf (((bytesI (FwcText p0 p1 p2)).drop 0).take ((FwcText p0 p1 p2).size)))).drop 0).take (4 + (bytesOf (((bytesI (FwcText p0 p1 p2)).drop 0).take ((FwcText p0 p1 p2).size))).size)))))) (by kernel_rfl) (fun h13 => ?_) (fun h13 => ?_)
          ·
            refine Tri.len 64 rfl (fun hl14 => ?_)
            refine Tri.seq_region [] none [] [0] ((True ∧ True) ∧ ((True ∧ True) ∧ ((True ∧ True) ∧ ((((2 < 3) ∧ (1 = 1)) ∧ True) ∧ True))))
                ([], [(0, .cells [.ro .u8 p0, .i .i64 (FwcText_1 p0 p1 p2), .b true])])
                656 (by kernel_rfl) rfl (by kernel_rfl) (⟨⟨trivial, trivial⟩, ⟨⟨trivial, trivial⟩, ⟨⟨trivial, trivial⟩, ⟨⟨⟨(by first | omega | decide | exact part1_le (by omega) (by omega) | (simp only [size_bytesOf, List.length_take, List.length_drop, ByteArray.size_append]; omega) | (have hq := in_cU32 p2 hC; exact ⟨hC.1, hq.1, hq.2⟩)), (rfl)⟩, trivial⟩, trivial⟩⟩⟩⟩) ?_
            refine Tri.seq_region [] none [2] [0] ((True ∧ True) ∧ True)
                ([(2, .sc (.nils))], [(0, .cells [.ro .u8 p0, .i .i64 (FwcText_1 p0 p1 p2), .b true])])
                672 (by kernel_rfl) rfl (by kernel_rfl) (⟨⟨trivial, trivial⟩, trivial⟩) ?_
            refine Tri.sub (Sub.nilRo 2 .u8 (by kernel_rfl)) ?_
            refine Tri.ret ?_
            repeat (first | refine thenP_ret ?_ | refine blkP_ret ?_ | refine countP_ret ?_ | refine joinP_ret ?_ | refine iterP_ret ?_)
            refine endP.conv (r' := ⟨.sc (.ro .u8 ([] : List Int)), [some (.cells [.ro .u8 p0, .i .i64 (FwcText_1 p0 p1 p2), .b true])]⟩) (by simp only [FwcInt, FwcInt_1, FwcInt_2, hq0, hf0, hb0, h4, h13, sel_true, sel_false]) ?_
            exact endP.ret [(0, 0)] (True ∧ True) (by kernel_rfl) (by kernel_rfl) ⟨trivial, trivial⟩
          ·
            refine Tri.skip ?_
            change Tri _ _ _ _ _ _
            refine Tri.len 64 rfl (fun hl15 => ?_)
            refine Tri.seq_region [] none [2] [64, 0] ((True ∧ True) ∧ ((True ∧ True) ∧ ((((0 : Int) ≤ ((k0 : Nat) : Int) ∧ (((k0 : Nat) : Int) : Int) ≤ (((FwcText p0 p1 p2).size : Nat) : Int) ∧ (((FwcText p0 p1 p2).size : Nat) : Int) ≤ (((FwcText p0 p1 p2).size : Nat) : Int)) ∧ True) ∧ ((True ∧ True) ∧ True))))
                ([(2, .sc (.sl 64 (0 + (k0 * 1)) (((FwcText p0 p1 p2).size) - k0) 1 none))], [(64, .ints .u8 ((FwcText p0 p1 p2).size) (bytesI (FwcText p0 p1 p2))), (0, .cells [.ro .u8 p0, .i .i64 (FwcText_1 p0 p1 p2), .b (FwcText_2 p0 p1 p2)])])
                656 (by kernel_rfl) rfl (by kernel_rfl) (⟨⟨trivial, trivial⟩, ⟨⟨trivial, trivial⟩, ⟨⟨(by first | omega | decide | exact part1_le (by omega) (by omega) | (simp only [size_bytesOf, List.length_take, List.length_drop, ByteArray.size_append]; omega) | (have hq := in_cU32 p2 hC; exact ⟨hC.1, hq.1, hq.2⟩)), trivial⟩, ⟨⟨trivial, trivial⟩, trivial⟩⟩⟩⟩) ?_
            refine Tri.sub (Sub.still (s' := ([(2, .sc (.ro .u8 (part1 (bytesI (FwcText p0 p1 p2)) ((FwcText p0 p1 p2).size) (0 + (k0 * 1)) (((FwcText p0 p1 p2).size) - k0))))], [(0, .cells [.ro .u8 p0, .i .i64 (FwcText_1 p0 p1 p2), .b (FwcText_2 p0 p1 p2)])])) 64 (.ints .u8 ((FwcText p0 p1 p2).size) (bytesI (FwcText p0 p1 p2))) (by kernel_rfl) (show (0 + (k0 * 1)) + (((FwcText p0 p1 p2).size) - k0) ≤ (FwcText p0 p1 p2).size from by first | omega | (rw [adr_eq]; omega) | exact iAnd_nn _ _ | exact iSub_nn _ _ | exact part1_le (by omega) (by first | omega | (simp only [List.length_append]; omega)) | decide) (by kernel_rfl)) ?_
            refine Tri.ret ?_
            repeat (first | refine thenP_ret ?_ | refine blkP_ret ?_ | refine countP_ret ?_ | refine joinP_ret ?_ | refine iterP_ret ?_)
            refine endP.conv (r' := ⟨.sc (.ro .u8 (part1 (bytesI (FwcText p0 p1 p2)) ((FwcText p0 p1 p2).size) (0 + (k0 * 1)) (((FwcText p0 p1 p2).size) - k0))), [some (.cells [.ro .u8 p0, .i .i64 (FwcText_1 p0 p1 p2), .b (FwcText_2 p0 p1 p2)])]⟩) (by simp only [FwcInt, FwcInt_1, FwcInt_2, hq0, hf0, hb0, h4, h13, sel_true, sel_false]) ?_
            exact endP.ret [(0, 0)] (True ∧ True) (by kernel_rfl) (by kernel_rfl) ⟨trivial, trivial⟩
    ·
      have h1' := of_decide_eq_false h1
      refine Tri.seq_region [(12, qb false)] none [18, 4, 3, 0] [64, 0] ((True ∧ True) ∧ ((True ∧ True) ∧ ((True ∧ True) ∧ ((True ∧ True) ∧ ((True ∧ ((decide ((((k0 : Nat) : Int) : Int) < (((FwcText p0 p1 p2).size : Nat) : Int))) = false)) ∧ ((True ∧ True) ∧ ((True ∧ True) ∧ ((True ∧ True) ∧ ((True ∧ True) ∧ ((True ∧ True) ∧ ((True ∧ True) ∧ True)))))))))))
          ([(18, .sc (.b false)), (4, .sc (.i .i64 ((k0 : Nat) : Int))), (3, .sc (.sl 64 0 ((FwcText p0 p1 p2).size) 1 none)), (0, .sc (.p 0 0))], [(64, .ints .u8 ((FwcText p0 p1 p2).size) (bytesI (FwcText p0 p1 p2))), (0, .cells [.ro .u8 p0, .i .i64 (FwcText_1 p0 p1 p2), .b (FwcText_2 p0 p1 p2)])])
          288 (by kernel_rfl) rfl (by kernel_rfl) (⟨⟨trivial, trivial⟩, ⟨⟨trivial, trivial⟩, ⟨⟨trivial, trivial⟩, ⟨⟨trivial, trivial⟩, ⟨⟨trivial, (h1)⟩, ⟨⟨trivial, trivial⟩, ⟨⟨trivial, trivial⟩, ⟨⟨trivial, trivial⟩, ⟨⟨trivial, trivial⟩, ⟨⟨trivial, trivial⟩, ⟨⟨trivial, trivial⟩, trivial⟩⟩⟩⟩⟩⟩⟩⟩⟩⟩⟩) ?_
      refine Tri.cond_false (by kernel_rfl) ?_
      refine Tri.exit ?_
      have hend0 : k0 = ((FwcText p0 p1 p2).size) := by (have := of_decide_eq_false h1; omega)
      subst hend0; subst hz0
      have hf0 : fstB (FwcInts0 p0 p1 p2) ((FwcText p0 p1 p2).size) = ((FwcText p0 p1 p2).size) := fst_none hJ0
      have hb0 : Nat.blt ((FwcText p0 p1 p2).size) ((FwcText p0 p1 p2).size) = false := blt_self _
      have hq0 : Nat.blt (fstB (FwcInts0 p0 p1 p2) ((FwcText p0 p1 p2).size)) ((FwcText p0 p1 p2).size) = false := by rw [hf0]; exact hb0
      change Tri _ _ _ _ _ _
      refine Tri.seq ?_
      refine Tri.split (decide (((((FwcText p0 p1 p2).size : Nat) : Int) : Int) > 0)) (fun h16 => ?_) (fun h16 => ?_)
      ·
        have h16' := of_decide_eq_true h16
        refine Tri.split (decide (((bytesI (FwcText p0 p1 p2)).getD 0 0 : Int) ≥ 128)) (fun h17 => ?_) (fun h17 => ?_)
        ·
          have h17' := of_decide_eq_true h17
          refine Tri.len 64 rfl (fun hl18 => ?_)
          refine Tri.seq_region [(24, qb true), (30, qb true)] (some [0, 1, 3, 7, 15, 31, 63, 127, 255, 511, 1023, 2047, 4095, 1023, 9215, 28671, 61439, 131071, 262143]) [39, 4, 3, 0] [64, 0] ((True ∧ True) ∧ ((True ∧ True) ∧ ((True ∧ True) ∧ ((True ∧ ((decide (((((FwcText p0 p1 p2).size : Nat) : Int) : Int) > 0)) = true)) ∧ ((True ∧ True) ∧ ((((0 : Int) ≤ 0 ∧ 0 < (((FwcText p0 p1 p2).size : Nat) : Int)) ∧ True) ∧ (((0 < (FwcText p0 p1 p2).size) ∧ True) ∧ ((True ∧ True) ∧ ((True ∧ True) ∧ ((True ∧ ((decide (((bytesI (FwcText p0 p1 p2)).getD 0 0 : Int) ≥ 128)) = true)) ∧ ((True ∧ True) ∧ ((True ∧ True) ∧ ((True ∧ True) ∧ ((True ∧ True) ∧ ((True ∧ True) ∧ ((True ∧ True) ∧ ((True ∧ True) ∧ ((True ∧ True) ∧ ((True ∧ True) ∧ True)))))))))))))))))))
              ([(39, .sc (.b true)), (4, .sc (.i .i64 ((((FwcText p0 p1 p2).size) : Nat) : Int))), (3, .sc (.sl 64 0 ((FwcText p0 p1 p2).size) 1 none)), (0, .sc (.p 0 0))], [(64, .ints .u8 ((FwcText p0 p1 p2).size) (bytesI (FwcText p0 p1 p2))), (0, .cells [.ro .u8 p0, .i .i64 (FwcText_1 p0 p1 p2), .b (FwcText_2 p0 p1 p2)])])
              592 (by kernel_rfl) rfl (by kernel_rfl) (⟨⟨trivial, trivial⟩, ⟨⟨trivial, trivial⟩, ⟨⟨trivial, trivial⟩, ⟨⟨trivial, (h16)⟩, ⟨⟨trivial, trivial⟩, ⟨⟨(by first | omega | decide | exact part1_le (by omega) (by omega) | (simp only [size_bytesOf, List.length_take, List.length_drop, ByteArray.size_append]; omega) | (have hq := in_cU32 p2 hC; exact ⟨hC.1, hq.1, hq.2⟩)), trivial⟩, ⟨⟨(by first | omega | decide | exact part1_le (by omega) (by omega) | (simp only [size_bytesOf, List.length_take, List.length_drop, ByteArray.size_append]; omega) | (have hq := in_cU32 p2 hC; exact ⟨hC.1, hq.1, hq.2⟩)), trivial⟩, ⟨⟨trivial, trivial⟩, ⟨⟨trivial, trivial⟩, ⟨⟨trivial, (h17)⟩, ⟨⟨trivial, trivial⟩, ⟨⟨trivial, trivial⟩, ⟨⟨trivial, trivial⟩, ⟨⟨trivial, trivial⟩, ⟨⟨trivial, trivial⟩, ⟨⟨trivial, trivial⟩, ⟨⟨trivial, trivial⟩, ⟨⟨trivial, trivial⟩, ⟨⟨trivial, trivial⟩, trivial⟩⟩⟩⟩⟩⟩⟩⟩⟩⟩⟩⟩⟩⟩⟩⟩⟩⟩⟩) ?_
          refine Tri.cond_true (by kernel_rfl) ?_
          refine Tri.len 64 rfl (fun hl19 => ?_)
          refine Tri.seq_region [] none [] [0] ((True ∧ True) ∧ ((True ∧ True) ∧ ((True ∧ True) ∧ ((((2 < 3) ∧ (1 = 1)) ∧ True) ∧ True))))
              ([], [(0, .cells [.ro .u8 p0, .i .i64 (FwcText_1 p0 p1 p2), .b true])])
              656 (by kernel_rfl) rfl (by kernel_rfl) (⟨⟨trivial, trivial⟩, ⟨⟨trivial, trivial⟩, ⟨⟨trivial, trivial⟩, ⟨⟨⟨(by first | omega | decide | exact part1_le (by omega) (by omega) | (simp only [size_bytesOf, List.length_take, List.length_drop, ByteArray.size_append]; omega) | (have hq := in_cU32 p2 hC; exact ⟨hC.1, hq.1, hq.2⟩)), (rfl)⟩, trivial⟩, trivial⟩⟩⟩⟩) ?_
          refine Tri.seq_region [] none [2] [0] ((True ∧ True) ∧ True)
              ([(2, .sc (.nils))], [(0, .cells [.ro .u8 p0, .i .i64 (FwcText_1 p0 p1 p2), .b true])])
              672 (by kernel_rfl) rfl (by kernel_rfl) (⟨⟨trivial, trivial⟩, trivial⟩) ?_
          refine Tri.sub (Sub.nilRo 2 .u8 (by kernel_rfl)) ?_
          refine Tri.ret ?_
          repeat (first | refine thenP_ret ?_ | refine blkP_ret ?_ | refine countP_ret ?_ | refine joinP_ret ?_ | refine iterP_ret ?_)
          refine endP.conv (r' := ⟨.sc (.ro .u8 ([] : List Int)), [some (.cells [.ro .u8 p0, .i .i64 (FwcText_1 p0 p1 p2), .b true])]⟩) (by simp only [FwcInt, FwcInt_1, FwcInt_2, hq0, hf0, hb0, h16, h17, sel_true, sel_false]) ?_
          exact endP.ret [(0, 0)] (True ∧ True) (by kernel_rfl) (by kernel_rfl) ⟨trivial, trivial⟩
        ·
          have h17' := of_decide_eq_false h17
          refine Tri.len 64 rfl (fun hl20 => ?_)
          refine Tri.seq_region [(24, qb true), (30, qb false)] (some [0, 1, 3, 7, 15, 31, 63, 127, 255, 511, 1023, 2047, 4095, 1023, 9215, 28671, 61439, 131071, 262143]) [39, 4, 3, 0] [64, 0] ((True ∧ True) ∧ ((True ∧ True) ∧ ((True ∧ True) ∧ ((True ∧ ((decide (((((FwcText p0 p1 p2).size : Nat) : Int) : Int) > 0)) = true)) ∧ ((True ∧ True) ∧ ((((0 : Int) ≤ 0 ∧ 0 < (((FwcText p0 p1 p2).size : Nat) : Int)) ∧ True) ∧ (((0 < (FwcText p0 p1 p2).size) ∧ True) ∧ ((True ∧ True) ∧ ((True ∧ True) ∧ ((True ∧ ((decide (((bytesI (FwcText p0 p1 p2)).getD 0 0 : Int) ≥ 128)) = false)) ∧ ((True ∧ True) ∧ (((((0 + ((FwcText p0 p1 p2).size) ≤ (FwcText p0 p1 p2).size) ∧ True) ∧ ((part1 (bytesI (FwcText p0 p1 p2)) ((FwcText p0 p1 p2).size) 0 ((FwcText p0 p1 p2).size)).length ≤ 900000000)) ∧ True) ∧ (((0 + (FwrIntn0 (part1 (bytesI (FwcText p0 p1 p2)) ((FwcText p0 p1 p2).size) 0 ((FwcText p0 p1 p2).size))) ≤ (FwrIntn0 (part1 (bytesI (FwcText p0 p1 p2)) ((FwcText p0 p1 p2).size) 0 ((FwcText p0 p1 p2).size)))) ∧ True) ∧ ((True ∧ True) ∧ (((0 + ((FwcText p0 p1 p2).size) ≤ (FwcText p0 p1 p2).size) ∧ True) ∧ (((True ∧ ((bytesOf (((bytesI (FwcText p0 p1 p2)).drop 0).take ((FwcText p0 p1 p2).size))).size ≤ 1000000000)) ∧ True) ∧ (((0 + (4 + (bytesOf (((bytesI (FwcText p0 p1 p2)).drop 0).take ((FwcText p0 p1 p2).size))).size) ≤ 4 + (bytesOf (((bytesI (FwcText p0 p1 p2)).drop 0).take ((FwcText p0 p1 p2).size))).size) ∧ True) ∧ ((True ∧ True) ∧ ((True ∧ True) ∧ True)))))))))))))))))))
              ([(39, .sc (.b (!(strEq (bytesOf (((FwrInt (part1 (bytesI (FwcText p0 p1 p2)) ((FwcText p0 p1 p2).size) 0 ((FwcText p0 p1 p2).size))).drop 0).take (FwrIntn0 (part1 (bytesI (FwcText p0 p1 p2)) ((FwcText p0 p1 p2).size) 0 ((FwcText p0 p1 p2).size))))) (bytesOf (((FwrText (bytesOf (((bytesI (FwcText p0 p1 p2)).drop 0).take ((FwcText p0 p1 p2).size)))).drop 0).take (4 + (bytesOf (((bytesI (FwcText p0 p1 p2)).drop 0).take ((FwcText p0 p1 p2).size))).size))))))), (4, .sc (.i .i64 ((((FwcText p0 p1 p2).size) : Nat) : Int))), (3, .sc (.sl 64 0 ((FwcText p0 p1 p2).size) 1 none)), (0, .sc (.p 0 0))], [(64, .ints .u8 ((FwcText p0 p1 p2).size) (bytesI (FwcText p0 p1 p2))), (0, .cells [.ro .u8 p0, .i .i64 (FwcText_1 p0 p1 p2), .b (FwcText_2 p0 p1 p2)])])
              592 (by kernel_rfl) rfl (by kernel_rfl) (⟨⟨trivial, trivial⟩, ⟨⟨trivial, trivial⟩, ⟨⟨trivial, trivial⟩, ⟨⟨trivial, (h16)⟩, ⟨⟨trivial, trivial⟩, ⟨⟨(by first | omega | decide | exact part1_le (by omega) (by omega) | (simp only [size_bytesOf, List.length_take, List.length_drop, ByteArray.size_append]; omega) | (have hq := in_cU32 p2 hC; exact ⟨hC.1, hq.1, hq.2⟩)), trivial⟩, ⟨⟨(by first | omega | decide | exact part1_le (by omega) (by omega) | (simp only [size_bytesOf, List.length_take, List.length_drop, ByteArray.size_append]; omega) | (have hq := in_cU32 p2 hC; exact ⟨hC.1, hq.1, hq.2⟩)), trivial⟩, ⟨⟨trivial, trivial⟩, ⟨⟨trivial, trivial⟩, ⟨⟨trivial, (h17)⟩, ⟨⟨trivial, trivial⟩, ⟨⟨⟨⟨(by first | omega | decide | exact part1_le (by omega) (by omega) | (simp only [size_bytesOf, List.length_take, List.length_drop, ByteArray.size_append]; omega) | (have hq := in_cU32 p2 hC; exact ⟨hC.1, hq.1, hq.2⟩)), trivial⟩, (by first | omega | decide | exact part1_le (by omega) (by omega) | (simp only [size_bytesOf, List.length_take, List.length_drop, ByteArray.size_append]; omega) | (have hq := in_cU32 p2 hC; exact ⟨hC.1, hq.1, hq.2⟩))⟩, trivial⟩, ⟨⟨(by first | omega | decide | exact part1_le (by omega) (by omega) | (simp only [size_bytesOf, List.length_take, List.length_drop, ByteArray.size_append]; omega) | (have hq := in_cU32 p2 hC; exact ⟨hC.1, hq.1, hq.2⟩)), trivial⟩, ⟨⟨trivial, trivial⟩, ⟨⟨(by first | omega | decide | exact part1_le (by omega) (by omega) | (simp only [size_bytesOf, List.length_take, List.length_drop, ByteArray.size_append]; omega) | (have hq := in_cU32 p2 hC; exact ⟨hC.1, hq.1, hq.2⟩)), trivial⟩, ⟨⟨⟨trivial, (by first | omega | decide | exact part1_le (by omega) (by omega) | (simp only [size_bytesOf, List.length_take, List.length_drop, ByteArray.size_append]; omega) | (have hq := in_cU32 p2 hC; exact ⟨hC.1, hq.1, hq.2⟩))⟩, trivial⟩, ⟨⟨(by first | omega | decide | exact part1_le (by omega) (by omega) | (simp only [size_bytesOf, List.length_take, List.length_drop, ByteArray.size_append]; omega) | (have hq := in_cU32 p2 hC; exact ⟨hC.1, hq.1, hq.2⟩)), trivial⟩, ⟨⟨trivial, trivial⟩, ⟨⟨trivial, trivial⟩, trivial⟩⟩⟩⟩⟩⟩⟩⟩⟩⟩⟩⟩⟩⟩⟩⟩⟩⟩⟩) ?_
          refine Tri.cond (x := (!(strEq (bytesOf (((FwrInt (part1 (bytesI (FwcText p0 p1 p2)) ((FwcText p0 p1 p2).size) 0 ((FwcText p0 p1 p2).size))).drop 0).take (FwrIntn0 (part1 (bytesI (FwcText p0 p1 p2)) ((FwcText p0 p1 p2).size) 0 ((FwcText p0 p1 p2).size))))) (bytesOf (((FwrText (bytesOf (((bytesI (FwcText p0 p1 p2)).drop 0).take ((FwcText p0 p1 p2).size)))).drop 0).take (4 + (bytesOf (((bytesI (FwcText p0 p1 p2)).drop 0).take ((FwcText p0 p1 p2).size))).size)))))) (by kernel_rfl) (fun h21 => ?_) (fun h21 => ?_)
          ·
            refine Tri.len 64 rfl (fun hl22 => ?_)
            refine Tri.seq_region [] none [] [0] ((True ∧ True) ∧ ((True ∧ True) ∧ ((True ∧ True) ∧ ((((2 < 3) ∧ (1 = 1)) ∧ True) ∧ True))))
                ([], [(0, .cells [.ro .u8 p0, .i .i64 (FwcText_1 p0 p1 p2), .b true])])
                656 (by kernel_rfl) rfl (by kernel_rfl) (⟨⟨trivial, trivial⟩, ⟨⟨trivial, trivial⟩, ⟨⟨trivial, trivial⟩, ⟨⟨⟨(by first | omega | decide | exact part1_le (by omega) (by omega) | (simp only [size_bytesOf, List.length_take, List.length_drop, ByteArray.size_append]; omega) | (have hq := in_cU32 p2 hC; exact ⟨hC.1, hq.1, hq.2⟩)), (rfl)⟩, trivial⟩, trivial⟩⟩⟩⟩) ?_
            refine Tri.seq_region [] none [2] [0] ((True ∧ True) ∧ True)
                ([(2, .sc (.nils))], [(0, .cells [.ro .u8 p0, .i .i64 (FwcText_1 p0 p1 p2), .b true])])
                672 (by kernel_rfl) rfl (by kernel_rfl) (⟨⟨trivial, trivial⟩, trivial⟩) ?_
            refine Tri.sub (Sub.nilRo 2 .u8 (by kernel_rfl)) ?_
            refine Tri.ret ?_
            repeat (first | refine thenP_ret ?_ | refine blkP_ret ?_ | refine countP_ret ?_ | refine joinP_ret ?_ | refine iterP_ret ?_)
            refine endP.conv (r' := ⟨.sc (.ro .u8 ([] : List Int)), [some (.cells [.ro .u8 p0, .i .i64 (FwcText_1 p0 p1 p2), .b true])]⟩) (by simp only [FwcInt, FwcInt_1, FwcInt_2, hq0, hf0, hb0, h16, h17, h21, sel_true, sel_false]) ?_
            exact endP.ret [(0, 0)] (True ∧ True) (by kernel_rfl) (by kernel_rfl) ⟨trivial, trivial⟩
          ·
            refine Tri.skip ?_
            change Tri _ _ _ _ _ _
            refine Tri.len 64 rfl (fun hl23 => ?_)
            refine Tri.seq_region [] none [2] [64, 0] ((True ∧ True) ∧ ((True ∧ True) ∧ ((((0 : Int) ≤ ((((FwcText p0 p1 p2).size) : Nat) : Int) ∧ (((((FwcText p0 p1 p2).size) : Nat) : Int) : Int) ≤ (((FwcText p0 p1 p2).size : Nat) : Int) ∧ (((FwcText p0 p1 p2).size : Nat) : Int) ≤ (((FwcText p0 p1 p2).size : Nat) : Int)) ∧ True) ∧ ((True ∧ True) ∧ True))))
                ([(2, .sc (.sl 64 (0 + (((FwcText p0 p1 p2).size) * 1)) (((FwcText p0 p1 p2).size) - ((FwcText p0 p1 p2).size)) 1 none))], [(64, .ints .u8 ((FwcText p0 p1 p2).size) (bytesI (FwcText p0 p1 p2))), (0, .cells [.ro .u8 p0, .i .i64 (FwcText_1 p0 p1 p2), .b (FwcText_2 p0 p1 p2)])])
                656 (by kernel_rfl) rfl (by kernel_rfl) (⟨⟨trivial, trivial⟩, ⟨⟨trivial, trivial⟩, ⟨⟨(by first | omega | decide | exact part1_le (by omega) (by omega) | (simp only [size_bytesOf, List.length_take, List.length_drop, ByteArray.size_append]; omega) | (have hq := in_cU32 p2 hC; exact ⟨hC.1, hq.1, hq.2⟩)), trivial⟩, ⟨⟨trivial, trivial⟩, trivial⟩⟩⟩⟩) ?_
            refine Tri.sub (Sub.still (s' := ([(2, .sc (.ro .u8 (part1 (bytesI (FwcText p0 p1 p2)) ((FwcText p0 p1 p2).size) (0 + (((FwcText p0 p1 p2).size) * 1)) (((FwcText p0 p1 p2).size) - ((FwcText p0 p1 p2).size)))))], [(0, .cells [.ro .u8 p0, .i .i64 (FwcText_1 p0 p1 p2), .b (FwcText_2 p0 p1 p2)])])) 64 (.ints .u8 ((FwcText p0 p1 p2).size) (bytesI (FwcText p0 p1 p2))) (by kernel_rfl) (show (0 + (((FwcText p0 p1 p2).size) * 1)) + (((FwcText p0 p1 p2).size) - ((FwcText p0 p1 p2).size)) ≤ (FwcText p0 p1 p2).size from by first | omega | (rw [adr_eq]; omega) | exact iAnd_nn _ _ | exact iSub_nn _ _ | exact part1_le (by omega) (by first | omega | (simp only [List.length_append]; omega)) | decide) (by kernel_rfl)) ?_
            refine Tri.ret ?_
            repeat (first | refine thenP_ret ?_ | refine blkP_ret ?_ | refine countP_ret ?_ | refine joinP_ret ?_ | refine iterP_ret ?_)
            refine endP.conv (r' := ⟨.sc (.ro .u8 (part1 (bytesI (FwcText p0 p1 p2)) ((FwcText p0 p1 p2).size) (0 + (((FwcText p0 p1 p2).size) * 1)) (((FwcText p0 p1 p2).size) - ((FwcText p0 p1 p2).size)))), [some (.cells [.ro .u8 p0, .i .i64 (FwcText_1 p0 p1 p2), .b (FwcText_2 p0 p1 p2)])]⟩) (by simp only [FwcInt, FwcInt_1, FwcInt_2, hq0, hf0, hb0, h16, h17, h21, sel_true, sel_false]) ?_
            exact endP.ret [(0, 0)] (True ∧ True) (by kernel_rfl) (by kernel_rfl) ⟨trivial, trivial⟩
      ·
        have h16' := of_decide_eq_false h16
        refine Tri.len 64 rfl (fun hl24 => ?_)
        refine Tri.seq_region [(24, qb false)] (some [0, 1, 3, 7, 15, 31, 63, 127, 255, 511, 1023, 2047, 4095, 1023, 9215, 28671, 61439, 131071, 262143]) [39, 4, 3, 0] [64, 0] ((True ∧ True) ∧ ((True ∧ True) ∧ ((True ∧ True) ∧ ((True ∧ ((decide (((((FwcText p0 p1 p2).size : Nat) : Int) : Int) > 0)) = false)) ∧ ((True ∧ True) ∧ ((True ∧ True) ∧ ((True ∧ True) ∧ ((True ∧ True) ∧ ((True ∧ True) ∧ ((True ∧ True) ∧ ((True ∧ True) ∧ (((((0 + ((FwcText p0 p1 p2).size) ≤ (FwcText p0 p1 p2).size) ∧ True) ∧ ((part1 (bytesI (FwcText p0 p1 p2)) ((FwcText p0 p1 p2).size) 0 ((FwcText p0 p1 p2).size)).length ≤ 900000000)) ∧ True) ∧ (((0 + (FwrIntn0 (part1 (bytesI (FwcText p0 p1 p2)) ((FwcText p0 p1 p2).size) 0 ((FwcText p0 p1 p2).size))) ≤ (FwrIntn0 (part1 (bytesI (FwcText p0 p1 p2)) ((FwcText p0 p1 p2).size) 0 ((FwcText p0 p1 p2).size)))) ∧ True) ∧ ((True ∧ True) ∧ (((0 + ((FwcText p0 p1 p2).size) ≤ (FwcText p0 p1 p2).size) ∧ True) ∧ (((True ∧ ((bytesOf (((bytesI (FwcText p0 p1 p2)).drop 0).take ((FwcText p0 p1 p2).size))).size ≤ 1000000000)) ∧ True) ∧ (((0 + (4 + (bytesOf (((bytesI (FwcText p0 p1 p2)).drop 0).take ((FwcText p0 p1 p2).size))).size) ≤ 4 + (bytesOf (((bytesI (FwcText p0 p1 p2)).drop 0).take ((FwcText p0 p1 p2).size))).size) ∧ True) ∧ ((True ∧ True) ∧ ((True ∧ True) ∧ True)))))))))))))))))))
            ([(39, .sc (.b (!(strEq (bytesOf (((FwrInt (part1 (bytesI (FwcText p0 p1 p2)) ((FwcText p0 p1 p2).size) 0 ((FwcText p0 p1 p2).size))).drop 0).take (FwrIntn0 (part1 (bytesI (FwcText p0 p1 p2)) ((FwcText p0 p1 p2).size) 0 ((FwcText p0 p1 p2).size))))) (bytesOf (((FwrText (bytesOf (((bytesI (FwcText p0 p1 p2)).drop 0).take ((FwcText p0 p1 p2).size)))).drop 0).take (4 + (bytesOf (((bytesI (FwcText p0 p1 p2)).drop 0).take ((FwcText p0 p1 p2).size))).size))))))), (4, .sc (.i .i64 ((((FwcText p0 p1 p2).size) : Nat) : Int))), (3, .sc (.sl 64 0 ((FwcText p0 p1 p2).size) 1 none)), (0, .sc (.p 0 0))], [(64, .ints .u8 ((FwcText p0 p1 p2).size) (bytesI (FwcText p0 p1 p2))), (0, .cells [.ro .u8 p0, .i .i64 (FwcText_1 p0 p1 p2), .b (FwcText_2 p0 p1 p2)])])
            592 (by kernel_rfl) rfl (by kernel_rfl) (⟨⟨trivial, trivial⟩, ⟨⟨trivial, trivial⟩, ⟨⟨trivial, trivial⟩, ⟨⟨trivial, (h16)⟩, ⟨⟨trivial, trivial⟩, ⟨⟨trivial, trivial⟩, ⟨⟨trivial, trivial⟩, ⟨⟨trivial, trivial⟩, ⟨⟨trivial, trivial⟩, ⟨⟨trivial, trivial⟩, ⟨⟨trivial, trivial⟩, ⟨⟨⟨⟨(by first | omega | decide | exact part1_le (by omega) (by omega) | (simp only [size_bytesOf, List.length_take, List.length_drop, ByteArray.size_append]; omega) | (have hq := in_cU32 p2 hC; exact ⟨hC.1, hq.1, hq.2⟩)), trivial⟩, (by first | omega | decide | exact part1_le (by omega) (by omega) | (simp only [size_bytesOf, List.length_take, List.length_drop, ByteArray.size_append]; omega) | (have hq := in_cU32 p2 hC; exact ⟨hC.1, hq.1, hq.2⟩))⟩, trivial⟩, ⟨⟨(by first | omega | decide | exact part1_le (by omega) (by omega) | (simp only [size_bytesOf, List.length_take, List.length_drop, ByteArray.size_append]; omega) | (have hq := in_cU32 p2 hC; exact ⟨hC.1, hq.1, hq.2⟩)), trivial⟩, ⟨⟨trivial, trivial⟩, ⟨⟨(by first | omega | decide | exact part1_le (by omega) (by omega) | (simp only [size_bytesOf, List.length_take, List.length_drop, ByteArray.size_append]; omega) | (have hq := in_cU32 p2 hC; exact ⟨hC.1, hq.1, hq.2⟩)), trivial⟩, ⟨⟨⟨trivial, (by first | omega | decide | exact part1_le (by omega) (by omega) | (simp only [size_bytesOf, List.length_take, List.length_drop, ByteArray.size_append]; omega) | (have hq := in_cU32 p2 hC; exact ⟨hC.1, hq.1, hq.2⟩))⟩, trivial⟩, ⟨⟨(by first | omega | decide | exact part1_le (by omega) (by omega) | (simp only [size_bytesOf, List.length_take, List.length_drop, ByteArray.size_append]; omega) | (have hq := in_cU32 p2 hC; exact ⟨hC.1, hq.1, hq.2⟩)), trivial⟩, ⟨⟨trivial, trivial⟩, ⟨⟨trivial, trivial⟩, trivial⟩⟩⟩⟩⟩⟩⟩⟩⟩⟩⟩⟩⟩⟩⟩⟩⟩⟩⟩) ?_
        refine Tri.cond (x := (!(strEq (bytesOf (((FwrInt (part1 (bytesI (FwcText p0 p1 p2)) ((FwcText p0 p1 p2).size) 0 ((FwcText p0 p1 p2).size))).drop 0).take (FwrIntn0 (part1 (bytesI (FwcText p0 p1 p2)) ((FwcText p0 p1 p2).size) 0 ((FwcText p0 p1 p2).size))))) (bytesOf (((FwrText (bytesOf (((bytesI (FwcText p0 p1 p2)).drop 0).take ((FwcText p0 p1 p2).size)))).drop 0).take (4 + (bytesOf (((bytesI (FwcText p0 p1 p2)).drop 0).take ((FwcText p0 p1 p2).size))).size)))))) (by kernel_rfl) (fun h25 => ?_) (fun h25 => ?_)
        ·
          refine Tri.len 64 rfl (fun hl26 => ?_)
          refine Tri.seq_region [] none [] [0] ((True ∧ True) ∧ ((True ∧ True) ∧ ((True ∧ True) ∧ ((((2 < 3) ∧ (1 = 1)) ∧ True) ∧ True))))
              ([], [(0, .cells [.ro .u8 p0, .i .i64 (FwcText_1 p0 p1 p2), .b true])])
              656 (by kernel_rfl) rfl (by kernel_rfl) (⟨⟨trivial, trivial⟩, ⟨⟨trivial, trivial⟩, ⟨⟨trivial, trivial⟩, ⟨⟨⟨(by first | omega | decide | exact part1_le (by omega) (by omega) | (simp only [size_bytesOf, List.length_take, List.length_drop, ByteArray.size_append]; omega) | (have hq := in_cU32 p2 hC; exact ⟨hC.1, hq.1, hq.2⟩)), (rfl)⟩, trivial⟩, trivial⟩⟩⟩⟩) ?_
          refine Tri.seq_region [] none [2] [0] ((True ∧ True) ∧ True)
              ([(2, .sc (.nils))], [(0, .cells [.ro .u8 p0, .i .i64 (FwcText_1 p0 p1 p2), .b true])])
              672 (by kernel_rfl) rfl (by kernel_rfl) (⟨⟨trivial, trivial⟩, trivial⟩) ?_
          refine Tri.sub (Sub.nilRo 2 .u8 (by kernel_rfl)) ?_
          refine Tri.ret ?_
          repeat (first | refine thenP_ret ?_ | refine blkP_ret ?_ | refine countP_ret ?_ | refine joinP_ret ?_ | refine iterP_ret ?_)
          refine endP.conv (r' := ⟨.sc (.ro .u8 ([] : List Int)), [some (.cells [.ro .u8 p0, .i .i64 (FwcText_1 p0 p1 p2), .b true])]⟩) (by simp only [FwcInt, FwcInt_1, FwcInt_2, hq0, hf0, hb0, h16, h25, sel_true, sel_false]) ?_
          exact endP.ret [(0, 0)] (True ∧ True) (by kernel_rfl) (by kernel_rfl) ⟨trivial, trivial⟩
        ·
          refine Tri.skip ?_
          change Tri _ _ _ _ _ _
          refine Tri.len 64 rfl (fun hl27 => ?_)
          refine Tri.seq_region [] none [2] [64, 0] ((True ∧ True) ∧ ((True ∧ True) ∧ ((((0 : Int) ≤ ((((FwcText p0 p1 p2).size) : Nat) : Int) ∧ (((((FwcText p0 p1 p2).size) : Nat) : Int) : Int) ≤ (((FwcText p0 p1 p2).size : Nat) : Int) ∧ (((FwcText p0 p1 p2).size : Nat) : Int) ≤ (((FwcText p0 p1 p2).size : Nat) : Int)) ∧ True) ∧ ((True ∧ True) ∧ True))))
              ([(2, .sc (.sl 64 (0 + (((FwcText p0 p1 p2).size) * 1)) (((FwcText p0 p1 p2).size) - ((FwcText p0 p1 p2).size)) 1 none))], [(64, .ints .u8 ((FwcText p0 p1 p2).size) (bytesI (FwcText p0 p1 p2))), (0, .cells [.ro .u8 p0, .i .i64 (FwcText_1 p0 p1 p2), .b (FwcText_2 p0 p1 p2)])])
              656 (by kernel_rfl) rfl (by kernel_rfl) (⟨⟨trivial, trivial⟩, ⟨⟨trivial, trivial⟩, ⟨⟨(by first | omega | decide | exact part1_le (by omega) (by omega) | (simp only [size_bytesOf, List.length_take, List.length_drop, ByteArray.size_append]; omega) | (have hq := in_cU32 p2 hC; exact ⟨hC.1, hq.1, hq.2⟩)), trivial⟩, ⟨⟨trivial, trivial⟩, trivial⟩⟩⟩⟩) ?_
          refine Tri.sub (Sub.still (s' := ([(2, .sc (.ro .u8 (part1 (bytesI (FwcText p0 p1 p2)) ((FwcText p0 p1 p2).size) (0 + (((FwcText p0 p1 p2).size) * 1)) (((FwcText p0 p1 p2).size) - ((FwcText p0 p1 p2).size)))))], [(0, .cells [.ro .u8 p0, .i .i64 (FwcText_1 p0 p1 p2), .b (FwcText_2 p0 p1 p2)])])) 64 (.ints .u8 ((FwcText p0 p1 p2).size) (bytesI (FwcText p0 p1 p2))) (by kernel_rfl) (show (0 + (((FwcText p0 p1 p2).size) * 1)) + (((FwcText p0 p1 p2).size) - ((FwcText p0 p1 p2).size)) ≤ (FwcText p0 p1 p2).size from by first | omega | (rw [adr_eq]; omega) | exact iAnd_nn _ _ | exact iSub_nn _ _ | exact part1_le (by omega) (by first | omega | (simp only [List.length_append]; omega)) | decide) (by kernel_rfl)) ?_
          refine Tri.ret ?_
          repeat (first | refine thenP_ret ?_ | refine blkP_ret ?_ | refine countP_ret ?_ | refine joinP_ret ?_ | refine iterP_ret ?_)
          refine endP.conv (r' := ⟨.sc (.ro .u8 (part1 (bytesI (FwcText p0 p1 p2)) ((FwcText p0 p1 p2).size) (0 + (((FwcText p0 p1 p2).size) * 1)) (((FwcText p0 p1 p2).size) - ((FwcText p0 p1 p2).size)))), [some (.cells [.ro .u8 p0, .i .i64 (FwcText_1 p0 p1 p2), .b (FwcText_2 p0 p1 p2)])]⟩) (by simp only [FwcInt, FwcInt_1, FwcInt_2, hq0, hf0, hb0, h16, h25, sel_true, sel_false]) ?_
          exact endP.ret [(0, 0)] (True ∧ True) (by kernel_rfl) (by kernel_rfl) ⟨trivial, trivial⟩

theorem in_cInt {p0 : List Int} {p1 : Int} (p2 : Bool) (h : p0.length ≤ 1000000000 ∧ (0 : Int) ≤ p1 ∧ p1 ≤ (p0.length : Int)) : 0 ≤ FwcInt_1 p0 p1 p2 ∧ FwcInt_1 p0 p1 p2 ≤ (p0.length : Int) := in_cText p2 h

theorem names_0 : 1 ≤ [(⟨#[]⟩ : ByteArray)].length ∧ [(⟨#[]⟩ : ByteArray)].length ≤ 0 + 1 ∧ ∀ j, ([(⟨#[]⟩ : ByteArray)].getD j (⟨#[]⟩ : ByteArray)).size ≤ 0 :=
  ⟨by decide, by decide, fun j => by cases j <;> exact Nat.le_refl 0⟩
theorem names_1 {z : List ByteArray} {k m : Nat} {b : Bool} {y : ByteArray} (h : 1 ≤ z.length ∧ z.length ≤ k + 1 ∧ ∀ j, (z.getD j (⟨#[]⟩ : ByteArray)).size ≤ k) (hy : y.size ≤ m) (hm : m ≤ 1) :
    1 ≤ (sel b (z ++ [(⟨#[]⟩ : ByteArray)]) (z.set (z.length - 1) (z.getD (z.length - 1) (⟨#[]⟩ : ByteArray) ++ y))).length ∧ (sel b (z ++ [(⟨#[]⟩ : ByteArray)]) (z.set (z.length - 1) (z.getD (z.length - 1) (⟨#[]⟩ : ByteArray) ++ y))).length ≤ k + 1 + 1 ∧
      ∀ j, ((sel b (z ++ [(⟨#[]⟩ : ByteArray)]) (z.set (z.length - 1) (z.getD (z.length - 1) (⟨#[]⟩ : ByteArray) ++ y))).getD j (⟨#[]⟩ : ByteArray)).size ≤ k + 1 := by
  obtain ⟨h1, h2, h3⟩ := h
  cases b
  · rw [sel_false, List.length_set]
    refine ⟨h1, by omega, fun j => ?_⟩
    rw [List.getD_eq_getElem?_getD, List.getElem?_set]
    split
    · have := h3 (z.length - 1)
      rw [if_pos (by omega)]
      show (_ ++ y).size ≤ _
      rw [ByteArray.size_append]
      omega
    · have := h3 j
      rw [List.getD_eq_getElem?_getD] at this
      omega
  · rw [sel_true, List.length_append]
    refine ⟨by omega, by show _ + 1 ≤ _; omega, fun j => ?_⟩
    rw [List.getD_eq_getElem?_getD, List.getElem?_append]
    split
    · have := h3 j
      rw [List.getD_eq_getElem?_getD] at this
      omega
    · cases j - z.length <;> exact Nat.zero_le _

noncomputable def FwcNamesl0 (p0 : List Int) (p1 : Int) (p2 : Bool) (k0 : Nat) (z0 : List ByteArray) : List ByteArray :=
  (sel (((byteAt (FwcText p0 p1 p2) ((k0 : Nat) : Int)) : Int) == 44) (z0 ++ [(⟨#[]⟩ : ByteArray)]) (z0.set (z0.length - 1) (z0.getD (z0.length - 1) (⟨#[]⟩ : ByteArray) ++ ((FwcText p0 p1 p2).extract k0 (k0 + 1)))))

noncomputable def FwcNamesl1 (k1 : Nat) (z1 : Unit) : Unit :=
  ()

noncomputable def FwcNamess1 (p0 : List Int) (p1 : Int) (p2 : Bool) (k1 : Nat) : Bool :=
  (sel (strEq ((itr (FwcNamesl0 p0 p1 p2) ((FwcText p0 p1 p2).size) ([(⟨#[]⟩ : ByteArray)])).getD k1 (⟨#[]⟩ : ByteArray)) (⟨#[]⟩ : ByteArray)) true false)

noncomputable def FwcNames (p0 : List Int) (p1 : Int) (p2 : Bool) : List ByteArray :=
  (sel (strEq (FwcText p0 p1 p2) (⟨#[]⟩ : ByteArray)) [] (sel (Nat.blt (fstB (FwcNamess1 p0 p1 p2) ((itr (FwcNamesl0 p0 p1 p2) ((FwcText p0 p1 p2).size) ([(⟨#[]⟩ : ByteArray)])).length)) ((itr (FwcNamesl0 p0 p1 p2) ((FwcText p0 p1 p2).size) ([(⟨#[]⟩ : ByteArray)])).length)) [] (partV (itr (FwcNamesl0 p0 p1 p2) ((FwcText p0 p1 p2).size) ([(⟨#[]⟩ : ByteArray)])) 0 ((itr (FwcNamesl0 p0 p1 p2) ((FwcText p0 p1 p2).size) ([(⟨#[]⟩ : ByteArray)])).length))))

noncomputable def FwcNames_1 (p0 : List Int) (p1 : Int) (p2 : Bool) : Int :=
  (FwcText_1 p0 p1 p2)

noncomputable def FwcNames_2 (p0 : List Int) (p1 : Int) (p2 : Bool) : Bool :=
  (sel (strEq (FwcText p0 p1 p2) (⟨#[]⟩ : ByteArray)) (FwcText_2 p0 p1 p2) (sel (Nat.blt (fstB (FwcNamess1 p0 p1 p2) ((itr (FwcNamesl0 p0 p1 p2) ((FwcText p0 p1 p2).size) ([(⟨#[]⟩ : ByteArray)])).length)) ((itr (FwcNamesl0 p0 p1 p2) ((FwcText p0 p1 p2).size) ([(⟨#[]⟩ : ByteArray)])).length)) true (FwcText_2 p0 p1 p2)))

noncomputable def SwcNames : List AV → List Blk → Option (Prop × Ret)
  | [.sc (.p 0 0)], [.cells [.ro .u8 p0, .i .i64 p1, .b p2]] => some ((p0.length ≤ 1000000000 ∧ (0 : Int) ≤ p1 ∧ p1 ≤ (p0.length : Int)), ⟨.sc (.ros (FwcNames p0 p1 p2)), [some (.cells [.ro .u8 p0, .i .i64 (FwcNames_1 p0 p1 p2), .b (FwcNames_2 p0 p1 p2)])]⟩)
  | _, _ => none

noncomputable def BwcNames : Bs := { P := Go.Proofs.Tryd.prog, G := noG, tab := tabOf [⟨19, 48, [.io], [], [0], ⟨1, 0, SwcText⟩⟩], n := 53 }

theorem BwcNames.ok : BwcNames.Ok := ⟨tabOk (P := Go.Proofs.Tryd.prog) (G := noG) (l := [⟨19, 48, [.io], [], [0], ⟨1, 0, SwcText⟩⟩]) (And.intro KwcText True.intro), mixed⟩

theorem KwcNames : Known Go.Proofs.Tryd.prog noG 22 ⟨1, 0, SwcNames⟩ := by
  refine Known.walk (B := BwcNames) (fn := Go.Proofs.Tryd.f22) BwcNames.ok (by kernel_rfl) rfl (by kernel_rfl) (by kernel_rfl) (by decide) (by decide) ?_
  · intro E args ks C r h hC hlen
    simp only at h
    unfold SwcNames at h
    split at h
    rotate_left
    · cases h
    rename_i p0 p1 p2
    cases h
    simp only [lens] at hlen
    have hs := size_cText p2 hC
    refine ⟨show 1 ≤ 53 from by decide, ?_⟩
    refine Tri.sub (Sub.of_eq (show _ = ([(0, .sc (.p 0 0))], [(0, .cells [.ro .u8 p0, .i .i64 p1, .b p2])]) from rfl)) ?_
    refine Tri.seq_region [] none [0] [0] ((True ∧ True) ∧ True)
        ([(0, .sc (.p 0 0))], [(0, .cells [.ro .u8 p0, .i .i64 p1, .b p2])])
        32 (by kernel_rfl) rfl (by kernel_rfl) (⟨⟨trivial, trivial⟩, trivial⟩) ?_
    refine Tri.seq_region [] none [3, 0] [0] ((True ∧ True) ∧ (((True ∧ (p0.length ≤ 1000000000 ∧ (0 : Int) ≤ p1 ∧ p1 ≤ (p0.length : Int))) ∧ True) ∧ ((True ∧ True) ∧ True)))
        ([(3, .sc (.s (FwcText p0 p1 p2))), (0, .sc (.p 0 0))], [(0, .cells [.ro .u8 p0, .i .i64 (FwcText_1 p0 p1 p2), .b (FwcText_2 p0 p1 p2)])])
        80 (by kernel_rfl) rfl (by kernel_rfl) (⟨⟨trivial, trivial⟩, ⟨⟨⟨trivial, (by first | omega | decide | (have hq := hJ0.2.2 (z0.length - 1); have hr := extract_le' (FwcText p0 p1 p2) k0 (k0 + 1); omega))⟩, trivial⟩, ⟨⟨trivial, trivial⟩, trivial⟩⟩⟩) ?_
    refine Tri.seq ?_
    refine Tri.seq_region [] none [10, 3, 0] [0] ((True ∧ True) ∧ ((True ∧ True) ∧ True))
        ([(10, .sc (.b (strEq (FwcText p0 p1 p2) (⟨#[]⟩ : ByteArray)))), (3, .sc (.s (FwcText p0 p1 p2))), (0, .sc (.p 0 0))], [(0, .cells [.ro .u8 p0, .i .i64 (FwcText_1 p0 p1 p2), .b (FwcText_2 p0 p1 p2)])])
        112 (by kernel_rfl) rfl (by kernel_rfl) (⟨⟨trivial, trivial⟩, ⟨⟨trivial, trivial⟩, trivial⟩⟩) ?_
    refine Tri.cond (x := (strEq (FwcText p0 p1 p2) (⟨#[]⟩ : ByteArray))) (by kernel_rfl) (fun h1 => ?_) (fun h1 => ?_)
    ·
      refine Tri.seq_region [] none [2] [0] ((True ∧ True) ∧ True)
          ([(2, .sc (.nils))], [(0, .cells [.ro .u8 p0, .i .i64 (FwcText_1 p0 p1 p2), .b (FwcText_2 p0 p1 p2)])])
          128 (by kernel_rfl) rfl (by kernel_rfl) (⟨⟨trivial, trivial⟩, trivial⟩) ?_
      refine Tri.sub (Sub.nilRos 2 (by kernel_rfl)) ?_
      refine Tri.ret ?_
      repeat (first | refine thenP_ret ?_ | refine blkP_ret ?_ | refine countP_ret ?_ | refine joinP_ret ?_ | refine iterP_ret ?_)
      refine endP.conv (r' := ⟨.sc (.ros []), [some (.cells [.ro .u8 p0, .i .i64 (FwcText_1 p0 p1 p2), .b (FwcText_2 p0 p1 p2)])]⟩) (by simp only [FwcNames, FwcNames_1, FwcNames_2, h1, sel_true, sel_false]) ?_
      exact endP.ret [(0, 0)] (True ∧ True) (by kernel_rfl) (by kernel_rfl) ⟨trivial, trivial⟩
    ·
      refine Tri.skip ?_
      change Tri _ _ _ _ _ _
      refine Tri.seq_region [] none [4, 3, 0] [112, 0] ((((((0 < 1) ∧ (1 = 1)) ∧ True) ∧ ((1 * 1 ≤ 16777216) ∧ (1 = 1))) ∧ True) ∧ ((True ∧ True) ∧ True))
          ([(4, .sc (.sl 112 0 1 1 none)), (3, .sc (.s (FwcText p0 p1 p2))), (0, .sc (.p 0 0))], [(112, .cells [.s (⟨#[]⟩ : ByteArray)]), (0, .cells [.ro .u8 p0, .i .i64 (FwcText_1 p0 p1 p2), .b (FwcText_2 p0 p1 p2)])])
          144 (by kernel_rfl) rfl (by kernel_rfl) (⟨⟨⟨⟨⟨(by first | omega | decide | (have hq := hJ0.2.2 (z0.length - 1); have hr := extract_le' (FwcText p0 p1 p2) k0 (k0 + 1); omega)), (rfl)⟩, trivial⟩, ⟨(by first | omega | decide | (have hq := hJ0.2.2 (z0.length - 1); have hr := extract_le' (FwcText p0 p1 p2) k0 (k0 + 1); omega)), (rfl)⟩⟩, trivial⟩, ⟨⟨trivial, trivial⟩, trivial⟩⟩) ?_
      refine Tri.seq ?_
      refine Tri.seq_region [] none [5, 4, 3, 0] [112, 0] ((True ∧ True) ∧ True)
          ([(5, .sc (.i .i64 0)), (4, .sc (.sl 112 0 1 1 none)), (3, .sc (.s (FwcText p0 p1 p2))), (0, .sc (.p 0 0))], [(112, .cells [.s (⟨#[]⟩ : ByteArray)]), (0, .cells [.ro .u8 p0, .i .i64 (FwcText_1 p0 p1 p2), .b (FwcText_2 p0 p1 p2)])])
          160 (by kernel_rfl) rfl (by kernel_rfl) (⟨⟨trivial, trivial⟩, trivial⟩) ?_
      refine Tri.block ?_
      refine Tri.sub (Sub.toVec (l := [.s (⟨#[]⟩ : ByteArray)]) 112 .str ([(⟨#[]⟩ : ByteArray)]) (by kernel_rfl) (by kernel_rfl)) ?_
      refine Tri.count 160 ((FwcText p0 p1 p2).size) (FwcNamesl0 p0 p1 p2) ([(⟨#[]⟩ : ByteArray)]) (fun k0 z0 => (1 ≤ z0.length ∧ z0.length ≤ k0 + 1 ∧ ∀ j, (z0.getD j (⟨#[]⟩ : ByteArray)).size ≤ k0)) (fun k0 z0 => ([(5, .sc (.i .i64 ((k0 : Nat) : Int))), (4, .sc (.sl 112 0 z0.length 1 none)), (3, .sc (.s (FwcText p0 p1 p2))), (0, .sc (.p 0 0))], [(112, .vec .str z0), (0, .cells [.ro .u8 p0, .i .i64 (FwcText_1 p0 p1 p2), .b (FwcText_2 p0 p1 p2)])])) names_0 (Sub.of_eq (by kernel_rfl)) ?_
      intro k0 z0 hk0 hz0 hJ0
      refine Tri.seq ?_
      refine Tri.seq_region [] none [15, 5, 4, 3, 0] [112, 0] ((True ∧ True) ∧ ((True ∧ True) ∧ ((True ∧ True) ∧ ((True ∧ True) ∧ True))))
          ([(15, .sc (.b (decide ((((k0 : Nat) : Int) : Int) < (((FwcText p0 p1 p2).size : Nat) : Int))))), (5, .sc (.i .i64 ((k0 : Nat) : Int))), (4, .sc (.sl 112 0 z0.length 1 none)), (3, .sc (.s (FwcText p0 p1 p2))), (0, .sc (.p 0 0))], [(112, .vec .str z0), (0, .cells [.ro .u8 p0, .i .i64 (FwcText_1 p0 p1 p2), .b (FwcText_2 p0 p1 p2)])])
          224 (by kernel_rfl) rfl (by kernel_rfl) (⟨⟨trivial, trivial⟩, ⟨⟨trivial, trivial⟩, ⟨⟨trivial, trivial⟩, ⟨⟨trivial, trivial⟩, trivial⟩⟩⟩⟩) ?_
      refine Tri.cond (x := (decide ((((k0 : Nat) : Int) : Int) < (((FwcText p0 p1 p2).size : Nat) : Int)))) (by kernel_rfl) (fun h2 => ?_) (fun h2 => ?_)
      ·
        have h2' := of_decide_eq_true h2
        refine Tri.skip ?_
        change Tri _ _ _ _ _ _
        refine Tri.seq ?_
        refine Tri.block ?_
        refine Tri.seq_region [] none [21, 5, 4, 3, 0] [112, 0] ((True ∧ True) ∧ ((True ∧ True) ∧ ((((0 : Int) ≤ ((k0 : Nat) : Int) ∧ ((k0 : Nat) : Int) < ((FwcText p0 p1 p2).size : Int)) ∧ True) ∧ ((True ∧ True) ∧ True))))
            ([(21, .sc (.b (((byteAt (FwcText p0 p1 p2) ((k0 : Nat) : Int)) : Int) == 44))), (5, .sc (.i .i64 ((k0 : Nat) : Int))), (4, .sc (.sl 112 0 z0.length 1 none)), (3, .sc (.s (FwcText p0 p1 p2))), (0, .sc (.p 0 0))], [(112, .vec .str z0), (0, .cells [.ro .u8 p0, .i .i64 (FwcText_1 p0 p1 p2), .b (FwcText_2 p0 p1 p2)])])
            288 (by kernel_rfl) rfl (by kernel_rfl) (⟨⟨trivial, trivial⟩, ⟨⟨trivial, trivial⟩, ⟨⟨(by first | omega | decide | (have hq := hJ0.2.2 (z0.length - 1); have hr := extract_le' (FwcText p0 p1 p2) k0 (k0 + 1); omega)), trivial⟩, ⟨⟨trivial, trivial⟩, trivial⟩⟩⟩⟩) ?_
        refine Tri.cond (x := (((byteAt (FwcText p0 p1 p2) ((k0 : Nat) : Int)) : Int) == 44)) (by kernel_rfl) (fun h3 => ?_) (fun h3 => ?_)
        ·
          have h3' := eq_true_i h3
          refine Tri.region' [] none [4, 5, 3, 0] [320, 0] ((True ∧ True) ∧ ((((((0 < 1) ∧ (1 = 1)) ∧ True) ∧ ((1 * 1 ≤ 16777216) ∧ (1 = 1))) ∧ True) ∧ (((((((0 + 1 ≤ 1) ∧ (1 = 1)) ∧ ((0 < 1) ∧ (((z0.length + 1) * 16 ≤ 140737488355328) ∧ (z0.length + 1 ≤ 140737488355328)))) ∧ (1 = 1 * 1)) ∧ ((1 = 1) ∧ (0 + z0.length * 1 = z0.length))) ∧ True) ∧ ((True ∧ True) ∧ True))))
              ([(4, .sc (.sl 320 0 (z0.length + 1) 1 none)), (5, .sc (.i .i64 ((k0 : Nat) : Int))), (3, .sc (.s (FwcText p0 p1 p2))), (0, .sc (.p 0 0))], [(320, .vec .str (z0 ++ [(⟨#[]⟩ : ByteArray)])), (0, .cells [.ro .u8 p0, .i .i64 (FwcText_1 p0 p1 p2), .b (FwcText_2 p0 p1 p2)])])
              352 (by kernel_rfl) rfl (by kernel_rfl) (⟨⟨trivial, trivial⟩, ⟨⟨⟨⟨⟨(by first | omega | decide | (have hq := hJ0.2.2 (z0.length - 1); have hr := extract_le' (FwcText p0 p1 p2) k0 (k0 + 1); omega)), (rfl)⟩, trivial⟩, ⟨(by first | omega | decide | (have hq := hJ0.2.2 (z0.length - 1); have hr := extract_le' (FwcText p0 p1 p2) k0 (k0 + 1); omega)), (rfl)⟩⟩, trivial⟩, ⟨⟨⟨⟨⟨⟨(by first | omega | decide | (have hq := hJ0.2.2 (z0.length - 1); have hr := extract_le' (FwcText p0 p1 p2) k0 (k0 + 1); omega)), (rfl)⟩, ⟨(by first | omega | decide | (have hq := hJ0.2.2 (z0.length - 1); have hr := extract_le' (FwcText p0 p1 p2) k0 (k0 + 1); omega)), ⟨(by first | omega | decide | (have hq := hJ0.2.2 (z0.length - 1); have hr := extract_le' (FwcText p0 p1 p2) k0 (k0 + 1); omega)), (by first | omega | decide | (have hq := hJ0.2.2 (z0.length - 1); have hr := extract_le' (FwcText p0 p1 p2) k0 (k0 + 1); omega))⟩⟩⟩, (by first | omega | decide | (have hq := hJ0.2.2 (z0.length - 1); have hr := extract_le' (FwcText p0 p1 p2) k0 (k0 + 1); omega))⟩, ⟨(rfl), (by first | omega | decide | (have hq := hJ0.2.2 (z0.length - 1); have hr := extract_le' (FwcText p0 p1 p2) k0 (k0 + 1); omega))⟩⟩, trivial⟩, ⟨⟨trivial, trivial⟩, trivial⟩⟩⟩⟩) ?_
          change Tri _ _ _ _ _ _
          refine Tri.region' [(17, qi ((k0 + 1 : Nat) : Int))] none [5, 4, 3, 0] [320, 0] ((True ∧ True) ∧ ((True ∧ ((iAdd .i64 ((k0 : Nat) : Int) 1) = ((k0 + 1 : Nat) : Int))) ∧ ((True ∧ True) ∧ True)))
              ([(5, .sc (.i .i64 ((k0 + 1 : Nat) : Int))), (4, .sc (.sl 320 0 (z0.length + 1) 1 none)), (3, .sc (.s (FwcText p0 p1 p2))), (0, .sc (.p 0 0))], [(320, .vec .str (z0 ++ [(⟨#[]⟩ : ByteArray)])), (0, .cells [.ro .u8 p0, .i .i64 (FwcText_1 p0 p1 p2), .b (FwcText_2 p0 p1 p2)])])
              400 (by kernel_rfl) rfl (by kernel_rfl) (⟨⟨trivial, trivial⟩, ⟨⟨trivial, (iAdd_nat (a := k0) (b := 1) (by omega))⟩, ⟨⟨trivial, trivial⟩, trivial⟩⟩⟩) ?_
          repeat (refine blkP_normal ?_)
          refine countP_normal (by omega) (by unfold FwcNamesl0; exact names_1 hJ0 (extract_le' _ _ _) (by omega)) ?_
          exact (Sub.ren (ns := [(320, 112), (0, 0)]) (kf := [5, 4, 3, 0]) (s' := ([(5, .sc (.i .i64 ((k0 + 1 : Nat) : Int))), (4, .sc (.sl 112 0 (z0.length + 1) 1 none)), (3, .sc (.s (FwcText p0 p1 p2))), (0, .sc (.p 0 0))], [(112, .vec .str (z0 ++ [(⟨#[]⟩ : ByteArray)])), (0, .cells [.ro .u8 p0, .i .i64 (FwcText_1 p0 p1 p2), .b (FwcText_2 p0 p1 p2)])])) (by kernel_rfl) (by kernel_rfl)).trans (Sub.of_eq (by simp only [FwcNamesl0, h1, h2, h3, sel_true, sel_false, List.length_append, List.length_set, List.length_cons, List.length_nil, Nat.zero_add, Nat.reduceAdd]))
        ·
          have h3' := eq_false_i h3
          refine Tri.region' [(28, qi ((z0.length - 1 : Nat) : Int)), (34, qi ((k0 + 1 : Nat) : Int))] (some [0, 0, 2, 6, 15, 31, 0, 0, 0, 256, 960, 2047, 4095, 8191]) [5, 4, 3, 0] [112, 0] ((True ∧ True) ∧ ((True ∧ True) ∧ ((True ∧ True) ∧ ((True ∧ ((iSub .i64 ((z0.length : Nat) : Int) 1) = ((z0.length - 1 : Nat) : Int))) ∧ ((((0 : Int) ≤ ((z0.length - 1 : Nat) : Int) ∧ ((z0.length - 1 : Nat) : Int) < ((z0.length : Nat) : Int)) ∧ True) ∧ (((z0.length - 1 < z0.length) ∧ True) ∧ ((True ∧ True) ∧ ((True ∧ True) ∧ ((True ∧ True) ∧ ((True ∧ ((iAdd .i64 ((k0 : Nat) : Int) 1) = ((k0 + 1 : Nat) : Int))) ∧ ((((0 : Int) ≤ ((k0 : Nat) : Int) ∧ (((k0 : Nat) : Int) : Int) ≤ ((k0 + 1 : Nat) : Int) ∧ ((k0 + 1 : Nat) : Int) ≤ ((FwcText p0 p1 p2).size : Int)) ∧ True) ∧ ((((z0.getD (z0.length - 1) (⟨#[]⟩ : ByteArray)).size + ((FwcText p0 p1 p2).extract k0 (k0 + 1)).size ≤ 9223372036854775807) ∧ True) ∧ ((((0 : Int) ≤ ((z0.length - 1 : Nat) : Int) ∧ ((z0.length - 1 : Nat) : Int) < ((z0.length : Nat) : Int)) ∧ True) ∧ ((((z0.length - 1 < z0.length) ∧ (1 = 1)) ∧ True) ∧ True))))))))))))))
              ([(5, .sc (.i .i64 ((k0 : Nat) : Int))), (4, .sc (.sl 112 0 z0.length 1 none)), (3, .sc (.s (FwcText p0 p1 p2))), (0, .sc (.p 0 0))], [(112, .vec .str (z0.set (z0.length - 1) (z0.getD (z0.length - 1) (⟨#[]⟩ : ByteArray) ++ ((FwcText p0 p1 p2).extract k0 (k0 + 1))))), (0, .cells [.ro .u8 p0, .i .i64 (FwcText_1 p0 p1 p2), .b (FwcText_2 p0 p1 p2)])])
              512 (by kernel_rfl) rfl (by kernel_rfl) (⟨⟨trivial, trivial⟩, ⟨⟨trivial, trivial⟩, ⟨⟨trivial, trivial⟩, ⟨⟨trivial, (iSub_nat (a := z0.length) (b := 1) (by omega) (by omega))⟩, ⟨⟨(by first | omega | decide | (have hq := hJ0.2.2 (z0.length - 1); have hr := extract_le' (FwcText p0 p1 p2) k0 (k0 + 1); omega)), trivial⟩, ⟨⟨(by first | omega | decide | (have hq := hJ0.2.2 (z0.length - 1); have hr := extract_le' (FwcText p0 p1 p2) k0 (k0 + 1); omega)), trivial⟩, ⟨⟨trivial, trivial⟩, ⟨⟨trivial, trivial⟩, ⟨⟨trivial, trivial⟩, ⟨⟨trivial, (iAdd_nat (a := k0) (b := 1) (by omega))⟩, ⟨⟨(by first | omega | decide | (have hq := hJ0.2.2 (z0.length - 1); have hr := extract_le' (FwcText p0 p1 p2) k0 (k0 + 1); omega)), trivial⟩, ⟨⟨(by first | omega | decide | (have hq := hJ0.2.2 (z0.length - 1); have hr := extract_le' (FwcText p0 p1 p2) k0 (k0 + 1); omega)), trivial⟩, ⟨⟨(by first | omega | decide | (have hq := hJ0.2.2 (z0.length - 1); have hr := extract_le' (FwcText p0 p1 p2) k0 (k0 + 1); omega)), trivial⟩, ⟨⟨⟨(by first | omega | decide | (have hq := hJ0.2.2 (z0.length - 1); have hr := extract_le' (FwcText p0 p1 p2) k0 (k0 + 1); omega)), (rfl)⟩, trivial⟩, trivial⟩⟩⟩⟩⟩⟩⟩⟩⟩⟩⟩⟩⟩⟩) ?_
          change Tri _ _ _ _ _ _
          refine Tri.region' [(17, qi ((k0 + 1 : Nat) : Int))] none [5, 4, 3, 0] [112, 0] ((True ∧ True) ∧ ((True ∧ ((iAdd .i64 ((k0 : Nat) : Int) 1) = ((k0 + 1 : Nat) : Int))) ∧ ((True ∧ True) ∧ True)))
              ([(5, .sc (.i .i64 ((k0 + 1 : Nat) : Int))), (4, .sc (.sl 112 0 z0.length 1 none)), (3, .sc (.s (FwcText p0 p1 p2))), (0, .sc (.p 0 0))], [(112, .vec .str (z0.set (z0.length - 1) (z0.getD (z0.length - 1) (⟨#[]⟩ : ByteArray) ++ ((FwcText p0 p1 p2).extract k0 (k0 + 1))))), (0, .cells [.ro .u8 p0, .i .i64 (FwcText_1 p0 p1 p2), .b (FwcText_2 p0 p1 p2)])])
              560 (by kernel_rfl) rfl (by kernel_rfl) (⟨⟨trivial, trivial⟩, ⟨⟨trivial, (iAdd_nat (a := k0) (b := 1) (by omega))⟩, ⟨⟨trivial, trivial⟩, trivial⟩⟩⟩) ?_
          repeat (refine blkP_normal ?_)
          refine countP_normal (by omega) (by unfold FwcNamesl0; exact names_1 hJ0 (extract_le' _ _ _) (by omega)) ?_
          exact (Sub.ren (ns := [(112, 112), (0, 0)]) (kf := [5, 4, 3, 0]) (s' := ([(5, .sc (.i .i64 ((k0 + 1 : Nat) : Int))), (4, .sc (.sl 112 0 z0.length 1 none)), (3, .sc (.s (FwcText p0 p1 p2))), (0, .sc (.p 0 0))], [(112, .vec .str (z0.set (z0.length - 1) (z0.getD (z0.length - 1) (⟨#[]⟩ : ByteArray) ++ ((FwcText p0 p1 p2).extract k0 (k0 + 1))))), (0, .cells [.ro .u8 p0, .i .i64 (FwcText_1 p0 p1 p2), .b (FwcText_2 p0 p1 p2)])])) (by kernel_rfl) (by kernel_rfl)).trans (Sub.of_eq (by simp only [FwcNamesl0, h1, h2, h3, sel_true, sel_false, List.length_append, List.length_set, List.length_cons, List.length_nil, Nat.zero_add, Nat.reduceAdd]))
      ·
        have h2' := of_decide_eq_false h2
        refine Tri.exit ?_
        have hend0 : k0 = ((FwcText p0 p1 p2).size) := by (have := of_decide_eq_false h2; omega)
        subst hend0; subst hz0
        change Tri _ _ _ _ _ _
        refine Tri.seq ?_
        refine Tri.seq_region [] none [6, 4, 0] [112, 0] ((True ∧ True) ∧ True)
            ([(6, .sc (.i .i64 0)), (4, .sc (.sl 112 0 ((itr (FwcNamesl0 p0 p1 p2) ((FwcText p0 p1 p2).size) ([(⟨#[]⟩ : ByteArray)])).length) 1 none)), (0, .sc (.p 0 0))], [(112, .vec .str (itr (FwcNamesl0 p0 p1 p2) ((FwcText p0 p1 p2).size) ([(⟨#[]⟩ : ByteArray)]))), (0, .cells [.ro .u8 p0, .i .i64 (FwcText_1 p0 p1 p2), .b (FwcText_2 p0 p1 p2)])])
            240 (by kernel_rfl) rfl (by kernel_rfl) (⟨⟨trivial, trivial⟩, trivial⟩) ?_
        refine Tri.block ?_
        refine Tri.count 240 ((itr (FwcNamesl0 p0 p1 p2) ((FwcText p0 p1 p2).size) ([(⟨#[]⟩ : ByteArray)])).length) (FwcNamesl1) (()) (fun k1 z1 => (∀ j, j < k1 → (FwcNamess1 p0 p1 p2) j = false)) (fun k1 z1 => ([(6, .sc (.i .i64 ((k1 : Nat) : Int))), (4, .sc (.sl 112 0 ((itr (FwcNamesl0 p0 p1 p2) ((FwcText p0 p1 p2).size) ([(⟨#[]⟩ : ByteArray)])).length) 1 none)), (0, .sc (.p 0 0))], [(112, .vec .str (itr (FwcNamesl0 p0 p1 p2) ((FwcText p0 p1 p2).size) ([(⟨#[]⟩ : ByteArray)]))), (0, .cells [.ro .u8 p0, .i .i64 (FwcText_1 p0 p1 p2), .b (FwcText_2 p0 p1 p2)])])) (fun j hj => absurd hj (Nat.not_lt_zero j)) (Sub.of_eq (by kernel_rfl)) ?_
        intro k1 z1 hk1 hz1 hJ1
        refine Tri.seq ?_
        refine Tri.seq_region [] none [41, 6, 4, 0] [112, 0] ((True ∧ True) ∧ ((True ∧ True) ∧ ((True ∧ True) ∧ ((True ∧ True) ∧ True))))
            ([(41, .sc (.b (decide ((((k1 : Nat) : Int) : Int) < (((itr (FwcNamesl0 p0 p1 p2) ((FwcText p0 p1 p2).size) ([(⟨#[]⟩ : ByteArray)])).length : Nat) : Int))))), (6, .sc (.i .i64 ((k1 : Nat) : Int))), (4, .sc (.sl 112 0 ((itr (FwcNamesl0 p0 p1 p2) ((FwcText p0 p1 p2).size) ([(⟨#[]⟩ : ByteArray)])).length) 1 none)), (0, .sc (.p 0 0))], [(112, .vec .str (itr (FwcNamesl0 p0 p1 p2) ((FwcText p0 p1 p2).size) ([(⟨#[]⟩ : ByteArray)]))), (0, .cells [.ro .u8 p0, .i .i64 (FwcText_1 p0 p1 p2), .b (FwcText_2 p0 p1 p2)])])
            304 (by kernel_rfl) rfl (by kernel_rfl) (⟨⟨trivial, trivial⟩, ⟨⟨trivial, trivial⟩, ⟨⟨trivial, trivial⟩, ⟨⟨trivial, trivial⟩, trivial⟩⟩⟩⟩) ?_
        refine Tri.cond (x := (decide ((((k1 : Nat) : Int) : Int) < (((itr (FwcNamesl0 p0 p1 p2) ((FwcText p0 p1 p2).size) ([(⟨#[]⟩ : ByteArray)])).length : Nat) : Int)))) (by kernel_rfl) (fun h4 => ?_) (fun h4 => ?_)
        ·
          have h4' := of_decide_eq_true h4
          refine Tri.skip ?_
          change Tri _ _ _ _ _ _
          refine Tri.seq ?_
          refine Tri.block ?_
          refine Tri.seq_region [] none [48, 6, 4, 0] [112, 0] ((True ∧ True) ∧ ((True ∧ True) ∧ ((((0 : Int) ≤ ((k1 : Nat) : Int) ∧ ((k1 : Nat) : Int) < (((itr (FwcNamesl0 p0 p1 p2) ((FwcText p0 p1 p2).size) ([(⟨#[]⟩ : ByteArray)])).length : Nat) : Int)) ∧ True) ∧ (((k1 < (itr (FwcNamesl0 p0 p1 p2) ((FwcText p0 p1 p2).size) ([(⟨#[]⟩ : ByteArray)])).length) ∧ True) ∧ ((True ∧ True) ∧ True)))))
              ([(48, .sc (.b (strEq ((itr (FwcNamesl0 p0 p1 p2) ((FwcText p0 p1 p2).size) ([(⟨#[]⟩ : ByteArray)])).getD k1 (⟨#[]⟩ : ByteArray)) (⟨#[]⟩ : ByteArray)))), (6, .sc (.i .i64 ((k1 : Nat) : Int))), (4, .sc (.sl 112 0 ((itr (FwcNamesl0 p0 p1 p2) ((FwcText p0 p1 p2).size) ([(⟨#[]⟩ : ByteArray)])).length) 1 none)), (0, .sc (.p 0 0))], [(112, .vec .str (itr (FwcNamesl0 p0 p1 p2) ((FwcText p0 p1 p2).size) ([(⟨#[]⟩ : ByteArray)]))), (0, .cells [.ro .u8 p0, .i .i64 (FwcText_1 p0 p1 p2), .b (FwcText_2 p0 p1 p2)])])
              384 (by kernel_rfl) rfl (by kernel_rfl) (⟨⟨trivial, trivial⟩, ⟨⟨trivial, trivial⟩, ⟨⟨(by first | omega | decide | (have hq := hJ0.2.2 (z0.length - 1); have hr := extract_le' (FwcText p0 p1 p2) k0 (k0 + 1); omega)), trivial⟩, ⟨⟨(by first | omega | decide | (have hq := hJ0.2.2 (z0.length - 1); have hr := extract_le' (FwcText p0 p1 p2) k0 (k0 + 1); omega)), trivial⟩, ⟨⟨trivial, trivial⟩, trivial⟩⟩⟩⟩⟩) ?_
          refine Tri.cond (x := (strEq ((itr (FwcNamesl0 p0 p1 p2) ((FwcText p0 p1 p2).size) ([(⟨#[]⟩ : ByteArray)])).getD k1 (⟨#[]⟩ : ByteArray)) (⟨#[]⟩ : ByteArray))) (by kernel_rfl) (fun h5 => ?_) (fun h5 => ?_)
          ·
            refine Tri.seq_region [] none [] [0] ((True ∧ True) ∧ ((True ∧ True) ∧ ((True ∧ True) ∧ ((((2 < 3) ∧ (1 = 1)) ∧ True) ∧ True))))
                ([], [(0, .cells [.ro .u8 p0, .i .i64 (FwcText_1 p0 p1 p2), .b true])])
                448 (by kernel_rfl) rfl (by kernel_rfl) (⟨⟨trivial, trivial⟩, ⟨⟨trivial, trivial⟩, ⟨⟨trivial, trivial⟩, ⟨⟨⟨(by first | omega | decide | (have hq := hJ0.2.2 (z0.length - 1); have hr := extract_le' (FwcText p0 p1 p2) k0 (k0 + 1); omega)), (rfl)⟩, trivial⟩, trivial⟩⟩⟩⟩) ?_
            refine Tri.seq_region [] none [2] [0] ((True ∧ True) ∧ True)
                ([(2, .sc (.nils))], [(0, .cells [.ro .u8 p0, .i .i64 (FwcText_1 p0 p1 p2), .b true])])
                464 (by kernel_rfl) rfl (by kernel_rfl) (⟨⟨trivial, trivial⟩, trivial⟩) ?_
            refine Tri.sub (Sub.nilRos 2 (by kernel_rfl)) ?_
            refine Tri.ret ?_
            subst hz1
            have hf1 : fstB (FwcNamess1 p0 p1 p2) ((itr (FwcNamesl0 p0 p1 p2) ((FwcText p0 p1 p2).size) ([(⟨#[]⟩ : ByteArray)])).length) = k1 := fst_found (by omega) hJ1 (by simp only [FwcNamess1, h1, h4, h5, sel_true, sel_false])
            have hb1 : Nat.blt k1 ((itr (FwcNamesl0 p0 p1 p2) ((FwcText p0 p1 p2).size) ([(⟨#[]⟩ : ByteArray)])).length) = true := blt_true (by omega)
            have hq1 : Nat.blt (fstB (FwcNamess1 p0 p1 p2) ((itr (FwcNamesl0 p0 p1 p2) ((FwcText p0 p1 p2).size) ([(⟨#[]⟩ : ByteArray)])).length)) ((itr (FwcNamesl0 p0 p1 p2) ((FwcText p0 p1 p2).size) ([(⟨#[]⟩ : ByteArray)])).length) = true := by rw [hf1]; exact hb1
            repeat (first | refine thenP_ret ?_ | refine blkP_ret ?_ | refine countP_ret ?_ | refine joinP_ret ?_ | refine iterP_ret ?_)
            refine endP.conv (r' := ⟨.sc (.ros []), [some (.cells [.ro .u8 p0, .i .i64 (FwcText_1 p0 p1 p2), .b true])]⟩) (by simp only [FwcNames, FwcNames_1, FwcNames_2, h1, hq1, hf1, hb1, sel_true, sel_false]) ?_
            exact endP.ret [(0, 0)] (True ∧ True) (by kernel_rfl) (by kernel_rfl) ⟨trivial, trivial⟩
          ·
            refine Tri.skip ?_
            change Tri _ _ _ _ _ _
            refine Tri.region' [(43, qi ((k1 + 1 : Nat) : Int))] none [6, 4, 0] [112, 0] ((True ∧ True) ∧ ((True ∧ ((iAdd .i64 ((k1 : Nat) : Int) 1) = ((k1 + 1 : Nat) : Int))) ∧ ((True ∧ True) ∧ True)))
                ([(6, .sc (.i .i64 ((k1 + 1 : Nat) : Int))), (4, .sc (.sl 112 0 ((itr (FwcNamesl0 p0 p1 p2) ((FwcText p0 p1 p2).size) ([(⟨#[]⟩ : ByteArray)])).length) 1 none)), (0, .sc (.p 0 0))], [(112, .vec .str (itr (FwcNamesl0 p0 p1 p2) ((FwcText p0 p1 p2).size) ([(⟨#[]⟩ : ByteArray)]))), (0, .cells [.ro .u8 p0, .i .i64 (FwcText_1 p0 p1 p2), .b (FwcText_2 p0 p1 p2)])])
                432 (by kernel_rfl) rfl (by kernel_rfl) (⟨⟨trivial, trivial⟩, ⟨⟨trivial, (iAdd_nat (a := k1) (b := 1) (by omega))⟩, ⟨⟨trivial, trivial⟩, trivial⟩⟩⟩) ?_
            repeat (refine blkP_normal ?_)
            refine countP_normal (by omega) (below_succ hJ1 (by subst hz1; simp only [FwcNamess1, h1, h4, h5, sel_true, sel_false])) ?_
            exact (Sub.ren (ns := [(112, 112), (0, 0)]) (kf := [6, 4, 0]) (s' := ([(6, .sc (.i .i64 ((k1 + 1 : Nat) : Int))), (4, .sc (.sl 112 0 ((itr (FwcNamesl0 p0 p1 p2) ((FwcText p0 p1 p2).size) ([(⟨#[]⟩ : ByteArray)])).length) 1 none)), (0, .sc (.p 0 0))], [(112, .vec .str (itr (FwcNamesl0 p0 p1 p2) ((FwcText p0 p1 p2).size) ([(⟨#[]⟩ : ByteArray)]))), (0, .cells [.ro .u8 p0, .i .i64 (FwcText_1 p0 p1 p2), .b (FwcText_2 p0 p1 p2)])])) (by kernel_rfl) (by kernel_rfl)).trans (Sub.of_eq (by simp only [FwcNamesl1, h1, h4, h5, sel_true, sel_false, List.length_append, List.length_set, List.length_cons, List.length_nil, Nat.zero_add, Nat.reduceAdd]))
        ·
          have h4' := of_decide_eq_false h4
          refine Tri.exit ?_
          have hend1 : k1 = ((itr (FwcNamesl0 p0 p1 p2) ((FwcText p0 p1 p2).size) ([(⟨#[]⟩ : ByteArray)])).length) := by (have := of_decide_eq_false h4; omega)
          subst hend1; subst hz1
          have hf1 : fstB (FwcNamess1 p0 p1 p2) ((itr (FwcNamesl0 p0 p1 p2) ((FwcText p0 p1 p2).size) ([(⟨#[]⟩ : ByteArray)])).length) = ((itr (FwcNamesl0 p0 p1 p2) ((FwcText p0 p1 p2).size) ([(⟨#[]⟩ : ByteArray)])).length) := fst_none hJ1
          have hb1 : Nat.blt ((itr (FwcNamesl0 p0 p1 p2) ((FwcText p0 p1 p2).size) ([(⟨#[]⟩ : ByteArray)])).length) ((itr (FwcNamesl0 p0 p1 p2) ((FwcText p0 p1 p2).size) ([(⟨#[]⟩ : ByteArray)])).length) = false := blt_self _
          have hq1 : Nat.blt (fstB (FwcNamess1 p0 p1 p2) ((itr (FwcNamesl0 p0 p1 p2) ((FwcText p0 p1 p2).size) ([(⟨#[]⟩ : ByteArray)])).length)) ((itr (FwcNamesl0 p0 p1 p2) ((FwcText p0 p1 p2).size) ([(⟨#[]⟩ : ByteArray)])).length) = false := by rw [hf1]; exact hb1
          change Tri _ _ _ _ _ _
          refine Tri.seq_region [] none [2] [112, 0] ((True ∧ True) ∧ ((True ∧ True) ∧ True))
              ([(2, .sc (.sl 112 0 ((itr (FwcNamesl0 p0 p1 p2) ((FwcText p0 p1 p2).size) ([(⟨#[]⟩ : ByteArray)])).length) 1 none))], [(112, .vec .str (itr (FwcNamesl0 p0 p1 p2) ((FwcText p0 p1 p2).size) ([(⟨#[]⟩ : ByteArray)]))), (0, .cells [.ro .u8 p0, .i .i64 (FwcText_1 p0 p1 p2), .b (FwcText_2 p0 p1 p2)])])
              336 (by kernel_rfl) rfl (by kernel_rfl) (⟨⟨trivial, trivial⟩, ⟨⟨trivial, trivial⟩, trivial⟩⟩) ?_
          refine Tri.sub (Sub.still (s' := ([(2, .sc (.ros (partV (itr (FwcNamesl0 p0 p1 p2) ((FwcText p0 p1 p2).size) ([(⟨#[]⟩ : ByteArray)])) 0 ((itr (FwcNamesl0 p0 p1 p2) ((FwcText p0 p1 p2).size) ([(⟨#[]⟩ : ByteArray)])).length))))], [(0, .cells [.ro .u8 p0, .i .i64 (FwcText_1 p0 p1 p2), .b (FwcText_2 p0 p1 p2)])])) 112 (.vec .str (itr (FwcNamesl0 p0 p1 p2) ((FwcText p0 p1 p2).size) ([(⟨#[]⟩ : ByteArray)]))) (by kernel_rfl) (show 0 + ((itr (FwcNamesl0 p0 p1 p2) ((FwcText p0 p1 p2).size) ([(⟨#[]⟩ : ByteArray)])).length) ≤ (itr (FwcNamesl0 p0 p1 p2) ((FwcText p0 p1 p2).size) ([(⟨#[]⟩ : ByteArray)])).length from by first | omega | (rw [adr_eq]; omega) | exact iAnd_nn _ _ | exact iSub_nn _ _ | exact part1_le (by omega) (by first | omega | (simp only [List.length_append]; omega)) | decide) (by kernel_rfl)) ?_
          refine Tri.ret ?_
          repeat (first | refine thenP_ret ?_ | refine blkP_ret ?_ | refine countP_ret ?_ | refine joinP_ret ?_ | refine iterP_ret ?_)
          refine endP.conv (r' := ⟨.sc (.ros (partV (itr (FwcNamesl0 p0 p1 p2) ((FwcText p0 p1 p2).size) ([(⟨#[]⟩ : ByteArray)])) 0 ((itr (FwcNamesl0 p0 p1 p2) ((FwcText p0 p1 p2).size) ([(⟨#[]⟩ : ByteArray)])).length))), [some (.cells [.ro .u8 p0, .i .i64 (FwcText_1 p0 p1 p2), .b (FwcText_2 p0 p1 p2)])]⟩) (by simp only [FwcNames, FwcNames_1, FwcNames_2, h1, hq1, hf1, hb1, sel_true, sel_false]) ?_
          exact endP.ret [(0, 0)] (True ∧ True) (by kernel_rfl) (by kernel_rfl) ⟨trivial, trivial⟩

theorem in_cNames {p0 : List Int} {p1 : Int} (p2 : Bool) (h : p0.length ≤ 1000000000 ∧ (0 : Int) ≤ p1 ∧ p1 ≤ (p0.length : Int)) : 0 ≤ FwcNames_1 p0 p1 p2 ∧ FwcNames_1 p0 p1 p2 ≤ (p0.length : Int) := in_cText p2 h
theorem in_sel {b : Bool} {x y n : Int} (hx : 0 ≤ x ∧ x ≤ n) (hy : 0 ≤ y ∧ y ≤ n) : 0 ≤ sel b x y ∧ sel b x y ≤ n := by
  cases b
  · rw [sel_false]; exact hy
  · rw [sel_true]; exact hx

end Go.Vm
