/- What the functions compute, and that they do: walked by a printed text. -/
import Derived.Test.YtclfmaifcelcpaaWk1
set_option linter.unusedVariables false
set_option linter.unusedSimpArgs false
set_option maxRecDepth 4000
namespace Go.Vm
open Go

noncomputable def FwrU32 (p0 : Int) : List Int :=
  [(IntKind.wrap .u8 (iQuo .i64 p0 16777216)), (IntKind.wrap .u8 (iQuo .i64 p0 65536)), (IntKind.wrap .u8 (iQuo .i64 p0 256)), (IntKind.wrap .u8 p0)]

noncomputable def SwrU32 : List AV → List Blk → Option (Prop × Ret)
  | [.sc (.i .i64 p0)], [] => some (True, ⟨.sc (.sl 0 0 4 1 none), [some (.ints .u8 4 (FwrU32 p0))]⟩)
  | _, _ => none

noncomputable def BwrU32 : Bs := { P := Go.Proofs.Try.prog, G := noG, tab := tabOf [], n := 15 }

theorem BwrU32.ok : BwrU32.Ok := ⟨tabOk (P := Go.Proofs.Try.prog) (G := noG) (l := []) True.intro, mixed⟩

theorem KwrU32 : Known Go.Proofs.Try.prog noG 18 ⟨0, 1, SwrU32⟩ := by
  refine Known.walk (B := BwrU32) (fn := Go.Proofs.Try.f18) BwrU32.ok (by kernel_rfl) rfl (by kernel_rfl) (by kernel_rfl) (by decide) (by decide) ?_
  · intro E args ks C r h hC hlen
    simp only at h
    unfold SwrU32 at h
    split at h
    rotate_left
    · cases h
    rename_i p0
    cases h
    simp only [lens] at hlen
    refine ⟨show 1 ≤ 15 from by decide, ?_⟩
    refine Tri.sub (Sub.of_eq (show _ = ([(0, .sc (.i .i64 p0))], []) from rfl)) ?_
    refine Tri.seq_region [] none [0] [] ((True ∧ True) ∧ True)
        ([(0, .sc (.i .i64 p0))], [])
        32 (by kernel_rfl) rfl (by kernel_rfl) (⟨⟨trivial, trivial⟩, trivial⟩) ?_
    refine Tri.seq_region [] none [2] [208] ((True ∧ True) ∧ (((16777216 ≠ (0 : Int)) ∧ True) ∧ ((True ∧ True) ∧ ((True ∧ True) ∧ (((65536 ≠ (0 : Int)) ∧ True) ∧ ((True ∧ True) ∧ ((True ∧ True) ∧ (((256 ≠ (0 : Int)) ∧ True) ∧ ((True ∧ True) ∧ ((True ∧ True) ∧ ((True ∧ True) ∧ ((((((0 < 4) ∧ (1 = 1)) ∧ (((1 < 4) ∧ (1 = 1)) ∧ (((2 < 4) ∧ (1 = 1)) ∧ (((3 < 4) ∧ (1 = 1)) ∧ True)))) ∧ ((4 * 1 ≤ 16777216) ∧ (1 = 1))) ∧ True) ∧ ((True ∧ True) ∧ True)))))))))))))
        ([(2, .sc (.sl 208 0 4 1 none))], [(208, .ints .u8 4 [(IntKind.wrap .u8 (iQuo .i64 p0 16777216)), (IntKind.wrap .u8 (iQuo .i64 p0 65536)), (IntKind.wrap .u8 (iQuo .i64 p0 256)), (IntKind.wrap .u8 p0)])])
        240 (by kernel_rfl) rfl (by kernel_rfl) (⟨⟨trivial, trivial⟩, ⟨⟨(by first | omega | (rw [adr_eq]; omega) | exact iAnd_nn _ _ | exact iSub_nn _ _ | exact part1_le (by omega) (by first | omega | (simp only [List.length_append]; omega)) | decide), trivial⟩, ⟨⟨trivial, trivial⟩, ⟨⟨trivial, trivial⟩, ⟨⟨(by first | omega | (rw [adr_eq]; omega) | exact iAnd_nn _ _ | exact iSub_nn _ _ | exact part1_le (by omega) (by first | omega | (simp only [List.length_append]; omega)) | decide), trivial⟩, ⟨⟨trivial, trivial⟩, ⟨⟨trivial, trivial⟩, ⟨⟨(by first | omega | (rw [adr_eq]; omega) | exact iAnd_nn _ _ | exact iSub_nn _ _ | exact part1_le (by omega) (by first | omega | (simp only [List.length_append]; omega)) | decide), trivial⟩, ⟨⟨trivial, trivial⟩, ⟨⟨trivial, trivial⟩, ⟨⟨trivial, trivial⟩, ⟨⟨⟨⟨⟨(by first | omega | (rw [adr_eq]; omega) | exact iAnd_nn _ _ | exact iSub_nn _ _ | exact part1_le (by omega) (by first | omega | (simp only [List.length_append]; omega)) | decide), (rfl)⟩, ⟨⟨(by first | omega | (rw [adr_eq]; omega) | exact iAnd_nn _ _ | exact iSub_nn _ _ | exact part1_le (by omega) (by first | omega | (simp only [List.length_append]; omega)) | decide), (rfl)⟩, ⟨⟨(by first | omega | (rw [adr_eq]; omega) | exact iAnd_nn _ _ | exact iSub_nn _ _ | exact part1_le (by omega) (by first | omega | (simp only [List.length_append]; omega)) | decide), (rfl)⟩, ⟨⟨(by first | omega | (rw [adr_eq]; omega) | exact iAnd_nn _ _ | exact iSub_nn _ _ | exact part1_le (by omega) (by first | omega | (simp only [List.length_append]; omega)) | decide), (rfl)⟩, trivial⟩⟩⟩⟩, ⟨(by first | omega | (rw [adr_eq]; omega) | exact iAnd_nn _ _ | exact iSub_nn _ _ | exact part1_le (by omega) (by first | omega | (simp only [List.length_append]; omega)) | decide), (rfl)⟩⟩, trivial⟩, ⟨⟨trivial, trivial⟩, trivial⟩⟩⟩⟩⟩⟩⟩⟩⟩⟩⟩⟩⟩) ?_
    refine Tri.ret ?_
    repeat (first | refine thenP_ret ?_ | refine blkP_ret ?_ | refine countP_ret ?_ | refine joinP_ret ?_ | refine iterP_ret ?_)
    exact endP.ret [(208, 0)] (True ∧ True) (by kernel_rfl) (by kernel_rfl) ⟨trivial, trivial⟩




noncomputable def FwrText (p0 : ByteArray) : List Int :=
  (FwrU32 ((p0.size : Nat) : Int)) ++ (bytesI p0)

noncomputable def SwrText : List AV → List Blk → Option (Prop × Ret)
  | [.sc (.s p0)], [] => some ((p0.size ≤ 1000000000), ⟨.sc (.sl 0 0 (4 + p0.size) 1 none), [some (.ints .u8 (4 + p0.size) (FwrText p0))]⟩)
  | _, _ => none

noncomputable def BwrText : Bs := { P := Go.Proofs.Try.prog, G := noG, tab := tabOf [⟨18, 64, [.val], [], [], ⟨0, 1, SwrU32⟩⟩], n := 8 }

theorem BwrText.ok : BwrText.Ok := ⟨tabOk (P := Go.Proofs.Try.prog) (G := noG) (l := [⟨18, 64, [.val], [], [], ⟨0, 1, SwrU32⟩⟩]) (And.intro KwrU32 True.intro), mixed⟩

theorem KwrText : Known Go.Proofs.Try.prog noG 15 ⟨0, 1, SwrText⟩ := by
  refine Known.walk (B := BwrText) (fn := Go.Proofs.Try.f15) BwrText.ok (by kernel_rfl) rfl (by kernel_rfl) (by kernel_rfl) (by decide) (by decide) ?_
  · intro E args ks C r h hC hlen
    simp only at h
    unfold SwrText at h
    split at h
    rotate_left
    · cases h
    rename_i p0
    cases h
    simp only [lens] at hlen
    refine ⟨show 1 ≤ 8 from by decide, ?_⟩
    refine Tri.sub (Sub.of_eq (show _ = ([(0, .sc (.s p0))], []) from rfl)) ?_
    refine Tri.seq_region [] none [0] [] ((True ∧ True) ∧ True)
        ([(0, .sc (.s p0))], [])
        32 (by kernel_rfl) rfl (by kernel_rfl) (⟨⟨trivial, trivial⟩, trivial⟩) ?_
    refine Tri.seq_region [] none [2] [96] ((True ∧ True) ∧ ((True ∧ True) ∧ (((True ∧ True) ∧ True) ∧ ((True ∧ True) ∧ ((((((True ∧ (1 = 1)) ∧ ((0 < 1) ∧ (((4 + p0.size) * 1 ≤ 140737488355328) ∧ (4 + p0.size ≤ 140737488355328)))) ∧ (p0.size = p0.size * 1)) ∧ ((1 = 1) ∧ (0 + 4 * 1 = 4))) ∧ True) ∧ ((True ∧ True) ∧ True))))))
        ([(2, .sc (.sl 96 0 (4 + p0.size) 1 none))], [(96, .ints .u8 (4 + p0.size) ((FwrU32 ((p0.size : Nat) : Int)) ++ (bytesI p0)))])
        128 (by kernel_rfl) rfl (by kernel_rfl) (⟨⟨trivial, trivial⟩, ⟨⟨trivial, trivial⟩, ⟨⟨⟨trivial, trivial⟩, trivial⟩, ⟨⟨trivial, trivial⟩, ⟨⟨⟨⟨⟨⟨trivial, (rfl)⟩, ⟨(by first | omega | (rw [adr_eq]; omega) | exact iAnd_nn _ _ | exact iSub_nn _ _ | exact part1_le (by omega) (by first | omega | (simp only [List.length_append]; omega)) | decide), ⟨(by first | omega | (rw [adr_eq]; omega) | exact iAnd_nn _ _ | exact iSub_nn _ _ | exact part1_le (by omega) (by first | omega | (simp only [List.length_append]; omega)) | decide), (by first | omega | (rw [adr_eq]; omega) | exact iAnd_nn _ _ | exact iSub_nn _ _ | exact part1_le (by omega) (by first | omega | (simp only [List.length_append]; omega)) | decide)⟩⟩⟩, (by first | omega | (rw [adr_eq]; omega) | exact iAnd_nn _ _ | exact iSub_nn _ _ | exact part1_le (by omega) (by first | omega | (simp only [List.length_append]; omega)) | decide)⟩, ⟨(rfl), (by first | omega | (rw [adr_eq]; omega) | exact iAnd_nn _ _ | exact iSub_nn _ _ | exact part1_le (by omega) (by first | omega | (simp only [List.length_append]; omega)) | decide)⟩⟩, trivial⟩, ⟨⟨trivial, trivial⟩, trivial⟩⟩⟩⟩⟩⟩) ?_
    refine Tri.ret ?_
    repeat (first | refine thenP_ret ?_ | refine blkP_ret ?_ | refine countP_ret ?_ | refine joinP_ret ?_ | refine iterP_ret ?_)
    exact endP.ret [(96, 0)] (True ∧ True) (by kernel_rfl) (by kernel_rfl) ⟨trivial, trivial⟩

theorem len_FwrText (s : ByteArray) : (FwrText s).length = 4 + s.size := by
  unfold FwrText
  rw [List.length_append, bytesI_length]
  rfl


noncomputable def FwrIntl0 (k0 : Nat) (z0 : Unit) : Unit :=
  ()

noncomputable def FwrInts0 (p0 : List Int) (k0 : Nat) : Bool :=
  (sel ((p0.getD k0 0 : Int) == 0) false true)

noncomputable def FwrInt (p0 : List Int) : List Int :=
  (sel (Nat.blt (fstB (FwrInts0 p0) p0.length) p0.length) (sel (!(strEq (bytesOf ((p0.drop (fstB (FwrInts0 p0) p0.length)).take (p0.length - (fstB (FwrInts0 p0) p0.length)))) (⟨#[]⟩ : ByteArray))) (FwrText (sel (decide (((byteAt (bytesOf ((p0.drop (fstB (FwrInts0 p0) p0.length)).take (p0.length - (fstB (FwrInts0 p0) p0.length)))) 0) : Int) ≥ 128)) ((⟨#[0]⟩ : ByteArray) ++ (bytesOf ((p0.drop (fstB (FwrInts0 p0) p0.length)).take (p0.length - (fstB (FwrInts0 p0) p0.length))))) (bytesOf ((p0.drop (fstB (FwrInts0 p0) p0.length)).take (p0.length - (fstB (FwrInts0 p0) p0.length)))))) (FwrText (bytesOf ((p0.drop (fstB (FwrInts0 p0) p0.length)).take (p0.length - (fstB (FwrInts0 p0) p0.length)))))) (sel (!(strEq (bytesOf ((p0.drop p0.length).take (p0.length - p0.length))) (⟨#[]⟩ : ByteArray))) (FwrText (sel (decide (((byteAt (bytesOf ((p0.drop p0.length).take (p0.length - p0.length))) 0) : Int) ≥ 128)) ((⟨#[0]⟩ : ByteArray) ++ (bytesOf ((p0.drop p0.length).take (p0.length - p0.length)))) (bytesOf ((p0.drop p0.length).take (p0.length - p0.length))))) (FwrText (bytesOf ((p0.drop p0.length).take (p0.length - p0.length))))))

noncomputable def FwrIntn0 (p0 : List Int) : Nat :=
  (sel (Nat.blt (fstB (FwrInts0 p0) p0.length) p0.length) (sel (!(strEq (bytesOf ((p0.drop (fstB (FwrInts0 p0) p0.length)).take (p0.length - (fstB (FwrInts0 p0) p0.length)))) (⟨#[]⟩ : ByteArray))) (4 + (sel (decide (((byteAt (bytesOf ((p0.drop (fstB (FwrInts0 p0) p0.length)).take (p0.length - (fstB (FwrInts0 p0) p0.length)))) 0) : Int) ≥ 128)) ((⟨#[0]⟩ : ByteArray) ++ (bytesOf ((p0.drop (fstB (FwrInts0 p0) p0.length)).take (p0.length - (fstB (FwrInts0 p0) p0.length))))) (bytesOf ((p0.drop (fstB (FwrInts0 p0) p0.length)).take (p0.length - (fstB (FwrInts0 p0) p0.length))))).size) (4 + (bytesOf ((p0.drop (fstB (FwrInts0 p0) p0.length)).take (p0.length - (fstB (FwrInts0 p0) p0.length)))).size)) (sel (!(strEq (bytesOf ((p0.drop p0.length).take (p0.length - p0.length))) (⟨#[]⟩ : ByteArray))) (4 + (sel (decide (((byteAt (bytesOf ((p0.drop p0.length).take (p0.length - p0.length))) 0) : Int) ≥ 128)) ((⟨#[0]⟩ : ByteArray) ++ (bytesOf ((p0.drop p0.length).take (p0.length - p0.length)))) (bytesOf ((p0.drop p0.length).take (p0.length - p0.length)))).size) (4 + (bytesOf ((p0.drop p0.length).take (p0.length - p0.length))).size)))

noncomputable def SwrInt : List AV → List Blk → Option (Prop × Ret)
  | [.sc (.ro .u8 p0)], [] => some ((p0.length ≤ 900000000), ⟨.sc (.sl 0 0 (FwrIntn0 p0) 1 none), [some (.ints .u8 (FwrIntn0 p0) (FwrInt p0))]⟩)
  | _, _ => none

noncomputable def BwrInt : Bs := { P := Go.Proofs.Try.prog, G := noG, tab := tabOf [⟨15, 432, [.val], [], [], ⟨0, 1, SwrText⟩⟩, ⟨15, 480, [.val], [], [], ⟨0, 1, SwrText⟩⟩], n := 33 }

theorem BwrInt.ok : BwrInt.Ok := ⟨tabOk (P := Go.Proofs.Try.prog) (G := noG) (l := [⟨15, 432, [.val], [], [], ⟨0, 1, SwrText⟩⟩, ⟨15, 480, [.val], [], [], ⟨0, 1, SwrText⟩⟩]) (And.intro KwrText (And.intro KwrText True.intro)), mixed⟩

theorem KwrInt : Known Go.Proofs.Try.prog noG 17 ⟨0, 1, SwrInt⟩ := by
  refine Known.walk (B := BwrInt) (fn := Go.Proofs.Try.f17) BwrInt.ok (by kernel_rfl) rfl (by kernel_rfl) (by kernel_rfl) (by decide) (by decide) ?_
  · intro E args ks C r h hC hlen
    simp only at h
    unfold SwrInt at h
    split at h
    rotate_left
    · cases h
    rename_i p0
    cases h
    simp only [lens] at hlen
    refine ⟨show 1 ≤ 33 from by decide, ?_⟩
    refine Tri.sub (Sub.of_eq (show _ = ([(0, .sc (.ro .u8 p0))], []) from rfl)) ?_
    refine Tri.seq_region [] none [0] [] ((True ∧ True) ∧ True)
        ([(0, .sc (.ro .u8 p0))], [])
        32 (by kernel_rfl) rfl (by kernel_rfl) (⟨⟨trivial, trivial⟩, trivial⟩) ?_
    refine Tri.seq_region [] none [3, 0] [] ((True ∧ True) ∧ True)
        ([(3, .sc (.i .i64 0)), (0, .sc (.ro .u8 p0))], [])
        48 (by kernel_rfl) rfl (by kernel_rfl) (⟨⟨trivial, trivial⟩, trivial⟩) ?_
    refine Tri.seq ?_
    refine Tri.block ?_
    refine Tri.count 48 p0.length (FwrIntl0) (()) (fun k0 z0 => (∀ j, j < k0 → (FwrInts0 p0) j = false)) (fun k0 z0 => ([(3, .sc (.i .i64 ((k0 : Nat) : Int))), (0, .sc (.ro .u8 p0))], [])) (fun j hj => absurd hj (Nat.not_lt_zero j)) (Sub.of_eq (by kernel_rfl)) ?_
    intro k0 z0 hk0 hz0 hJ0
    refine Tri.seq ?_
    refine Tri.split (decide ((((k0 : Nat) : Int) : Int) < ((p0.length : Nat) : Int))) (fun h1 => ?_) (fun h1 => ?_)
    ·
      have h1' := of_decide_eq_true h1
      refine Tri.seq_region [(9, qb true)] none [15, 3, 0] [] ((True ∧ True) ∧ ((True ∧ True) ∧ ((True ∧ True) ∧ ((True ∧ True) ∧ ((True ∧ ((decide ((((k0 : Nat) : Int) : Int) < ((p0.length : Nat) : Int))) = true)) ∧ ((True ∧ True) ∧ ((True ∧ True) ∧ ((((0 : Int) ≤ ((k0 : Nat) : Int) ∧ ((k0 : Nat) : Int) < (p0.length : Int)) ∧ True) ∧ (((k0 < p0.length) ∧ True) ∧ ((True ∧ True) ∧ ((True ∧ True) ∧ True)))))))))))
          ([(15, .sc (.b ((p0.getD k0 0 : Int) == 0))), (3, .sc (.i .i64 ((k0 : Nat) : Int))), (0, .sc (.ro .u8 p0))], [])
          224 (by kernel_rfl) rfl (by kernel_rfl) (⟨⟨trivial, trivial⟩, ⟨⟨trivial, trivial⟩, ⟨⟨trivial, trivial⟩, ⟨⟨trivial, trivial⟩, ⟨⟨trivial, (h1)⟩, ⟨⟨trivial, trivial⟩, ⟨⟨trivial, trivial⟩, ⟨⟨(by first | omega | decide | (simp only [size_bytesOf, List.length_take, List.length_drop, ByteArray.size_append]; omega) | exact ⟨by decide, by have := strEq_nz (by assumption); omega⟩ | exact size_sel (by rw [ByteArray.size_append, size_bytesOf, List.length_take, List.length_drop]; show 1 + _ ≤ _; omega) (by rw [size_bytesOf, List.length_take, List.length_drop]; omega) | (simp only [size_bytesOf, List.length_take, List.length_drop]; show 1 + _ ≤ _; omega)), trivial⟩, ⟨⟨(by first | omega | decide | (simp only [size_bytesOf, List.length_take, List.length_drop, ByteArray.size_append]; omega) | exact ⟨by decide, by have := strEq_nz (by assumption); omega⟩ | exact size_sel (by rw [ByteArray.size_append, size_bytesOf, List.length_take, List.length_drop]; show 1 + _ ≤ _; omega) (by rw [size_bytesOf, List.length_take, List.length_drop]; omega) | (simp only [size_bytesOf, List.length_take, List.length_drop]; show 1 + _ ≤ _; omega)), trivial⟩, ⟨⟨trivial, trivial⟩, ⟨⟨trivial, trivial⟩, trivial⟩⟩⟩⟩⟩⟩⟩⟩⟩⟩⟩) ?_
      refine Tri.cond (x := ((p0.getD k0 0 : Int) == 0)) (by kernel_rfl) (fun h2 => ?_) (fun h2 => ?_)
      ·
        have h2' := eq_true_i h2
        refine Tri.skip ?_
        change Tri _ _ _ _ _ _
        refine Tri.block ?_
        refine Tri.region' [(17, qi ((k0 + 1 : Nat) : Int))] none [3, 0] [] ((True ∧ True) ∧ ((True ∧ ((iAdd .i64 ((k0 : Nat) : Int) 1) = ((k0 + 1 : Nat) : Int))) ∧ ((True ∧ True) ∧ True)))
            ([(3, .sc (.i .i64 ((k0 + 1 : Nat) : Int))), (0, .sc (.ro .u8 p0))], [])
            272 (by kernel_rfl) rfl (by kernel_rfl) (⟨⟨trivial, trivial⟩, ⟨⟨trivial, (iAdd_nat (a := k0) (b := 1) (by omega))⟩, ⟨⟨trivial, trivial⟩, trivial⟩⟩⟩) ?_
        repeat (refine blkP_normal ?_)
        refine countP_normal (by omega) (below_succ hJ0 (by subst hz0; simp only [FwrInts0, h1, h2, sel_true, sel_false])) ?_
        exact Sub.ren (ns := []) (kf := [3, 0]) (by kernel_rfl) (by kernel_rfl)
      ·
        have h2' := eq_false_i h2
        refine Tri.exit ?_
        subst hz0
        have hf0 : fstB (FwrInts0 p0) p0.length = k0 := fst_found (by omega) hJ0 (by simp only [FwrInts0, h1, h2, sel_true, sel_false])
        have hb0 : Nat.blt k0 p0.length = true := blt_true (by omega)
        have hq0 : Nat.blt (fstB (FwrInts0 p0) p0.length) p0.length = true := by rw [hf0]; exact hb0
        change Tri _ _ _ _ _ _
        refine Tri.seq_region [] none [4] [] ((True ∧ True) ∧ ((True ∧ True) ∧ ((((0 : Int) ≤ ((k0 : Nat) : Int) ∧ (((k0 : Nat) : Int) : Int) ≤ ((p0.length : Nat) : Int) ∧ ((p0.length : Nat) : Int) ≤ (p0.length : Int)) ∧ True) ∧ ((True ∧ True) ∧ ((True ∧ True) ∧ True)))))
            ([(4, .sc (.s (bytesOf ((p0.drop k0).take (p0.length - k0)))))], [])
            304 (by kernel_rfl) rfl (by kernel_rfl) (⟨⟨trivial, trivial⟩, ⟨⟨trivial, trivial⟩, ⟨⟨(by first | omega | decide | (simp only [size_bytesOf, List.length_take, List.length_drop, ByteArray.size_append]; omega) | exact ⟨by decide, by have := strEq_nz (by assumption); omega⟩ | exact size_sel (by rw [ByteArray.size_append, size_bytesOf, List.length_take, List.length_drop]; show 1 + _ ≤ _; omega) (by rw [size_bytesOf, List.length_take, List.length_drop]; omega) | (simp only [size_bytesOf, List.length_take, List.length_drop]; show 1 + _ ≤ _; omega)), trivial⟩, ⟨⟨trivial, trivial⟩, ⟨⟨trivial, trivial⟩, trivial⟩⟩⟩⟩⟩) ?_
        refine Tri.seq ?_
        refine Tri.split (!(strEq (bytesOf ((p0.drop k0).take (p0.length - k0))) (⟨#[]⟩ : ByteArray))) (fun h3 => ?_) (fun h3 => ?_)
        ·
          refine Tri.seq_region [(24, qb true)] none [28, 4] [] ((True ∧ True) ∧ ((True ∧ True) ∧ ((True ∧ ((!(strEq (bytesOf ((p0.drop k0).take (p0.length - k0))) (⟨#[]⟩ : ByteArray))) = true)) ∧ ((True ∧ True) ∧ ((((0 : Int) ≤ 0 ∧ 0 < ((bytesOf ((p0.drop k0).take (p0.length - k0))).size : Int)) ∧ True) ∧ ((True ∧ True) ∧ ((True ∧ True) ∧ True)))))))
              ([(28, .sc (.b (decide (((byteAt (bytesOf ((p0.drop k0).take (p0.length - k0))) 0) : Int) ≥ 128)))), (4, .sc (.s (bytesOf ((p0.drop k0).take (p0.length - k0)))))], [])
              416 (by kernel_rfl) rfl (by kernel_rfl) (⟨⟨trivial, trivial⟩, ⟨⟨trivial, trivial⟩, ⟨⟨trivial, (h3)⟩, ⟨⟨trivial, trivial⟩, ⟨⟨(by first | omega | decide | (simp only [size_bytesOf, List.length_take, List.length_drop, ByteArray.size_append]; omega) | exact ⟨by decide, by have := strEq_nz (by assumption); omega⟩ | exact size_sel (by rw [ByteArray.size_append, size_bytesOf, List.length_take, List.length_drop]; show 1 + _ ≤ _; omega) (by rw [size_bytesOf, List.length_take, List.length_drop]; omega) | (simp only [size_bytesOf, List.length_take, List.length_drop]; show 1 + _ ≤ _; omega)), trivial⟩, ⟨⟨trivial, trivial⟩, ⟨⟨trivial, trivial⟩, trivial⟩⟩⟩⟩⟩⟩⟩) ?_
          refine Tri.join (x := (decide (((byteAt (bytesOf ((p0.drop k0).take (p0.length - k0))) 0) : Int) ≥ 128))) (fun bb => ([(4, .sc (.s (sel bb ((⟨#[0]⟩ : ByteArray) ++ (bytesOf ((p0.drop k0).take (p0.length - k0)))) (bytesOf ((p0.drop k0).take (p0.length - k0))))))], [])) 464 (by kernel_rfl) (fun h4 => ?_) (fun h4 => ?_) ?_
          ·
            have h4' := of_decide_eq_true h4
            refine Tri.region' [] none [4] [] ((True ∧ True) ∧ ((((⟨#[0]⟩ : ByteArray).size + (bytesOf ((p0.drop k0).take (p0.length - k0))).size ≤ 9223372036854775807) ∧ True) ∧ ((True ∧ True) ∧ True)))
                ([(4, .sc (.s ((⟨#[0]⟩ : ByteArray) ++ (bytesOf ((p0.drop k0).take (p0.length - k0))))))], [])
                464 (by kernel_rfl) rfl (by kernel_rfl) (⟨⟨trivial, trivial⟩, ⟨⟨(by first | omega | decide | (simp only [size_bytesOf, List.length_take, List.length_drop, ByteArray.size_append]; omega) | exact ⟨by decide, by have := strEq_nz (by assumption); omega⟩ | exact size_sel (by rw [ByteArray.size_append, size_bytesOf, List.length_take, List.length_drop]; show 1 + _ ≤ _; omega) (by rw [size_bytesOf, List.length_take, List.length_drop]; omega) | (simp only [size_bytesOf, List.length_take, List.length_drop]; show 1 + _ ≤ _; omega)), trivial⟩, ⟨⟨trivial, trivial⟩, trivial⟩⟩⟩) ?_
            exact (Sub.ren (ns := []) (kf := [4]) (s' := ([(4, .sc (.s ((⟨#[0]⟩ : ByteArray) ++ (bytesOf ((p0.drop k0).take (p0.length - k0))))))], [])) (by kernel_rfl) (by kernel_rfl)).trans (Sub.of_eq (by simp only [sel_true, sel_false]))
          ·
            have h4' := of_decide_eq_false h4
            refine Tri.skip ?_
            exact (Sub.ren (ns := []) (kf := [4]) (s' := ([(4, .sc (.s (bytesOf ((p0.drop k0).take (p0.length - k0)))))], [])) (by kernel_rfl) (by kernel_rfl)).trans (Sub.of_eq (by simp only [sel_true, sel_false]))
          ·
            change Tri _ _ _ _ _ _
            refine Tri.seq_region [] none [2] [480] ((True ∧ True) ∧ (((True ∧ ((sel (decide (((byteAt (bytesOf ((p0.drop k0).take (p0.length - k0))) 0) : Int) ≥ 128)) ((⟨#[0]⟩ : ByteArray) ++ (bytesOf ((p0.drop k0).take (p0.length - k0)))) (bytesOf ((p0.drop k0).take (p0.length - k0)))).size ≤ 1000000000)) ∧ True) ∧ ((True ∧ True) ∧ True)))
                ([(2, .sc (.sl 480 0 (4 + (sel (decide (((byteAt (bytesOf ((p0.drop k0).take (p0.length - k0))) 0) : Int) ≥ 128)) ((⟨#[0]⟩ : ByteArray) ++ (bytesOf ((p0.drop k0).take (p0.length - k0)))) (bytesOf ((p0.drop k0).take (p0.length - k0)))).size) 1 none))], [(480, .ints .u8 (4 + (sel (decide (((byteAt (bytesOf ((p0.drop k0).take (p0.length - k0))) 0) : Int) ≥ 128)) ((⟨#[0]⟩ : ByteArray) ++ (bytesOf ((p0.drop k0).take (p0.length - k0)))) (bytesOf ((p0.drop k0).take (p0.length - k0)))).size) (FwrText (sel (decide (((byteAt (bytesOf ((p0.drop k0).take (p0.length - k0))) 0) : Int) ≥ 128)) ((⟨#[0]⟩ : ByteArray) ++ (bytesOf ((p0.drop k0).take (p0.length - k0)))) (bytesOf ((p0.drop k0).take (p0.length - k0))))))])
                512 (by kernel_rfl) rfl (by kernel_rfl) (⟨⟨trivial, trivial⟩, ⟨⟨⟨trivial, (by first | omega | decide | (simp only [size_bytesOf, List.length_take, List.length_drop, ByteArray.size_append]; omega) | exact ⟨by decide, by have := strEq_nz (by assumption); omega⟩ | exact size_sel (by rw [ByteArray.size_append, size_bytesOf, List.length_take, List.length_drop]; show 1 + _ ≤ _; omega) (by rw [size_bytesOf, List.length_take, List.length_drop]; omega) | (simp only [size_bytesOf, List.length_take, List.length_drop]; show 1 + _ ≤ _; omega))⟩, trivial⟩, ⟨⟨trivial, trivial⟩, trivial⟩⟩⟩) ?_
            refine Tri.ret ?_
            repeat (first | refine thenP_ret ?_ | refine blkP_ret ?_ | refine countP_ret ?_ | refine joinP_ret ?_ | refine iterP_ret ?_)
            refine endP.conv (r' := ⟨.sc (.sl 0 0 (4 + (sel (decide (((byteAt (bytesOf ((p0.drop k0).take (p0.length - k0))) 0) : Int) ≥ 128)) ((⟨#[0]⟩ : ByteArray) ++ (bytesOf ((p0.drop k0).take (p0.length - k0)))) (bytesOf ((p0.drop k0).take (p0.length - k0)))).size) 1 none), [some (.ints .u8 (4 + (sel (decide (((byteAt (bytesOf ((p0.drop k0).take (p0.length - k0))) 0) : Int) ≥ 128)) ((⟨#[0]⟩ : ByteArray) ++ (bytesOf ((p0.drop k0).take (p0.length - k0)))) (bytesOf ((p0.drop k0).take (p0.length - k0)))).size) (FwrText (sel (decide (((byteAt (bytesOf ((p0.drop k0).take (p0.length - k0))) 0) : Int) ≥ 128)) ((⟨#[0]⟩ : ByteArray) ++ (bytesOf ((p0.drop k0).take (p0.length - k0)))) (bytesOf ((p0.drop k0).take (p0.length - k0))))))]⟩) (by simp only [FwrInt, FwrIntn0, hq0, hf0, hb0, h3, sel_true, sel_false]) ?_
            exact endP.ret [(480, 0)] (True ∧ True) (by kernel_rfl) (by kernel_rfl) ⟨trivial, trivial⟩
        ·
          refine Tri.seq_region [(24, qb false)] none [28, 4] [] ((True ∧ True) ∧ ((True ∧ True) ∧ ((True ∧ ((!(strEq (bytesOf ((p0.drop k0).take (p0.length - k0))) (⟨#[]⟩ : ByteArray))) = false)) ∧ ((True ∧ True) ∧ ((True ∧ True) ∧ ((True ∧ True) ∧ ((True ∧ True) ∧ True)))))))
              ([(28, .sc (.b false)), (4, .sc (.s (bytesOf ((p0.drop k0).take (p0.length - k0)))))], [])
              416 (by kernel_rfl) rfl (by kernel_rfl) (⟨⟨trivial, trivial⟩, ⟨⟨trivial, trivial⟩, ⟨⟨trivial, (h3)⟩, ⟨⟨trivial, trivial⟩, ⟨⟨trivial, trivial⟩, ⟨⟨trivial, trivial⟩, ⟨⟨trivial, trivial⟩, trivial⟩⟩⟩⟩⟩⟩⟩) ?_
          refine Tri.cond_false (by kernel_rfl) ?_
          refine Tri.skip ?_
          change Tri _ _ _ _ _ _
          refine Tri.seq_region [] none [2] [432] ((True ∧ True) ∧ (((True ∧ ((bytesOf ((p0.drop k0).take (p0.length - k0))).size ≤ 1000000000)) ∧ True) ∧ ((True ∧ True) ∧ True)))
              ([(2, .sc (.sl 432 0 (4 + (bytesOf ((p0.drop k0).take (p0.length - k0))).size) 1 none))], [(432, .ints .u8 (4 + (bytesOf ((p0.drop k0).take (p0.length - k0))).size) (FwrText (bytesOf ((p0.drop k0).take (p0.length - k0)))))])
              464 (by kernel_rfl) rfl (by kernel_rfl) (⟨⟨trivial, trivial⟩, ⟨⟨⟨trivial, (by first | omega | decide | (simp only [size_bytesOf, List.length_take, List.length_drop, ByteArray.size_append]; omega) | exact ⟨by decide, by have := strEq_nz (by assumption); omega⟩ | exact size_sel (by rw [ByteArray.size_append, size_bytesOf, List.length_take, List.length_drop]; show 1 + _ ≤ _; omega) (by rw [size_bytesOf, List.length_take, List.length_drop]; omega) | (simp only [size_bytesOf, List.length_take, List.length_drop]; show 1 + _ ≤ _; omega))⟩, trivial⟩, ⟨⟨trivial, trivial⟩, trivial⟩⟩⟩) ?_
          refine Tri.ret ?_
          repeat (first | refine thenP_ret ?_ | refine blkP_ret ?_ | refine countP_ret ?_ | refine joinP_ret ?_ | refine iterP_ret ?_)
          refine endP.conv (r' := ⟨.sc (.sl 0 0 (4 + (bytesOf ((p0.drop k0).take (p0.length - k0))).size) 1 none), [some (.ints .u8 (4 + (bytesOf ((p0.drop k0).take (p0.length - k0))).size) (FwrText (bytesOf ((p0.drop k0).take (p0.length - k0)))))]⟩) (by simp only [FwrInt, FwrIntn0, hq0, hf0, hb0, h3, sel_true, sel_false]) ?_
          exact endP.ret [(432, 0)] (True ∧ True) (by kernel_rfl) (by kernel_rfl) ⟨trivial, trivial⟩
    ·
      have h1' := of_decide_eq_false h1
      refine Tri.seq_region [(9, qb false)] none [15, 3, 0] [] ((True ∧ True) ∧ ((True ∧ True) ∧ ((True ∧ True) ∧ ((True ∧ True) ∧ ((True ∧ ((decide ((((k0 : Nat) : Int) : Int) < ((p0.length : Nat) : Int))) = false)) ∧ ((True ∧ True) ∧ ((True ∧ True) ∧ ((True ∧ True) ∧ ((True ∧ True) ∧ ((True ∧ True) ∧ ((True ∧ True) ∧ True)))))))))))
          ([(15, .sc (.b false)), (3, .sc (.i .i64 ((k0 : Nat) : Int))), (0, .sc (.ro .u8 p0))], [])
          224 (by kernel_rfl) rfl (by kernel_rfl) (⟨⟨trivial, trivial⟩, ⟨⟨trivial, trivial⟩, ⟨⟨trivial, trivial⟩, ⟨⟨trivial, trivial⟩, ⟨⟨trivial, (h1)⟩, ⟨⟨trivial, trivial⟩, ⟨⟨trivial, trivial⟩, ⟨⟨trivial, trivial⟩, ⟨⟨trivial, trivial⟩, ⟨⟨trivial, trivial⟩, ⟨⟨trivial, trivial⟩, trivial⟩⟩⟩⟩⟩⟩⟩⟩⟩⟩⟩) ?_
      refine Tri.cond_false (by kernel_rfl) ?_
      refine Tri.exit ?_
      have hend0 : k0 = p0.length := by (have := of_decide_eq_false h1; omega)
      subst hend0; subst hz0
      have hf0 : fstB (FwrInts0 p0) p0.length = p0.length := fst_none hJ0
      have hb0 : Nat.blt p0.length p0.length = false := blt_self _
      have hq0 : Nat.blt (fstB (FwrInts0 p0) p0.length) p0.length = false := by rw [hf0]; exact hb0
      change Tri _ _ _ _ _ _
      refine Tri.seq_region [] none [4] [] ((True ∧ True) ∧ ((True ∧ True) ∧ ((((0 : Int) ≤ ((p0.length : Nat) : Int) ∧ (((p0.length : Nat) : Int) : Int) ≤ ((p0.length : Nat) : Int) ∧ ((p0.length : Nat) : Int) ≤ (p0.length : Int)) ∧ True) ∧ ((True ∧ True) ∧ ((True ∧ True) ∧ True)))))
          ([(4, .sc (.s (bytesOf ((p0.drop p0.length).take (p0.length - p0.length)))))], [])
          304 (by kernel_rfl) rfl (by kernel_rfl) (⟨⟨trivial, trivial⟩, ⟨⟨trivial, trivial⟩, ⟨⟨(by first | omega | decide | (simp only [size_bytesOf, List.length_take, List.length_drop, ByteArray.size_append]; omega) | exact ⟨by decide, by have := strEq_nz (by assumption); omega⟩ | exact size_sel (by rw [ByteArray.size_append, size_bytesOf, List.length_take, List.length_drop]; show 1 + _ ≤ _; omega) (by rw [size_bytesOf, List.length_take, List.length_drop]; omega) | (simp only [size_bytesOf, List.length_take, List.length_drop]; show 1 + _ ≤ _; omega)), trivial⟩, ⟨⟨trivial, trivial⟩, ⟨⟨trivial, trivial⟩, trivial⟩⟩⟩⟩⟩) ?_
      refine Tri.seq ?_
      refine Tri.split (!(strEq (bytesOf ((p0.drop p0.length).take (p0.length - p0.length))) (⟨#[]⟩ : ByteArray))) (fun h5 => ?_) (fun h5 => ?_)
      ·
        refine Tri.seq_region [(24, qb true)] none [28, 4] [] ((True ∧ True) ∧ ((True ∧ True) ∧ ((True ∧ ((!(strEq (bytesOf ((p0.drop p0.length).take (p0.length - p0.length))) (⟨#[]⟩ : ByteArray))) = true)) ∧ ((True ∧ True) ∧ ((((0 : Int) ≤ 0 ∧ 0 < ((bytesOf ((p0.drop p0.length).take (p0.length - p0.length))).size : Int)) ∧ True) ∧ ((True ∧ True) ∧ ((True ∧ True) ∧ True)))))))
            ([(28, .sc (.b (decide (((byteAt (bytesOf ((p0.drop p0.length).take (p0.length - p0.length))) 0) : Int) ≥ 128)))), (4, .sc (.s (bytesOf ((p0.drop p0.length).take (p0.length - p0.length)))))], [])
            416 (by kernel_rfl) rfl (by kernel_rfl) (⟨⟨trivial, trivial⟩, ⟨⟨trivial, trivial⟩, ⟨⟨trivial, (h5)⟩, ⟨⟨trivial, trivial⟩, ⟨⟨(by first | omega | decide | (simp only [size_bytesOf, List.length_take, List.length_drop, ByteArray.size_append]; omega) | exact ⟨by decide, by have := strEq_nz (by assumption); omega⟩ | exact size_sel (by rw [ByteArray.size_append, size_bytesOf, List.length_take, List.length_drop]; show 1 + _ ≤ _; omega) (by rw [size_bytesOf, List.length_take, List.length_drop]; omega) | (simp only [size_bytesOf, List.length_take, List.length_drop]; show 1 + _ ≤ _; omega)), trivial⟩, ⟨⟨trivial, trivial⟩, ⟨⟨trivial, trivial⟩, trivial⟩⟩⟩⟩⟩⟩⟩) ?_
        refine Tri.join (x := (decide (((byteAt (bytesOf ((p0.drop p0.length).take (p0.length - p0.length))) 0) : Int) ≥ 128))) (fun bb => ([(4, .sc (.s (sel bb ((⟨#[0]⟩ : ByteArray) ++ (bytesOf ((p0.drop p0.length).take (p0.length - p0.length)))) (bytesOf ((p0.drop p0.length).take (p0.length - p0.length))))))], [])) 464 (by kernel_rfl) (fun h6 => ?_) (fun h6 => ?_) ?_
        ·
          have h6' := of_decide_eq_true h6
          refine Tri.region' [] none [4] [] ((True ∧ True) ∧ ((((⟨#[0]⟩ : ByteArray).size + (bytesOf ((p0.drop p0.length).take (p0.length - p0.length))).size ≤ 9223372036854775807) ∧ True) ∧ ((True ∧ True) ∧ True)))
              ([(4, .sc (.s ((⟨#[0]⟩ : ByteArray) ++ (bytesOf ((p0.drop p0.length).take (p0.length - p0.length))))))], [])
              464 (by kernel_rfl) rfl (by kernel_rfl) (⟨⟨trivial, trivial⟩, ⟨⟨(by first | omega | decide | (simp only [size_bytesOf, List.length_take, List.length_drop, ByteArray.size_append]; omega) | exact ⟨by decide, by have := strEq_nz (by assumption); omega⟩ | exact size_sel (by rw [ByteArray.size_append, size_bytesOf, List.length_take, List.length_drop]; show 1 + _ ≤ _; omega) (by rw [size_bytesOf, List.length_take, List.length_drop]; omega) | (simp only [size_bytesOf, List.length_take, List.length_drop]; show 1 + _ ≤ _; omega)), trivial⟩, ⟨⟨trivial, trivial⟩, trivial⟩⟩⟩) ?_
          exact (Sub.ren (ns := []) (kf := [4]) (s' := ([(4, .sc (.s ((⟨#[0]⟩ : ByteArray) ++ (bytesOf ((p0.drop p0.length).take (p0.length - p0.length))))))], [])) (by kernel_rfl) (by kernel_rfl)).trans (Sub.of_eq (by simp only [sel_true, sel_false]))
        ·
          have h6' := of_decide_eq_false h6
          refine Tri.skip ?_
          exact (Sub.ren (ns := []) (kf := [4]) (s' := ([(4, .sc (.s (bytesOf ((p0.drop p0.length).take (p0.length - p0.length)))))], [])) (by kernel_rfl) (by kernel_rfl)).trans (Sub.of_eq (by simp only [sel_true, sel_false]))
        ·
          change Tri _ _ _ _ _ _
          refine Tri.seq_region [] none [2] [480] ((True ∧ True) ∧ (((True ∧ ((sel (decide (((byteAt (bytesOf ((p0.drop p0.length).take (p0.length - p0.length))) 0) : Int) ≥ 128)) ((⟨#[0]⟩ : ByteArray) ++ (bytesOf ((p0.drop p0.length).take (p0.length - p0.length)))) (bytesOf ((p0.drop p0.length).take (p0.length - p0.length)))).size ≤ 1000000000)) ∧ True) ∧ ((True ∧ True) ∧ True)))
              ([(2, .sc (.sl 480 0 (4 + (sel (decide (((byteAt (bytesOf ((p0.drop p0.length).take (p0.length - p0.length))) 0) : Int) ≥ 128)) ((⟨#[0]⟩ : ByteArray) ++ (bytesOf ((p0.drop p0.length).take (p0.length - p0.length)))) (bytesOf ((p0.drop p0.length).take (p0.length - p0.length)))).size) 1 none))], [(480, .ints .u8 (4 + (sel (decide (((byteAt (bytesOf ((p0.drop p0.length).take (p0.length - p0.length))) 0) : Int) ≥ 128)) ((⟨#[0]⟩ : ByteArray) ++ (bytesOf ((p0.drop p0.length).take (p0.length - p0.length)))) (bytesOf ((p0.drop p0.length).take (p0.length - p0.length)))).size) (FwrText (sel (decide (((byteAt (bytesOf ((p0.drop p0.length).take (p0.length - p0.length))) 0) : Int) ≥ 128)) ((⟨#[0]⟩ : ByteArray) ++ (bytesOf ((p0.drop p0.length).take (p0.length - p0.length)))) (bytesOf ((p0.drop p0.length).take (p0.length - p0.length))))))])
              512 (by kernel_rfl) rfl (by kernel_rfl) (⟨⟨trivial, trivial⟩, ⟨⟨⟨trivial, (by first | omega | decide | (simp only [size_bytesOf, List.length_take, List.length_drop, ByteArray.size_append]; omega) | exact ⟨by decide, by have := strEq_nz (by assumption); omega⟩ | exact size_sel (by rw [ByteArray.size_append, size_bytesOf, List.length_take, List.length_drop]; show 1 + _ ≤ _; omega) (by rw [size_bytesOf, List.length_take, List.length_drop]; omega) | (simp only [size_bytesOf, List.length_take, List.length_drop]; show 1 + _ ≤ _; omega))⟩, trivial⟩, ⟨⟨trivial, trivial⟩, trivial⟩⟩⟩) ?_
          refine Tri.ret ?_
          repeat (first | refine thenP_ret ?_ | refine blkP_ret ?_ | refine countP_ret ?_ | refine joinP_ret ?_ | refine iterP_ret ?_)
          refine endP.conv (r' := ⟨.sc (.sl 0 0 (4 + (sel (decide (((byteAt (bytesOf ((p0.drop p0.length).take (p0.length - p0.length))) 0) : Int) ≥ 128)) ((⟨#[0]⟩ : ByteArray) ++ (bytesOf ((p0.drop p0.length).take (p0.length - p0.length)))) (bytesOf ((p0.drop p0.length).take (p0.length - p0.length)))).size) 1 none), [some (.ints .u8 (4 + (sel (decide (((byteAt (bytesOf ((p0.drop p0.length).take (p0.length - p0.length))) 0) : Int) ≥ 128)) ((⟨#[0]⟩ : ByteArray) ++ (bytesOf ((p0.drop p0.length).take (p0.length - p0.length)))) (bytesOf ((p0.drop p0.length).take (p0.length - p0.length)))).size) (FwrText (sel (decide (((byteAt (bytesOf ((p0.drop p0.length).take (p0.length - p0.length))) 0) : Int) ≥ 128)) ((⟨#[0]⟩ : ByteArray) ++ (bytesOf ((p0.drop p0.length).take (p0.length - p0.length)))) (bytesOf ((p0.drop p0.length).take (p0.length - p0.length))))))]⟩) (by simp only [FwrInt, FwrIntn0, hq0, hf0, hb0, h5, sel_true, sel_false]) ?_
          exact endP.ret [(480, 0)] (True ∧ True) (by kernel_rfl) (by kernel_rfl) ⟨trivial, trivial⟩
      ·
        refine Tri.seq_region [(24, qb false)] none [28, 4] [] ((True ∧ True) ∧ ((True ∧ True) ∧ ((True ∧ ((!(strEq (bytesOf ((p0.drop p0.length).take (p0.length - p0.length))) (⟨#[]⟩ : ByteArray))) = false)) ∧ ((True ∧ True) ∧ ((True ∧ True) ∧ ((True ∧ True) ∧ ((True ∧ True) ∧ True)))))))
            ([(28, .sc (.b false)), (4, .sc (.s (bytesOf ((p0.drop p0.length).take (p0.length - p0.length)))))], [])
            416 (by kernel_rfl) rfl (by kernel_rfl) (⟨⟨trivial, trivial⟩, ⟨⟨trivial, trivial⟩, ⟨⟨trivial, (h5)⟩, ⟨⟨trivial, trivial⟩, ⟨⟨trivial, trivial⟩, ⟨⟨trivial, trivial⟩, ⟨⟨trivial, trivial⟩, trivial⟩⟩⟩⟩⟩⟩⟩) ?_
        refine Tri.cond_false (by kernel_rfl) ?_
        refine Tri.skip ?_
        change Tri _ _ _ _ _ _
        refine Tri.seq_region [] none [2] [432] ((True ∧ True) ∧ (((True ∧ ((bytesOf ((p0.drop p0.length).take (p0.length - p0.length))).size ≤ 1000000000)) ∧ True) ∧ ((True ∧ True) ∧ True)))
            ([(2, .sc (.sl 432 0 (4 + (bytesOf ((p0.drop p0.length).take (p0.length - p0.length))).size) 1 none))], [(432, .ints .u8 (4 + (bytesOf ((p0.drop p0.length).take (p0.length - p0.length))).size) (FwrText (bytesOf ((p0.drop p0.length).take (p0.length - p0.length)))))])
            464 (by kernel_rfl) rfl (by kernel_rfl) (⟨⟨trivial, trivial⟩, ⟨⟨⟨trivial, (by first | omega | decide | (simp only [size_bytesOf, List.length_take, List.length_drop, ByteArray.size_append]; omega) | exact ⟨by decide, by have := strEq_nz (by assumption); omega⟩ | exact size_sel (by rw [ByteArray.size_append, size_bytesOf, List.length_take, List.length_drop]; show 1 + _ ≤ _; omega) (by rw [size_bytesOf, List.length_take, List.length_drop]; omega) | (simp only [size_bytesOf, List.length_take, List.length_drop]; show 1 + _ ≤ _; omega))⟩, trivial⟩, ⟨⟨trivial, trivial⟩, trivial⟩⟩⟩) ?_
        refine Tri.ret ?_
        repeat (first | refine thenP_ret ?_ | refine blkP_ret ?_ | refine countP_ret ?_ | refine joinP_ret ?_ | refine iterP_ret ?_)
        refine endP.conv (r' := ⟨.sc (.sl 0 0 (4 + (bytesOf ((p0.drop p0.length).take (p0.length - p0.length))).size) 1 none), [some (.ints .u8 (4 + (bytesOf ((p0.drop p0.length).take (p0.length - p0.length))).size) (FwrText (bytesOf ((p0.drop p0.length).take (p0.length - p0.length)))))]⟩) (by simp only [FwrInt, FwrIntn0, hq0, hf0, hb0, h5, sel_true, sel_false]) ?_
        exact endP.ret [(432, 0)] (True ∧ True) (by kernel_rfl) (by kernel_rfl) ⟨trivial, trivial⟩

theorem le_FwrInt (p : List Int) : (FwrInt p).length ≤ p.length + 5 ∧ FwrIntn0 p ≤ p.length + 5 := by
  have s0 : ∀ (b : Bool) (x y : Nat), x ≤ p.length + 5 → y ≤ p.length + 5 → sel b x y ≤ p.length + 5 := by
    intro b x y hx hy
    cases b
    · rw [sel_false]; exact hy
    · rw [sel_true]; exact hx
  have t0 : ∀ (b : Bool) (u : ByteArray), u.size ≤ p.length → 4 + (sel b ((⟨#[0]⟩ : ByteArray) ++ u) u).size ≤ p.length + 5 := by
    intro b u hu
    have : (sel b ((⟨#[0]⟩ : ByteArray) ++ u) u).size ≤ u.size + 1 := size_sel (by rw [ByteArray.size_append]; show 1 + _ ≤ _; omega) (by omega)
    omega
  have d0 : ∀ k, (bytesOf ((p.drop k).take (p.length - k))).size ≤ p.length := fun k => by rw [size_bytesOf, List.length_take, List.length_drop]; omega
  unfold FwrInt FwrIntn0
  have d1 := d0 (fstB (FwrInts0 p) p.length)
  have d2 := d0 p.length
  exact ⟨len_sel (len_sel (by rw [len_FwrText]; exact t0 _ _ d1) (by rw [len_FwrText]; omega)) (len_sel (by rw [len_FwrText]; exact t0 _ _ d2) (by rw [len_FwrText]; omega)),
    s0 _ _ _ (s0 _ _ _ (t0 _ _ d1) (by omega)) (s0 _ _ _ (t0 _ _ d2) (by omega))⟩

theorem sum_step : ∀ (p : List ByteArray) (k : Nat), k < p.length → (sumB (p.take k) + (p.getD k (⟨#[]⟩ : ByteArray)).size = sumB (p.take (k + 1)) ∧ sumB (p.take (k + 1)) ≤ sumB p)
  | [], k, h => absurd h (Nat.not_lt_zero k)
  | x :: p, 0, _ => ⟨by simp [sumB], by simp [sumB]⟩
  | x :: p, k + 1, h => by
    obtain ⟨h1, h2⟩ := sum_step p k (by simpa using h)
    refine ⟨?_, ?_⟩
    · simp only [List.take_succ_cons, sumB, List.getD_cons_succ]; omega
    · simp only [List.take_succ_cons, sumB] at h2 ⊢; omega
theorem size_sel2 {b : Bool} {x y : ByteArray} {n : Nat} (hx : x.size ≤ n) (hy : y.size ≤ n) : (sel b x y).size ≤ n := by
  cases b
  · rw [sel_false]; exact hy
  · rw [sel_true]; exact hx
noncomputable def FwrNamesl0 (p0 : List ByteArray) (k0 : Nat) (z0 : ByteArray) : ByteArray :=
  ((sel (decide ((((k0 : Nat) : Int) : Int) > 0)) (z0 ++ (⟨#[44]⟩ : ByteArray)) z0) ++ p0.getD k0 ⟨#[]⟩)

noncomputable def FwrNames (p0 : List ByteArray) : List Int :=
  (FwrText (itr (FwrNamesl0 p0) p0.length (⟨#[]⟩ : ByteArray)))

noncomputable def FwrNamesn0 (p0 : List ByteArray) : Nat :=
  4 + (itr (FwrNamesl0 p0) p0.length (⟨#[]⟩ : ByteArray)).size

noncomputable def SwrNames : List AV → List Blk → Option (Prop × Ret)
  | [.sc (.ros p0)], [] => some ((sumB p0 ≤ 500000000 ∧ p0.length ≤ 500000000), ⟨.sc (.sl 0 0 (FwrNamesn0 p0) 1 none), [some (.ints .u8 (FwrNamesn0 p0) (FwrNames p0))]⟩)
  | _, _ => none

noncomputable def BwrNames : Bs := { P := Go.Proofs.Try.prog, G := noG, tab := tabOf [⟨15, 144, [.val], [], [], ⟨0, 1, SwrText⟩⟩], n := 23 }

theorem BwrNames.ok : BwrNames.Ok := ⟨tabOk (P := Go.Proofs.Try.prog) (G := noG) (l := [⟨15, 144, [.val], [], [], ⟨0, 1, SwrText⟩⟩]) (And.intro KwrText True.intro), mixed⟩

theorem KwrNames : Known Go.Proofs.Try.prog noG 16 ⟨0, 1, SwrNames⟩ := by
  refine Known.walk (B := BwrNames) (fn := Go.Proofs.Try.f16) BwrNames.ok (by kernel_rfl) rfl (by kernel_rfl) (by kernel_rfl) (by decide) (by decide) ?_
  · intro E args ks C r h hC hlen
    simp only at h
    unfold SwrNames at h
    split at h
    rotate_left
    · cases h
    rename_i p0
    cases h
    simp only [lens] at hlen
    refine ⟨show 1 ≤ 23 from by decide, ?_⟩
    refine Tri.sub (Sub.of_eq (show _ = ([(0, .sc (.ros p0))], []) from rfl)) ?_
    refine Tri.seq_region [] none [0] [] ((True ∧ True) ∧ True)
        ([(0, .sc (.ros p0))], [])
        32 (by kernel_rfl) rfl (by kernel_rfl) (⟨⟨trivial, trivial⟩, trivial⟩) ?_
    refine Tri.seq_region [] none [3, 0] [] ((True ∧ True) ∧ True)
        ([(3, .sc (.s (⟨#[]⟩ : ByteArray))), (0, .sc (.ros p0))], [])
        48 (by kernel_rfl) rfl (by kernel_rfl) (⟨⟨trivial, trivial⟩, trivial⟩) ?_
    refine Tri.seq ?_
    refine Tri.seq_region [] none [4, 3, 0] [] ((True ∧ True) ∧ True)
        ([(4, .sc (.i .i64 0)), (3, .sc (.s (⟨#[]⟩ : ByteArray))), (0, .sc (.ros p0))], [])
        64 (by kernel_rfl) rfl (by kernel_rfl) (⟨⟨trivial, trivial⟩, trivial⟩) ?_
    refine Tri.block ?_
    refine Tri.count 64 p0.length (FwrNamesl0 p0) (⟨#[]⟩ : ByteArray) (fun k0 z0 => z0.size ≤ sumB (p0.take k0) + k0) (fun k0 z0 => ([(4, .sc (.i .i64 ((k0 : Nat) : Int))), (3, .sc (.s z0)), (0, .sc (.ros p0))], [])) (Nat.zero_le _) (Sub.of_eq (by kernel_rfl)) ?_
    intro k0 z0 hk0 hz0 hJ0
    refine Tri.seq ?_
    refine Tri.seq_region [] none [8, 4, 3, 0] [] ((True ∧ True) ∧ ((True ∧ True) ∧ ((True ∧ True) ∧ ((True ∧ True) ∧ True))))
        ([(8, .sc (.b (decide ((((k0 : Nat) : Int) : Int) < ((p0.length : Nat) : Int))))), (4, .sc (.i .i64 ((k0 : Nat) : Int))), (3, .sc (.s z0)), (0, .sc (.ros p0))], [])
        128 (by kernel_rfl) rfl (by kernel_rfl) (⟨⟨trivial, trivial⟩, ⟨⟨trivial, trivial⟩, ⟨⟨trivial, trivial⟩, ⟨⟨trivial, trivial⟩, trivial⟩⟩⟩⟩) ?_
    refine Tri.cond (x := (decide ((((k0 : Nat) : Int) : Int) < ((p0.length : Nat) : Int)))) (by kernel_rfl) (fun h1 => ?_) (fun h1 => ?_)
    ·
      have h1' := of_decide_eq_true h1
      refine Tri.skip ?_
      change Tri _ _ _ _ _ _
      refine Tri.seq ?_
      refine Tri.block ?_
      refine Tri.seq ?_
      refine Tri.seq_region [] none [12, 4, 3, 0] [] ((True ∧ True) ∧ ((True ∧ True) ∧ True))
          ([(12, .sc (.b (decide ((((k0 : Nat) : Int) : Int) > 0)))), (4, .sc (.i .i64 ((k0 : Nat) : Int))), (3, .sc (.s z0)), (0, .sc (.ros p0))], [])
          160 (by kernel_rfl) rfl (by kernel_rfl) (⟨⟨trivial, trivial⟩, ⟨⟨trivial, trivial⟩, trivial⟩⟩) ?_
      refine Tri.join (x := (decide ((((k0 : Nat) : Int) : Int) > 0))) (fun bb => ([(3, .sc (.s (sel bb (z0 ++ (⟨#[44]⟩ : ByteArray)) z0))), (4, .sc (.i .i64 ((k0 : Nat) : Int))), (0, .sc (.ros p0))], [])) 208 (by kernel_rfl) (fun h2 => ?_) (fun h2 => ?_) ?_
      ·
        have h2' := of_decide_eq_true h2
        refine Tri.region' [] none [3, 4, 0] [] ((True ∧ True) ∧ (((z0.size + (⟨#[44]⟩ : ByteArray).size ≤ 9223372036854775807) ∧ True) ∧ ((True ∧ True) ∧ True)))
            ([(3, .sc (.s (z0 ++ (⟨#[44]⟩ : ByteArray)))), (4, .sc (.i .i64 ((k0 : Nat) : Int))), (0, .sc (.ros p0))], [])
            208 (by kernel_rfl) rfl (by kernel_rfl) (⟨⟨trivial, trivial⟩, ⟨⟨(by first | omega | decide | (have hq := sum_step p0 k0 (by omega); have hz : (sel (decide (((k0 : Nat) : Int) > 0)) (z0 ++ (⟨#[44]⟩ : ByteArray)) z0).size ≤ sumB (p0.take k0) + k0 + 1 := size_sel2 (by rw [ByteArray.size_append]; show _ + 1 ≤ _; omega) (by omega); first | omega | (show _ + 1 ≤ _; omega)) | (have hq := sum_step p0 k0 (by omega); show _ + 1 ≤ _; omega) | (rw [List.take_length] at hJ0; omega)), trivial⟩, ⟨⟨trivial, trivial⟩, trivial⟩⟩⟩) ?_
        exact (Sub.ren (ns := []) (kf := [3, 4, 0]) (s' := ([(3, .sc (.s (z0 ++ (⟨#[44]⟩ : ByteArray)))), (4, .sc (.i .i64 ((k0 : Nat) : Int))), (0, .sc (.ros p0))], [])) (by kernel_rfl) (by kernel_rfl)).trans (Sub.of_eq (by simp only [sel_true, sel_false]))
      ·
        have h2' := of_decide_eq_false h2
        refine Tri.skip ?_
        exact (Sub.ren (ns := []) (kf := [3, 4, 0]) (s' := ([(3, .sc (.s z0)), (4, .sc (.i .i64 ((k0 : Nat) : Int))), (0, .sc (.ros p0))], [])) (by kernel_rfl) (by kernel_rfl)).trans (Sub.of_eq (by simp only [sel_true, sel_false]))
      ·
        change Tri _ _ _ _ _ _
        refine Tri.region' [] none [3, 4, 0] [] ((True ∧ True) ∧ ((True ∧ True) ∧ ((True ∧ True) ∧ ((((0 : Int) ≤ ((k0 : Nat) : Int) ∧ ((k0 : Nat) : Int) < (p0.length : Int)) ∧ True) ∧ ((True ∧ True) ∧ ((((sel (decide ((((k0 : Nat) : Int) : Int) > 0)) (z0 ++ (⟨#[44]⟩ : ByteArray)) z0).size + (p0.getD k0 ⟨#[]⟩).size ≤ 9223372036854775807) ∧ True) ∧ ((True ∧ True) ∧ True)))))))
            ([(3, .sc (.s ((sel (decide ((((k0 : Nat) : Int) : Int) > 0)) (z0 ++ (⟨#[44]⟩ : ByteArray)) z0) ++ p0.getD k0 ⟨#[]⟩))), (4, .sc (.i .i64 ((k0 : Nat) : Int))), (0, .sc (.ros p0))], [])
            320 (by kernel_rfl) rfl (by kernel_rfl) (⟨⟨trivial, trivial⟩, ⟨⟨trivial, trivial⟩, ⟨⟨trivial, trivial⟩, ⟨⟨(by first | omega | decide | (have hq := sum_step p0 k0 (by omega); have hz : (sel (decide (((k0 : Nat) : Int) > 0)) (z0 ++ (⟨#[44]⟩ : ByteArray)) z0).size ≤ sumB (p0.take k0) + k0 + 1 := size_sel2 (by rw [ByteArray.size_append]; show _ + 1 ≤ _; omega) (by omega); first | omega | (show _ + 1 ≤ _; omega)) | (have hq := sum_step p0 k0 (by omega); show _ + 1 ≤ _; omega) | (rw [List.take_length] at hJ0; omega)), trivial⟩, ⟨⟨trivial, trivial⟩, ⟨⟨(by first | omega | decide | (have hq := sum_step p0 k0 (by omega); have hz : (sel (decide (((k0 : Nat) : Int) > 0)) (z0 ++ (⟨#[44]⟩ : ByteArray)) z0).size ≤ sumB (p0.take k0) + k0 + 1 := size_sel2 (by rw [ByteArray.size_append]; show _ + 1 ≤ _; omega) (by omega); first | omega | (show _ + 1 ≤ _; omega)) | (have hq := sum_step p0 k0 (by omega); show _ + 1 ≤ _; omega) | (rw [List.take_length] at hJ0; omega)), trivial⟩, ⟨⟨trivial, trivial⟩, trivial⟩⟩⟩⟩⟩⟩⟩) ?_
        change Tri _ _ _ _ _ _
        refine Tri.region' [(10, qi ((k0 + 1 : Nat) : Int))] none [4, 3, 0] [] ((True ∧ True) ∧ ((True ∧ ((iAdd .i64 ((k0 : Nat) : Int) 1) = ((k0 + 1 : Nat) : Int))) ∧ ((True ∧ True) ∧ True)))
            ([(4, .sc (.i .i64 ((k0 + 1 : Nat) : Int))), (3, .sc (.s ((sel (decide ((((k0 : Nat) : Int) : Int) > 0)) (z0 ++ (⟨#[44]⟩ : ByteArray)) z0) ++ p0.getD k0 ⟨#[]⟩))), (0, .sc (.ros p0))], [])
            368 (by kernel_rfl) rfl (by kernel_rfl) (⟨⟨trivial, trivial⟩, ⟨⟨trivial, (iAdd_nat (a := k0) (b := 1) (by omega))⟩, ⟨⟨trivial, trivial⟩, trivial⟩⟩⟩) ?_
        repeat (refine blkP_normal ?_)
        refine countP_normal (by omega) (by have hq := (sum_step p0 k0 (by omega)).1; unfold FwrNamesl0; rw [ByteArray.size_append]; have hz : (sel (decide (((k0 : Nat) : Int) > 0)) (z0 ++ (⟨#[44]⟩ : ByteArray)) z0).size ≤ sumB (p0.take k0) + k0 + 1 := size_sel2 (by rw [ByteArray.size_append]; show _ + 1 ≤ _; omega) (by omega); omega) ?_
        exact Sub.ren (ns := []) (kf := [4, 3, 0]) (by kernel_rfl) (by kernel_rfl)
    ·
      have h1' := of_decide_eq_false h1
      refine Tri.exit ?_
      have hend0 : k0 = p0.length := by (have := of_decide_eq_false h1; omega)
      subst hend0; subst hz0
      change Tri _ _ _ _ _ _
      refine Tri.seq_region [] none [2] [144] ((True ∧ True) ∧ (((True ∧ ((itr (FwrNamesl0 p0) p0.length (⟨#[]⟩ : ByteArray)).size ≤ 1000000000)) ∧ True) ∧ ((True ∧ True) ∧ True)))
          ([(2, .sc (.sl 144 0 (4 + (itr (FwrNamesl0 p0) p0.length (⟨#[]⟩ : ByteArray)).size) 1 none))], [(144, .ints .u8 (4 + (itr (FwrNamesl0 p0) p0.length (⟨#[]⟩ : ByteArray)).size) (FwrText (itr (FwrNamesl0 p0) p0.length (⟨#[]⟩ : ByteArray))))])
          176 (by kernel_rfl) rfl (by kernel_rfl) (⟨⟨trivial, trivial⟩, ⟨⟨⟨trivial, (by first | omega | decide | (have hq := sum_step p0 k0 (by omega); have hz : (sel (decide (((k0 : Nat) : Int) > 0)) (z0 ++ (⟨#[44]⟩ : ByteArray)) z0).size ≤ sumB (p0.take k0) + k0 + 1 := size_sel2 (by rw [ByteArray.size_append]; show _ + 1 ≤ _; omega) (by omega); first | omega | (show _ + 1 ≤ _; omega)) | (have hq := sum_step p0 k0 (by omega); show _ + 1 ≤ _; omega) | (rw [List.take_length] at hJ0; omega))⟩, trivial⟩, ⟨⟨trivial, trivial⟩, trivial⟩⟩⟩) ?_
      refine Tri.ret ?_
      repeat (first | refine thenP_ret ?_ | refine blkP_ret ?_ | refine countP_ret ?_ | refine joinP_ret ?_ | refine iterP_ret ?_)
      exact endP.ret [(144, 0)] (True ∧ True) (by kernel_rfl) (by kernel_rfl) ⟨trivial, trivial⟩

theorem rNames_size (p : List ByteArray) : ∀ k, k ≤ p.length → (itr (FwrNamesl0 p) k (⟨#[]⟩ : ByteArray)).size ≤ sumB (p.take k) + k := by
  intro k
  induction k with
  | zero => intro _; rw [itr_zero]; exact Nat.zero_le _
  | succ k ih =>
    intro hk
    have h1 := ih (by omega)
    have h2 := (sum_step p k (by omega)).1
    rw [itr_succ]
    unfold FwrNamesl0
    rw [ByteArray.size_append]
    have hz : ∀ z : ByteArray, (sel (decide (((k : Nat) : Int) > 0)) (z ++ (⟨#[44]⟩ : ByteArray)) z).size ≤ z.size + 1 := fun z => size_sel2 (by rw [ByteArray.size_append]; exact Nat.le_refl _) (by omega)
    have := hz (itr (FwrNamesl0 p) k (⟨#[]⟩ : ByteArray))
    unfold FwrNamesl0 at this h1
    omega
theorem le_FwrNames (p : List ByteArray) : (FwrNames p).length ≤ 4 + sumB p + p.length ∧ FwrNamesn0 p ≤ 4 + sumB p + p.length := by
  have h := rNames_size p p.length (Nat.le_refl _)
  rw [List.take_length] at h
  unfold FwrNames FwrNamesn0
  rw [len_FwrText]
  omega

theorem flat_step {α : Type} : ∀ (p : List (List α)) (k : Nat), k < p.length → ((p.take k).flatten.length + (p.getD k []).length ≤ p.flatten.length ∧ (p.take (k + 1)).flatten = (p.take k).flatten ++ p.getD k [])
  | [], k, h => absurd h (Nat.not_lt_zero k)
  | x :: p, 0, _ => ⟨by simp, by simp⟩
  | x :: p, k + 1, h => by
    obtain ⟨h1, h2⟩ := flat_step p k (by simpa using h)
    refine ⟨?_, ?_⟩
    · simp only [List.take_succ_cons, List.flatten_cons, List.length_append, List.getD_cons_succ]; omega
    · rw [List.take_succ_cons, List.take_succ_cons, List.flatten_cons, List.flatten_cons, h2, List.getD_cons_succ, List.append_assoc]
noncomputable def FwrJoinl0 (p0 : List (List Int)) (k0 : Nat) (z0 : List Int) : List Int :=
  z0 ++ (p0.getD k0 [])

noncomputable def FwrJoin (p0 : List (List Int)) : List Int :=
  (itr (FwrJoinl0 p0) p0.length ([] : List Int))

noncomputable def FwrJoinn0 (p0 : List (List Int)) : Nat :=
  (itr (FwrJoinl0 p0) p0.length ([] : List Int)).length

noncomputable def SwrJoin : List AV → List Blk → Option (Prop × Ret)
  | [.sc (.rob p0)], [] => some ((p0.flatten.length ≤ 1000000000 ∧ p0.length ≤ 1000000000), ⟨.sc (.sl 0 0 (FwrJoinn0 p0) 1 none), [some (.ints .u8 (FwrJoinn0 p0) (FwrJoin p0))]⟩)
  | _, _ => none

noncomputable def BwrJoin : Bs := { P := Go.Proofs.Try.prog, G := noG, tab := tabOf [], n := 18 }

theorem BwrJoin.ok : BwrJoin.Ok := ⟨tabOk (P := Go.Proofs.Try.prog) (G := noG) (l := []) True.intro, mixed⟩

theorem KwrJoin : Known Go.Proofs.Try.prog noG 14 ⟨0, 1, SwrJoin⟩ := by
  refine Known.walk (B := BwrJoin) (fn := Go.Proofs.Try.f14) BwrJoin.ok (by kernel_rfl) rfl (by kernel_rfl) (by kernel_rfl) (by decide) (by decide) ?_
  · intro E args ks C r h hC hlen
    simp only at h
    unfold SwrJoin at h
    split at h
    rotate_left
    · cases h
    rename_i p0
    cases h
    simp only [lens] at hlen
    refine ⟨show 1 ≤ 18 from by decide, ?_⟩
    refine Tri.sub (Sub.of_eq (show _ = ([(0, .sc (.rob p0))], []) from rfl)) ?_
    refine Tri.seq_region [] none [0] [] ((True ∧ True) ∧ True)
        ([(0, .sc (.rob p0))], [])
        32 (by kernel_rfl) rfl (by kernel_rfl) (⟨⟨trivial, trivial⟩, trivial⟩) ?_
    refine Tri.seq_region [] none [3, 0] [] ((True ∧ True) ∧ True)
        ([(3, .sc (.nils)), (0, .sc (.rob p0))], [])
        48 (by kernel_rfl) rfl (by kernel_rfl) (⟨⟨trivial, trivial⟩, trivial⟩) ?_
    refine Tri.seq ?_
    refine Tri.seq_region [] none [4, 3, 0] [] ((True ∧ True) ∧ True)
        ([(4, .sc (.i .i64 0)), (3, .sc (.nils)), (0, .sc (.rob p0))], [])
        64 (by kernel_rfl) rfl (by kernel_rfl) (⟨⟨trivial, trivial⟩, trivial⟩) ?_
    refine Tri.block ?_
    refine Tri.sub (Sub.openNil (U := 64) (U' := 80) 3 64 1 .u8 none (.inl rfl) (by decide) (by decide) (by kernel_rfl) (by kernel_rfl)) ?_
    refine Tri.count 80 p0.length (FwrJoinl0 p0) ([] : List Int) (fun k0 z0 => z0 = (p0.take k0).flatten) (fun k0 z0 => ([(3, .sc (.sl 64 0 z0.length 1 none)), (4, .sc (.i .i64 ((k0 : Nat) : Int))), (0, .sc (.rob p0))], [(64, .ints .u8 z0.length z0)])) rfl (Sub.of_eq (by kernel_rfl)) ?_
    intro k0 z0 hk0 hz0 hJ0
    refine Tri.seq ?_
    refine Tri.seq_region [] none [8, 3, 4, 0] [64] ((True ∧ True) ∧ ((True ∧ True) ∧ ((True ∧ True) ∧ ((True ∧ True) ∧ True))))
        ([(8, .sc (.b (decide ((((k0 : Nat) : Int) : Int) < ((p0.length : Nat) : Int))))), (3, .sc (.sl 64 0 z0.length 1 none)), (4, .sc (.i .i64 ((k0 : Nat) : Int))), (0, .sc (.rob p0))], [(64, .ints .u8 z0.length z0)])
        144 (by kernel_rfl) rfl (by kernel_rfl) (⟨⟨trivial, trivial⟩, ⟨⟨trivial, trivial⟩, ⟨⟨trivial, trivial⟩, ⟨⟨trivial, trivial⟩, trivial⟩⟩⟩⟩) ?_
    refine Tri.cond (x := (decide ((((k0 : Nat) : Int) : Int) < ((p0.length : Nat) : Int)))) (by kernel_rfl) (fun h1 => ?_) (fun h1 => ?_)
    ·
      have h1' := of_decide_eq_true h1
      refine Tri.skip ?_
      change Tri _ _ _ _ _ _
      refine Tri.seq ?_
      refine Tri.block ?_
      refine Tri.region' [] none [3, 4, 0] [224] ((True ∧ True) ∧ ((True ∧ True) ∧ ((True ∧ True) ∧ ((((0 : Int) ≤ ((k0 : Nat) : Int) ∧ ((k0 : Nat) : Int) < (p0.length : Int)) ∧ True) ∧ ((True ∧ True) ∧ ((((((True ∧ (1 = 1)) ∧ ((0 < 1) ∧ (((z0.length + ((p0.getD k0 []).length)) * 1 ≤ 140737488355328) ∧ (z0.length + ((p0.getD k0 []).length) ≤ 140737488355328)))) ∧ ((p0.getD k0 []).length = ((p0.getD k0 []).length) * 1)) ∧ ((1 = 1) ∧ (0 + z0.length * 1 = z0.length))) ∧ True) ∧ ((True ∧ True) ∧ True)))))))
          ([(3, .sc (.sl 224 0 (z0.length + ((p0.getD k0 []).length)) 1 none)), (4, .sc (.i .i64 ((k0 : Nat) : Int))), (0, .sc (.rob p0))], [(224, .ints .u8 (z0.length + ((p0.getD k0 []).length)) (z0 ++ (p0.getD k0 [])))])
          256 (by kernel_rfl) rfl (by kernel_rfl) (⟨⟨trivial, trivial⟩, ⟨⟨trivial, trivial⟩, ⟨⟨trivial, trivial⟩, ⟨⟨(by first | omega | decide | (have hq := (flat_step p0 k0 (by omega)).1; rw [hJ0]; omega)), trivial⟩, ⟨⟨trivial, trivial⟩, ⟨⟨⟨⟨⟨⟨trivial, (rfl)⟩, ⟨(by first | omega | decide | (have hq := (flat_step p0 k0 (by omega)).1; rw [hJ0]; omega)), ⟨(by first | omega | decide | (have hq := (flat_step p0 k0 (by omega)).1; rw [hJ0]; omega)), (by first | omega | decide | (have hq := (flat_step p0 k0 (by omega)).1; rw [hJ0]; omega))⟩⟩⟩, (by first | omega | decide | (have hq := (flat_step p0 k0 (by omega)).1; rw [hJ0]; omega))⟩, ⟨(rfl), (by first | omega | decide | (have hq := (flat_step p0 k0 (by omega)).1; rw [hJ0]; omega))⟩⟩, trivial⟩, ⟨⟨trivial, trivial⟩, trivial⟩⟩⟩⟩⟩⟩⟩) ?_
      change Tri _ _ _ _ _ _
      refine Tri.region' [(10, qi ((k0 + 1 : Nat) : Int))] none [4, 3, 0] [224] ((True ∧ True) ∧ ((True ∧ ((iAdd .i64 ((k0 : Nat) : Int) 1) = ((k0 + 1 : Nat) : Int))) ∧ ((True ∧ True) ∧ True)))
          ([(4, .sc (.i .i64 ((k0 + 1 : Nat) : Int))), (3, .sc (.sl 224 0 (z0.length + ((p0.getD k0 []).length)) 1 none)), (0, .sc (.rob p0))], [(224, .ints .u8 (z0.length + ((p0.getD k0 []).length)) (z0 ++ (p0.getD k0 [])))])
          304 (by kernel_rfl) rfl (by kernel_rfl) (⟨⟨trivial, trivial⟩, ⟨⟨trivial, (iAdd_nat (a := k0) (b := 1) (by omega))⟩, ⟨⟨trivial, trivial⟩, trivial⟩⟩⟩) ?_
      repeat (refine blkP_normal ?_)
      refine countP_normal (by omega) (by unfold FwrJoinl0; rw [hJ0, (flat_step p0 k0 (by omega)).2]) ?_
      exact (Sub.ren (ns := [(224, 64)]) (kf := [3, 4, 0]) (s' := ([(3, .sc (.sl 64 0 (z0.length + ((p0.getD k0 []).length)) 1 none)), (4, .sc (.i .i64 ((k0 + 1 : Nat) : Int))), (0, .sc (.rob p0))], [(64, .ints .u8 (z0.length + ((p0.getD k0 []).length)) (z0 ++ (p0.getD k0 [])))])) (by kernel_rfl) (by kernel_rfl)).trans (Sub.of_eq (by simp only [FwrJoinl0, h1, sel_true, sel_false, List.length_append, List.length_set, List.length_cons, List.length_nil, Nat.zero_add, Nat.reduceAdd]))
    ·
      have h1' := of_decide_eq_false h1
      refine Tri.exit ?_
      have hend0 : k0 = p0.length := by (have := of_decide_eq_false h1; omega)
      subst hend0; subst hz0
      change Tri _ _ _ _ _ _
      refine Tri.seq_region [] none [2] [64] ((True ∧ True) ∧ ((True ∧ True) ∧ True))
          ([(2, .sc (.sl 64 0 ((itr (FwrJoinl0 p0) p0.length ([] : List Int)).length) 1 none))], [(64, .ints .u8 ((itr (FwrJoinl0 p0) p0.length ([] : List Int)).length) (itr (FwrJoinl0 p0) p0.length ([] : List Int)))])
          176 (by kernel_rfl) rfl (by kernel_rfl) (⟨⟨trivial, trivial⟩, ⟨⟨trivial, trivial⟩, trivial⟩⟩) ?_
      refine Tri.ret ?_
      repeat (first | refine thenP_ret ?_ | refine blkP_ret ?_ | refine countP_ret ?_ | refine joinP_ret ?_ | refine iterP_ret ?_)
      exact endP.ret [(64, 0)] (True ∧ True) (by kernel_rfl) (by kernel_rfl) ⟨trivial, trivial⟩

theorem rJoin_is (p0 : List (List Int)) : FwrJoin p0 = p0.flatten := by
  have h : ∀ k, k ≤ p0.length → itr (FwrJoinl0 p0) k [] = (p0.take k).flatten := by
    intro k
    induction k with
    | zero => intro _; rw [itr_zero]; rfl
    | succ k ih => intro hk; rw [itr_succ, ih (by omega)]; unfold FwrJoinl0; rw [(flat_step p0 k (by omega)).2]
  unfold FwrJoin
  rw [h p0.length (Nat.le_refl _), List.take_length]

end Go.Vm
