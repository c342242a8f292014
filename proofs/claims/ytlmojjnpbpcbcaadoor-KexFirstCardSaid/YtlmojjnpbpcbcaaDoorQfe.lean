/- A part of a proof: the small machine that walks the program, the walks of its functions, and what they compute in plain. -/
import Derived.Test.YtlmojjnpbpcbcaaDoorQfd
import Derived.Test.YtlmojjnpbpcbcaaDoorChecked
set_option linter.unusedVariables false
set_option linter.unusedSimpArgs false
set_option maxRecDepth 4000
set_option maxHeartbeats 2000000
namespace Go.Vm
open Go
noncomputable def FkHashZv1 (k0 : Nat) (z0 : Nat × List Int) : List Int :=
  (FwwText z0.1 z0.2 (([(⟨#[]⟩ : ByteArray), (⟨#[]⟩ : ByteArray), (⟨#[]⟩ : ByteArray), (⟨#[]⟩ : ByteArray), (⟨#[]⟩ : ByteArray), (⟨#[]⟩ : ByteArray), (⟨#[]⟩ : ByteArray)]).getD k0 (⟨#[]⟩ : ByteArray)))
noncomputable def FkHashZl0 (k0 : Nat) (z0 : Nat × List Int) : Nat × List Int :=
  ((z0.1 + 4) + (([(⟨#[]⟩ : ByteArray), (⟨#[]⟩ : ByteArray), (⟨#[]⟩ : ByteArray), (⟨#[]⟩ : ByteArray), (⟨#[]⟩ : ByteArray), (⟨#[]⟩ : ByteArray), (⟨#[]⟩ : ByteArray)]).getD k0 (⟨#[]⟩ : ByteArray)).size, (FkHashZv1 k0 z0))
noncomputable def FkHashZv2 : List Int :=
  (FwwInt ((itr (FkHashZl0) 7 (0, ([] : List Int))).1) ((itr (FkHashZl0) 7 (0, ([] : List Int))).2) ([] : List Int))
noncomputable def FkHashZv3 : List Int :=
  (F34 (part1 (FkHashZv2) (FwwIntn0 ((itr (FkHashZl0) 7 (0, ([] : List Int))).1) ((itr (FkHashZl0) 7 (0, ([] : List Int))).2) ([] : List Int)) 0 (FwwIntn0 ((itr (FkHashZl0) 7 (0, ([] : List Int))).1) ((itr (FkHashZl0) 7 (0, ([] : List Int))).2) ([] : List Int))))
noncomputable def FkHashZ : List Int :=
  (FkHashZv3)
noncomputable def SkHashZ : List AV → List Blk → Option (Prop × Ret)
  | [.agg [.s p10, .s p11, .nils, .nils, .s p14, .s p15, .s p16, .nils]], [] => some ((((⟨#[]⟩ : ByteArray) = p10) ∧ (((⟨#[]⟩ : ByteArray) = p11) ∧ (((⟨#[]⟩ : ByteArray) = p14) ∧ (((⟨#[]⟩ : ByteArray) = p15) ∧ (((⟨#[]⟩ : ByteArray) = p16) ∧ True))))), ⟨.sc (.sl 0 0 32 1 (some 32)), [some (.ints .u8 32 (FkHashZ))]⟩)
  | _, _ => none
noncomputable def BkHashZ : Bs := { P := Go.Proofs.Tryd.prog, G := gD, tab := tabOf [⟨55, 576, [.io, .val], [], [464], ⟨1, 1, SwwText⟩, false⟩, ⟨60, 560, [.ro .u8], [544], [], ⟨0, 0, S34⟩, false⟩, ⟨61, 544, [.io, .ro .u8], [], [464], ⟨1, 1, SwwInt⟩, false⟩], n := 45 }
theorem BkHashZ.ok : BkHashZ.Ok := ⟨tabOk (P := Go.Proofs.Tryd.prog) (G := gD) (l := [⟨55, 576, [.io, .val], [], [464], ⟨1, 1, SwwText⟩, false⟩, ⟨60, 560, [.ro .u8], [544], [], ⟨0, 0, S34⟩, false⟩, ⟨61, 544, [.io, .ro .u8], [], [464], ⟨1, 1, SwwInt⟩, false⟩]) (And.intro KwwText (And.intro K34 (And.intro KwwInt True.intro))), mixed⟩
theorem KkHashZ : Known Go.Proofs.Tryd.prog gD 28 ⟨0, 1, SkHashZ⟩ := by
 refine Known.walk (B := BkHashZ) (fn := Go.Proofs.Tryd.f28) BkHashZ.ok (by kernel_rfl) rfl (by kernel_rfl) (by kernel_rfl) (by decide) (by decide) ?_
 intro E args ks C r h hC hlen
 simp only at h
 unfold SkHashZ at h
 split at h
 rotate_left
 cases h
 rename_i p10 p11 p14 p15 p16
 cases h
 simp only [lens] at hlen
 obtain ⟨hEp10, hC⟩ := hC
 obtain ⟨hEp11, hC⟩ := hC
 obtain ⟨hEp14, hC⟩ := hC
 obtain ⟨hEp15, hC⟩ := hC
 obtain ⟨hEp16, hC⟩ := hC
 subst hEp10
 subst hEp11
 subst hEp14
 subst hEp15
 subst hEp16
 have q0 : (⟨#[]⟩ : ByteArray).size ≤ 2000 := by decide
 refine ⟨show 1 ≤ 45 from by decide, ?_⟩
 refine Tri.sub (Sub.of_eq (show _ = ([(0, .agg [.s (⟨#[]⟩ : ByteArray), .s (⟨#[]⟩ : ByteArray), .nils, .nils, .s (⟨#[]⟩ : ByteArray), .s (⟨#[]⟩ : ByteArray), .s (⟨#[]⟩ : ByteArray), .nils])], []) from rfl)) ?_
 refine sq [] none [1] [16] ([(1, .sc (.p 16 0))], [(16, .cells [.s (⟨#[]⟩ : ByteArray), .s (⟨#[]⟩ : ByteArray), .nils, .nils, .s (⟨#[]⟩ : ByteArray), .s (⟨#[]⟩ : ByteArray), .s (⟨#[]⟩ : ByteArray), .nils])]) 48 (t2 pT) ?_
 refine sq [] none [3, 1] [16] ([(3, .sc (.nils)), (1, .sc (.p 16 0))], [(16, .cells [.s (⟨#[]⟩ : ByteArray), .s (⟨#[]⟩ : ByteArray), .nils, .nils, .s (⟨#[]⟩ : ByteArray), .s (⟨#[]⟩ : ByteArray), .s (⟨#[]⟩ : ByteArray), .nils])]) 64 (t1 pT) ?_
 refine Tri.seq ?_
 refine sq [] none [31, 30, 29, 3, 1] [416, 16] ([(31, .sc (.i .i64 0)), (30, .sc (.i .i64 7)), (29, .sc (.sl 416 0 7 1 none)), (3, .sc (.nils)), (1, .sc (.p 16 0))], [(416, .cells [.s (⟨#[]⟩ : ByteArray), .s (⟨#[]⟩ : ByteArray), .s (⟨#[]⟩ : ByteArray), .s (⟨#[]⟩ : ByteArray), .s (⟨#[]⟩ : ByteArray), .s (⟨#[]⟩ : ByteArray), .s (⟨#[]⟩ : ByteArray)]), (16, .cells [.s (⟨#[]⟩ : ByteArray), .s (⟨#[]⟩ : ByteArray), .nils, .nils, .s (⟨#[]⟩ : ByteArray), .s (⟨#[]⟩ : ByteArray), .s (⟨#[]⟩ : ByteArray), .nils])]) 464 (t1 (pu (lo ((0 : Int) ≤ 0 ∧ 0 < ((2 : Nat) : Int))) (pu (lo (0 < 8)) (t1 (pu (lo ((0 : Int) ≤ 1 ∧ 1 < ((2 : Nat) : Int))) (pu (lo (1 < 8)) (t1 (pu (lo ((0 : Int) ≤ 0 ∧ 0 < ((2 : Nat) : Int))) (pu (lo (2 < 8)) (t2 (pu (lo ((0 : Int) ≤ 1 ∧ 1 < ((2 : Nat) : Int))) (pu (lo (3 < 8)) (t2 (pu (lo (4 < 8)) (t1 (pu (lo ((0 : Int) ≤ 0 ∧ 0 < ((2 : Nat) : Int))) (pu (lo (5 < 8)) (t1 (pu (lo ((0 : Int) ≤ 1 ∧ 1 < ((2 : Nat) : Int))) (pu (lo (6 < 8)) (pu (pa (pa (pa (lo (0 < 7)) (lr (1 = 1))) (pa (pa (lo (1 < 7)) (lr (1 = 1))) (pa (pa (lo (2 < 7)) (lr (1 = 1))) (pa (pa (lo (3 < 7)) (lr (1 = 1))) (pa (pa (lo (4 < 7)) (lr (1 = 1))) (pa (pa (lo (5 < 7)) (lr (1 = 1))) (pa (pa (lo (6 < 7)) (lr (1 = 1))) pT))))))) (pa (lo (7 * 1 ≤ 16777216)) (lr (1 = 1)))) (t2 pT)))))))))))))))))))))) ?_
 refine Tri.block ?_
 refine Tri.sub (Sub.toVec (l := [.s (⟨#[]⟩ : ByteArray), .s (⟨#[]⟩ : ByteArray), .s (⟨#[]⟩ : ByteArray), .s (⟨#[]⟩ : ByteArray), .s (⟨#[]⟩ : ByteArray), .s (⟨#[]⟩ : ByteArray), .s (⟨#[]⟩ : ByteArray)]) 416 .str ([(⟨#[]⟩ : ByteArray), (⟨#[]⟩ : ByteArray), (⟨#[]⟩ : ByteArray), (⟨#[]⟩ : ByteArray), (⟨#[]⟩ : ByteArray), (⟨#[]⟩ : ByteArray), (⟨#[]⟩ : ByteArray)]) (by kernel_rfl) (by kernel_rfl)) ?_
 refine Tri.sub (Sub.openNil (U := 464) (U' := 480) 3 464 1 .u8 none (.inl rfl) (by decide) (by decide) (by kernel_rfl) (by kernel_rfl)) ?_
 refine Tri.count 480 7 (FkHashZl0) (0, ([] : List Int)) (fun k0 z0 => z0.1 ≤ 2004 * k0) (fun k0 z0 => ([(3, .sc (.sl 464 0 z0.1 1 none)), (31, .sc (.i .i64 ((k0 : Nat) : Int))), (30, .sc (.i .i64 7)), (29, .sc (.sl 416 0 7 1 none)), (1, .sc (.p 16 0))], [(464, .ints .u8 z0.1 z0.2), (416, .vec .str ([(⟨#[]⟩ : ByteArray), (⟨#[]⟩ : ByteArray), (⟨#[]⟩ : ByteArray), (⟨#[]⟩ : ByteArray), (⟨#[]⟩ : ByteArray), (⟨#[]⟩ : ByteArray), (⟨#[]⟩ : ByteArray)])), (16, .cells [.s (⟨#[]⟩ : ByteArray), .s (⟨#[]⟩ : ByteArray), .nils, .nils, .s (⟨#[]⟩ : ByteArray), .s (⟨#[]⟩ : ByteArray), .s (⟨#[]⟩ : ByteArray), .nils])])) (by omega) (Sub.of_eq (by kernel_rfl)) ?_
 intro k0 z0 hk0 hz0 hJ0
 have hs := talk_at (n := 2000) (a := ⟨#[]⟩) (b := ⟨#[]⟩) (c := ⟨#[]⟩) (d := ⟨#[]⟩) (e := ⟨#[]⟩) (f := ⟨#[]⟩) (g := ⟨#[]⟩) ⟨q0, q0, q0, q0, q0, q0, q0⟩ k0
 refine sq [] none [32, 3, 31, 30, 29, 1] [464, 416, 16] ([(32, .sc (.b (decide ((((k0 : Nat) : Int) : Int) < 7)))), (3, .sc (.sl 464 0 z0.1 1 none)), (31, .sc (.i .i64 ((k0 : Nat) : Int))), (30, .sc (.i .i64 7)), (29, .sc (.sl 416 0 7 1 none)), (1, .sc (.p 16 0))], [(464, .ints .u8 z0.1 z0.2), (416, .vec .str ([(⟨#[]⟩ : ByteArray), (⟨#[]⟩ : ByteArray), (⟨#[]⟩ : ByteArray), (⟨#[]⟩ : ByteArray), (⟨#[]⟩ : ByteArray), (⟨#[]⟩ : ByteArray), (⟨#[]⟩ : ByteArray)])), (16, .cells [.s (⟨#[]⟩ : ByteArray), .s (⟨#[]⟩ : ByteArray), .nils, .nils, .s (⟨#[]⟩ : ByteArray), .s (⟨#[]⟩ : ByteArray), .s (⟨#[]⟩ : ByteArray), .nils])]) 496 (t1 pT) ?_
 refine Tri.seq ?_
 refine Tri.cond (x := (decide ((((k0 : Nat) : Int) : Int) < 7))) (by kernel_rfl) (fun h1 => ?_) (fun h1 => ?_)
 have h1' := of_decide_eq_true h1
 refine Tri.skip ?_
 change Tri _ _ _ _ _ _
 refine Tri.seq ?_
 refine Tri.block ?_
 refine Tri.len 464 rfl (fun hl2 => ?_)
 refine sq [] none [5, 3, 31, 30, 29, 1] [464, 416, 16] ([(5, .sc (.s (([(⟨#[]⟩ : ByteArray), (⟨#[]⟩ : ByteArray), (⟨#[]⟩ : ByteArray), (⟨#[]⟩ : ByteArray), (⟨#[]⟩ : ByteArray), (⟨#[]⟩ : ByteArray), (⟨#[]⟩ : ByteArray)]).getD k0 (⟨#[]⟩ : ByteArray)))), (3, .sc (.sl 464 0 z0.1 1 none)), (31, .sc (.i .i64 ((k0 : Nat) : Int))), (30, .sc (.i .i64 7)), (29, .sc (.sl 416 0 7 1 none)), (1, .sc (.p 16 0))], [(464, .ints .u8 z0.1 z0.2), (416, .vec .str ([(⟨#[]⟩ : ByteArray), (⟨#[]⟩ : ByteArray), (⟨#[]⟩ : ByteArray), (⟨#[]⟩ : ByteArray), (⟨#[]⟩ : ByteArray), (⟨#[]⟩ : ByteArray), (⟨#[]⟩ : ByteArray)])), (16, .cells [.s (⟨#[]⟩ : ByteArray), .s (⟨#[]⟩ : ByteArray), .nils, .nils, .s (⟨#[]⟩ : ByteArray), .s (⟨#[]⟩ : ByteArray), .s (⟨#[]⟩ : ByteArray), .nils])]) 544 (pu (lo ((0 : Int) ≤ ((k0 : Nat) : Int) ∧ ((k0 : Nat) : Int) < ((7 : Nat) : Int))) (pu (pl (show k0 < ([(⟨#[]⟩ : ByteArray), (⟨#[]⟩ : ByteArray), (⟨#[]⟩ : ByteArray), (⟨#[]⟩ : ByteArray), (⟨#[]⟩ : ByteArray), (⟨#[]⟩ : ByteArray), (⟨#[]⟩ : ByteArray)]).length from by first | omega | decide | (show _ < 7; omega) | exact ⟨by omega, by omega⟩ | exact ⟨by omega, by decide⟩ | exact part1_le (Nat.le_trans (le_FwwInt _ _ []) (by show _ + 0 + 5 ≤ _; omega)) (Nat.le_trans (Nat.le_of_eq (len_FwwInt (by omega))) (Nat.le_trans (le_FwwInt _ _ []) (by show _ + 0 + 5 ≤ _; omega))) | exact Nat.le_trans (le_FwwInt _ _ []) (by show _ + 0 + 5 ≤ _; omega))) (t1 pT))) ?_
 refine rq [] none [3, 31, 30, 29, 1] [576, 416, 16] ([(3, .sc (.sl 576 0 ((z0.1 + 4) + (([(⟨#[]⟩ : ByteArray), (⟨#[]⟩ : ByteArray), (⟨#[]⟩ : ByteArray), (⟨#[]⟩ : ByteArray), (⟨#[]⟩ : ByteArray), (⟨#[]⟩ : ByteArray), (⟨#[]⟩ : ByteArray)]).getD k0 (⟨#[]⟩ : ByteArray)).size) 1 none)), (31, .sc (.i .i64 ((k0 : Nat) : Int))), (30, .sc (.i .i64 7)), (29, .sc (.sl 416 0 7 1 none)), (1, .sc (.p 16 0))], [(576, .ints .u8 ((z0.1 + 4) + (([(⟨#[]⟩ : ByteArray), (⟨#[]⟩ : ByteArray), (⟨#[]⟩ : ByteArray), (⟨#[]⟩ : ByteArray), (⟨#[]⟩ : ByteArray), (⟨#[]⟩ : ByteArray), (⟨#[]⟩ : ByteArray)]).getD k0 (⟨#[]⟩ : ByteArray)).size) (FkHashZv1 k0 z0)), (416, .vec .str ([(⟨#[]⟩ : ByteArray), (⟨#[]⟩ : ByteArray), (⟨#[]⟩ : ByteArray), (⟨#[]⟩ : ByteArray), (⟨#[]⟩ : ByteArray), (⟨#[]⟩ : ByteArray), (⟨#[]⟩ : ByteArray)])), (16, .cells [.s (⟨#[]⟩ : ByteArray), .s (⟨#[]⟩ : ByteArray), .nils, .nils, .s (⟨#[]⟩ : ByteArray), .s (⟨#[]⟩ : ByteArray), .s (⟨#[]⟩ : ByteArray), .nils])]) 608 (t2 (pu (pa pT (pa (lr (z0.1 = z0.1)) (lo (z0.1 ≤ 1000000000 ∧ (([(⟨#[]⟩ : ByteArray), (⟨#[]⟩ : ByteArray), (⟨#[]⟩ : ByteArray), (⟨#[]⟩ : ByteArray), (⟨#[]⟩ : ByteArray), (⟨#[]⟩ : ByteArray), (⟨#[]⟩ : ByteArray)]).getD k0 (⟨#[]⟩ : ByteArray)).size ≤ 1000000000)))) (t1 pT))) ?_
 change Tri _ _ _ _ _ _
 refine rq [(38, qi ((k0 + 1 : Nat) : Int))] none [31, 3, 30, 29, 1] [576, 416, 16] ([(31, .sc (.i .i64 ((k0 + 1 : Nat) : Int))), (3, .sc (.sl 576 0 ((z0.1 + 4) + (([(⟨#[]⟩ : ByteArray), (⟨#[]⟩ : ByteArray), (⟨#[]⟩ : ByteArray), (⟨#[]⟩ : ByteArray), (⟨#[]⟩ : ByteArray), (⟨#[]⟩ : ByteArray), (⟨#[]⟩ : ByteArray)]).getD k0 (⟨#[]⟩ : ByteArray)).size) 1 none)), (30, .sc (.i .i64 7)), (29, .sc (.sl 416 0 7 1 none)), (1, .sc (.p 16 0))], [(576, .ints .u8 ((z0.1 + 4) + (([(⟨#[]⟩ : ByteArray), (⟨#[]⟩ : ByteArray), (⟨#[]⟩ : ByteArray), (⟨#[]⟩ : ByteArray), (⟨#[]⟩ : ByteArray), (⟨#[]⟩ : ByteArray), (⟨#[]⟩ : ByteArray)]).getD k0 (⟨#[]⟩ : ByteArray)).size) (FkHashZv1 k0 z0)), (416, .vec .str ([(⟨#[]⟩ : ByteArray), (⟨#[]⟩ : ByteArray), (⟨#[]⟩ : ByteArray), (⟨#[]⟩ : ByteArray), (⟨#[]⟩ : ByteArray), (⟨#[]⟩ : ByteArray), (⟨#[]⟩ : ByteArray)])), (16, .cells [.s (⟨#[]⟩ : ByteArray), .s (⟨#[]⟩ : ByteArray), .nils, .nils, .s (⟨#[]⟩ : ByteArray), .s (⟨#[]⟩ : ByteArray), .s (⟨#[]⟩ : ByteArray), .nils])]) 640 (pv pT (pl (show (iAdd .i64 ((k0 : Nat) : Int) 1) = ((k0 + 1 : Nat) : Int) from iAdd_nat (a := k0) (b := 1) (by omega))) (t1 pT)) ?_
 repeat (refine blkP_normal ?_)
 refine countP_normal (by omega) (show z0.1 + 4 + _ ≤ 2004 * (k0 + 1) by omega) ?_
 exact sp [(576, 464), (416, 416), (16, 16)] [3, 31, 30, 29, 1]
 have h1' := of_decide_eq_false h1
 refine Tri.exit ?_
 have hend0 : k0 = 7 := by (have := of_decide_eq_false h1; omega)
 subst hend0; subst hz0
 change Tri _ _ _ _ _ _
 refine Tri.len 464 rfl (fun hl3 => ?_)
 refine sq [] none [6] [576] ([(6, .sc (.p 576 0))], [(576, .ints .u8 32 (FkHashZv3))]) 608 (t2 (pu (lo (7 < 8)) (pu (pa pz (pa (lr (((itr (FkHashZl0) 7 (0, ([] : List Int))).1) = ((itr (FkHashZl0) 7 (0, ([] : List Int))).1))) (pl (show ((itr (FkHashZl0) 7 (0, ([] : List Int))).1) ≤ 1000000000 ∧ ([] : List Int).length ≤ 1000000000 from by first | omega | decide | (show _ < 7; omega) | exact ⟨by omega, by omega⟩ | exact ⟨by omega, by decide⟩ | exact part1_le (Nat.le_trans (le_FwwInt _ _ []) (by show _ + 0 + 5 ≤ _; omega)) (Nat.le_trans (Nat.le_of_eq (len_FwwInt (by omega))) (Nat.le_trans (le_FwwInt _ _ []) (by show _ + 0 + 5 ≤ _; omega))) | exact Nat.le_trans (le_FwwInt _ _ []) (by show _ + 0 + 5 ≤ _; omega))))) (pu (pa (pa (lo (0 + (FwwIntn0 ((itr (FkHashZl0) 7 (0, ([] : List Int))).1) ((itr (FkHashZl0) 7 (0, ([] : List Int))).2) ([] : List Int)) ≤ (FwwIntn0 ((itr (FkHashZl0) 7 (0, ([] : List Int))).1) ((itr (FkHashZl0) 7 (0, ([] : List Int))).2) ([] : List Int)))) pT) (pl (show (part1 (FkHashZv2) (FwwIntn0 ((itr (FkHashZl0) 7 (0, ([] : List Int))).1) ((itr (FkHashZl0) 7 (0, ([] : List Int))).2) ([] : List Int)) 0 (FwwIntn0 ((itr (FkHashZl0) 7 (0, ([] : List Int))).1) ((itr (FkHashZl0) 7 (0, ([] : List Int))).2) ([] : List Int))).length ≤ 100000000 from by first | omega | decide | (show _ < 7; omega) | exact ⟨by omega, by omega⟩ | exact ⟨by omega, by decide⟩ | exact part1_le (Nat.le_trans (le_FwwInt _ _ []) (by show _ + 0 + 5 ≤ _; omega)) (Nat.le_trans (Nat.le_of_eq (len_FwwInt (by omega))) (Nat.le_trans (le_FwwInt _ _ []) (by show _ + 0 + 5 ≤ _; omega))) | exact Nat.le_trans (le_FwwInt _ _ []) (by show _ + 0 + 5 ≤ _; omega)))) (t1 (pu (pa pT (lr (32 = 32))) pT)))))) ?_
 refine sq [] none [2] [576] ([(2, .sc (.sl 576 0 32 1 (some 32)))], [(576, .ints .u8 32 (FkHashZv3))]) 640 (pu (pa (lo ((0 : Int) ≤ 0 ∧ (0 : Int) ≤ 32 ∧ 32 ≤ ((32 : Nat) : Int))) (lo (32 ≤ 32))) (t1 pT)) ?_
 refine Tri.ret ?_
 refine rt ?_
 exact er [(576, 0)] pz
noncomputable def Fkone16v0 (p17 : List Int) (p1 : List Int) (p2 : List Int) (p3 : Int) : List Int :=
  (F34 (part1 ((((FwwIntn p17) ++ p1) ++ [p3]) ++ p2) ((((FwwIntnn0 p17) + p1.length) + 1) + p2.length) 0 ((((FwwIntnn0 p17) + p1.length) + 1) + p2.length)))
noncomputable def Fkone16 (p10 : ByteArray) (p11 : ByteArray) (p12 : List Int) (p13 : List Int) (p14 : ByteArray) (p15 : ByteArray) (p16 : ByteArray) (p17 : List Int) (p1 : List Int) (p2 : List Int) (p3 : Int) : List Int :=
  (Fkone16v0 p17 p1 p2 p3)
noncomputable def Skone16 : List AV → List Blk → Option (Prop × Ret)
  | [.agg [.s p10, .s p11, .ro .u8 p12, .ro .u8 p13, .s p14, .s p15, .s p16, .ro .u8 p17], .sc (.ro .u8 p1), .sc (.ro .u8 p2), .sc (.i .u8 p3), .sc (.i .i64 p4)], [] => some ((((16 : Int) = p4) ∧ (talkOk p10 p11 p12 p13 p14 p15 p16 p17 ∧ p1.length ≤ 1000 ∧ p2.length ≤ 1000)), ⟨.sc (.sl 0 0 16 1 (some 16)), [some (.ints .u8 32 (Fkone16 p10 p11 p12 p13 p14 p15 p16 p17 p1 p2 p3))]⟩)
  | _, _ => none
noncomputable def Bkone16 : Bs := { P := Go.Proofs.Tryd.prog, G := gD, tab := tabOf [⟨60, 240, [.ro .u8], [224], [], ⟨0, 0, S34⟩, false⟩, ⟨61, 80, [.val, .ro .u8], [], [], ⟨0, 1, SwwIntn⟩, false⟩], n := 28 }
theorem Bkone16.ok : Bkone16.Ok := ⟨tabOk (P := Go.Proofs.Tryd.prog) (G := gD) (l := [⟨60, 240, [.ro .u8], [224], [], ⟨0, 0, S34⟩, false⟩, ⟨61, 80, [.val, .ro .u8], [], [], ⟨0, 1, SwwIntn⟩, false⟩]) (And.intro K34 (And.intro KwwIntn True.intro)), mixed⟩
theorem Kkone16 : Known Go.Proofs.Tryd.prog gD 64 ⟨0, 1, Skone16⟩ := by
 refine Known.walk (B := Bkone16) (fn := Go.Proofs.Tryd.f64) Bkone16.ok (by kernel_rfl) rfl (by kernel_rfl) (by kernel_rfl) (by decide) (by decide) ?_
 intro E args ks C r h hC hlen
 simp only at h
 unfold Skone16 at h
 split at h
 rotate_left
 cases h
 rename_i p10 p11 p12 p13 p14 p15 p16 p17 p1 p2 p3 p4
 cases h
 simp only [lens] at hlen
 obtain ⟨hEp4, hC⟩ := hC
 subst hEp4
 obtain ⟨⟨q1, q2, q3, q4, q5, q6, q7, q8⟩, r1, r2⟩ := hC
 have hri := le_FwwIntn p17
 refine ⟨show 5 ≤ 28 from by decide, ?_⟩
 refine Tri.sub (Sub.of_eq (show _ = ([(0, .agg [.s p10, .s p11, .ro .u8 p12, .ro .u8 p13, .s p14, .s p15, .s p16, .ro .u8 p17]), (1, .sc (.ro .u8 p1)), (2, .sc (.ro .u8 p2)), (3, .sc (.i .u8 p3)), (4, .sc (.i .i64 16))], []) from rfl)) ?_
 refine sq [] none [5, 1, 2, 3, 4] [16] ([(5, .sc (.p 16 0)), (1, .sc (.ro .u8 p1)), (2, .sc (.ro .u8 p2)), (3, .sc (.i .u8 p3)), (4, .sc (.i .i64 16))], [(16, .cells [.s p10, .s p11, .ro .u8 p12, .ro .u8 p13, .s p14, .s p15, .s p16, .ro .u8 p17])]) 48 (t2 pT) ?_
 refine sq [] none [11, 2, 3, 4] [112] ([(11, .sc (.sl 112 0 ((FwwIntnn0 p17) + p1.length) 1 none)), (2, .sc (.ro .u8 p2)), (3, .sc (.i .u8 p3)), (4, .sc (.i .i64 16))], [(112, .ints .u8 ((FwwIntnn0 p17) + p1.length) ((FwwIntn p17) ++ p1))]) 144 (t1 (pu (lo (7 < 8)) (pu (pa pz (lo (p17.length ≤ 1000000000))) (t1 (pu (pa (pa (pa (pa pT (lr (1 = 1))) (pa (lo (0 < 1)) (pa (lo (((FwwIntnn0 p17) + p1.length) * 1 ≤ 140737488355328)) (lo ((FwwIntnn0 p17) + p1.length ≤ 140737488355328))))) (lo (p1.length = p1.length * 1))) (pa (lr (1 = 1)) (lo (0 + (FwwIntnn0 p17) * 1 = (FwwIntnn0 p17))))) (t1 pT)))))) ?_
 refine Tri.len 112 rfl (fun hl1 => ?_)
 refine sq [] none [12, 4] [256] ([(12, .sc (.p 256 0)), (4, .sc (.i .i64 16))], [(256, .ints .u8 32 (Fkone16v0 p17 p1 p2 p3))]) 288 (t2 (pu (pa (pa (pa (lo (0 < 1)) (lr (1 = 1))) pT) (pa (lo (1 * 1 ≤ 16777216)) (lr (1 = 1)))) (pu (pa (pa (pa (pa (lo (0 + 1 ≤ 1)) (lr (1 = 1))) (pa (lo (0 < 1)) (pa (lo ((((FwwIntnn0 p17) + p1.length) + 1) * 1 ≤ 140737488355328)) (lo (((FwwIntnn0 p17) + p1.length) + 1 ≤ 140737488355328))))) (lo (1 = 1 * 1))) (pa (lr (1 = 1)) (lo (0 + ((FwwIntnn0 p17) + p1.length) * 1 = (FwwIntnn0 p17) + p1.length)))) (t1 (pu (pa (pa (pa (pa pT (lr (1 = 1))) (pa (lo (0 < 1)) (pa (lo (((((FwwIntnn0 p17) + p1.length) + 1) + p2.length) * 1 ≤ 140737488355328)) (lo ((((FwwIntnn0 p17) + p1.length) + 1) + p2.length ≤ 140737488355328))))) (lo (p2.length = p2.length * 1))) (pa (lr (1 = 1)) (lo (0 + (((FwwIntnn0 p17) + p1.length) + 1) * 1 = ((FwwIntnn0 p17) + p1.length) + 1)))) (pu (pa (pa (lo (0 + ((((FwwIntnn0 p17) + p1.length) + 1) + p2.length) ≤ (((FwwIntnn0 p17) + p1.length) + 1) + p2.length)) pT) (pl (show (part1 ((((FwwIntn p17) ++ p1) ++ [p3]) ++ p2) ((((FwwIntnn0 p17) + p1.length) + 1) + p2.length) 0 ((((FwwIntnn0 p17) + p1.length) + 1) + p2.length)).length ≤ 100000000 from by first | omega | decide | exact part1_le (by omega) (by simp only [List.length_append, len_FwwIntn, List.length_cons, List.length_nil]; omega)))) (t1 (pu (pa pT (lr (32 = 32))) pT)))))))) ?_
 refine sq [] none [10] [256] ([(10, .sc (.sl 256 0 16 1 (some 16)))], [(256, .ints .u8 32 (Fkone16v0 p17 p1 p2 p3))]) 352 (t2 (pu (pa (lo ((0 : Int) ≤ 0 ∧ (0 : Int) ≤ 16 ∧ (16 : Int) ≤ 16 ∧ (16 : Int) ≤ ((32 : Nat) : Int))) (lo (32 ≤ 32))) (t1 pT))) ?_
 refine Tri.ret ?_
 refine rt ?_
 exact er [(256, 0)] pz
noncomputable def Fkone32v0 (p17 : List Int) (p1 : List Int) (p2 : List Int) (p3 : Int) : List Int :=
  (F34 (part1 ((((FwwIntn p17) ++ p1) ++ [p3]) ++ p2) ((((FwwIntnn0 p17) + p1.length) + 1) + p2.length) 0 ((((FwwIntnn0 p17) + p1.length) + 1) + p2.length)))
noncomputable def Fkone32 (p10 : ByteArray) (p11 : ByteArray) (p12 : List Int) (p13 : List Int) (p14 : ByteArray) (p15 : ByteArray) (p16 : ByteArray) (p17 : List Int) (p1 : List Int) (p2 : List Int) (p3 : Int) : List Int :=
  (Fkone32v0 p17 p1 p2 p3)
noncomputable def Skone32 : List AV → List Blk → Option (Prop × Ret)
  | [.agg [.s p10, .s p11, .ro .u8 p12, .ro .u8 p13, .s p14, .s p15, .s p16, .ro .u8 p17], .sc (.ro .u8 p1), .sc (.ro .u8 p2), .sc (.i .u8 p3), .sc (.i .i64 p4)], [] => some ((((32 : Int) = p4) ∧ (talkOk p10 p11 p12 p13 p14 p15 p16 p17 ∧ p1.length ≤ 1000 ∧ p2.length ≤ 1000)), ⟨.sc (.sl 0 0 32 1 (some 32)), [some (.ints .u8 32 (Fkone32 p10 p11 p12 p13 p14 p15 p16 p17 p1 p2 p3))]⟩)
  | _, _ => none
noncomputable def Bkone32 : Bs := { P := Go.Proofs.Tryd.prog, G := gD, tab := tabOf [⟨60, 240, [.ro .u8], [224], [], ⟨0, 0, S34⟩, false⟩, ⟨61, 80, [.val, .ro .u8], [], [], ⟨0, 1, SwwIntn⟩, false⟩], n := 28 }
theorem Bkone32.ok : Bkone32.Ok := ⟨tabOk (P := Go.Proofs.Tryd.prog) (G := gD) (l := [⟨60, 240, [.ro .u8], [224], [], ⟨0, 0, S34⟩, false⟩, ⟨61, 80, [.val, .ro .u8], [], [], ⟨0, 1, SwwIntn⟩, false⟩]) (And.intro K34 (And.intro KwwIntn True.intro)), mixed⟩
theorem Kkone32 : Known Go.Proofs.Tryd.prog gD 64 ⟨0, 1, Skone32⟩ := by
 refine Known.walk (B := Bkone32) (fn := Go.Proofs.Tryd.f64) Bkone32.ok (by kernel_rfl) rfl (by kernel_rfl) (by kernel_rfl) (by decide) (by decide) ?_
 intro E args ks C r h hC hlen
 simp only at h
 unfold Skone32 at h
 split at h
 rotate_left
 cases h
 rename_i p10 p11 p12 p13 p14 p15 p16 p17 p1 p2 p3 p4
 cases h
 simp only [lens] at hlen
 obtain ⟨hEp4, hC⟩ := hC
 subst hEp4
 obtain ⟨⟨q1, q2, q3, q4, q5, q6, q7, q8⟩, r1, r2⟩ := hC
 have hri := le_FwwIntn p17
 refine ⟨show 5 ≤ 28 from by decide, ?_⟩
 refine Tri.sub (Sub.of_eq (show _ = ([(0, .agg [.s p10, .s p11, .ro .u8 p12, .ro .u8 p13, .s p14, .s p15, .s p16, .ro .u8 p17]), (1, .sc (.ro .u8 p1)), (2, .sc (.ro .u8 p2)), (3, .sc (.i .u8 p3)), (4, .sc (.i .i64 32))], []) from rfl)) ?_
 refine sq [] none [5, 1, 2, 3, 4] [16] ([(5, .sc (.p 16 0)), (1, .sc (.ro .u8 p1)), (2, .sc (.ro .u8 p2)), (3, .sc (.i .u8 p3)), (4, .sc (.i .i64 32))], [(16, .cells [.s p10, .s p11, .ro .u8 p12, .ro .u8 p13, .s p14, .s p15, .s p16, .ro .u8 p17])]) 48 (t2 pT) ?_
 refine sq [] none [11, 2, 3, 4] [112] ([(11, .sc (.sl 112 0 ((FwwIntnn0 p17) + p1.length) 1 none)), (2, .sc (.ro .u8 p2)), (3, .sc (.i .u8 p3)), (4, .sc (.i .i64 32))], [(112, .ints .u8 ((FwwIntnn0 p17) + p1.length) ((FwwIntn p17) ++ p1))]) 144 (t1 (pu (lo (7 < 8)) (pu (pa pz (lo (p17.length ≤ 1000000000))) (t1 (pu (pa (pa (pa (pa pT (lr (1 = 1))) (pa (lo (0 < 1)) (pa (lo (((FwwIntnn0 p17) + p1.length) * 1 ≤ 140737488355328)) (lo ((FwwIntnn0 p17) + p1.length ≤ 140737488355328))))) (lo (p1.length = p1.length * 1))) (pa (lr (1 = 1)) (lo (0 + (FwwIntnn0 p17) * 1 = (FwwIntnn0 p17))))) (t1 pT)))))) ?_
 refine Tri.len 112 rfl (fun hl1 => ?_)
 refine sq [] none [12, 4] [256] ([(12, .sc (.p 256 0)), (4, .sc (.i .i64 32))], [(256, .ints .u8 32 (Fkone32v0 p17 p1 p2 p3))]) 288 (t2 (pu (pa (pa (pa (lo (0 < 1)) (lr (1 = 1))) pT) (pa (lo (1 * 1 ≤ 16777216)) (lr (1 = 1)))) (pu (pa (pa (pa (pa (lo (0 + 1 ≤ 1)) (lr (1 = 1))) (pa (lo (0 < 1)) (pa (lo ((((FwwIntnn0 p17) + p1.length) + 1) * 1 ≤ 140737488355328)) (lo (((FwwIntnn0 p17) + p1.length) + 1 ≤ 140737488355328))))) (lo (1 = 1 * 1))) (pa (lr (1 = 1)) (lo (0 + ((FwwIntnn0 p17) + p1.length) * 1 = (FwwIntnn0 p17) + p1.length)))) (t1 (pu (pa (pa (pa (pa pT (lr (1 = 1))) (pa (lo (0 < 1)) (pa (lo (((((FwwIntnn0 p17) + p1.length) + 1) + p2.length) * 1 ≤ 140737488355328)) (lo ((((FwwIntnn0 p17) + p1.length) + 1) + p2.length ≤ 140737488355328))))) (lo (p2.length = p2.length * 1))) (pa (lr (1 = 1)) (lo (0 + (((FwwIntnn0 p17) + p1.length) + 1) * 1 = ((FwwIntnn0 p17) + p1.length) + 1)))) (pu (pa (pa (lo (0 + ((((FwwIntnn0 p17) + p1.length) + 1) + p2.length) ≤ (((FwwIntnn0 p17) + p1.length) + 1) + p2.length)) pT) (pl (show (part1 ((((FwwIntn p17) ++ p1) ++ [p3]) ++ p2) ((((FwwIntnn0 p17) + p1.length) + 1) + p2.length) 0 ((((FwwIntnn0 p17) + p1.length) + 1) + p2.length)).length ≤ 100000000 from by first | omega | decide | exact part1_le (by omega) (by simp only [List.length_append, len_FwwIntn, List.length_cons, List.length_nil]; omega)))) (t1 (pu (pa pT (lr (32 = 32))) pT)))))))) ?_
 refine sq [] none [10] [256] ([(10, .sc (.sl 256 0 32 1 (some 32)))], [(256, .ints .u8 32 (Fkone32v0 p17 p1 p2 p3))]) 352 (t2 (pu (pa (lo ((0 : Int) ≤ 0 ∧ (0 : Int) ≤ 32 ∧ (32 : Int) ≤ 32 ∧ (32 : Int) ≤ ((32 : Nat) : Int))) (lo (32 ≤ 32))) (t1 pT))) ?_
 refine Tri.ret ?_
 refine rt ?_
 exact er [(256, 0)] pz
noncomputable def BkKeys : Bs := { P := Go.Proofs.Tryd.prog, G := gD, tab := tabOf [⟨28, 64, [.io], [], [], ⟨0, 1, SkHash⟩, false⟩, ⟨64, 320, [.io, .ro .u8, .ro .u8, .val, .val], [64], [], ⟨0, 1, Skone16⟩, false⟩, ⟨64, 416, [.io, .ro .u8, .ro .u8, .val, .val], [64], [], ⟨0, 1, Skone16⟩, false⟩, ⟨64, 512, [.io, .ro .u8, .ro .u8, .val, .val], [64], [], ⟨0, 1, Skone32⟩, false⟩, ⟨64, 800, [.io, .ro .u8, .ro .u8, .val, .val], [64], [], ⟨0, 1, Skone16⟩, false⟩, ⟨64, 896, [.io, .ro .u8, .ro .u8, .val, .val], [64], [], ⟨0, 1, Skone16⟩, false⟩, ⟨64, 992, [.io, .ro .u8, .ro .u8, .val, .val], [64], [], ⟨0, 1, Skone32⟩, false⟩], n := 39 }
theorem BkKeys.ok : BkKeys.Ok := ⟨tabOk (P := Go.Proofs.Tryd.prog) (G := gD) (l := [⟨28, 64, [.io], [], [], ⟨0, 1, SkHash⟩, false⟩, ⟨64, 320, [.io, .ro .u8, .ro .u8, .val, .val], [64], [], ⟨0, 1, Skone16⟩, false⟩, ⟨64, 416, [.io, .ro .u8, .ro .u8, .val, .val], [64], [], ⟨0, 1, Skone16⟩, false⟩, ⟨64, 512, [.io, .ro .u8, .ro .u8, .val, .val], [64], [], ⟨0, 1, Skone32⟩, false⟩, ⟨64, 800, [.io, .ro .u8, .ro .u8, .val, .val], [64], [], ⟨0, 1, Skone16⟩, false⟩, ⟨64, 896, [.io, .ro .u8, .ro .u8, .val, .val], [64], [], ⟨0, 1, Skone16⟩, false⟩, ⟨64, 992, [.io, .ro .u8, .ro .u8, .val, .val], [64], [], ⟨0, 1, Skone32⟩, false⟩]) (And.intro KkHash (And.intro Kkone16 (And.intro Kkone16 (And.intro Kkone32 (And.intro Kkone16 (And.intro Kkone16 (And.intro Kkone32 True.intro))))))), mixed⟩
noncomputable def BkrKey : Bs := { P := Go.Proofs.Tryd.prog, G := gD, tab := tabOf [⟨29, 112, [.io], [], [], ⟨0, 1, SkrHash⟩, false⟩, ⟨62, 208, [.ro .u8, .val], [192], [], ⟨0, 1, S36w32⟩, false⟩, ⟨63, 80, [.ro .u8], [], [], ⟨0, 1, SwrInt⟩, false⟩, ⟨65, 192, [.rob], [176, 80, 112, 144], [], ⟨0, 1, SwrJoin⟩, false⟩], n := 18 }
theorem BkrKey.ok : BkrKey.Ok := ⟨tabOk (P := Go.Proofs.Tryd.prog) (G := gD) (l := [⟨29, 112, [.io], [], [], ⟨0, 1, SkrHash⟩, false⟩, ⟨62, 208, [.ro .u8, .val], [192], [], ⟨0, 1, S36w32⟩, false⟩, ⟨63, 80, [.ro .u8], [], [], ⟨0, 1, SwrInt⟩, false⟩, ⟨65, 192, [.rob], [176, 80, 112, 144], [], ⟨0, 1, SwrJoin⟩, false⟩]) (And.intro KkrHash (And.intro K36w32 (And.intro KwrInt (And.intro KwrJoin True.intro)))), mixed⟩
end Go.Vm
set_option linter.unusedVariables false
set_option linter.unusedSimpArgs false
namespace Go.Vm
open Go
def Dg (xs : List Int) : Prop := ∀ x ∈ xs, 0 ≤ x ∧ x < 256
theorem dg_drop {xs : List Int} (n : Nat) (h : Dg xs) : Dg (xs.drop n) := fun x hx => h x (List.mem_of_mem_drop hx)
theorem dg_take {xs : List Int} (n : Nat) (h : Dg xs) : Dg (xs.take n) := fun x hx => h x (List.mem_of_mem_take hx)
theorem dg_app {xs ys : List Int} (h : Dg xs) (h' : Dg ys) : Dg (xs ++ ys) := fun x hx => (List.mem_append.1 hx).elim (h x) (h' x)
theorem dg_bytesI (s : ByteArray) : Dg (bytesI s) := by
  intro x hx
  unfold bytesI at hx
  obtain ⟨c, _, rfl⟩ := List.mem_map.1 hx
  have := c.toNat_lt
  omega
def be4 (n : Nat) : List Int := [((n / 16777216 % 256 : Nat) : Int), ((n / 65536 % 256 : Nat) : Int), ((n / 256 % 256 : Nat) : Int), ((n % 256 : Nat) : Int)]
theorem dg_be4 (n : Nat) : Dg (be4 n) := by
  intro x hx
  simp only [be4, List.mem_cons, List.not_mem_nil, or_false] at hx
  omega
theorem be4_of (n : Nat) (h : n < 4294967296) : [(IntKind.wrap .u8 (iShr .u32 (IntKind.wrap .u32 (n : Int)) 24)), (IntKind.wrap .u8 (iShr .u32 (IntKind.wrap .u32 (n : Int)) 16)), (IntKind.wrap .u8 (iShr .u32 (IntKind.wrap .u32 (n : Int)) 8)), (IntKind.wrap .u8 (IntKind.wrap .u32 (n : Int)))] = be4 n := by
  have e1 := iShr_at .u32 (IntKind.wrap .u32 (n : Int)) 24 (by decide)
  have e2 := iShr_at .u32 (IntKind.wrap .u32 (n : Int)) 16 (by decide)
  have e3 := iShr_at .u32 (IntKind.wrap .u32 (n : Int)) 8 (by decide)
  have w : IntKind.wrap .u32 (n : Int) = (n : Int) := by rw [wrap_u32]; omega
  rw [w] at e1 e2 e3 ⊢
  rw [show (24 : Int) = ((24 : Nat) : Int) from rfl, show (16 : Int) = ((16 : Nat) : Int) from rfl, show (8 : Int) = ((8 : Nat) : Int) from rfl, e1, e2, e3]
  have p1 : (2 : Int) ^ 24 = 16777216 := rfl
  have p2 : (2 : Int) ^ 16 = 65536 := rfl
  have p3 : (2 : Int) ^ 8 = 256 := rfl
  rw [p1, p2, p3, wrap_u8, wrap_u8, wrap_u8, wrap_u8]
  have q1 : (n : Int) / 16777216 % 256 = ((n / 16777216 % 256 : Nat) : Int) := by omega
  have q2 : (n : Int) / 65536 % 256 = ((n / 65536 % 256 : Nat) : Int) := by omega
  have q3 : (n : Int) / 256 % 256 = ((n / 256 % 256 : Nat) : Int) := by omega
  have q4 : (n : Int) % 256 = ((n % 256 : Nat) : Int) := by omega
  rw [q1, q2, q3, q4]
  rfl
theorem or8 (z c : Nat) (hz : z < 16777216) (hc : c < 256) : iOr .u32 (iShl .u32 (z : Int) 8) (IntKind.wrap .u32 (c : Int)) = ((z * 256 + c : Nat) : Int) := by
  have e1 : iShl .u32 (z : Int) 8 = ((z * 256 : Nat) : Int) := by
    have := iShl_at .u32 (z : Int) 8 (by decide)
    rw [show (8 : Int) = ((8 : Nat) : Int) from rfl, this, wrap_u32, show (2 : Int) ^ 8 = 256 from rfl]
    omega
  rw [e1, wrap_u32]
  have e2 : ((c : Int) % 4294967296) = (c : Int) := by omega
  rw [e2]
  unfold iOr
  rw [wrap_u32]
  have e3 : (BitVec.ofInt (IntKind.bits .u32) ((z * 256 : Nat) : Int) ||| BitVec.ofInt (IntKind.bits .u32) ((c : Nat) : Int)).toNat = z * 256 + c := by
    rw [BitVec.toNat_or, BitVec.ofInt_natCast, BitVec.ofInt_natCast, BitVec.toNat_ofNat, BitVec.toNat_ofNat]
    show (z * 256 % 4294967296 ||| c % 4294967296) = z * 256 + c
    rw [Nat.mod_eq_of_lt (by omega), Nat.mod_eq_of_lt (by omega)]
    have := Nat.two_pow_add_eq_or_of_lt (i := 8) (b := c) (by omega) z
    rw [show 2 ^ 8 * z = z * 256 from by omega] at this
    exact this.symm
  rw [e3]
  omega
def lz : List Int → Nat
  | [] => 0
  | x :: r => if x = 0 then lz r + 1 else 0
def trim (p : List Int) : List Int := p.drop (lz p)
def pad (t : List Int) : List Int := sel (decide (t.getD 0 0 ≥ 128)) (0 :: t) t
def enc (p : List Int) : List Int := be4 (pad (trim p)).length ++ pad (trim p)
theorem u32o_at (k : Nat) (xs : List Int) (n : Nat) (h : n < 4294967296) : FwwU32 k xs (IntKind.wrap .u32 ((n : Nat) : Int)) = xs ++ be4 n := congrArg (xs ++ ·) (be4_of n h)
theorem text_writes (k : Nat) (xs : List Int) (s : ByteArray) (h : s.size < 4294967296) : FwwText k xs s = xs ++ be4 s.size ++ bytesI s := by
  unfold FwwText
  rw [u32o_at _ _ _ h]
theorem names_writes (k : Nat) (xs : List Int) (l : List ByteArray) (h : (joinB l (⟨#[44]⟩ : ByteArray)).size < 4294967296) : FwwNames k xs l = xs ++ be4 (joinB l (⟨#[44]⟩ : ByteArray)).size ++ bytesI (joinB l (⟨#[44]⟩ : ByteArray)) := text_writes k xs _ h
abbrev Rd := Option (List Int)
def tkO : Rd → Nat → List Int
  | some s, n => if n ≤ s.length then s.take n else []
  | none, _ => []
def nxO : Rd → Nat → Rd
  | some s, n => if n ≤ s.length then some (s.drop n) else none
  | none, _ => none
theorem tkO_some (s : List Int) (n : Nat) : tkO (some s) n = if n ≤ s.length then s.take n else [] := rfl
theorem nxO_some (s : List Int) (n : Nat) : nxO (some s) n = if n ≤ s.length then some (s.drop n) else none := rfl
def rb : Rd → List Int
  | some s => s
  | none => []
def rbad : Rd → Bool
  | some _ => false
  | none => true
def RdOk (st : Rd) : Prop := ∀ s, st = some s → Dg s ∧ s.length ≤ 1000000000
theorem RdOk.nx {st : Rd} (h : RdOk st) (n : Nat) : RdOk (nxO st n) := by
  intro s hs
  cases st with
  | none => cases hs
  | some t =>
    rw [nxO_some] at hs
    split at hs
    · cases hs
      exact ⟨dg_drop _ (h t rfl).1, by rw [List.length_drop]; have := (h t rfl).2; omega⟩
    · cases hs
theorem RdOk.tk {st : Rd} (h : RdOk st) (n : Nat) : Dg (tkO st n) := by
  cases st with
  | none => intro x hx; cases hx
  | some t =>
    rw [tkO_some]
    split
    · exact dg_take _ (h t rfl).1
    · intro x hx; cases hx
theorem tk_len (st : Rd) (n : Nat) : (tkO st n).length = n ∨ tkO st n = [] := by
  cases st with
  | none => exact .inr rfl
  | some t =>
    rw [tkO_some]
    split
    · rw [List.length_take]; exact .inl (by omega)
    · exact .inr rfl
theorem tk_le (st : Rd) (n : Nat) : (tkO st n).length ≤ n := by
  rcases tk_len st n with h | h
  · omega
  · rw [h]; exact Nat.zero_le _
theorem nx_none {st : Rd} (h : RdOk st) {n : Nat} (hn : 1000000000 < n) : nxO st n = none := by
  cases st with
  | none => rfl
  | some s =>
    have := (h s rfl).2
    rw [nxO_some, if_neg (by omega)]
theorem tk_none {st : Rd} (h : RdOk st) {n : Nat} (hn : 1000000000 < n) : tkO st n = [] := by
  cases st with
  | none => rfl
  | some s =>
    have := (h s rfl).2
    rw [tkO_some, if_neg (by omega)]
def val4 : List Int → Nat
  | [a, b, c, d] => a.toNat * 16777216 + b.toNat * 65536 + c.toNat * 256 + d.toNat
  | _ => 0
def u32V (st : Rd) : Nat := val4 (tkO st 4)
def byteV (st : Rd) : Int := (tkO st 1).getD 0 0
def textV (st : Rd) : List Int := if u32V st > 16384 then [] else tkO (nxO st 4) (u32V st)
def textN (st : Rd) : Rd := if u32V st > 16384 then none else nxO (nxO st 4) (u32V st)
theorem val4_lt {x : List Int} (h : Dg x) : val4 x < 4294967296 := by
  unfold val4
  split
  · rename_i a b c d
    have ha := h a (by simp)
    have hb := h b (by simp)
    have hc := h c (by simp)
    have hd := h d (by simp)
    omega
  · decide
theorem u32V_lt {st : Rd} (h : RdOk st) : u32V st < 4294967296 := val4_lt (h.tk 4)
theorem RdOk.textV {st : Rd} (h : RdOk st) : Dg (textV st) ∧ (textV st).length ≤ 16384 := by
  unfold Vm.textV
  split
  · exact ⟨fun x hx => (by cases hx), Nat.zero_le _⟩
  · exact ⟨(h.nx 4).tk _, Nat.le_trans (tk_le _ _) (by omega)⟩
theorem RdOk.textN {st : Rd} (h : RdOk st) : RdOk (textN st) := by
  unfold Vm.textN
  split
  · intro s hs; cases hs
  · exact (h.nx 4).nx _
theorem take_at (st : Rd) (n : Int) (h : 0 ≤ n) : FwtakeF (rb st) (rbad st) n = tkO st n.toNat ∧ FwtakeF_1 (rb st) (rbad st) n = rb (nxO st n.toNat) ∧ FwtakeF_2 (rb st) (rbad st) n = rbad (nxO st n.toNat) := by
  unfold FwtakeF FwtakeF_1 FwtakeF_2
  cases st with
  | none => exact ⟨rfl, rfl, rfl⟩
  | some s =>
    rw [tkO_some, nxO_some]
    show sel false _ _ = _ ∧ sel false _ _ = _ ∧ sel false _ _ = _
    rw [sel_false, sel_false, sel_false]
    show sel (decide (n > (s.length : Int))) _ _ = _ ∧ sel (decide (n > (s.length : Int))) _ _ = _ ∧ sel (decide (n > (s.length : Int))) _ _ = _
    by_cases hn : n.toNat ≤ s.length
    · rw [decide_eq_false (show ¬ n > (s.length : Int) by omega), sel_false, sel_false, sel_false, if_pos hn, if_pos hn]
      refine ⟨rfl, ?_, rfl⟩
      show (s.drop n.toNat).take (s.length - n.toNat) = _
      rw [List.take_of_length_le (by rw [List.length_drop]; exact Nat.le_refl _)]
      rfl
    · rw [decide_eq_true (show n > (s.length : Int) by omega), sel_true, sel_true, sel_true, if_neg hn, if_neg hn]
      exact ⟨rfl, rfl, rfl⟩
theorem takeOk_at (s : List Int) (b : Bool) (n : Int) : FwtakeOk s b n = s.take n.toNat ∧ FwtakeOk_1 s b n = s.drop n.toNat := by
  unfold FwtakeOk FwtakeOk_1
  refine ⟨rfl, ?_⟩
  rw [List.take_of_length_le (by rw [List.length_drop]; exact Nat.le_refl _)]
theorem byte_at (st : Rd) : FwByte (rb st) (rbad st) = byteV st ∧ FwByte_1 (rb st) (rbad st) = rb (nxO st 1) ∧ FwByte_2 (rb st) (rbad st) = rbad (nxO st 1) := by
  unfold FwByte FwByte_1 FwByte_2 byteV
  cases st with
  | none => exact ⟨rfl, rfl, rfl⟩
  | some s =>
    rw [tkO_some, nxO_some]
    show sel false _ _ = _ ∧ sel false _ _ = _ ∧ sel false _ _ = _
    rw [sel_false, sel_false, sel_false]
    show sel (decide ((1 : Int) > (s.length : Int))) _ _ = _ ∧ sel (decide ((1 : Int) > (s.length : Int))) _ _ = _ ∧ sel (decide ((1 : Int) > (s.length : Int))) _ _ = _
    by_cases hn : 1 ≤ s.length
    · rw [decide_eq_false (show ¬ (1 : Int) > (s.length : Int) by omega), sel_false, sel_false, sel_false, if_pos hn, if_pos hn]
      exact ⟨by show (FwtakeOk s false 1).getD 0 0 = _; rw [(takeOk_at s false 1).1]; rfl, (takeOk_at s false 1).2, rfl⟩
    · rw [decide_eq_true (show (1 : Int) > (s.length : Int) by omega), sel_true, sel_true, sel_true, if_neg hn, if_neg hn]
      exact ⟨rfl, rfl, rfl⟩
theorem flag_at (st : Rd) : FwFlag (rb st) (rbad st) = (byteV st != 0) ∧ FwFlag_1 (rb st) (rbad st) = rb (nxO st 1) ∧ FwFlag_2 (rb st) (rbad st) = rbad (nxO st 1) := by
  obtain ⟨h1, h2, h3⟩ := byte_at st
  exact ⟨by unfold FwFlag; rw [h1], h2, h3⟩
theorem or8' (z : Nat) {x : Int} (hz : z < 16777216) (hx : 0 ≤ x ∧ x < 256) : iOr .u32 (iShl .u32 (z : Int) 8) (IntKind.wrap .u32 x) = ((z * 256 + x.toNat : Nat) : Int) := by
  have := or8 z x.toNat hz (by omega)
  rw [show ((x.toNat : Nat) : Int) = x by omega] at this
  exact this
theorem u32_at {st : Rd} (h : RdOk st) : FwU32 (rb st) (rbad st) = (u32V st : Int) ∧ FwU32_1 (rb st) (rbad st) = rb (nxO st 4) ∧ FwU32_2 (rb st) (rbad st) = rbad (nxO st 4) := by
  obtain ⟨h1, h2, h3⟩ := take_at st 4 (by decide)
  refine ⟨?_, h2, h3⟩
  have hd := h.tk 4
  have h1' : FwtakeF (rb st) (rbad st) 4 = tkO st 4 := h1
  have f0 : ∀ k z, FwU32l0 (rb st) (rbad st) k z = iOr .u32 (iShl .u32 z 8) (IntKind.wrap .u32 ((tkO st 4).getD k 0)) := fun k z => by unfold FwU32l0; rw [h1']
  unfold FwU32 u32V
  rw [h1']
  rcases tk_len st 4 with hl | hl
  · generalize tkO st 4 = x at *
    match x, hl with
    | [a, b, c, d], _ =>
      have ha := hd a (by simp)
      have hb := hd b (by simp)
      have hc := hd c (by simp)
      have hd' := hd d (by simp)
      show itr _ 4 0 = _
      rw [itr_succ, itr_succ, itr_succ, itr_succ, itr_zero, f0, f0, f0, f0]
      show iOr .u32 (iShl .u32 (iOr .u32 (iShl .u32 (iOr .u32 (iShl .u32 (iOr .u32 (iShl .u32 ((0 : Nat) : Int) 8) (IntKind.wrap .u32 a)) 8) (IntKind.wrap .u32 b)) 8) (IntKind.wrap .u32 c)) 8) (IntKind.wrap .u32 d) = _
      rw [or8' _ (by omega) ha, or8' _ (by omega) hb, or8' _ (by omega) hc, or8' _ (by omega) hd']
      show _ = ((a.toNat * 16777216 + b.toNat * 65536 + c.toNat * 256 + d.toNat : Nat) : Int)
      omega
  · rw [hl]
    show itr _ 0 0 = _
    rw [itr_zero]
    rfl
theorem text_at {st : Rd} (h : RdOk st) : FwText (rb st) (rbad st) = bytesOf (textV st) ∧ FwText_1 (rb st) (rbad st) = rb (textN st) ∧ FwText_2 (rb st) (rbad st) = rbad (textN st) := by
  obtain ⟨h1, h2, h3⟩ := u32_at h
  have hlt := u32V_lt h
  unfold FwText FwText_1 FwText_2 textV textN
  rw [h1, h2, h3]
  by_cases hu : u32V st > 16384
  · rw [decide_eq_true (show ((u32V st : Nat) : Int) > 16384 by omega), sel_true, sel_true, sel_true, if_pos hu, if_pos hu]
    obtain ⟨_, t2, t3⟩ := take_at (nxO st 4) 1073741824 (by decide)
    have := nx_none (h.nx 4) (n := (1073741824 : Int).toNat) (by decide)
    rw [this] at t2 t3
    exact ⟨rfl, t2, t3⟩
  · rw [decide_eq_false (show ¬ ((u32V st : Nat) : Int) > 16384 by omega), sel_false, sel_false, sel_false, if_neg hu, if_neg hu]
    have w : IntKind.wrap .i64 ((u32V st : Nat) : Int) = ((u32V st : Nat) : Int) := wrap_small (by omega) (by omega)
    rw [w]
    obtain ⟨t1, t2, t3⟩ := take_at (nxO st 4) ((u32V st : Nat) : Int) (by omega)
    rw [Int.toNat_natCast] at t1 t2 t3
    exact ⟨by rw [t1], t2, t3⟩
theorem bytes_at {st : Rd} (h : RdOk st) (n : Int) : FwBytes (rb st) (rbad st) n = (if n < 0 then [] else tkO st n.toNat) ∧ FwBytes_1 (rb st) (rbad st) n = rb (if n < 0 then none else nxO st n.toNat) ∧ FwBytes_2 (rb st) (rbad st) n = rbad (if n < 0 then none else nxO st n.toNat) := by
  unfold FwBytes FwBytes_1 FwBytes_2
  by_cases hn : n < 0
  · rw [decide_eq_true hn, sel_true, if_pos hn, if_pos hn]
    obtain ⟨t1, t2, t3⟩ := take_at st 1073741824 (by decide)
    rw [nx_none h (n := (1073741824 : Int).toNat) (by decide)] at t2 t3
    rw [tk_none h (n := (1073741824 : Int).toNat) (by decide)] at t1
    exact ⟨t1, t2, t3⟩
  · rw [decide_eq_false hn, sel_false, if_neg hn, if_neg hn]
    exact take_at st n (by omega)
theorem endr_at (st : Rd) : FwEnd (rb st) (rbad st) = (st == some []) := by
  unfold FwEnd
  cases st with
  | none => rfl
  | some s => cases s <;> rfl
def spl : List UInt8 → List (List UInt8)
  | [] => [[]]
  | c :: r => if c = 44 then [] :: spl r else match spl r with
    | h :: t => (c :: h) :: t
    | [] => [[c]]
def ba (l : List UInt8) : ByteArray := ⟨l.toArray⟩
def splS (s : ByteArray) : List ByteArray := (spl s.data.toList).map ba
theorem spl_ne : ∀ l, spl l ≠ []
  | [] => by simp [spl]
  | c :: r => by
    unfold spl
    split
    · simp
    · cases h : spl r with
      | nil => simp
      | cons a t => simp
theorem ba_data (s : ByteArray) : ba s.data.toList = s := by
  obtain ⟨⟨l⟩⟩ := s
  rfl
theorem ba_extract (l : List UInt8) (a b : Nat) : (ba l).extract a b = ba ((l.drop a).take (b - a)) := by
  apply ByteArray.ext
  rw [ByteArray.data_extract]
  unfold ba
  simp [List.extract_eq_take_drop]
theorem ba_size (l : List UInt8) : (ba l).size = l.length := rfl
theorem idx_split : ∀ (l : List UInt8), 0 < l.count 44 → ∃ u v, l = u ++ 44 :: v ∧ Lib.indexByte l 44 = (u.length : Int) ∧ spl l = u :: spl v ∧ l.count 44 = v.count 44 + 1
  | [], h => by simp at h
  | c :: r, h => by
    by_cases hc : c = 44
    · subst hc
      refine ⟨[], r, rfl, rfl, ?_, by simp⟩
      rw [spl, if_pos rfl]
    · have hb : (c == 44) = false := by simpa using hc
      rw [List.count_cons, hb] at h
      obtain ⟨u, v, h1, h2, h3, h4⟩ := idx_split r (by simpa using h)
      refine ⟨c :: u, v, by rw [h1]; rfl, ?_, ?_, ?_⟩
      · unfold Lib.indexByte
        rw [hb, h2]
        have : ((u.length : Int) == -1) = false := by rw [beq_eq_false_iff_ne]; omega
        rw [this]
        simp
      · rw [spl, if_neg hc, h3]
      · rw [List.count_cons, hb, h4]; rfl
theorem spl_one : ∀ (l : List UInt8), l.count 44 = 0 → spl l = [l]
  | [], _ => rfl
  | c :: r, h => by
    have hc : c ≠ 44 := fun e => by subst e; simp at h
    have hb : (c == 44) = false := by simpa using hc
    rw [List.count_cons, hb] at h
    rw [spl, if_neg hc, spl_one r (by simpa using h)]
theorem spl_len : ∀ (l : List UInt8), (spl l).length = l.count 44 + 1
  | [] => rfl
  | c :: r => by
    by_cases hc : c = 44
    · subst hc
      rw [spl, if_pos rfl, List.length_cons, spl_len r, List.count_cons]
      simp
    · have hb : (c == 44) = false := by simpa using hc
      have ih := spl_len r
      cases hs : spl r with
      | nil => exact absurd hs (spl_ne r)
      | cons h t =>
        rw [spl, if_neg hc, hs, List.count_cons, hb]
        rw [hs] at ih
        simpa using ih
theorem FwIndex_eq (l : List UInt8) : FwIndex (ba l) = Lib.indexByte l 44 := by
  unfold FwIndex FwslIndex
  cases h : strEq (⟨#[44]⟩ : ByteArray) (ba l) with
  | false => rfl
  | true =>
    have := congrArg (fun s : ByteArray => s.data.toList) (strEq_eq h)
    have hl : l = [44] := this.symm
    rw [hl]
    rfl
theorem FwCount_eq (l : List UInt8) : FwCount (ba l) = l.count 44 := rfl
theorem split_loop (l : List UInt8) (hl : l.length ≤ 1000000000) : ∀ k, k ≤ l.count 44 → ∃ P rest, itr FwgenSplitl0 k (ba l, List.replicate (l.count 44 + 1) (⟨#[]⟩ : ByteArray)) = (ba rest, P.map ba ++ List.replicate (l.count 44 + 1 - k) (⟨#[]⟩ : ByteArray)) ∧
    P.length = k ∧ spl l = P ++ spl rest ∧ rest.count 44 + k = l.count 44 ∧ rest.length ≤ 1000000000 := by
  intro k
  induction k with
  | zero => intro _; exact ⟨[], l, by rw [itr_zero]; rfl, rfl, rfl, rfl, hl⟩
  | succ k ih =>
    intro hk
    obtain ⟨P, rest, h1, h2, h3, h4, hr⟩ := ih (by omega)
    obtain ⟨u, v, h5, h6, h7, h8⟩ := idx_split rest (by omega)
    refine ⟨P ++ [u], v, ?_, by simp [h2], by rw [h3, h7]; simp, by omega, ?_⟩
    rotate_left
    · have := congrArg List.length h5
      simp at this
      omega
    rw [itr_succ, h1]
    unfold FwgenSplitl0
    simp only
    rw [FwIndex_eq, h6]
    have hlen : rest.length = u.length + 1 + v.length := by rw [h5]; simp; omega
    have hlr : rest.length ≤ 1000000000 := hr
    have e1 : iAdd .i64 (u.length : Int) 1 = ((u.length + 1 : Nat) : Int) := by rw [iAdd_i64 (by omega) (by omega)]; omega
    have e2 : iAdd .i64 (u.length : Int) 0 = ((u.length : Nat) : Int) := by rw [iAdd_i64 (by omega) (by omega)]; omega
    rw [e1, e2, Int.toNat_natCast, Int.toNat_natCast, ba_extract, ba_extract, ba_size]
    refine Prod.ext ?_ ?_
    · show ba _ = ba v
      congr 1
      rw [h5, show u ++ 44 :: v = (u ++ [44]) ++ v by simp, List.drop_left' (by simp), List.take_of_length_le (by simp; omega)]
    · show ((P.map ba ++ List.replicate (l.count 44 + 1 - k) (⟨#[]⟩ : ByteArray)).set k _) = _
      have e3 : (rest.drop 0).take (u.length - 0) = u := by rw [h5]; simp
      rw [e3, List.set_append_right _ _ (by simp [h2]), List.length_map, h2, Nat.sub_self, List.map_append, List.append_assoc]
      congr 1
      rw [show l.count 44 + 1 - k = (l.count 44 + 1 - (k + 1)) + 1 by omega, List.replicate_succ]
      rfl
theorem split_all (s : ByteArray) (hs : s.size ≤ 1000000000) : partV (FwSplit s) 0 (FwgenSplitn0 s) = splS s ∧ FwgenSplitn0 s = (splS s).length := by
  obtain ⟨l, rfl⟩ : ∃ l, s = ba l := ⟨s.data.toList, (ba_data s).symm⟩
  have hl : l.length ≤ 1000000000 := hs
  have hc : l.count 44 ≤ l.length := List.count_le_length
  have hN : min (FwCount (ba l) + 1) ((ba l).size + 1) = l.count 44 + 1 := by rw [FwCount_eq, ba_size]; omega
  have hst : fstB (FwgenSplits0 (ba l)) (l.count 44) = l.count 44 := by
    refine fst_none fun j hj => ?_
    obtain ⟨P, rest, h1, h2, h3, h4, hr⟩ := split_loop l hl j (by omega)
    obtain ⟨u, v, h5, h6, h7, h8⟩ := idx_split rest (by omega)
    unfold FwgenSplits0
    rw [hN, h1]
    simp only
    rw [FwIndex_eq, h6, decide_eq_false (by omega), sel_false]
  obtain ⟨P, rest, h1, h2, h3, h4, hr⟩ := split_loop l hl (l.count 44) (Nat.le_refl _)
  unfold FwSplit FwgenSplit FwgenSplitn0
  rw [hN, Nat.add_sub_cancel, hst, blt_self, sel_false, sel_false, h1]
  have hsp : splS (ba l) = P.map ba ++ [ba rest] := by
    show (spl l).map ba = _
    rw [h3, spl_one rest (by omega), List.map_append]
    rfl
  refine ⟨?_, ?_⟩
  · rw [partV_eq, List.drop_zero, hsp]
    simp only
    rw [show l.count 44 + 1 - l.count 44 = 1 by omega, List.set_append_right _ _ (by simp [h2]), List.length_map, h2, Nat.sub_self]
    rw [List.take_of_length_le (by simp [h2])]
    rfl
  · rw [hsp, List.length_append, List.length_map, h2]
    rfl
theorem fst_congr {S S' : Nat → Bool} : ∀ {n : Nat}, (∀ j, j < n → S j = S' j) → fstB S n = fstB S' n
  | 0, _ => rfl
  | n + 1, h => by
    rw [fstB, fstB, fst_congr (fun j hj => h j (by omega)), h n (by omega)]
def noName (L : List ByteArray) : Bool := Nat.blt (fstB (fun k => sel (strEq (L.getD k (⟨#[]⟩ : ByteArray)) (⟨#[]⟩ : ByteArray)) true false) L.length) L.length
def namesT (T : ByteArray) : Option (List ByteArray) := if strEq T (⟨#[]⟩ : ByteArray) then some [] else if noName (splS T) then none else some (splS T)
def namesV (st : Rd) : List ByteArray := (namesT (bytesOf (textV st))).getD []
def namesN (st : Rd) : Rd := sel (namesT (bytesOf (textV st))).isSome (textN st) none
theorem names_at {st : Rd} (h : RdOk st) : FwNames (rb st) (rbad st) = namesV st ∧ FwNames_1 (rb st) (rbad st) = rb (namesN st) ∧ FwNames_2 (rb st) (rbad st) = rbad (namesN st) := by
  obtain ⟨h1, h2, h3⟩ := text_at h
  have hn := h.textN
  have hz : (bytesOf (textV st)).size ≤ 1000000000 := by rw [size_bytesOf]; have := h.textV.2; omega
  obtain ⟨s1, s2⟩ := split_all (bytesOf (textV st)) hz
  have hS : fstB (FwNamess0 (rb st) (rbad st)) (FwgenSplitn0 (FwText (rb st) (rbad st))) = fstB (fun k => sel (strEq ((splS (bytesOf (textV st))).getD k (⟨#[]⟩ : ByteArray)) (⟨#[]⟩ : ByteArray)) true false) (splS (bytesOf (textV st))).length := by
    rw [h1, s2]
    refine fst_congr fun j hj => ?_
    unfold FwNamess0
    rw [h1]
    have : (FwSplit (bytesOf (textV st))).getD j (⟨#[]⟩ : ByteArray) = (splS (bytesOf (textV st))).getD j (⟨#[]⟩ : ByteArray) := by
      rw [← s1, partV_eq, List.drop_zero, List.getD_eq_getElem?_getD, List.getD_eq_getElem?_getD, List.getElem?_take, if_pos (by rw [s2]; exact hj)]
    rw [this]
  unfold FwNames FwNames_1 FwNames_2 namesV namesN namesT
  rw [hS, h1, h2, h3, s1, s2]
  obtain ⟨_, t2, t3⟩ := take_at (textN st) 1073741824 (by decide)
  rw [nx_none hn (n := (1073741824 : Int).toNat) (by decide)] at t2 t3
  rw [t2, t3]
  show sel _ _ (sel (noName (splS (bytesOf (textV st)))) _ _) = _ ∧ sel _ _ (sel (noName (splS (bytesOf (textV st)))) _ _) = _ ∧ sel _ _ (sel (noName (splS (bytesOf (textV st)))) _ _) = _
  cases strEq (bytesOf (textV st)) (⟨#[]⟩ : ByteArray) with
  | true => exact ⟨rfl, rfl, rfl⟩
  | false =>
    cases noName (splS (bytesOf (textV st))) <;> exact ⟨rfl, rfl, rfl⟩
end Go.Vm
set_option linter.unusedVariables false
set_option linter.unusedSimpArgs false
namespace Go.Vm
open Go
theorem sum_spl : ∀ l : List UInt8, sumB ((spl l).map ba) ≤ l.length
  | [] => Nat.le_refl 0
  | c :: r => by
    have ih := sum_spl r
    by_cases hc : c = 44
    · rw [spl, if_pos hc]
      show 0 + sumB _ ≤ r.length + 1
      omega
    · rw [spl, if_neg hc]
      cases hs : spl r with
      | nil => exact absurd hs (spl_ne r)
      | cons h t =>
        rw [hs] at ih
        have ih' : h.length + sumB (t.map ba) ≤ r.length := ih
        show (h.length + 1) + sumB (t.map ba) ≤ r.length + 1
        omega
def nmOk (x : List ByteArray) : Prop := x.length ≤ 16385 ∧ sumB x ≤ 16384
theorem nmOk_nil : nmOk [] := ⟨by decide, by decide⟩
theorem namesV_le {st : Rd} (h : RdOk st) : nmOk (namesV st) := by
  have h1 := h.textV
  have hs : (bytesOf (textV st)).size ≤ 16384 := by rw [size_bytesOf]; exact h1.2
  have hl : (bytesOf (textV st)).data.toList.length ≤ 16384 := by rw [Array.length_toList]; exact hs
  unfold namesV namesT
  split
  · exact nmOk_nil
  · split
    · exact nmOk_nil
    · refine ⟨?_, Nat.le_trans (sum_spl _) hl⟩
      show ((spl _).map ba).length ≤ _
      rw [List.length_map, spl_len]
      have := List.count_le_length (a := (44 : UInt8)) (l := (bytesOf (textV st)).data.toList)
      omega
theorem namesN_ok {st : Rd} (h : RdOk st) : RdOk (namesN st) := by
  unfold namesN
  cases (namesT (bytesOf (textV st))).isSome
  · rw [sel_false]; intro s hs; cases hs
  · rw [sel_true]; exact h.textN
def rdT (st : Rd) : Nat → Rd
  | 0 => st
  | k + 1 => namesN (rdT st k)
theorem rdT_ok {st : Rd} (h : RdOk st) : ∀ k, RdOk (rdT st k)
  | 0 => h
  | k + 1 => namesN_ok (rdT_ok h k)
def tabT (st : Rd) : Nat → List (List ByteArray)
  | 0 => zt 8
  | k + 1 => (tabT st k).set k (namesV (rdT st k))
theorem tabT_len (st : Rd) : ∀ k, (tabT st k).length = 8
  | 0 => rfl
  | k + 1 => by rw [tabT, List.length_set, tabT_len st k]
theorem getD_set {α : Type} (l : List α) (k j : Nat) (x d : α) : (l.set k x).getD j d = x ∨ (l.set k x).getD j d = l.getD j d := by
  by_cases e : k = j
  · subst e
    by_cases hk : k < l.length
    · left; rw [List.getD_eq_getElem?_getD, List.getElem?_set_self hk]; rfl
    · right; rw [List.getD_eq_getElem?_getD, List.getD_eq_getElem?_getD, List.getElem?_eq_none (by rw [List.length_set]; omega), List.getElem?_eq_none (by omega)]
  · right; rw [List.getD_eq_getElem?_getD, List.getD_eq_getElem?_getD, List.getElem?_set_ne e]
theorem zt_at (n j : Nat) : (zt n).getD j [] = [] := by
  unfold zt
  rw [List.getD_eq_getElem?_getD, List.getElem?_replicate]
  split <;> rfl
theorem tabT_le {st : Rd} (h : RdOk st) : ∀ k j, nmOk ((tabT st k).getD j [])
  | 0, j => by rw [tabT, zt_at]; exact nmOk_nil
  | k + 1, j => by
    rw [tabT]
    rcases getD_set (tabT st k) k j (namesV (rdT st k)) [] with e | e
    · rw [e]; exact namesV_le (rdT_ok h k)
    · rw [e]; exact tabT_le h k j
theorem read_loop {st : Rd} (h : RdOk st) : ∀ k, itr (FkReadInitl0) k (zt 8, rb st, rbad st) = (tabT st k, rb (rdT st k), rbad (rdT st k))
  | 0 => itr_zero _ _
  | k + 1 => by
    rw [itr_succ, read_loop h k]
    have n := names_at (rdT_ok h k)
    unfold FkReadInitl0
    simp only [n.1, n.2.1, n.2.2]
    rfl
def offR (p : List Int) : Rd := nxO (nxO (some p) 1) 16
def offE (p : List Int) : Rd := nxO (nxO (namesN (namesN (rdT (offR p) 8))) 1) 4
def isOff (p : List Int) : Bool := (byteV (some p) == 20) && (offE p == some [])
def offT (p : List Int) : List (List ByteArray) := if isOff p then tabT (offR p) 8 else zt 8
theorem some_ok {p : List Int} (hd : Dg p) (hl : p.length ≤ 1000000000) : RdOk (some p) := fun s hs => by cases hs; exact ⟨hd, hl⟩
theorem offR_ok {p : List Int} (hd : Dg p) (hl : p.length ≤ 1000000000) : RdOk (offR p) := ((some_ok hd hl).nx 1).nx 16
theorem offT_len (p : List Int) : (offT p).length = 8 := by
  unfold offT
  split
  · exact tabT_len _ _
  · rfl
theorem offT_le {p : List Int} (hd : Dg p) (hl : p.length ≤ 1000000000) (j : Nat) : nmOk ((offT p).getD j []) := by
  unfold offT
  split
  · exact tabT_le (offR_ok hd hl) 8 j
  · rw [zt_at]; exact nmOk_nil
theorem ne_bool (x : Int) : (x != 20) = !(x == 20) := rfl
theorem off_sel {α : Type} (a b : Bool) (x y : α) : sel (!a) x (sel (!b) x y) = if a && b then y else x := by cases a <;> cases b <;> rfl
theorem read_at {p : List Int} (hd : Dg p) (hl : p.length ≤ 1000000000) : FkReadInit p = offT p ∧ FkReadInit_1 p = if isOff p then 0 else 3 := by
  have h0 := some_ok hd hl
  have b1 := byte_at (some p)
  have b2 := bytes_at (h0.nx 1) 16
  have e1 : FwByte p false = byteV (some p) := b1.1
  have e2 : FwByte_1 p false = rb (nxO (some p) 1) := b1.2.1
  have e3 : FwByte_2 p false = rbad (nxO (some p) 1) := b1.2.2
  have hi : FkReadIniti0 p = (tabT (offR p) 8, rb (rdT (offR p) 8), rbad (rdT (offR p) 8)) := by
    unfold FkReadIniti0
    rw [e2, e3, b2.2.1, b2.2.2]
    exact read_loop (offR_ok hd hl) 8
  have hr := rdT_ok (offR_ok hd hl) 8
  have n1 := names_at hr
  have n2 := names_at (namesN_ok hr)
  have f1 := flag_at (namesN (namesN (rdT (offR p) 8)))
  have u1 := u32_at ((namesN_ok (namesN_ok hr)).nx 1)
  have v4 : FkReadInitv4 p = rb (namesN (namesN (rdT (offR p) 8))) := by unfold FkReadInitv4; rw [hi]; simp only [n1.2.1, n1.2.2, n2.2.1]
  have v5 : FkReadInitv5 p = rbad (namesN (namesN (rdT (offR p) 8))) := by unfold FkReadInitv5; rw [hi]; simp only [n1.2.1, n1.2.2, n2.2.2]
  have v6 : FkReadInitv6 p = rb (offE p) := by unfold FkReadInitv6; rw [v4, v5, f1.2.1, f1.2.2, u1.2.1]; rfl
  have v7 : FkReadInitv7 p = rbad (offE p) := by unfold FkReadInitv7; rw [v4, v5, f1.2.1, f1.2.2, u1.2.2]; rfl
  have ve : FwEnd (FkReadInitv6 p) (FkReadInitv7 p) = (offE p == some []) := by rw [v6, v7]; exact endr_at _
  constructor
  · unfold FkReadInit
    rw [e1, ve, hi, ne_bool, off_sel]
    rfl
  · unfold FkReadInit_1
    rw [e1, ve, ne_bool, off_sel]
    rfl
theorem read_atO {p : List Int} (hd : Dg p) (hl : p.length ≤ 1000000000) : FkReadInitO p.length p = offT p ∧ FkReadInitO_1 p.length p = if isOff p then 0 else 3 := by
  have e : part1 p p.length 0 p.length = p := part1_all rfl
  have q1 : FkReadInitO p.length p = FkReadInit p := by
    unfold FkReadInitO FkReadInitOv6 FkReadInitOv7 FkReadInitOv4 FkReadInitOv5 FkReadInitOi0 FkReadInitOv1 FkReadInitOv2
    rw [e]
    rfl
  have q2 : FkReadInitO_1 p.length p = FkReadInit_1 p := by
    unfold FkReadInitO_1 FkReadInitOv6 FkReadInitOv7 FkReadInitOv4 FkReadInitOv5 FkReadInitOi0 FkReadInitOv1 FkReadInitOv2
    rw [e]
    rfl
  rw [q1, q2]
  exact read_at hd hl
end Go.Vm
set_option linter.unusedVariables false
namespace Go.Vm
open Go
def num (B : Int) : List Int → Int
  | [] => 0
  | a :: bs => a + B * num B bs
def Dig (B : Int) (xs : List Int) : Prop := ∀ x ∈ xs, 0 ≤ x ∧ x < B
theorem num_cons (B a : Int) (bs : List Int) : num B (a :: bs) = a + B * num B bs := rfl
theorem Dig.cons {B a : Int} {bs : List Int} (h : Dig B (a :: bs)) : (0 ≤ a ∧ a < B) ∧ Dig B bs :=
  ⟨h a (by simp), fun x hx => h x (List.mem_cons_of_mem _ hx)⟩
theorem Dig.nil {B : Int} : Dig B [] := fun _ h => by cases h
theorem getD_num {B : Int} (hB : 0 < B) : ∀ {xs : List Int} {i : Nat}, Dig B xs → xs.getD i 0 = num B xs / B ^ i % B
  | [], i, h => by simp [num]
  | a :: bs, 0, h => by
    obtain ⟨ha, hs⟩ := h.cons
    rw [List.getD_cons_zero, num_cons, Int.pow_zero, Int.ediv_one, Int.add_mul_emod_self_left, Int.emod_eq_of_lt ha.1 ha.2]
  | a :: bs, i + 1, h => by
    obtain ⟨ha, hs⟩ := h.cons
    rw [List.getD_cons_succ, getD_num hB (i := i) hs, num_cons, Int.pow_succ, Int.mul_comm (B ^ i) B, ← Int.ediv_ediv_of_nonneg (by omega), Int.add_mul_ediv_left _ _ (by omega), Int.ediv_eq_zero_of_lt ha.1 ha.2, Int.zero_add]
theorem getD_dig {B : Int} (hB : 0 < B) {xs : List Int} {i : Nat} (h : Dig B xs) : 0 ≤ xs.getD i 0 ∧ xs.getD i 0 < B := by
  rw [getD_num hB h]
  exact ⟨Int.emod_nonneg _ (by omega), Int.emod_lt_of_pos _ hB⟩
end Go.Vm
set_option linter.unusedVariables false
namespace Go.Vm
open Go
structure Uns (k : IntKind) (N : Nat) : Prop where
  bits : 2 ^ k.bits = N
  wrap : ∀ x, k.wrap x = x % (N : Int)
theorem uns32 : Uns .u32 4294967296 := ⟨rfl, wrap_u32⟩
theorem uns64 : Uns .u64 18446744073709551616 := ⟨rfl, wrap_u64⟩
theorem uns_bv {k : IntKind} {N : Nat} (h : Uns k N) {a : Nat} (ha : a < N) : (BitVec.ofInt k.bits (a : Int)).toNat = a := by
  rw [BitVec.ofInt_natCast, BitVec.toNat_ofNat, h.bits, Nat.mod_eq_of_lt ha]
theorem uns_small {k : IntKind} {N : Nat} (h : Uns k N) {a : Nat} (ha : a < N) : k.wrap (a : Int) = (a : Int) := by
  rw [h.wrap]; exact Int.emod_eq_of_lt (by omega) (by omega)
theorem iOr_nat {k : IntKind} {N : Nat} (h : Uns k N) {a b : Nat} (ha : a < N) (hb : b < N) : iOr k (a : Int) (b : Int) = ((a ||| b : Nat) : Int) := by
  have : a ||| b < N := by rw [← h.bits] at *; exact Nat.or_lt_two_pow ha hb
  unfold iOr
  rw [BitVec.toNat_or, uns_bv h ha, uns_bv h hb, uns_small h this]
theorem iAnd_nat {k : IntKind} {N : Nat} (h : Uns k N) {a b : Nat} (ha : a < N) (hb : b < N) : iAnd k (a : Int) (b : Int) = ((a &&& b : Nat) : Int) := by
  have : a &&& b < N := by have := Nat.and_le_left (n := a) (m := b); omega
  unfold iAnd
  rw [BitVec.toNat_and, uns_bv h ha, uns_bv h hb, uns_small h this]
theorem iXor_nat {k : IntKind} {N : Nat} (h : Uns k N) {a b : Nat} (ha : a < N) (hb : b < N) : iXor k (a : Int) (b : Int) = ((a ^^^ b : Nat) : Int) := by
  have : a ^^^ b < N := by rw [← h.bits] at *; exact Nat.xor_lt_two_pow ha hb
  unfold iXor
  rw [BitVec.toNat_xor, uns_bv h ha, uns_bv h hb, uns_small h this]
end Go.Vm
set_option linter.unusedVariables false
set_option linter.unusedSimpArgs false
namespace Go.Vm
open Go
theorem itr_rel {α β : Type} (R : Nat → α → β → Prop) {f : Nat → α → α} {g : Nat → β → β} : ∀ {n : Nat} {x : α} {y : β}, R 0 x y → (∀ k, k < n → ∀ a b, R k a b → R (k + 1) (f k a) (g k b)) → R n (itr f n x) (itr g n y) := by
  intro n
  induction n with
  | zero => intro x y h0 hs; rw [itr_zero, itr_zero]; exact h0
  | succ n ih =>
    intro x y h0 hs
    rw [itr_succ, itr_succ]
    exact hs n (Nat.lt_succ_self n) _ _ (ih h0 fun k hk => hs k (Nat.lt_succ_of_lt hk))
theorem rot_nat {w n s x : Nat} (hw : n + s = w) (hx : x < 2 ^ w) :
    x * 2 ^ s % 2 ^ w = 2 ^ s * (x % 2 ^ n) ∧ x / 2 ^ n < 2 ^ s ∧ 2 ^ s * (x % 2 ^ n) + x / 2 ^ n < 2 ^ w ∧ (x / 2 ^ n + x * 2 ^ s) % 2 ^ w = 2 ^ s * (x % 2 ^ n) + x / 2 ^ n := by
  subst hw
  have e1 : x * 2 ^ s % 2 ^ (n + s) = 2 ^ s * (x % 2 ^ n) := by rw [Nat.pow_add, Nat.mul_comm x, Nat.mul_comm (2 ^ n)]; exact Nat.mul_mod_mul_left _ _ _
  have e2 : x / 2 ^ n < 2 ^ s := Nat.div_lt_of_lt_mul (by rw [← Nat.pow_add]; exact hx)
  have e3 : 2 ^ s * (x % 2 ^ n) + x / 2 ^ n < 2 ^ (n + s) := by
    have h1 : x % 2 ^ n < 2 ^ n := Nat.mod_lt _ (Nat.pow_pos (by decide))
    have h2 : 2 ^ s * (x % 2 ^ n + 1) ≤ 2 ^ s * 2 ^ n := Nat.mul_le_mul_left _ h1
    rw [Nat.pow_add, Nat.mul_comm (2 ^ n)]
    rw [Nat.mul_add] at h2
    omega
  refine ⟨e1, e2, e3, ?_⟩
  rw [Nat.add_mod, e1, Nat.mod_eq_of_lt (Nat.lt_of_le_of_lt (Nat.div_le_self _ _) hx), Nat.add_comm, Nat.mod_eq_of_lt e3]
theorem shl_nat {k : IntKind} {N : Nat} (h : Uns k N) {a n : Nat} (hn : n ≤ k.bits) : iShl k (a : Int) (n : Int) = ((a * 2 ^ n % N : Nat) : Int) := by
  rw [iShl_at k _ _ hn, h.wrap]
  simp
theorem shr_nat (k : IntKind) {a n : Nat} (hn : n ≤ k.bits) : iShr k (a : Int) (n : Int) = ((a / 2 ^ n : Nat) : Int) := by
  rw [iShr_at k _ _ hn]
  simp
theorem add_nat {k : IntKind} {N : Nat} (h : Uns k N) (a b : Nat) : iAdd k (a : Int) (b : Int) = (((a + b) % N : Nat) : Int) := by
  show k.wrap _ = _
  rw [h.wrap]
  simp
theorem mul_nat {k : IntKind} {N : Nat} (h : Uns k N) (a b : Nat) : iMul k (a : Int) (b : Int) = ((a * b % N : Nat) : Int) := by
  show k.wrap _ = _
  rw [h.wrap]
  simp
theorem wrap_nat {k : IntKind} {N : Nat} (h : Uns k N) (a : Nat) : k.wrap (a : Int) = ((a % N : Nat) : Int) := by
  rw [h.wrap]
  simp
theorem rot_or {k : IntKind} {w n s x : Nat} (h : Uns k (2 ^ w)) (hk : k.bits = w) (hw : n + s = w) (hx : x < 2 ^ w) :
    iOr k (iShl k (x : Int) (s : Int)) (iShr k (x : Int) (n : Int)) = (((x / 2 ^ n + x * 2 ^ s) % 2 ^ w : Nat) : Int) := by
  obtain ⟨e1, e2, e3, e4⟩ := rot_nat hw hx
  rw [shl_nat h (by omega), shr_nat k (by omega), e1, iOr_nat h (by omega) (Nat.lt_of_le_of_lt (Nat.div_le_self _ _) hx), e4, ← Nat.two_pow_add_eq_or_of_lt e2]
theorem ch_nat {w a b c : Nat} (ha : a < 2 ^ w) : (a &&& b) ^^^ (((2 ^ w - 1) ^^^ a) &&& c) = (a &&& b) ||| (((2 ^ w - 1) ^^^ a) &&& c) := by
  apply Nat.eq_of_testBit_eq
  intro i
  simp only [Nat.testBit_xor, Nat.testBit_and, Nat.testBit_or, Nat.testBit_two_pow_sub_one]
  cases hb : a.testBit i
  · simp
  · have : i < w := by
      apply Classical.byContradiction
      intro hn
      rw [Nat.testBit_lt_two_pow (Nat.lt_of_lt_of_le ha (Nat.pow_le_pow_right (by decide) (by omega)))] at hb
      cases hb
    simp [this]
theorem maj_nat (a b c : Nat) : (a &&& b) ^^^ (a &&& c) ^^^ (b &&& c) = ((a &&& b) ||| (b &&& c)) ||| (a &&& c) := by
  apply Nat.eq_of_testBit_eq
  intro i
  simp only [Nat.testBit_xor, Nat.testBit_and, Nat.testBit_or]
  cases a.testBit i <;> cases b.testBit i <;> cases c.testBit i <;> rfl
def Wd (w : Nat) (x : Int) : Prop := ∃ a : Nat, x = (a : Int) ∧ a < 2 ^ w
theorem Wd.up {w v : Nat} {x : Int} (h : Wd w x) (hv : w ≤ v) : Wd v x := by
  obtain ⟨a, rfl, h⟩ := h
  exact ⟨a, rfl, Nat.lt_of_lt_of_le h (Nat.pow_le_pow_right (by decide) hv)⟩
theorem Wd.and {w : Nat} {k : IntKind} (h : Uns k (2 ^ w)) {x y : Int} (hx : Wd w x) (hy : Wd w y) : Wd w (iAnd k x y) := by
  obtain ⟨a, rfl, ha⟩ := hx
  obtain ⟨b, rfl, hb⟩ := hy
  exact ⟨_, iAnd_nat h ha hb, Nat.and_lt_two_pow _ hb⟩
theorem Wd.xor {w : Nat} {k : IntKind} (h : Uns k (2 ^ w)) {x y : Int} (hx : Wd w x) (hy : Wd w y) : Wd w (iXor k x y) := by
  obtain ⟨a, rfl, ha⟩ := hx
  obtain ⟨b, rfl, hb⟩ := hy
  exact ⟨_, iXor_nat h ha hb, Nat.xor_lt_two_pow ha hb⟩
theorem Wd.mod {w : Nat} (x : Int) : Wd w (x % ((2 ^ w : Nat) : Int)) := by
  have hp : (0 : Int) < ((2 ^ w : Nat) : Int) := Int.natCast_pos.2 (Nat.pow_pos (by decide))
  obtain ⟨a, ha⟩ := Int.eq_ofNat_of_zero_le (Int.emod_nonneg x (Int.ne_of_gt hp))
  have h2 := Int.emod_lt_of_pos x hp
  rw [ha] at h2
  exact ⟨a, ha, Int.ofNat_lt.1 h2⟩
theorem Wd.of {w : Nat} {x : Int} (h : 0 ≤ x) (h' : x < ((2 ^ w : Nat) : Int)) : Wd w x := by
  obtain ⟨a, rfl⟩ := Int.eq_ofNat_of_zero_le h
  exact ⟨a, rfl, Int.ofNat_lt.1 h'⟩
theorem adrOne (o i : Nat) : adr o i 1 = o + i := by rw [adr_eq]; omega
def Byte (x : Int) : Prop := ∃ b : Nat, x = (b : Int) ∧ b < 256
theorem xor_same {v w : Nat} {k k' : IntKind} (h : Uns k (2 ^ w)) (h' : Uns k' (2 ^ v)) (hv : w ≤ v) {x y : Int} (hx : Wd w x) (hy : Wd w y) : iXor k' x y = iXor k x y := by
  have hp : 2 ^ w ≤ 2 ^ v := Nat.pow_le_pow_right (by decide) hv
  obtain ⟨a, rfl, ha⟩ := hx
  obtain ⟨b, rfl, hb⟩ := hy
  rw [iXor_nat h ha hb, iXor_nat h' (by omega) (by omega)]
theorem shr_wd {w n : Nat} (k : IntKind) (hn : n ≤ k.bits) {x : Int} (hx : Wd w x) : Wd w (iShr k x (n : Int)) := by
  obtain ⟨a, rfl, ha⟩ := hx
  exact ⟨_, shr_nat k hn, Nat.lt_of_le_of_lt (Nat.div_le_self _ _) ha⟩
theorem shr_same {w n : Nat} (k k' : IntKind) (hn : n ≤ k.bits) (hn' : n ≤ k'.bits) {x : Int} (hx : Wd w x) : iShr k' x (n : Int) = iShr k x (n : Int) := by
  obtain ⟨a, rfl, ha⟩ := hx
  rw [shr_nat k hn, shr_nat k' hn']
theorem ch_same {v w : Nat} {k k' : IntKind} (h : Uns k (2 ^ w)) (h' : Uns k' (2 ^ v)) (hv : w ≤ v) {x y z : Int} (hx : Wd w x) (hy : Wd w y) (hz : Wd w z) :
    iOr k' (iAnd k' x y) (iAnd k' (iXor k' ((2 ^ w - 1 : Nat) : Int) x) z) = iXor k (iAnd k x y) (iAnd k (iXor k ((2 ^ w - 1 : Nat) : Int) x) z) := by
  have hp : 2 ^ w ≤ 2 ^ v := Nat.pow_le_pow_right (by decide) hv
  obtain ⟨a, rfl, ha⟩ := hx
  obtain ⟨b, rfl, hb⟩ := hy
  obtain ⟨c, rfl, hc⟩ := hz
  have hm : 2 ^ w - 1 < 2 ^ w := Nat.sub_lt (Nat.pow_pos (by decide)) (by decide)
  have hq := Nat.xor_lt_two_pow hm ha
  have h1 : a &&& b < 2 ^ w := Nat.and_lt_two_pow _ hb
  have h2 : ((2 ^ w - 1) ^^^ a) &&& c < 2 ^ w := Nat.and_lt_two_pow _ hc
  rw [iXor_nat h hm ha, iXor_nat h' (by omega) (by omega), iAnd_nat h ha hb, iAnd_nat h' (by omega) (by omega), iAnd_nat h hq hc, iAnd_nat h' (by omega) (by omega), iXor_nat h h1 h2, iOr_nat h' (by omega) (by omega), ch_nat ha]
theorem maj_same {v w : Nat} {k k' : IntKind} (h : Uns k (2 ^ w)) (h' : Uns k' (2 ^ v)) (hv : w ≤ v) {x y z : Int} (hx : Wd w x) (hy : Wd w y) (hz : Wd w z) :
    iOr k' (iOr k' (iAnd k' x y) (iAnd k' y z)) (iAnd k' x z) = iXor k (iXor k (iAnd k x y) (iAnd k x z)) (iAnd k y z) := by
  have hp : 2 ^ w ≤ 2 ^ v := Nat.pow_le_pow_right (by decide) hv
  obtain ⟨a, rfl, ha⟩ := hx
  obtain ⟨b, rfl, hb⟩ := hy
  obtain ⟨c, rfl, hc⟩ := hz
  have h1 : a &&& b < 2 ^ w := Nat.and_lt_two_pow _ hb
  have h2 : a &&& c < 2 ^ w := Nat.and_lt_two_pow _ hc
  have h3 : b &&& c < 2 ^ w := Nat.and_lt_two_pow _ hc
  have h4 := Nat.or_lt_two_pow (n := w) h1 h3
  rw [iAnd_nat h ha hb, iAnd_nat h' (by omega) (by omega), iAnd_nat h ha hc, iAnd_nat h' (by omega) (by omega), iAnd_nat h hb hc, iAnd_nat h' (by omega) (by omega), iXor_nat h h1 h2, iXor_nat h (Nat.xor_lt_two_pow h1 h2) h3,
    iOr_nat h' (by omega) (by omega), iOr_nat h' (by omega) (by omega), maj_nat]
end Go.Vm
set_option linter.unusedVariables false
set_option linter.unusedSimpArgs false
set_option maxRecDepth 4000
namespace Go.Vm
open Go
theorem unsP32 : Uns .u32 (2 ^ 32) := uns32
theorem rot32 {n s : Nat} (hw : n + s = 32) (h0 : 0 < n) (h1 : 0 < s) {x : Int} (hx : Wd 32 x) : F60w32 x (n : Int) = F50 x (s : Int) ∧ Wd 32 (F50 x (s : Int)) := by
  obtain ⟨a, rfl, ha⟩ := hx
  have c1 : iAnd .u64 (IntKind.wrap .u64 (s : Int)) 31 = (s : Int) := by
    have h : ∀ s : Fin 32, iAnd .u64 (IntKind.wrap .u64 ((s.val : Nat) : Int)) 31 = ((s.val : Nat) : Int) := by decide
    exact h ⟨s, by omega⟩
  have c2 : iSub .u64 32 (s : Int) = (n : Int) := by rw [iSub_u64]; omega
  have c3 : iSub .i64 32 (n : Int) = (s : Int) := by rw [iSub_i64 (by omega) (by omega)]; omega
  have e1 : F50 (a : Int) (s : Int) = (((a / 2 ^ n + a * 2 ^ s) % 2 ^ 32 : Nat) : Int) := by
    unfold F50
    rw [c1, c2]
    exact rot_or unsP32 rfl hw ha
  refine ⟨?_, _, e1, Nat.mod_lt _ (Nat.pow_pos (by decide))⟩
  rw [e1]
  unfold F60w32
  rw [c3, shr_nat .u64 (show n ≤ 64 by omega), shl_nat uns64 (show s ≤ 64 by omega), add_nat uns64]
  refine (iAnd_mask _ 32 (by decide)).trans ?_
  rw [show ((2 : Int) ^ 32) = ((4294967296 : Nat) : Int) from rfl, ← Int.natCast_emod]
  congr 1
  rw [show (2 : Nat) ^ 32 = 4294967296 from rfl]
  generalize a / 2 ^ n = u
  generalize a * 2 ^ s = v
  omega
theorem mixS32 {n1 s1 n2 s2 n3 : Nat} (h1 : n1 + s1 = 32) (h2 : n2 + s2 = 32) (h1' : 0 < n1 ∧ 0 < s1) (h2' : 0 < n2 ∧ 0 < s2) (h3 : n3 < 32) {x : Int} (hx : Wd 32 x) :
    F54w32 x [(n1 : Int), (n2 : Int), (n3 : Int)] true = iXor .u32 (iXor .u32 (F50 x (s1 : Int)) (F50 x (s2 : Int))) (iShr .u32 x (n3 : Int)) ∧ Wd 32 (iXor .u32 (iXor .u32 (F50 x (s1 : Int)) (F50 x (s2 : Int))) (iShr .u32 x (n3 : Int))) := by
  obtain ⟨a1, a2⟩ := rot32 h1 h1'.1 h1'.2 hx
  obtain ⟨b1, b2⟩ := rot32 h2 h2'.1 h2'.2 hx
  have b3 := shr_wd (n := n3) .u32 (show n3 ≤ 32 by omega) hx
  refine ⟨?_, (a2.xor unsP32 b2).xor unsP32 b3⟩
  unfold F54w32
  rw [sel_true]
  show iXor .u64 (iXor .u64 (F60w32 x (n1 : Int)) (F60w32 x (n2 : Int))) (iShr .u64 x (n3 : Int)) = _
  rw [a1, b1, xor_same (v := 64) unsP32 uns64 (by decide) a2 b2, shr_same .u32 .u64 (show n3 ≤ 32 by omega) (show n3 ≤ 64 by omega) hx, xor_same (v := 64) unsP32 uns64 (by decide) (a2.xor unsP32 b2) b3]
theorem mixB32 {n1 s1 n2 s2 n3 s3 : Nat} (h1 : n1 + s1 = 32) (h2 : n2 + s2 = 32) (h3 : n3 + s3 = 32) (h1' : 0 < n1 ∧ 0 < s1) (h2' : 0 < n2 ∧ 0 < s2) (h3' : 0 < n3 ∧ 0 < s3) {x : Int} (hx : Wd 32 x) :
    F54w32 x [(n1 : Int), (n2 : Int), (n3 : Int)] false = iXor .u32 (iXor .u32 (F50 x (s1 : Int)) (F50 x (s2 : Int))) (F50 x (s3 : Int)) ∧ Wd 32 (iXor .u32 (iXor .u32 (F50 x (s1 : Int)) (F50 x (s2 : Int))) (F50 x (s3 : Int))) := by
  obtain ⟨a1, a2⟩ := rot32 h1 h1'.1 h1'.2 hx
  obtain ⟨b1, b2⟩ := rot32 h2 h2'.1 h2'.2 hx
  obtain ⟨c1, c2⟩ := rot32 h3 h3'.1 h3'.2 hx
  refine ⟨?_, (a2.xor unsP32 b2).xor unsP32 c2⟩
  unfold F54w32
  rw [sel_false]
  show iXor .u64 (iXor .u64 (F60w32 x (n1 : Int)) (F60w32 x (n2 : Int))) (F60w32 x (n3 : Int)) = _
  rw [a1, b1, c1, xor_same (v := 64) unsP32 uns64 (by decide) a2 b2, xor_same (v := 64) unsP32 uns64 (by decide) (a2.xor unsP32 b2) c2]
theorem mixa0w32 {x : Int} (hx : Wd 32 x) : F54w32 x [7, 18, 3] true = (iXor .u32 (iXor .u32 (F50 x 25) (F50 x 14)) (iShr .u32 x 3)) := (mixS32 (n1 := 7) (s1 := 25) (n2 := 18) (s2 := 14) (n3 := 3) rfl rfl (by decide) (by decide) (by decide) hx).1
theorem mixa1w32 {x : Int} (hx : Wd 32 x) : F54w32 x [17, 19, 10] true = (iXor .u32 (iXor .u32 (F50 x 15) (F50 x 13)) (iShr .u32 x 10)) := (mixS32 (n1 := 17) (s1 := 15) (n2 := 19) (s2 := 13) (n3 := 10) rfl rfl (by decide) (by decide) (by decide) hx).1
theorem mixb0w32 {x : Int} (hx : Wd 32 x) : F54w32 x [2, 13, 22] false = (iXor .u32 (iXor .u32 (F50 x 30) (F50 x 19)) (F50 x 10)) := (mixB32 (n1 := 2) (s1 := 30) (n2 := 13) (s2 := 19) (n3 := 22) (s3 := 10) rfl rfl rfl (by decide) (by decide) (by decide) hx).1
theorem mixb1w32 {x : Int} (hx : Wd 32 x) : F54w32 x [6, 11, 25] false = (iXor .u32 (iXor .u32 (F50 x 26) (F50 x 21)) (F50 x 7)) := (mixB32 (n1 := 6) (s1 := 26) (n2 := 11) (s2 := 21) (n3 := 25) (s3 := 7) rfl rfl rfl (by decide) (by decide) (by decide) hx).1
theorem iAddK32 (x y : Int) : iAdd .u32 x y = (x + y) % 4294967296 := (unsP32).wrap _
theorem maskK32 (x : Int) : iAnd .u64 x 4294967295 = x % 4294967296 := iAnd_mask x 32 (by decide)
theorem wdMod32 (x : Int) : Wd 32 (x % 4294967296) := Wd.mod x
theorem modmod32 (x : Int) : x % 18446744073709551616 % 4294967296 = x % 4294967296 := Int.emod_emod_of_dvd x (by decide)
noncomputable def Tc32 (st x l k g f : Int) : Int := iAdd .u32 (iAdd .u32 (iAdd .u32 (iAdd .u32 l (iXor .u32 (iXor .u32 (F50 f 26) (F50 f 21)) (F50 f 7))) (iXor .u32 (iAnd .u32 f g) (iAnd .u32 (iNot .u32 f) k))) st) x
noncomputable def Uc32 (a c d : Int) : Int := iAdd .u32 (iXor .u32 (iXor .u32 (F50 a 30) (F50 a 19)) (F50 a 10)) (iXor .u32 (iXor .u32 (iAnd .u32 a c) (iAnd .u32 a d)) (iAnd .u32 c d))
noncomputable def Tr32 (st x l k g f : Int) : Int := iAnd .u64 (iAdd .u64 (iAdd .u64 (iAdd .u64 (iAdd .u64 l (F54w32 f [6, 11, 25] false)) (iOr .u64 (iAnd .u64 f g) (iAnd .u64 (iXor .u64 4294967295 f) k))) st) x) 4294967295
noncomputable def Ur32 (a c d : Int) : Int := iAdd .u64 (F54w32 a [2, 13, 22] false) (iOr .u64 (iOr .u64 (iAnd .u64 a c) (iAnd .u64 c d)) (iAnd .u64 a d))
noncomputable def Wc32 (p0 : List Int) (k1 : Nat) : List Int := itr (F34l3) 48 (itr (F34l2 p0 k1) 64 [0, 0, 0, 0, 0, 0, 0, 0, 0, 0, 0, 0, 0, 0, 0, 0, 0, 0, 0, 0, 0, 0, 0, 0, 0, 0, 0, 0, 0, 0, 0, 0, 0, 0, 0, 0, 0, 0, 0, 0, 0, 0, 0, 0, 0, 0, 0, 0, 0, 0, 0, 0, 0, 0, 0, 0, 0, 0, 0, 0, 0, 0, 0, 0])
noncomputable def Wr32 (p0 : List Int) (k1 : Nat) : List Int := itr (F36w32l5) 48 (itr (F36w32l4 p0 k1) 64 [0, 0, 0, 0, 0, 0, 0, 0, 0, 0, 0, 0, 0, 0, 0, 0, 0, 0, 0, 0, 0, 0, 0, 0, 0, 0, 0, 0, 0, 0, 0, 0, 0, 0, 0, 0, 0, 0, 0, 0, 0, 0, 0, 0, 0, 0, 0, 0, 0, 0, 0, 0, 0, 0, 0, 0, 0, 0, 0, 0, 0, 0, 0, 0, 0, 0, 0, 0, 0, 0, 0, 0, 0, 0, 0, 0, 0, 0, 0, 0])
theorem T32 {st x l k g f : Int} (hl : Wd 32 l) (hk : Wd 32 k) (hg : Wd 32 g) (hf : Wd 32 f) : Tr32 st x l k g f = Tc32 st x l k g f := by
  unfold Tr32 Tc32
  rw [mixb1w32 hf, maskK32]
  simp only [iAddK32, iAdd_u64]
  have hc : iOr .u64 (iAnd .u64 f g) (iAnd .u64 (iXor .u64 4294967295 f) k) = iXor .u32 (iAnd .u32 f g) (iAnd .u32 (iNot .u32 f) k) := ch_same (v := 64) unsP32 uns64 (by decide) hf hg hk
  rw [hc]
  generalize iXor .u32 (iAnd .u32 f g) (iAnd .u32 (iNot .u32 f) k) = A
  generalize (iXor .u32 (iXor .u32 (F50 f 26) (F50 f 21)) (F50 f 7)) = B
  simp only [Int.emod_add_emod, modmod32]
theorem U32 {a c d : Int} (ha : Wd 32 a) (hc : Wd 32 c) (hd : Wd 32 d) (t : Int) : iAnd .u64 (iAdd .u64 t (Ur32 a c d)) 4294967295 = iAdd .u32 t (Uc32 a c d) := by
  unfold Ur32 Uc32
  rw [mixb0w32 ha, maskK32]
  simp only [iAddK32, iAdd_u64]
  have hm : iOr .u64 (iOr .u64 (iAnd .u64 a c) (iAnd .u64 c d)) (iAnd .u64 a d) = iXor .u32 (iXor .u32 (iAnd .u32 a c) (iAnd .u32 a d)) (iAnd .u32 c d) := maj_same (v := 64) unsP32 uns64 (by decide) ha hc hd
  rw [hm]
  generalize iXor .u32 (iXor .u32 (iAnd .u32 a c) (iAnd .u32 a d)) (iAnd .u32 c d) = A
  generalize (iXor .u32 (iXor .u32 (F50 a 30) (F50 a 19)) (F50 a 10)) = B
  simp only [Int.add_emod_emod, modmod32]
theorem V32 (e t : Int) : iAnd .u64 (iAdd .u64 e t) 4294967295 = iAdd .u32 e t := by
  rw [maskK32]
  simp only [iAddK32, iAdd_u64, modmod32]
def R8w32 (z : Int × Int × Int × Int × Int × Int × Int × Int) (y : List Int) : Prop :=
  ∃ l k g f e d c a, z = (l, k, g, f, e, d, c, a) ∧ y = [a, c, d, e, f, g, k, l] ∧ Wd 32 l ∧ Wd 32 k ∧ Wd 32 g ∧ Wd 32 f ∧ Wd 32 e ∧ Wd 32 d ∧ Wd 32 c ∧ Wd 32 a
theorem rndC32 (p0 : List Int) (k1 j : Nat) (l k g f e d c a : Int) : F34l4 p0 k1 j (l, k, g, f, e, d, c, a) =
    (k, g, f, iAdd .u32 e (Tc32 (IntKind.wrap .u32 (iShr .u64 (gSteps.getD (0 + j) 0) 32)) ((Wc32 p0 k1).getD j 0) l k g f), d, c, a, iAdd .u32 (Tc32 (IntKind.wrap .u32 (iShr .u64 (gSteps.getD (0 + j) 0) 32)) ((Wc32 p0 k1).getD j 0) l k g f) (Uc32 a c d)) := rfl
theorem rndR32 (p0 : List Int) (k1 j : Nat) (l k g f e d c a : Int) : F36w32l6 p0 k1 j [a, c, d, e, f, g, k, l] =
    [iAnd .u64 (iAdd .u64 (Tr32 (iShr .u64 (gSteps.getD j 0) 32) ((Wr32 p0 k1).getD j 0) l k g f) (Ur32 a c d)) 4294967295, a, c, d, iAnd .u64 (iAdd .u64 e (Tr32 (iShr .u64 (gSteps.getD j 0) 32) ((Wr32 p0 k1).getD j 0) l k g f)) 4294967295, f, g, k] := rfl
theorem stepOk32 (j : Nat) (hj : j < 64) : iShr .u64 (gSteps.getD j 0) 32 = (IntKind.wrap .u32 (iShr .u64 (gSteps.getD (0 + j) 0) 32)) := by
  have h : ∀ j : Fin 64, iShr .u64 (gSteps.getD j.val 0) 32 = (IntKind.wrap .u32 (iShr .u64 (gSteps.getD (0 + j.val) 0) 32)) := by decide +kernel
  exact h ⟨j, hj⟩
theorem round32 {p0 : List Int} {k1 j : Nat} (hj : j < 64) (hW : (Wr32 p0 k1).getD j 0 = (Wc32 p0 k1).getD j 0) {z : Int × Int × Int × Int × Int × Int × Int × Int} {y : List Int} (h : R8w32 z y) :
    R8w32 (F34l4 p0 k1 j z) (F36w32l6 p0 k1 j y) := by
  obtain ⟨l, k, g, f, e, d, c, a, rfl, rfl, hl, hk, hg, hf, he, hd, hc, ha⟩ := h
  rw [rndC32, rndR32, hW, stepOk32 j hj, T32 hl hk hg hf, U32 ha hc hd, V32]
  refine ⟨_, _, _, _, _, _, _, _, rfl, rfl, hk, hg, hf, ?_, hd, hc, ha, ?_⟩
  · rw [iAddK32]; exact wdMod32 _
  · rw [iAddK32]; exact wdMod32 _
theorem loadS32 {a b n : Nat} (hb : b < 256) (hn : n < 4) (ha : a < 256 ^ n) :
    iOr .u32 (iShl .u32 (a : Int) 8) (IntKind.wrap .u32 (b : Int)) = ((a * 256 + b : Nat) : Int) ∧ iAdd .u64 (iMul .u64 (a : Int) 256) (IntKind.wrap .u64 (b : Int)) = ((a * 256 + b : Nat) : Int) ∧ a * 256 + b < 256 ^ (n + 1) := by
  have h1 : a * 256 + b < 256 ^ (n + 1) := by
    have : (a + 1) * 256 ≤ 256 ^ n * 256 := Nat.mul_le_mul_right _ ha
    rw [Nat.pow_succ]
    omega
  have h2 : 256 ^ (n + 1) ≤ 4294967296 := by
    have : (256 : Nat) ^ (n + 1) ≤ 256 ^ 4 := Nat.pow_le_pow_right (by decide) hn
    exact this
  have h3 : 4294967296 ≤ 18446744073709551616 := by decide
  refine ⟨?_, ?_, h1⟩
  · rw [show (8 : Int) = ((8 : Nat) : Int) from rfl, shl_nat uns32 (show 8 ≤ 32 by decide), wrap_nat uns32, Nat.mod_eq_of_lt (show b < 4294967296 by omega), Nat.mod_eq_of_lt (show a * 2 ^ 8 < 4294967296 by omega), iOr_nat uns32 (by omega) (by omega)]
    congr 1
    rw [Nat.mul_comm a (2 ^ 8), ← Nat.two_pow_add_eq_or_of_lt (i := 8) (show b < 2 ^ 8 by omega) a]
  · rw [show (256 : Int) = ((256 : Nat) : Int) from rfl, mul_nat uns64, wrap_nat uns64, add_nat uns64]
    congr 1
    omega
def LoadR32 (k : Nat) (c r : List Int) : Prop := c.length = 64 ∧ r.length = 80 ∧ ∀ j, j < 64 → ∃ a : Nat, c.getD j 0 = (a : Int) ∧ r.getD j 0 = (a : Int) ∧ a < 256 ^ (min (k - 4 * j) 4)
theorem zc32 (j : Nat) : ([0, 0, 0, 0, 0, 0, 0, 0, 0, 0, 0, 0, 0, 0, 0, 0, 0, 0, 0, 0, 0, 0, 0, 0, 0, 0, 0, 0, 0, 0, 0, 0, 0, 0, 0, 0, 0, 0, 0, 0, 0, 0, 0, 0, 0, 0, 0, 0, 0, 0, 0, 0, 0, 0, 0, 0, 0, 0, 0, 0, 0, 0, 0, 0] : List Int).getD j 0 = 0 := by
  show (List.replicate 64 (0 : Int)).getD j 0 = 0
  rw [List.getD_eq_getElem?_getD, List.getElem?_replicate]
  split <;> rfl
theorem zr32 (j : Nat) : ([0, 0, 0, 0, 0, 0, 0, 0, 0, 0, 0, 0, 0, 0, 0, 0, 0, 0, 0, 0, 0, 0, 0, 0, 0, 0, 0, 0, 0, 0, 0, 0, 0, 0, 0, 0, 0, 0, 0, 0, 0, 0, 0, 0, 0, 0, 0, 0, 0, 0, 0, 0, 0, 0, 0, 0, 0, 0, 0, 0, 0, 0, 0, 0, 0, 0, 0, 0, 0, 0, 0, 0, 0, 0, 0, 0, 0, 0, 0, 0] : List Int).getD j 0 = 0 := by
  show (List.replicate 80 (0 : Int)).getD j 0 = 0
  rw [List.getD_eq_getElem?_getD, List.getElem?_replicate]
  split <;> rfl
noncomputable def Tx32 (p0 : List Int) : List Int := itr (F36w32l1 p0) 8 (((itr (F36w32l0) ((119 - p0.length % 64) % 64) (p0.length + 1, p0 ++ [128])).2) ++ (List.replicate 8 0))
theorem load32 {p0 : List Int} {k1 : Nat} (hT : Tx32 p0 = F49w64 p0) (hB : ∀ j, Byte ((F49w64 p0).getD j 0)) :
    LoadR32 64 (itr (F34l2 p0 k1) 64 [0, 0, 0, 0, 0, 0, 0, 0, 0, 0, 0, 0, 0, 0, 0, 0, 0, 0, 0, 0, 0, 0, 0, 0, 0, 0, 0, 0, 0, 0, 0, 0, 0, 0, 0, 0, 0, 0, 0, 0, 0, 0, 0, 0, 0, 0, 0, 0, 0, 0, 0, 0, 0, 0, 0, 0, 0, 0, 0, 0, 0, 0, 0, 0]) (itr (F36w32l4 p0 k1) 64 [0, 0, 0, 0, 0, 0, 0, 0, 0, 0, 0, 0, 0, 0, 0, 0, 0, 0, 0, 0, 0, 0, 0, 0, 0, 0, 0, 0, 0, 0, 0, 0, 0, 0, 0, 0, 0, 0, 0, 0, 0, 0, 0, 0, 0, 0, 0, 0, 0, 0, 0, 0, 0, 0, 0, 0, 0, 0, 0, 0, 0, 0, 0, 0, 0, 0, 0, 0, 0, 0, 0, 0, 0, 0, 0, 0, 0, 0, 0, 0]) := by
  refine itr_rel LoadR32 ⟨rfl, rfl, fun j hj => ⟨0, zc32 j, zr32 j, Nat.pow_pos (by decide)⟩⟩ ?_
  rintro k hk c r ⟨h1, h2, h3⟩
  have e1 : F34l2 p0 k1 k c = c.set (k / 4) (iOr .u32 (iShl .u32 (c.getD (k / 4) 0) 8) (IntKind.wrap .u32 ((F49w64 p0).getD (64 * k1 + k) 0))) := by
    unfold F34l2
    rw [adrOne, Nat.zero_add]
  have e2 : F36w32l4 p0 k1 k r = r.set (k / 4) (iAdd .u64 (iMul .u64 (r.getD (k / 4) 0) 256) (IntKind.wrap .u64 ((F49w64 p0).getD (64 * k1 + k) 0))) := by
    show r.set (8 * k / 32) (iAdd .u64 (iMul .u64 (r.getD (8 * k / 32) 0) 256) (IntKind.wrap .u64 ((Tx32 p0).getD (64 * k1 + k) 0))) = _
    rw [hT, show 8 * k / 32 = k / 4 by omega]
  rw [e1, e2]
  obtain ⟨b, hb, hb'⟩ := hB (64 * k1 + k)
  obtain ⟨a, ha1, ha2, ha3⟩ := h3 (k / 4) (by omega)
  rw [show min (k - 4 * (k / 4)) 4 = k % 4 by omega] at ha3
  obtain ⟨q1, q2, q3⟩ := loadS32 hb' (show k % 4 < 4 from Nat.mod_lt _ (by decide)) ha3
  rw [ha1, ha2, hb, q1, q2]
  refine ⟨by rw [List.length_set, h1], by rw [List.length_set, h2], fun j hj => ?_⟩
  by_cases hjk : k / 4 = j
  · subst hjk
    exact ⟨_, getD_set_eq (by omega), getD_set_eq (by omega), by rw [show min (k + 1 - 4 * (k / 4)) 4 = k % 4 + 1 by omega]; exact q3⟩
  · obtain ⟨x, x1, x2, x3⟩ := h3 j hj
    refine ⟨x, by rw [getD_set_ne hjk, x1], by rw [getD_set_ne hjk, x2], Nat.lt_of_lt_of_le x3 (Nat.pow_le_pow_right (by decide) (by omega))⟩
def SchR32 (k : Nat) (c r : List Int) : Prop := c.length = 64 ∧ r.length = 80 ∧ ∀ j, j < k + 16 → Wd 32 (c.getD j 0) ∧ r.getD j 0 = c.getD j 0
theorem words32 {p0 : List Int} {k1 : Nat} (hT : Tx32 p0 = F49w64 p0) (hB : ∀ j, Byte ((F49w64 p0).getD j 0)) : SchR32 48 (Wc32 p0 k1) (Wr32 p0 k1) := by
  obtain ⟨h1, h2, h3⟩ := load32 (k1 := k1) hT hB
  refine itr_rel SchR32 ⟨h1, h2, fun j hj => ?_⟩ ?_
  · obtain ⟨a, a1, a2, a3⟩ := h3 j (by omega)
    refine ⟨⟨a, a1, Nat.lt_of_lt_of_le a3 ?_⟩, by rw [a1, a2]⟩
    have : (256 : Nat) ^ (min (64 - 4 * j) 4) ≤ 256 ^ 4 := Nat.pow_le_pow_right (by decide) (Nat.min_le_right _ _)
    exact this
  · rintro k hk c r ⟨g1, g2, g3⟩
    obtain ⟨x1, y1⟩ := g3 (k + 16 - 16) (by omega)
    obtain ⟨x2, y2⟩ := g3 (k + 16 - 7) (by omega)
    obtain ⟨x3, y3⟩ := g3 (k + 16 - 15) (by omega)
    obtain ⟨x4, y4⟩ := g3 (k + 16 - 2) (by omega)
    have e : iAnd .u64 (iAdd .u64 (iAdd .u64 (iAdd .u64 (r.getD (k + 16 - 16) 0) (r.getD (k + 16 - 7) 0)) (F54w32 (r.getD (k + 16 - 15) 0) [7, 18, 3] true)) (F54w32 (r.getD (k + 16 - 2) 0) [17, 19, 10] true)) 4294967295 =
        iAdd .u32 (iAdd .u32 (iAdd .u32 (c.getD (k + 16 - 16) 0) (c.getD (k + 16 - 7) 0)) (iXor .u32 (iXor .u32 (F50 (c.getD (k + 16 - 15) 0) 25) (F50 (c.getD (k + 16 - 15) 0) 14)) (iShr .u32 (c.getD (k + 16 - 15) 0) 3))) (iXor .u32 (iXor .u32 (F50 (c.getD (k + 16 - 2) 0) 15) (F50 (c.getD (k + 16 - 2) 0) 13)) (iShr .u32 (c.getD (k + 16 - 2) 0) 10)) := by
      rw [y1, y2, y3, y4, mixa0w32 x3, mixa1w32 x4, maskK32]
      simp only [iAddK32, iAdd_u64]
      generalize (iXor .u32 (iXor .u32 (F50 (c.getD (k + 16 - 15) 0) 25) (F50 (c.getD (k + 16 - 15) 0) 14)) (iShr .u32 (c.getD (k + 16 - 15) 0) 3)) = A
      generalize (iXor .u32 (iXor .u32 (F50 (c.getD (k + 16 - 2) 0) 15) (F50 (c.getD (k + 16 - 2) 0) 13)) (iShr .u32 (c.getD (k + 16 - 2) 0) 10)) = B
      simp only [Int.emod_add_emod, modmod32]
    have hw : Wd 32 (iAdd .u32 (iAdd .u32 (iAdd .u32 (c.getD (k + 16 - 16) 0) (c.getD (k + 16 - 7) 0)) (iXor .u32 (iXor .u32 (F50 (c.getD (k + 16 - 15) 0) 25) (F50 (c.getD (k + 16 - 15) 0) 14)) (iShr .u32 (c.getD (k + 16 - 15) 0) 3))) (iXor .u32 (iXor .u32 (F50 (c.getD (k + 16 - 2) 0) 15) (F50 (c.getD (k + 16 - 2) 0) 13)) (iShr .u32 (c.getD (k + 16 - 2) 0) 10))) := by
      rw [iAddK32]; exact wdMod32 _
    show SchR32 (k + 1) (c.set (k + 16) (iAdd .u32 (iAdd .u32 (iAdd .u32 (c.getD (k + 16 - 16) 0) (c.getD (k + 16 - 7) 0)) (iXor .u32 (iXor .u32 (F50 (c.getD (k + 16 - 15) 0) 25) (F50 (c.getD (k + 16 - 15) 0) 14)) (iShr .u32 (c.getD (k + 16 - 15) 0) 3))) (iXor .u32 (iXor .u32 (F50 (c.getD (k + 16 - 2) 0) 15) (F50 (c.getD (k + 16 - 2) 0) 13)) (iShr .u32 (c.getD (k + 16 - 2) 0) 10)))) (r.set (k + 16) (iAnd .u64 (iAdd .u64 (iAdd .u64 (iAdd .u64 (r.getD (k + 16 - 16) 0) (r.getD (k + 16 - 7) 0)) (F54w32 (r.getD (k + 16 - 15) 0) [7, 18, 3] true)) (F54w32 (r.getD (k + 16 - 2) 0) [17, 19, 10] true)) 4294967295))
    rw [e]
    refine ⟨by rw [List.length_set, g1], by rw [List.length_set, g2], fun j hj => ?_⟩
    by_cases hjk : k + 16 = j
    · subst hjk
      rw [getD_set_eq (by omega), getD_set_eq (by omega)]
      exact ⟨hw, rfl⟩
    · rw [getD_set_ne hjk, getD_set_ne hjk]
      exact g3 j (by omega)
def Ok8w32 (z : List Int) : Prop := z.length = 8 ∧ ∀ j, j < 8 → Wd 32 (z.getD j 0)
theorem eight32 {z : List Int} (h : Ok8w32 z) : R8w32 (z.getD 7 0, z.getD 6 0, z.getD 5 0, z.getD 4 0, z.getD 3 0, z.getD 2 0, z.getD 1 0, z.getD 0 0) z := by
  obtain ⟨h1, h2⟩ := h
  refine ⟨_, _, _, _, _, _, _, _, rfl, ?_, h2 7 (by decide), h2 6 (by decide), h2 5 (by decide), h2 4 (by decide), h2 3 (by decide), h2 2 (by decide), h2 1 (by decide), h2 0 (by decide)⟩
  match z, h1 with
  | [_, _, _, _, _, _, _, _], _ => rfl
theorem block32 {p0 : List Int} {k1 : Nat} (hT : Tx32 p0 = F49w64 p0) (hB : ∀ j, Byte ((F49w64 p0).getD j 0)) {z : List Int} (hz : Ok8w32 z) : F34l1 p0 k1 z = F36w32l3 p0 k1 z ∧ Ok8w32 (F34l1 p0 k1 z) := by
  obtain ⟨w1, w2, w3⟩ := words32 (k1 := k1) hT hB
  have hr : R8w32 (itr (F34l4 p0 k1) 64 (z.getD 7 0, z.getD 6 0, z.getD 5 0, z.getD 4 0, z.getD 3 0, z.getD 2 0, z.getD 1 0, z.getD 0 0)) (itr (F36w32l6 p0 k1) 64 z) :=
    itr_rel (fun _ => R8w32) (eight32 hz) fun j hj a b hab => round32 hj (w3 j (by omega)).2 hab
  obtain ⟨l, k, g, f, e, d, c, a, e1, e2, hl, hk, hg, hf, he, hd, hc, ha⟩ := hr
  have key : (fun (k : Nat) (x y : List Int) => x = y ∧ Ok8w32 x) 8 (itr (F34l5 p0 k1 z) 8 z) (itr (F36w32l7 p0 k1 z) 8 z) := by
    refine itr_rel (fun (k : Nat) (x y : List Int) => x = y ∧ Ok8w32 x) ⟨rfl, hz⟩ ?_
    rintro j hj x y ⟨rfl, hx1, hx2⟩
    have q1 : F34l5 p0 k1 z j x = x.set j (iAdd .u32 (x.getD j 0) ([a, c, d, e, f, g, k, l].getD j 0)) := by
      unfold F34l5
      rw [e1]
    have q2 : F36w32l7 p0 k1 z j x = x.set j (iAnd .u64 (iAdd .u64 (x.getD j 0) ([a, c, d, e, f, g, k, l].getD j 0)) 4294967295) := by
      unfold F36w32l7
      rw [e2]
    rw [q1, q2, V32]
    refine ⟨rfl, by rw [List.length_set, hx1], fun i hi => ?_⟩
    by_cases hij : j = i
    · subst hij
      rw [getD_set_eq (by omega), iAddK32]
      exact wdMod32 _
    · rw [getD_set_ne hij]
      exact hx2 i hi
  exact key
theorem start32 : (itr (F34l0) 8 [0, 0, 0, 0, 0, 0, 0, 0]) = itr (F36w32l2) 8 [7640891576956012808, 13503953896175478587, 4354685564936845355, 11912009170470909681, 5840696475078001361, 11170449401992604703, 2270897969802886507, 6620516959819538809] := by kernel_rfl
theorem startOk32 : Ok8w32 (itr (F34l0) 8 [0, 0, 0, 0, 0, 0, 0, 0]) := by
  have h : (List.length (itr (F34l0) 8 [0, 0, 0, 0, 0, 0, 0, 0]) == 8 && (List.range 8).all fun j => decide (0 ≤ ((itr (F34l0) 8 [0, 0, 0, 0, 0, 0, 0, 0]) : List Int).getD j 0) && decide (((itr (F34l0) 8 [0, 0, 0, 0, 0, 0, 0, 0]) : List Int).getD j 0 < ((2 ^ 32 : Nat) : Int))) = true := by kernel_rfl
  rw [Bool.and_eq_true] at h
  refine ⟨eq_of_beq h.1, fun j hj => ?_⟩
  have h2 := List.all_eq_true.1 h.2 j (List.mem_range.2 hj)
  rw [Bool.and_eq_true] at h2
  exact Wd.of (of_decide_eq_true h2.1) (of_decide_eq_true h2.2)
noncomputable def Bt32 (p0 : List Int) : Nat × List Int := itr (F36w32l0) ((119 - p0.length % 64) % 64) (p0.length + 1, p0 ++ [128])
theorem bt32 (p0 : List Int) : (Bt32 p0).2.length = (Bt32 p0).1 ∧ (Bt32 p0).1 < p0.length + 1 + 64 := by
  have key : (fun (k : Nat) (a b : Nat × List Int) => a.2.length = a.1 ∧ a.1 = p0.length + 1 + k) ((119 - p0.length % 64) % 64) (Bt32 p0) (itr (fun _ y => y) ((119 - p0.length % 64) % 64) (Bt32 p0)) := by
    refine itr_rel (fun (k : Nat) (a b : Nat × List Int) => a.2.length = a.1 ∧ a.1 = p0.length + 1 + k) (g := fun _ y => y) (y := Bt32 p0) ⟨by simp, rfl⟩ ?_
    rintro k hk a b ⟨h1, h2⟩
    show (a.2 ++ [0]).length = a.1 + 1 ∧ a.1 + 1 = _
    exact ⟨by rw [List.length_append, h1]; rfl, by omega⟩
  have h := key.2
  have hm : ((119 - p0.length % 64) % 64) < 64 := Nat.mod_lt _ (by decide)
  exact ⟨key.1, by omega⟩
theorem btB32 {p0 : List Int} (hp : Dig 256 p0) : Dig 256 (Bt32 p0).2 := by
  refine itr_rel (fun (k : Nat) (a b : Nat × List Int) => Dig 256 a.2) (n := ((119 - p0.length % 64) % 64)) (y := (Bt32 p0)) (g := fun _ y => y) ?_ ?_
  · intro x hx
    rcases List.mem_append.1 hx with h | h
    · exact hp x h
    · rw [List.mem_singleton.1 h]; decide
  · rintro k hk a b h x hx
    rcases List.mem_append.1 hx with h' | h'
    · exact h x h'
    · rw [List.mem_singleton.1 h']; decide
def bit32 (n k : Nat) : Int := IntKind.wrap .u8 (iShr .u64 (iMul .u64 (IntKind.wrap .u64 ((n : Nat) : Int)) 8) ((8 * k : Nat) : Int))
theorem setApp32 (B : List Int) (n : Nat) (hn : B.length = n) (t : List Int) (j : Nat) (x : Int) : (B ++ t).set (n + j) x = B ++ t.set j x := by
  subst hn
  rw [List.set_append_right _ _ (by omega)]
  congr 2
  omega
theorem itr832 {α : Type} (f : Nat → α → α) (x : α) : itr f 8 x = f 7 (f 6 (f 5 (f 4 (f 3 (f 2 (f 1 (f 0 x))))))) := by
  simp only [itr_succ, itr_zero]
theorem text32 {p0 : List Int} (hl : p0.length ≤ 100000000) : Tx32 p0 = (Bt32 p0).2 ++ (List.replicate 0 0 ++ [bit32 p0.length 7, bit32 p0.length 6, bit32 p0.length 5, bit32 p0.length 4, bit32 p0.length 3, bit32 p0.length 2, bit32 p0.length 1, bit32 p0.length 0]) := by
  obtain ⟨h1, h2⟩ := bt32 p0
  have hs : ∀ (k : Nat) (z : List Int), k < 8 → F36w32l1 p0 k z = z.set ((Bt32 p0).1 + (7 - k)) (bit32 p0.length k) := by
    intro k z hk
    show z.set (iSub .i64 ((((Bt32 p0).1 + 8 : Nat) : Int) - 1 - ((0 : Nat) : Int)) (k : Int)).toNat _ = _
    rw [iSub_i64 (by omega) (by omega)]
    have : (((((Bt32 p0).1 + 8 : Nat) : Int) - 1 - ((0 : Nat) : Int)) - (k : Int)).toNat = (Bt32 p0).1 + (7 - k) := by omega
    rw [this]
    rfl
  show itr (F36w32l1 p0) 8 ((Bt32 p0).2 ++ List.replicate 8 0) = _
  rw [itr832, hs 0 _ (by decide), hs 1 _ (by decide), hs 2 _ (by decide), hs 3 _ (by decide), hs 4 _ (by decide), hs 5 _ (by decide), hs 6 _ (by decide), hs 7 _ (by decide)]
  simp only [setApp32 _ _ h1]
  rfl
theorem textC32 (p0 : List Int) : F49w64 p0 = (Bt32 p0).2 ++ (List.replicate 0 0 ++ [bit32 p0.length 7, bit32 p0.length 6, bit32 p0.length 5, bit32 p0.length 4, bit32 p0.length 3, bit32 p0.length 2, bit32 p0.length 1, bit32 p0.length 0]) := by
  unfold F49w64
  rw [itr832]
  show (((((((((Bt32 p0).2 ++ List.replicate 0 0) ++ [bit32 p0.length 7]) ++ [bit32 p0.length 6]) ++ [bit32 p0.length 5]) ++ [bit32 p0.length 4]) ++ [bit32 p0.length 3]) ++ [bit32 p0.length 2]) ++ [bit32 p0.length 1]) ++ [bit32 p0.length 0] = _
  simp only [List.append_assoc, List.cons_append, List.nil_append]
theorem bitB32 (n k : Nat) : 0 ≤ bit32 n k ∧ bit32 n k < 256 := by
  unfold bit32
  rw [wrap_u8]
  omega
theorem textB32 {p0 : List Int} (hp : Dig 256 p0) : Dig 256 (F49w64 p0) := by
  rw [textC32]
  intro x hx
  rcases List.mem_append.1 hx with h | h
  · exact btB32 hp x h
  · rcases List.mem_append.1 h with h | h
    · rw [List.eq_of_mem_replicate h]; decide
    · simp only [List.mem_cons, List.not_mem_nil, or_false] at h
      rcases h with rfl | rfl | rfl | rfl | rfl | rfl | rfl | rfl <;> exact bitB32 _ _
theorem textByte32 {p0 : List Int} (hp : Dig 256 p0) (j : Nat) : Byte ((F49w64 p0).getD j 0) := by
  obtain ⟨h1, h2⟩ := getD_dig (i := j) (by decide) (textB32 hp)
  obtain ⟨a, ha⟩ := Int.eq_ofNat_of_zero_le h1
  exact ⟨a, ha, by rw [ha] at h2; omega⟩
theorem count32 (p0 : List Int) : F49w64n0 p0 = (itr (F36w32l0) ((119 - p0.length % 64) % 64) (p0.length + 1, p0 ++ [128])).1 + 8 := by
  unfold F49w64n0
  rw [itr832]
  show (Bt32 p0).1 + 0 + 1 + 1 + 1 + 1 + 1 + 1 + 1 + 1 = (Bt32 p0).1 + 8
  omega
theorem sum32 {p0 : List Int} (hp : Dig 256 p0) (hl : p0.length ≤ 100000000) : F34 p0 = F36w32 p0 := by
  have hT : Tx32 p0 = F49w64 p0 := (text32 hl).trans (textC32 p0).symm
  have hB := fun j => textByte32 hp j
  have hH : (fun (k : Nat) (x y : List Int) => x = y ∧ Ok8w32 x) ((F49w64n0 p0) / 64) (itr (F34l1 p0) ((F49w64n0 p0) / 64) (itr (F34l0) 8 [0, 0, 0, 0, 0, 0, 0, 0])) (itr (F36w32l3 p0) ((F49w64n0 p0) / 64) (itr (F36w32l2) 8 [7640891576956012808, 13503953896175478587, 4354685564936845355, 11912009170470909681, 5840696475078001361, 11170449401992604703, 2270897969802886507, 6620516959819538809])) := by
    refine itr_rel (fun (k : Nat) (x y : List Int) => x = y ∧ Ok8w32 x) ⟨start32, startOk32⟩ ?_
    rintro k hk x y ⟨rfl, hx⟩
    exact block32 hT hB hx
  obtain ⟨h1, h2, h3⟩ := hH
  have key : (fun (k : Nat) (x : List Int) (y : Nat × List Int) => x = y.2 ++ List.replicate (32 - k) 0 ∧ y.2.length = k) 32 (F34 p0) (itr (F36w32l8 p0) 32 (0, [])) := by
    refine itr_rel (fun (k : Nat) (x : List Int) (y : Nat × List Int) => x = y.2 ++ List.replicate (32 - k) 0 ∧ y.2.length = k) ⟨rfl, rfl⟩ ?_
    rintro k hk x y ⟨rfl, hy⟩
    have hw := h3 (k / 4) (by omega)
    have q1 : F34l6 p0 k (y.2 ++ List.replicate (32 - k) 0) = (y.2 ++ List.replicate (32 - k) 0).set k (IntKind.wrap .u8 (iShr .u32 ((itr (F34l1 p0) ((F49w64n0 p0) / 64) (itr (F34l0) 8 [0, 0, 0, 0, 0, 0, 0, 0])).getD (k / 4) 0) ((24 - (8 * (k % 4)) : Nat) : Int))) := rfl
    have q2 : (F36w32l8 p0 k y).2 = y.2 ++ [IntKind.wrap .u8 (iShr .u32 ((itr (F34l1 p0) ((F49w64n0 p0) / 64) (itr (F34l0) 8 [0, 0, 0, 0, 0, 0, 0, 0])).getD (k / 4) 0) ((24 - (8 * (k % 4)) : Nat) : Int))] := by
      show y.2 ++ [IntKind.wrap .u8 (iShr .u64 ((itr (F36w32l3 p0) (((itr (F36w32l0) ((119 - p0.length % 64) % 64) (p0.length + 1, p0 ++ [128])).1 + 8) / 64) (itr (F36w32l2) 8 [7640891576956012808, 13503953896175478587, 4354685564936845355, 11912009170470909681, 5840696475078001361, 11170449401992604703, 2270897969802886507, 6620516959819538809])).getD ((8 * k) / 32) 0) ((24 - ((8 * k) % 32) : Nat) : Int))] = _
      rw [← count32, ← h1, show (8 * k) / 32 = k / 4 by omega, show 24 - ((8 * k) % 32) = 24 - (8 * (k % 4)) by omega, shr_same .u32 .u64 (show 24 - (8 * (k % 4)) ≤ 32 by omega) (show 24 - (8 * (k % 4)) ≤ 64 by omega) hw]
    refine ⟨?_, by rw [q2, List.length_append, hy]; rfl⟩
    rw [q1, q2, show (32 - k) = (32 - (k + 1)) + 1 by omega, List.replicate_succ]
    have := setApp32 y.2 k hy (0 :: List.replicate (32 - (k + 1)) 0) 0 (IntKind.wrap .u8 (iShr .u32 ((itr (F34l1 p0) ((F49w64n0 p0) / 64) (itr (F34l0) 8 [0, 0, 0, 0, 0, 0, 0, 0])).getD (k / 4) 0) ((24 - (8 * (k % 4)) : Nat) : Int)))
    rw [show k + 0 = k from rfl] at this
    rw [this, List.set_cons_zero, List.append_assoc]
    rfl
  have k1 := key.1
  rw [Nat.sub_self, List.replicate_zero, List.append_nil] at k1
  exact k1
end Go.Vm
set_option linter.unusedVariables false
namespace Go.Vm
open Go
theorem ba_loop (bs : ByteArray) : ∀ (n i : Nat) (r : List UInt8), bs.size - i = n → i ≤ bs.size → ByteArray.toList.loop bs i r = r.reverse ++ bs.data.toList.drop i := by
  intro n
  induction n with
  | zero =>
    intro i r h hi
    rw [ByteArray.toList.loop]
    have hs : bs.size = bs.data.toList.length := by rw [Array.length_toList]; rfl
    rw [if_neg (by omega), List.drop_of_length_le (by omega), List.append_nil]
  | succ n ih =>
    intro i r h hi
    rw [ByteArray.toList.loop]
    have hs : bs.size = bs.data.toList.length := by rw [Array.length_toList]; rfl
    have hlt : i < bs.data.toList.length := by omega
    rw [if_pos (by omega), ih (i + 1) _ (by omega) (by omega), List.reverse_cons, List.append_assoc]
    congr 1
    have e : bs.get! i = bs.data.toList[i]'hlt := by
      have h2 : i < bs.data.size := by rw [← Array.length_toList]; exact hlt
      show bs.data[i]! = _
      rw [getElem!_pos bs.data i h2, Array.getElem_toList]
    rw [e, List.drop_eq_getElem_cons hlt]
    rfl
theorem ba_toList (bs : ByteArray) : bs.toList = bs.data.toList := by
  show ByteArray.toList.loop bs 0 [] = _
  rw [ba_loop bs _ 0 [] rfl (Nat.zero_le _)]
  rfl
theorem strEq_refl (x : ByteArray) : strEq x x = true := by unfold strEq; exact beq_self_eq_true _
theorem strEq_iff (x y : ByteArray) : strEq x y = true ↔ x = y := by
  unfold strEq
  rw [ba_toList, ba_toList, beq_iff_eq]
  constructor
  · intro h
    cases x; cases y
    congr 1
    exact Array.toList_inj.1 h
  · rintro rfl; rfl
end Go.Vm
set_option linter.unusedVariables false
set_option linter.unusedSimpArgs false
namespace Go.Vm
open Go
def nmB (x : List ByteArray) : List Int := be4 (joinB x (⟨#[44]⟩ : ByteArray)).size ++ bytesI (joinB x (⟨#[44]⟩ : ByteArray))
def tabB (l : List (List ByteArray)) : Nat → List Int
  | 0 => []
  | k + 1 => tabB l k ++ nmB (l.getD k [])
theorem nmB_len (x : List ByteArray) : (nmB x).length = 4 + (joinB x (⟨#[44]⟩ : ByteArray)).size := by
  unfold nmB
  rw [List.length_append, bytesI_length]
  rfl
theorem dg_nmB (x : List ByteArray) : Dg (nmB x) := dg_app (dg_be4 _) (dg_bytesI _)
theorem dg_tabB (l : List (List ByteArray)) : ∀ k, Dg (tabB l k)
  | 0 => fun x hx => by cases hx
  | k + 1 => dg_app (dg_tabB l k) (dg_nmB _)
theorem nm_small {x : List ByteArray} (h : x.length ≤ 1000 ∧ sumB x ≤ 1000) : (joinB x (⟨#[44]⟩ : ByteArray)).size < 4294967296 := by
  have := (names_j h).2
  omega
theorem dg_F36 (p : List Int) : Dg (F36w32 p) := by
  unfold F36w32
  refine (itr_rel (fun (k : Nat) (a b : Nat × List Int) => Dg a.2) (g := fun _ y => y) (y := (0, [])) (fun x hx => by cases hx) ?_ : Dg (itr (F36w32l8 p) 32 (0, [])).2)
  rintro k hk a b h x hx
  rcases List.mem_append.1 hx with h1 | h1
  · exact h x h1
  · rw [List.mem_singleton.1 h1, wrap_u8]; omega
theorem draw_same {p0 : ByteArray} (p1 : Int) (h' : p0.size ≤ 2000) : F38 p0 p1 = F39 p0 p1 := by
  have h1 : Dig 256 (itr (F39l0 p1) 8 (p0.size, bytesI p0)).2 ∧ (itr (F39l0 p1) 8 (p0.size, bytesI p0)).2.length = p0.size + 8 ∧ (itr (F39l0 p1) 8 (p0.size, bytesI p0)).1 = p0.size + 8 := by
    refine itr_rel (fun (k : Nat) (a b : Nat × List Int) => Dig 256 a.2 ∧ a.2.length = p0.size + k ∧ a.1 = p0.size + k) (g := fun _ y => y) (y := (0, [])) ⟨dg_bytesI p0, bytesI_length p0, rfl⟩ ?_
    rintro k hk a b ⟨h1, h2, h3⟩
    refine ⟨?_, ?_, ?_⟩
    · intro x hx
      rcases List.mem_append.1 hx with h | h
      · exact h1 x h
      · rw [List.mem_singleton.1 h, wrap_u8]; omega
    · show (a.2 ++ [_]).length = _
      rw [List.length_append, h2]; rfl
    · show a.1 + 1 = _
      omega
  obtain ⟨h1, h2, h3⟩ := h1
  unfold F38 F39
  have e1 : itr (F38l0 p1) 8 (p0.size, bytesI p0) = itr (F39l0 p1) 8 (p0.size, bytesI p0) := by
    refine itr_rel (fun _ a b => a = b) rfl ?_
    rintro k hk a b rfl
    unfold F38l0 F39l0
    rw [show 8 * (8 - 1 - k) = 56 - 8 * k by omega]
  rw [e1, h3, part1_all h2]
  exact sum32 h1 (by omega)
theorem len_F39 (p0 : ByteArray) (p1 : Int) : (F39 p0 p1).length = 32 := by unfold F39; exact len36w32 _
theorem dg_F39 (p0 : ByteArray) (p1 : Int) : Dg (F39 p0 p1) := by unfold F39; exact dg_F36 _
noncomputable def headB (d : ByteArray) : List Int := [20] ++ (F39 d 0).take 16
noncomputable def offB (l : List (List ByteArray)) (d : ByteArray) : List Int := (headB d ++ tabB l 8) ++ List.replicate 13 0
theorem headB_len (d : ByteArray) : (headB d).length = 17 := by
  unfold headB
  rw [List.length_append, List.length_take, len_F39]
  rfl
theorem dg_headB (d : ByteArray) : Dg (headB d) := by
  refine dg_app (fun x hx => ?_) (dg_take 16 (dg_F39 d 0))
  rw [List.mem_singleton.1 hx]
  exact ⟨by decide, by decide⟩
theorem dg_offB (l : List (List ByteArray)) (d : ByteArray) : Dg (offB l d) := by
  refine dg_app (dg_app (dg_headB d) (dg_tabB l 8)) fun x hx => ?_
  rw [List.eq_of_mem_replicate hx]
  exact ⟨by decide, by decide⟩
theorem head_eq (d : ByteArray) : [20] ++ (part1 (F39 d 0) 32 0 16) = headB d := by
  rw [part1_eq (len_F39 d 0)]
  rfl
theorem init_loop {l : List (List ByteArray)} (h : offer l) (xs : List Int) (n : Nat) (hn : xs.length = n) : ∀ k, itr (FkInitl0 l) k (n, xs) = ((xs ++ tabB l k).length, xs ++ tabB l k)
  | 0 => by rw [itr_zero, tabB, List.append_nil, hn]
  | k + 1 => by
    rw [itr_succ, init_loop h xs n hn k]
    unfold FkInitl0
    rw [names_writes _ _ _ (nm_small (h.2 k))]
    unfold FwwNamesn0
    have e1 : xs ++ tabB l (k + 1) = (xs ++ tabB l k) ++ nmB (l.getD k []) := by rw [tabB, List.append_assoc]
    have e2 : ((xs ++ tabB l k) ++ nmB (l.getD k [])).length = (xs ++ tabB l k).length + (nmB (l.getD k [])).length := List.length_append
    rw [e1, e2, nmB_len]
    refine Prod.ext ?_ ?_
    · exact Nat.add_assoc _ _ _
    · exact List.append_assoc _ _ _
theorem names0 (k : Nat) (xs : List Int) : FwwNames k xs [] = xs ++ List.replicate 4 0 := by
  rw [names_writes _ _ _ (by decide), List.append_assoc]
  rfl
theorem init_at {l : List (List ByteArray)} {d : ByteArray} (h : offer l) (hd : d.size ≤ 1000) : FkInit l d = offB l d ∧ FkInitn0 l d = (offB l d).length := by
  have hi : FkIniti0 l d = ((headB d ++ tabB l 8).length, headB d ++ tabB l 8) := by
    unfold FkIniti0
    rw [draw_same 0 (by omega), head_eq]
    exact init_loop h _ 17 (headB_len d) 8
  have j0 : (joinB [] (⟨#[44]⟩ : ByteArray)).size = 0 := rfl
  constructor
  · unfold FkInit FkInitv3 FkInitv2 FkInitv1 FkInitv0
    rw [hi, names0, names0]
    unfold FwwFlag
    rw [sel_false]
    show _ ++ [_, _, _, _] = _
    unfold offB
    simp only [List.append_assoc]
    rfl
  · unfold FkInitn0 FwwNamesn0
    rw [hi, j0]
    have e : (offB l d).length = (headB d ++ tabB l 8).length + 13 := List.length_append
    rw [e]
theorem tabB_le {l : List (List ByteArray)} (h : offer l) : ∀ k, (tabB l k).length ≤ 2004 * k
  | 0 => Nat.zero_le _
  | k + 1 => by
    rw [tabB, List.length_append, nmB_len]
    have h1 := tabB_le h k
    have h2 := joinB_size (l.getD k []) (⟨#[44]⟩ : ByteArray)
    rw [show (⟨#[44]⟩ : ByteArray).size = 1 from rfl] at h2
    have := h.2 k
    omega
theorem offB_le {l : List (List ByteArray)} (h : offer l) (d : ByteArray) : (offB l d).length ≤ 20000 := by
  unfold offB
  rw [List.length_append, List.length_append, headB_len, List.length_replicate]
  have := tabB_le h 8
  omega
theorem rows8_of {p : List (List ByteArray)} (h : p.length = 8) (h' : ∀ j, nmOk (p.getD j [])) : rows8 p := ⟨h, fun k => Nat.le_trans (h' k).1 (by decide)⟩
theorem at_8 {α : Type} {P : α → Prop} {l : List α} {d : α} (h : ∀ k, k < l.length → P (l.getD k d)) (hd : P d) (k : Nat) : P (l.getD k d) := by
  rcases Nat.lt_or_ge k l.length with hk | hk
  · exact h k hk
  · rw [List.getD_eq_getElem?_getD, List.getElem?_eq_none hk]; exact hd
theorem own_offer : offer FkOwn := ⟨rfl, at_8 (P := fun (x : List ByteArray) => x.length ≤ 1000 ∧ sumB x ≤ 1000) (by decide) (by decide)⟩
theorem own_rows : rows8 FkOwn := ⟨rfl, at_8 (P := fun (x : List ByteArray) => x.length ≤ 1000000000) (by decide) (by decide)⟩
theorem initO_rows {l : List (List ByteArray)} {d : ByteArray} (h : offer l) (hd : d.size ≤ 1000) : rows8 (FkReadInitO (FkInitn0 l d) (FkInit l d)) := by
  have e := init_at h hd
  have hl := offB_le h d
  rw [e.1, e.2, (read_atO (dg_offB l d) (by omega)).1]
  exact rows8_of (offT_len _) (offT_le (dg_offB l d) (by omega))
end Go.Vm
set_option linter.unusedVariables false
set_option linter.unusedSimpArgs false
set_option maxRecDepth 4000
set_option maxHeartbeats 2000000
namespace Go.Vm
open Go
theorem init_n {l : List (List ByteArray)} {d : ByteArray} (h : offer l) (hd : d.size ≤ 1000) : FkInitn0 l d ≤ 20000 := by
  rw [(init_at h hd).2]
  exact offB_le h d
noncomputable def Fkfitv1 : List (List ByteArray) :=
  (FkReadInitO (FkInitn0 (FkOwn) (⟨#[100]⟩ : ByteArray)) (FkInit (FkOwn) (⟨#[100]⟩ : ByteArray)))
noncomputable def Fkfitv2 : ByteArray :=
  (FkReadBlob (FkBlob (bytesOf (((List.replicate 32 0).drop 0).take 32))))
noncomputable def Fkfit : Bool :=
  (sel (((FkReadInitO_1 (FkInitn0 (FkOwn) (⟨#[100]⟩ : ByteArray)) (FkInit (FkOwn) (⟨#[100]⟩ : ByteArray))) : Int) == 0) (sel (((FkAgree (Fkfitv1) (FkOwn)) : Int) == 0) (sel (strEq (FkLine (⟨#[83, 83, 72, 45, 50, 46, 48, 45, 120]⟩ : ByteArray)) (⟨#[83, 83, 72, 45, 50, 46, 48, 45, 120]⟩ : ByteArray)) (!(strEq (Fkfitv2) (⟨#[]⟩ : ByteArray))) false) false) false)
noncomputable def Skfit : List AV → List Blk → Option (Prop × Ret)
  | [], [] => some (True, ⟨.sc (.b (Fkfit)), []⟩)
  | _, _ => none
noncomputable def Bkfit : Bs := { P := Go.Proofs.Tryd.prog, G := gD, tab := tabOf [⟨11, 48, [.io, .val], [], [], ⟨0, 1, SkInit⟩, false⟩, ⟨13, 64, [.io], [], [48], ⟨1, 0, SkReadInitO⟩, false⟩, ⟨16, 256, [.io, .io], [], [], ⟨0, 0, SkAgree⟩, false⟩, ⟨18, 32, [], [], [], ⟨0, 0, SkOwn⟩, false⟩, ⟨18, 240, [], [], [], ⟨0, 0, SkOwn⟩, false⟩, ⟨19, 512, [.val], [], [], ⟨0, 0, SkBlob⟩, false⟩, ⟨22, 528, [.val], [], [], ⟨0, 0, SkReadBlob⟩, false⟩, ⟨25, 416, [.val], [], [], ⟨0, 0, SkLine⟩, false⟩, ⟨28, 336, [.io], [], [], ⟨0, 1, SkHashZ⟩, false⟩], n := 34 }
theorem Bkfit.ok : Bkfit.Ok := ⟨tabOk (P := Go.Proofs.Tryd.prog) (G := gD) (l := [⟨11, 48, [.io, .val], [], [], ⟨0, 1, SkInit⟩, false⟩, ⟨13, 64, [.io], [], [48], ⟨1, 0, SkReadInitO⟩, false⟩, ⟨16, 256, [.io, .io], [], [], ⟨0, 0, SkAgree⟩, false⟩, ⟨18, 32, [], [], [], ⟨0, 0, SkOwn⟩, false⟩, ⟨18, 240, [], [], [], ⟨0, 0, SkOwn⟩, false⟩, ⟨19, 512, [.val], [], [], ⟨0, 0, SkBlob⟩, false⟩, ⟨22, 528, [.val], [], [], ⟨0, 0, SkReadBlob⟩, false⟩, ⟨25, 416, [.val], [], [], ⟨0, 0, SkLine⟩, false⟩, ⟨28, 336, [.io], [], [], ⟨0, 1, SkHashZ⟩, false⟩]) (And.intro KkInit (And.intro KkReadInitO (And.intro KkAgree (And.intro KkOwn (And.intro KkOwn (And.intro KkBlob (And.intro KkReadBlob (And.intro KkLine (And.intro KkHashZ True.intro))))))))), mixed⟩
theorem Kkfit : Known Go.Proofs.Tryd.prog gD 9 ⟨0, 0, Skfit⟩ := by
 refine Known.walk (B := Bkfit) (fn := Go.Proofs.Tryd.f9) Bkfit.ok (by kernel_rfl) rfl (by kernel_rfl) (by kernel_rfl) (by decide) (by decide) ?_
 intro E args ks C r h hC hlen
 simp only at h
 unfold Skfit at h
 split at h
 rotate_left
 cases h
 skip
 cases h
 simp only [lens] at hlen
 refine ⟨show 0 ≤ 34 from by decide, ?_⟩
 refine Tri.sub (Sub.of_eq (show _ = ([], []) from rfl)) ?_
 refine sq [] none [] [] ([], []) 32 (t1 pT) ?_
 refine sq [] none [2, 1] [128] ([(2, .sc (.i .i64 (FkReadInitO_1 (FkInitn0 (FkOwn) (⟨#[100]⟩ : ByteArray)) (FkInit (FkOwn) (⟨#[100]⟩ : ByteArray))))), (1, .sc (.p 128 0))], [(128, .vec .tab (Fkfitv1))]) 176 (pu pz (pu (pa pT (pl (show offer (FkOwn) ∧ (⟨#[100]⟩ : ByteArray).size ≤ 1000 from by first | omega | decide | exact ⟨own_offer, by decide⟩ | exact ⟨initO_rows own_offer (by decide), own_rows⟩ | exact (initO_rows own_offer (by decide)).1 | exact (initO_rows own_offer (by decide)).1.symm | (refine Nat.le_trans (blob_le _) ?_; rw [size_bytesOf]; decide) | exact Nat.le_trans (init_n own_offer (by decide)) (by decide)))) (pu (pa pT (pa (lr ((FkInitn0 (FkOwn) (⟨#[100]⟩ : ByteArray)) = (FkInitn0 (FkOwn) (⟨#[100]⟩ : ByteArray)))) (pl (show (FkInitn0 (FkOwn) (⟨#[100]⟩ : ByteArray)) ≤ 1000000000 from by first | omega | decide | exact ⟨own_offer, by decide⟩ | exact ⟨initO_rows own_offer (by decide), own_rows⟩ | exact (initO_rows own_offer (by decide)).1 | exact (initO_rows own_offer (by decide)).1.symm | (refine Nat.le_trans (blob_le _) ?_; rw [size_bytesOf]; decide) | exact Nat.le_trans (init_n own_offer (by decide)) (by decide))))) (t4 (pu (pa (pl (show (Fkfitv1).length = 8 from by first | omega | decide | exact ⟨own_offer, by decide⟩ | exact ⟨initO_rows own_offer (by decide), own_rows⟩ | exact (initO_rows own_offer (by decide)).1 | exact (initO_rows own_offer (by decide)).1.symm | (refine Nat.le_trans (blob_le _) ?_; rw [size_bytesOf]; decide) | exact Nat.le_trans (init_n own_offer (by decide)) (by decide))) (lr (8 = 8))) (t1 pT)))))) ?_
 refine Tri.split (((FkReadInitO_1 (FkInitn0 (FkOwn) (⟨#[100]⟩ : ByteArray)) (FkInit (FkOwn) (⟨#[100]⟩ : ByteArray))) : Int) == 0) (fun h1 => ?_) (fun h1 => ?_)
 have h1' := eq_true_i h1
 refine Tri.split (((FkAgree (Fkfitv1) (FkOwn)) : Int) == 0) (fun h2 => ?_) (fun h2 => ?_)
 have h2' := eq_true_i h2
 refine Tri.split (strEq (FkLine (⟨#[83, 83, 72, 45, 50, 46, 48, 45, 120]⟩ : ByteArray)) (⟨#[83, 83, 72, 45, 50, 46, 48, 45, 120]⟩ : ByteArray)) (fun h3 => ?_) (fun h3 => ?_)
 refine sq [(11, qb true), (17, qb true), (27, qb true)] (some [0, 1, 3, 7, 7, 31, 63, 127, 255, 511, 1023, 2047, 4095, 8191, 16383, 32767, 65535, 131071, 262143, 524287, 1048575, 2097151, 4194303, 8388607, 16777215, 33554431]) [0] [] ([(0, .sc (.b (!(strEq (Fkfitv2) (⟨#[]⟩ : ByteArray)))))], []) 592 (t2 (pg h1 (pu (pl (show 8 = (Fkfitv1).length from by first | omega | decide | exact ⟨own_offer, by decide⟩ | exact ⟨initO_rows own_offer (by decide), own_rows⟩ | exact (initO_rows own_offer (by decide)).1 | exact (initO_rows own_offer (by decide)).1.symm | (refine Nat.le_trans (blob_le _) ?_; rw [size_bytesOf]; decide) | exact Nat.le_trans (init_n own_offer (by decide)) (by decide))) (pu pz (pu (pa pT (pl (show rows8 (Fkfitv1) ∧ rows8 (FkOwn) from by first | omega | decide | exact ⟨own_offer, by decide⟩ | exact ⟨initO_rows own_offer (by decide), own_rows⟩ | exact (initO_rows own_offer (by decide)).1 | exact (initO_rows own_offer (by decide)).1.symm | (refine Nat.le_trans (blob_le _) ?_; rw [size_bytesOf]; decide) | exact Nat.le_trans (init_n own_offer (by decide)) (by decide)))) (t2 (pg h2 (t1 (pu (pa pT (pa (lr ((⟨#[]⟩ : ByteArray) = (⟨#[]⟩ : ByteArray))) (pa (lr ((⟨#[]⟩ : ByteArray) = (⟨#[]⟩ : ByteArray))) (pa (lr ((⟨#[]⟩ : ByteArray) = (⟨#[]⟩ : ByteArray))) (pa (lr ((⟨#[]⟩ : ByteArray) = (⟨#[]⟩ : ByteArray))) (pa (lr ((⟨#[]⟩ : ByteArray) = (⟨#[]⟩ : ByteArray))) pT)))))) (t4 (pu pz (t2 (pg h3 (pu (pa (lo ((0 : Int) ≤ 32 ∧ (32 : Int) = 32)) (pa (lo (32 ≤ (140737488355328 : Int))) (lo (((1 : Nat) : Int) * 32 ≤ 281474976710656)))) (pu (lo (0 + 32 ≤ 32)) (pu (pa pT (lo ((bytesOf (((List.replicate 32 0).drop 0).take 32)).size ≤ 1000000000))) (pu (pa pT (lo ((FkBlob (bytesOf (((List.replicate 32 0).drop 0).take 32))).size ≤ 1000000000))) (t3 pT)))))))))))))))))) ?_
 refine Tri.ret ?_
 refine rt ?_
 refine endP.conv (r' := ⟨.sc (.b (!(strEq (Fkfitv2) (⟨#[]⟩ : ByteArray)))), []⟩) (by simp only [Fkfit, h1, h2, h3, sel_true, sel_false]) ?_
 exact er [] pz
 refine sq [(11, qb true), (17, qb true), (27, qb false)] (some [0, 1, 3, 7, 7, 31, 63, 127, 255, 511, 1023, 2047, 4095, 8191, 16383, 32767, 65535, 131071, 262143, 524287, 1048575, 2097151, 4194303, 8388607, 16777215, 33554431]) [0] [] ([(0, .sc (.b false))], []) 592 (t2 (pg h1 (pu (pl (show 8 = (Fkfitv1).length from by first | omega | decide | exact ⟨own_offer, by decide⟩ | exact ⟨initO_rows own_offer (by decide), own_rows⟩ | exact (initO_rows own_offer (by decide)).1 | exact (initO_rows own_offer (by decide)).1.symm | (refine Nat.le_trans (blob_le _) ?_; rw [size_bytesOf]; decide) | exact Nat.le_trans (init_n own_offer (by decide)) (by decide))) (pu pz (pu (pa pT (pl (show rows8 (Fkfitv1) ∧ rows8 (FkOwn) from by first | omega | decide | exact ⟨own_offer, by decide⟩ | exact ⟨initO_rows own_offer (by decide), own_rows⟩ | exact (initO_rows own_offer (by decide)).1 | exact (initO_rows own_offer (by decide)).1.symm | (refine Nat.le_trans (blob_le _) ?_; rw [size_bytesOf]; decide) | exact Nat.le_trans (init_n own_offer (by decide)) (by decide)))) (t2 (pg h2 (t1 (pu (pa pT (pa (lr ((⟨#[]⟩ : ByteArray) = (⟨#[]⟩ : ByteArray))) (pa (lr ((⟨#[]⟩ : ByteArray) = (⟨#[]⟩ : ByteArray))) (pa (lr ((⟨#[]⟩ : ByteArray) = (⟨#[]⟩ : ByteArray))) (pa (lr ((⟨#[]⟩ : ByteArray) = (⟨#[]⟩ : ByteArray))) (pa (lr ((⟨#[]⟩ : ByteArray) = (⟨#[]⟩ : ByteArray))) pT)))))) (t4 (pu pz (t2 (pg h3 (t7 pT)))))))))))))) ?_
 refine Tri.ret ?_
 refine rt ?_
 refine endP.conv (r' := ⟨.sc (.b false), []⟩) (by simp only [Fkfit, h1, h2, h3, sel_true, sel_false]) ?_
 exact er [] pz
 have h2' := eq_false_i h2
 refine sq [(11, qb true), (17, qb false)] (some [0, 1, 3, 7, 7, 31, 63, 127, 255, 511, 1023, 2047, 4095, 8191, 16383, 32767, 65535, 131071, 262143, 524287, 1048575, 2097151, 4194303, 8388607, 16777215, 33554431]) [0] [] ([(0, .sc (.b false))], []) 592 (t2 (pg h1 (pu (pl (show 8 = (Fkfitv1).length from by first | omega | decide | exact ⟨own_offer, by decide⟩ | exact ⟨initO_rows own_offer (by decide), own_rows⟩ | exact (initO_rows own_offer (by decide)).1 | exact (initO_rows own_offer (by decide)).1.symm | (refine Nat.le_trans (blob_le _) ?_; rw [size_bytesOf]; decide) | exact Nat.le_trans (init_n own_offer (by decide)) (by decide))) (pu pz (pu (pa pT (pl (show rows8 (Fkfitv1) ∧ rows8 (FkOwn) from by first | omega | decide | exact ⟨own_offer, by decide⟩ | exact ⟨initO_rows own_offer (by decide), own_rows⟩ | exact (initO_rows own_offer (by decide)).1 | exact (initO_rows own_offer (by decide)).1.symm | (refine Nat.le_trans (blob_le _) ?_; rw [size_bytesOf]; decide) | exact Nat.le_trans (init_n own_offer (by decide)) (by decide)))) (t2 (pg h2 (t8 (t9 pT))))))))) ?_
 refine Tri.ret ?_
 refine rt ?_
 refine endP.conv (r' := ⟨.sc (.b false), []⟩) (by simp only [Fkfit, h1, h2, sel_true, sel_false]) ?_
 exact er [] pz
 have h1' := eq_false_i h1
 refine sq [(11, qb false)] (some [0, 1, 3, 7, 7, 31, 63, 127, 255, 511, 1023, 2047, 4095, 8191, 16383, 32767, 65535, 131071, 262143, 524287, 1048575, 2097151, 4194303, 8388607, 16777215, 33554431]) [0] [] ([(0, .sc (.b false))], []) 592 (t2 (pg h1 (t5 (t9 (t9 pT))))) ?_
 refine Tri.ret ?_
 refine rt ?_
 refine endP.conv (r' := ⟨.sc (.b false), []⟩) (by simp only [Fkfit, h1, sel_true, sel_false]) ?_
 exact er [] pz
end Go.Vm
set_option linter.unusedVariables false
set_option linter.unusedSimpArgs false
set_option maxRecDepth 100000
namespace Go.Vm
open Go
theorem fit_true : Fkfit = true := by kernel_rfl
theorem fst_all {S : Nat → Bool} : ∀ n, fstB S n = n → ∀ j, j < n → S j = false := by
  intro n
  induction n with
  | zero => intro _ j hj; exact absurd hj (Nat.not_lt_zero j)
  | succ n ih =>
    intro h j hj
    rw [fstB] at h
    have hle := fst_le S n
    cases hb : Nat.blt (fstB S n) n with
    | true => rw [hb, cond_true] at h; omega
    | false =>
      rw [hb, cond_false] at h
      have hn : fstB S n = n := by
        rcases Nat.lt_or_ge (fstB S n) n with hq | hq
        · rw [blt_true hq] at hb; cases hb
        · omega
      cases hq : S n with
      | true => rw [hq, cond_true] at h; omega
      | false =>
        by_cases hjn : j = n
        · rw [hjn]; exact hq
        · exact ih hn j (by omega)
theorem fst_none_of {S : Nat → Bool} {n : Nat} (h : Nat.blt (fstB S n) n = false) : ∀ j, j < n → S j = false := by
  have hle := fst_le S n
  refine fst_all n ?_
  rcases Nat.lt_or_ge (fstB S n) n with hq | hq
  · rw [blt_true hq] at h; cases h
  · omega
end Go.Vm
set_option linter.unusedVariables false
set_option linter.unusedSimpArgs false
namespace Go.Vm
open Go
theorem strEq_comm (x y : ByteArray) : strEq x y = strEq y x := by
  cases h : strEq y x
  · cases h2 : strEq x y
    · rfl
    · rw [strEq_iff] at h2; rw [h2, strEq_refl] at h; cases h
  · rw [strEq_iff] at h; rw [h]; exact strEq_refl _
theorem sel_id (b : Bool) : sel b true false = b := by cases b; rw [sel_false]; rw [sel_true]
theorem cont_has (l : List ByteArray) (x : ByteArray) : FkCont l x = Fkhas l x := by
  unfold FkCont FkIdx Fkhas
  have e : fstB (FkIdxs0 l x) l.length = fstB (Fkhass0 l x) l.length := fst_congr fun j hj => by
    unfold FkIdxs0 Fkhass0
    rw [strEq_comm]
  rw [e]
  cases h : Nat.blt (fstB (Fkhass0 l x) l.length) l.length
  · rw [sel_false, sel_false]; rfl
  · rw [sel_true, sel_true]; exact decide_eq_true (by omega)
noncomputable def firstIn (x y : List ByteArray) : Nat := fstB (fun j => Fkhas y (x.getD j ⟨#[]⟩)) x.length
noncomputable def kindOk (x y o : List ByteArray) : Bool := Nat.blt (firstIn x y) x.length && strEq (x.getD (firstIn x y) ⟨#[]⟩) (o.getD 0 ⟨#[]⟩)
theorem idxF_at (x : List ByteArray) (p1 : List (List ByteArray)) (k : Nat) : FkIdxF x p1 ((k : Nat) : Int) = sel (Nat.blt (firstIn x (p1.getD k [])) x.length) ((firstIn x (p1.getD k []) : Nat) : Int) (-1) := by
  unfold FkIdxF
  have e : fstB (FkIdxFs0 x p1 ((k : Nat) : Int)) x.length = firstIn x (p1.getD k []) := fst_congr fun j hj => by
    unfold FkIdxFs0 Fkclo
    rw [sel_id, cont_has]
    rfl
  rw [e]
theorem agree_kind (p0 p1 : List (List ByteArray)) (k : Nat) : FkAgrees0 p0 p1 k = !(kindOk (p0.getD k []) (p1.getD k []) (FkOwn.getD k [])) := by
  unfold FkAgrees0 kindOk
  rw [idxF_at]
  cases h : Nat.blt (firstIn (p0.getD k []) (p1.getD k [])) (p0.getD k []).length
  · rw [sel_false, show decide ((-1 : Int) < 0) = true from rfl, sel_true, Bool.false_and]
    rfl
  · rw [sel_true, decide_eq_false (by omega), sel_false, sel_id, Bool.true_and]
    rfl
end Go.Vm
set_option linter.unusedVariables false
set_option linter.unusedSimpArgs false
namespace Go.Vm
open Go
end Go.Vm
set_option linter.unusedVariables false
set_option linter.unusedSimpArgs false
set_option maxRecDepth 4000
set_option maxHeartbeats 2000000
namespace Go.Vm
open Go
theorem ix8 (p : Int) : 0 ≤ iRem (iAdd .i64 (iRem p 8) 8) 8 ∧ iRem (iAdd .i64 (iRem p 8) 8) 8 < 8 := by
  have h1 := Int.tmod_lt_of_pos p (show (0 : Int) < 8 by decide)
  have h2 := Int.lt_tmod_of_pos p (show (0 : Int) < 8 by decide)
  have e : iAdd .i64 (iRem p 8) 8 = p.tmod 8 + 8 := by
    unfold iAdd iRem
    exact wrap_small (by omega) (by omega)
  rw [e]
  unfold iRem
  exact ⟨Int.tmod_nonneg _ (by omega), Int.tmod_lt_of_pos _ (by decide)⟩
theorem rows8_sel {b : Bool} {l m : List (List ByteArray)} (h : rows8 l) (h' : rows8 m) : rows8 (sel b l m) := by
  cases b
  · rw [sel_false]; exact h'
  · rw [sel_true]; exact h
theorem rows8_set {k : Nat} {x : List ByteArray} {l : List (List ByteArray)} (h : rows8 l) (hx : x.length ≤ 1000000000) : rows8 (l.set k x) := by
  refine ⟨by rw [List.length_set]; exact h.1, fun j => ?_⟩
  rw [List.getD_eq_getElem?_getD, List.getElem?_set]
  split
  · split
    · exact hx
    · exact Nat.zero_le _
  · rw [← List.getD_eq_getElem?_getD]; exact h.2 j
theorem len1 (p : List ByteArray) (a : ByteArray) : (p ++ [a]).length = p.length + 1 := by rw [List.length_append]; rfl
theorem len2 (p : List ByteArray) (a : ByteArray) : ([a] ++ p).length = 1 + p.length := by rw [List.length_append]; rfl
noncomputable def FkKexFirstl0 (k0 : Nat) (z0 : Unit) : Unit :=
  ()
noncomputable def FkKexFirsts0 (p0 : Int) (p1 : List ByteArray) (k0 : Nat) : Bool :=
  (sel (decide (((((p1.getD k0 ⟨#[]⟩).size : Nat) : Int) : Int) > 30)) true (sel (strEq (p1.getD k0 ⟨#[]⟩) (((FkOwn).getD (((iRem (iAdd .i64 (iRem p0 8) 8) 8)).toNat) []).getD 0 ⟨#[]⟩)) true false))
noncomputable def FkKexFirst (p0 : Int) (p1 : List ByteArray) (p2 : Bool) : Bool :=
  (sel (!(Fkfit)) false (sel (decide ((((p1.length : Nat) : Int) : Int) > 10)) true (sel (Nat.blt (fstB (FkKexFirsts0 p0 p1) p1.length) p1.length) true (sel (((FkAgree ((FkOwn).set (((iRem (iAdd .i64 (iRem p0 8) 8) 8)).toNat) (p1 ++ [((FkOwn).getD (((iRem (iAdd .i64 (iRem p0 8) 8) 8)).toNat) []).getD 0 ⟨#[]⟩])) (FkOwn)) : Int) == 0) (sel (((FkAgree (FkOwn) ((FkOwn).set (((iRem (iAdd .i64 (iRem p0 8) 8) 8)).toNat) (p1 ++ [((FkOwn).getD (((iRem (iAdd .i64 (iRem p0 8) 8) 8)).toNat) []).getD 0 ⟨#[]⟩]))) : Int) == 0) ((((FkAgree ((FkOwn).set (((iRem (iAdd .i64 (iRem p0 8) 8) 8)).toNat) (p1 ++ [((FkOwn).getD (((iRem (iAdd .i64 (iRem p0 8) 8) 8)).toNat) []).getD 0 ⟨#[]⟩])) (sel p2 ((FkOwn).set (((iRem (iAdd .i64 (iRem p0 8) 8) 8)).toNat) ([((FkOwn).getD (((iRem (iAdd .i64 (iRem p0 8) 8) 8)).toNat) []).getD 0 ⟨#[]⟩] ++ p1)) ((FkOwn).set (((iRem (iAdd .i64 (iRem p0 8) 8) 8)).toNat) (p1 ++ [((FkOwn).getD (((iRem (iAdd .i64 (iRem p0 8) 8) 8)).toNat) []).getD 0 ⟨#[]⟩])))) : Int) == 0) == ((((p1.length : Nat) : Int) : Int) == 0)) false) false))))
noncomputable def SkKexFirst : List AV → List Blk → Option (Prop × Ret)
  | [.sc (.i .i64 p0), .sc (.ros p1), .sc (.b p2)], [] => some ((p1.length ≤ 140737488351232), ⟨.sc (.b (FkKexFirst p0 p1 p2)), []⟩)
  | _, _ => none
noncomputable def BkKexFirst : Bs := { P := Go.Proofs.Tryd.prog, G := gD, tab := tabOf [⟨9, 32, [], [], [], ⟨0, 0, Skfit⟩, false⟩, ⟨16, 608, [.io, .io], [], [], ⟨0, 0, SkAgree⟩, false⟩, ⟨16, 672, [.io, .io], [], [], ⟨0, 0, SkAgree⟩, false⟩, ⟨16, 880, [.io, .io], [], [], ⟨0, 0, SkAgree⟩, false⟩, ⟨18, 192, [], [], [], ⟨0, 0, SkOwn⟩, false⟩, ⟨18, 208, [], [], [], ⟨0, 0, SkOwn⟩, false⟩], n := 90 }
theorem BkKexFirst.ok : BkKexFirst.Ok := ⟨tabOk (P := Go.Proofs.Tryd.prog) (G := gD) (l := [⟨9, 32, [], [], [], ⟨0, 0, Skfit⟩, false⟩, ⟨16, 608, [.io, .io], [], [], ⟨0, 0, SkAgree⟩, false⟩, ⟨16, 672, [.io, .io], [], [], ⟨0, 0, SkAgree⟩, false⟩, ⟨16, 880, [.io, .io], [], [], ⟨0, 0, SkAgree⟩, false⟩, ⟨18, 192, [], [], [], ⟨0, 0, SkOwn⟩, false⟩, ⟨18, 208, [], [], [], ⟨0, 0, SkOwn⟩, false⟩]) (And.intro Kkfit (And.intro KkAgree (And.intro KkAgree (And.intro KkAgree (And.intro KkOwn (And.intro KkOwn True.intro)))))), mixed⟩
theorem KkKexFirst : Known Go.Proofs.Tryd.prog gD 5 ⟨0, 0, SkKexFirst⟩ := by
 refine Known.walk (B := BkKexFirst) (fn := Go.Proofs.Tryd.f5) BkKexFirst.ok (by kernel_rfl) rfl (by kernel_rfl) (by kernel_rfl) (by decide) (by decide) ?_
 intro E args ks C r h hC hlen
 simp only at h
 unfold SkKexFirst at h
 split at h
 rotate_left
 cases h
 rename_i p0 p1 p2
 cases h
 simp only [lens] at hlen
 have hk := ix8 p0
 have h8 := own_8
 refine ⟨show 3 ≤ 90 from by decide, ?_⟩
 refine Tri.sub (Sub.of_eq (show _ = ([(0, .sc (.i .i64 p0)), (1, .sc (.ros p1)), (2, .sc (.b p2))], []) from rfl)) ?_
 refine sq [] none [0, 1, 2] [] ([(0, .sc (.i .i64 p0)), (1, .sc (.ros p1)), (2, .sc (.b p2))], []) 32 (t1 pT) ?_
 refine Tri.seq ?_
 refine sq [] none [16, 0, 1, 2] [] ([(16, .sc (.b (!(Fkfit)))), (0, .sc (.i .i64 p0)), (1, .sc (.ros p1)), (2, .sc (.b p2))], []) 64 (pu pz (t1 pT)) ?_
 refine Tri.cond (x := (!(Fkfit))) (by kernel_rfl) (fun h1 => ?_) (fun h1 => ?_)
 refine sq [] none [6] [] ([(6, .sc (.b false))], []) 80 (t1 pT) ?_
 refine Tri.ret ?_
 refine rt ?_
 refine endP.conv (r' := ⟨.sc (.b false), []⟩) (by simp only [FkKexFirst, h1, sel_true, sel_false]) ?_
 exact er [] pz
 refine Tri.skip ?_
 change Tri _ _ _ _ _ _
 refine sq [] none [0, 1, 2] [] ([(0, .sc (.i .i64 (iRem (iAdd .i64 (iRem p0 8) 8) 8))), (1, .sc (.ros p1)), (2, .sc (.b p2))], []) 144 (t1 (pu (pl (show 8 ≠ (0 : Int) from by first | omega | decide | exact own_at (by omega) | (rw [own_8]; omega) | (simp only [List.length_append, List.length_cons, List.length_nil, List.length_set]; omega) | exact ⟨rows8_set own_rows (by rw [len1]; omega), own_rows⟩ | exact ⟨own_rows, rows8_set own_rows (by rw [len1]; omega)⟩ | exact ⟨rows8_set own_rows (by rw [len1]; omega), rows8_sel (rows8_set own_rows (by rw [len2]; omega)) (rows8_set own_rows (by rw [len1]; omega))⟩ | exact (rows8_sel (rows8_set own_rows (by rw [len2]; omega)) (rows8_set own_rows (by rw [len1]; omega))).1.symm)) (t1 (pu (pl (show 8 ≠ (0 : Int) from by first | omega | decide | exact own_at (by omega) | (rw [own_8]; omega) | (simp only [List.length_append, List.length_cons, List.length_nil, List.length_set]; omega) | exact ⟨rows8_set own_rows (by rw [len1]; omega), own_rows⟩ | exact ⟨own_rows, rows8_set own_rows (by rw [len1]; omega)⟩ | exact ⟨rows8_set own_rows (by rw [len1]; omega), rows8_sel (rows8_set own_rows (by rw [len2]; omega)) (rows8_set own_rows (by rw [len1]; omega))⟩ | exact (rows8_sel (rows8_set own_rows (by rw [len2]; omega)) (rows8_set own_rows (by rw [len1]; omega))).1.symm)) (t1 pT))))) ?_
 refine Tri.seq ?_
 refine sq [] none [23, 0, 1, 2] [] ([(23, .sc (.b (decide ((((p1.length : Nat) : Int) : Int) > 10)))), (0, .sc (.i .i64 (iRem (iAdd .i64 (iRem p0 8) 8) 8))), (1, .sc (.ros p1)), (2, .sc (.b p2))], []) 192 (t3 pT) ?_
 refine Tri.cond (x := (decide ((((p1.length : Nat) : Int) : Int) > 10))) (by kernel_rfl) (fun h2 => ?_) (fun h2 => ?_)
 have h2' := of_decide_eq_true h2
 refine sq [] none [6] [] ([(6, .sc (.b true))], []) 208 (t1 pT) ?_
 refine Tri.ret ?_
 refine rt ?_
 refine endP.conv (r' := ⟨.sc (.b true), []⟩) (by simp only [FkKexFirst, h1, h2, sel_true, sel_false]) ?_
 exact er [] pz
 have h2' := of_decide_eq_false h2
 refine Tri.skip ?_
 change Tri _ _ _ _ _ _
 refine sq [] none [8, 7, 0, 1, 2] [240, 224] ([(8, .sc (.p 240 0)), (7, .sc (.p 224 0)), (0, .sc (.i .i64 (iRem (iAdd .i64 (iRem p0 8) 8) 8))), (1, .sc (.ros p1)), (2, .sc (.b p2))], [(240, .vec .tab (FkOwn)), (224, .vec .tab (FkOwn))]) 288 (pu pz (pu pz (t2 (pu (pa (pl (show (FkOwn).length = 8 from by first | omega | decide | exact own_at (by omega) | (rw [own_8]; omega) | (simp only [List.length_append, List.length_cons, List.length_nil, List.length_set]; omega) | exact ⟨rows8_set own_rows (by rw [len1]; omega), own_rows⟩ | exact ⟨own_rows, rows8_set own_rows (by rw [len1]; omega)⟩ | exact ⟨rows8_set own_rows (by rw [len1]; omega), rows8_sel (rows8_set own_rows (by rw [len2]; omega)) (rows8_set own_rows (by rw [len1]; omega))⟩ | exact (rows8_sel (rows8_set own_rows (by rw [len2]; omega)) (rows8_set own_rows (by rw [len1]; omega))).1.symm)) (lr (8 = 8))) (pu (pa (pl (show (FkOwn).length = 8 from by first | omega | decide | exact own_at (by omega) | (rw [own_8]; omega) | (simp only [List.length_append, List.length_cons, List.length_nil, List.length_set]; omega) | exact ⟨rows8_set own_rows (by rw [len1]; omega), own_rows⟩ | exact ⟨own_rows, rows8_set own_rows (by rw [len1]; omega)⟩ | exact ⟨rows8_set own_rows (by rw [len1]; omega), rows8_sel (rows8_set own_rows (by rw [len2]; omega)) (rows8_set own_rows (by rw [len1]; omega))⟩ | exact (rows8_sel (rows8_set own_rows (by rw [len2]; omega)) (rows8_set own_rows (by rw [len1]; omega))).1.symm)) (lr (8 = 8))) pT))))) ?_
 refine sq [] none [9, 8, 7, 0, 1, 2] [240, 224] ([(9, .sc (.s (((FkOwn).getD (((iRem (iAdd .i64 (iRem p0 8) 8) 8)).toNat) []).getD 0 ⟨#[]⟩))), (8, .sc (.p 240 0)), (7, .sc (.p 224 0)), (0, .sc (.i .i64 (iRem (iAdd .i64 (iRem p0 8) 8) 8))), (1, .sc (.ros p1)), (2, .sc (.b p2))], [(240, .vec .tab (FkOwn)), (224, .vec .tab (FkOwn))]) 384 (t1 (pu (pl (show (0 : Int) ≤ (iRem (iAdd .i64 (iRem p0 8) 8) 8) ∧ (iRem (iAdd .i64 (iRem p0 8) 8) 8) < ((8 : Nat) : Int) from by first | omega | decide | exact own_at (by omega) | (rw [own_8]; omega) | (simp only [List.length_append, List.length_cons, List.length_nil, List.length_set]; omega) | exact ⟨rows8_set own_rows (by rw [len1]; omega), own_rows⟩ | exact ⟨own_rows, rows8_set own_rows (by rw [len1]; omega)⟩ | exact ⟨rows8_set own_rows (by rw [len1]; omega), rows8_sel (rows8_set own_rows (by rw [len2]; omega)) (rows8_set own_rows (by rw [len1]; omega))⟩ | exact (rows8_sel (rows8_set own_rows (by rw [len2]; omega)) (rows8_set own_rows (by rw [len1]; omega))).1.symm)) (pu (pl (show ((iRem (iAdd .i64 (iRem p0 8) 8) 8)).toNat < (FkOwn).length from by first | omega | decide | exact own_at (by omega) | (rw [own_8]; omega) | (simp only [List.length_append, List.length_cons, List.length_nil, List.length_set]; omega) | exact ⟨rows8_set own_rows (by rw [len1]; omega), own_rows⟩ | exact ⟨own_rows, rows8_set own_rows (by rw [len1]; omega)⟩ | exact ⟨rows8_set own_rows (by rw [len1]; omega), rows8_sel (rows8_set own_rows (by rw [len2]; omega)) (rows8_set own_rows (by rw [len1]; omega))⟩ | exact (rows8_sel (rows8_set own_rows (by rw [len2]; omega)) (rows8_set own_rows (by rw [len1]; omega))).1.symm)) (pu (pl (show (0 : Int) ≤ 0 ∧ 0 < (((FkOwn).getD (((iRem (iAdd .i64 (iRem p0 8) 8) 8)).toNat) []).length : Int) from by first | omega | decide | exact own_at (by omega) | (rw [own_8]; omega) | (simp only [List.length_append, List.length_cons, List.length_nil, List.length_set]; omega) | exact ⟨rows8_set own_rows (by rw [len1]; omega), own_rows⟩ | exact ⟨own_rows, rows8_set own_rows (by rw [len1]; omega)⟩ | exact ⟨rows8_set own_rows (by rw [len1]; omega), rows8_sel (rows8_set own_rows (by rw [len2]; omega)) (rows8_set own_rows (by rw [len1]; omega))⟩ | exact (rows8_sel (rows8_set own_rows (by rw [len2]; omega)) (rows8_set own_rows (by rw [len1]; omega))).1.symm)) (t2 pT))))) ?_
 refine Tri.seq ?_
 refine sq [] none [33, 32, 31, 9, 8, 7, 0, 1, 2] [240, 224] ([(33, .sc (.i .i64 0)), (32, .sc (.i .i64 ((p1.length : Nat) : Int))), (31, .sc (.ros p1)), (9, .sc (.s (((FkOwn).getD (((iRem (iAdd .i64 (iRem p0 8) 8) 8)).toNat) []).getD 0 ⟨#[]⟩))), (8, .sc (.p 240 0)), (7, .sc (.p 224 0)), (0, .sc (.i .i64 (iRem (iAdd .i64 (iRem p0 8) 8) 8))), (1, .sc (.ros p1)), (2, .sc (.b p2))], [(240, .vec .tab (FkOwn)), (224, .vec .tab (FkOwn))]) 432 (t3 pT) ?_
 refine Tri.block ?_
 refine Tri.count 432 p1.length (FkKexFirstl0) (()) (fun k0 z0 => (∀ j, j < k0 → (FkKexFirsts0 p0 p1) j = false)) (fun k0 z0 => ([(33, .sc (.i .i64 ((k0 : Nat) : Int))), (32, .sc (.i .i64 ((p1.length : Nat) : Int))), (31, .sc (.ros p1)), (9, .sc (.s (((FkOwn).getD (((iRem (iAdd .i64 (iRem p0 8) 8) 8)).toNat) []).getD 0 ⟨#[]⟩))), (8, .sc (.p 240 0)), (7, .sc (.p 224 0)), (0, .sc (.i .i64 (iRem (iAdd .i64 (iRem p0 8) 8) 8))), (1, .sc (.ros p1)), (2, .sc (.b p2))], [(240, .vec .tab (FkOwn)), (224, .vec .tab (FkOwn))])) (fun j hj => absurd hj (Nat.not_lt_zero j)) (Sub.of_eq (by kernel_rfl)) ?_
 intro k0 z0 hk0 hz0 hJ0
 refine sq [] none [34, 33, 32, 31, 9, 8, 7, 0, 1, 2] [240, 224] ([(34, .sc (.b (decide ((((k0 : Nat) : Int) : Int) < ((p1.length : Nat) : Int))))), (33, .sc (.i .i64 ((k0 : Nat) : Int))), (32, .sc (.i .i64 ((p1.length : Nat) : Int))), (31, .sc (.ros p1)), (9, .sc (.s (((FkOwn).getD (((iRem (iAdd .i64 (iRem p0 8) 8) 8)).toNat) []).getD 0 ⟨#[]⟩))), (8, .sc (.p 240 0)), (7, .sc (.p 224 0)), (0, .sc (.i .i64 (iRem (iAdd .i64 (iRem p0 8) 8) 8))), (1, .sc (.ros p1)), (2, .sc (.b p2))], [(240, .vec .tab (FkOwn)), (224, .vec .tab (FkOwn))]) 448 (t1 pT) ?_
 refine Tri.seq ?_
 refine Tri.cond (x := (decide ((((k0 : Nat) : Int) : Int) < ((p1.length : Nat) : Int)))) (by kernel_rfl) (fun h3 => ?_) (fun h3 => ?_)
 have h3' := of_decide_eq_true h3
 refine Tri.skip ?_
 change Tri _ _ _ _ _ _
 refine Tri.seq ?_
 refine Tri.block ?_
 refine sq [] none [11, 33, 32, 31, 9, 8, 7, 0, 1, 2] [240, 224] ([(11, .sc (.s (p1.getD k0 ⟨#[]⟩))), (33, .sc (.i .i64 ((k0 : Nat) : Int))), (32, .sc (.i .i64 ((p1.length : Nat) : Int))), (31, .sc (.ros p1)), (9, .sc (.s (((FkOwn).getD (((iRem (iAdd .i64 (iRem p0 8) 8) 8)).toNat) []).getD 0 ⟨#[]⟩))), (8, .sc (.p 240 0)), (7, .sc (.p 224 0)), (0, .sc (.i .i64 (iRem (iAdd .i64 (iRem p0 8) 8) 8))), (1, .sc (.ros p1)), (2, .sc (.b p2))], [(240, .vec .tab (FkOwn)), (224, .vec .tab (FkOwn))]) 496 (pu (pl (show (0 : Int) ≤ ((k0 : Nat) : Int) ∧ ((k0 : Nat) : Int) < (p1.length : Int) from by first | omega | decide | exact own_at (by omega) | (rw [own_8]; omega) | (simp only [List.length_append, List.length_cons, List.length_nil, List.length_set]; omega) | exact ⟨rows8_set own_rows (by rw [len1]; omega), own_rows⟩ | exact ⟨own_rows, rows8_set own_rows (by rw [len1]; omega)⟩ | exact ⟨rows8_set own_rows (by rw [len1]; omega), rows8_sel (rows8_set own_rows (by rw [len2]; omega)) (rows8_set own_rows (by rw [len1]; omega))⟩ | exact (rows8_sel (rows8_set own_rows (by rw [len2]; omega)) (rows8_set own_rows (by rw [len1]; omega))).1.symm)) (t2 pT)) ?_
 refine Tri.split (decide (((((p1.getD k0 ⟨#[]⟩).size : Nat) : Int) : Int) > 30)) (fun h4 => ?_) (fun h4 => ?_)
 have h4' := of_decide_eq_true h4
 refine sq [(40, qb true)] none [44, 33, 32, 31, 9, 8, 7, 0, 1, 2] [240, 224] ([(44, .sc (.b true)), (33, .sc (.i .i64 ((k0 : Nat) : Int))), (32, .sc (.i .i64 ((p1.length : Nat) : Int))), (31, .sc (.ros p1)), (9, .sc (.s (((FkOwn).getD (((iRem (iAdd .i64 (iRem p0 8) 8) 8)).toNat) []).getD 0 ⟨#[]⟩))), (8, .sc (.p 240 0)), (7, .sc (.p 224 0)), (0, .sc (.i .i64 (iRem (iAdd .i64 (iRem p0 8) 8) 8))), (1, .sc (.ros p1)), (2, .sc (.b p2))], [(240, .vec .tab (FkOwn)), (224, .vec .tab (FkOwn))]) 624 (t3 (pg h4 (t4 pT))) ?_
 refine Tri.cond_true (by kernel_rfl) ?_
 refine sq [] none [6] [] ([(6, .sc (.b true))], []) 640 (t1 pT) ?_
 refine Tri.ret ?_
 subst hz0
 have hf0 : fstB (FkKexFirsts0 p0 p1) p1.length = k0 := fst_found (by omega) hJ0 (by simp only [FkKexFirsts0, h1, h2, h3, h4, sel_true, sel_false])
 have hb0 : Nat.blt k0 p1.length = true := blt_true (by omega)
 have hq0 : Nat.blt (fstB (FkKexFirsts0 p0 p1) p1.length) p1.length = true := by rw [hf0]; exact hb0
 refine rt ?_
 refine endP.conv (r' := ⟨.sc (.b true), []⟩) (by simp only [FkKexFirst, h1, h2, hq0, hf0, hb0, sel_true, sel_false]) ?_
 exact er [] pz
 have h4' := of_decide_eq_false h4
 refine sq [(40, qb false)] none [44, 33, 32, 31, 9, 8, 7, 0, 1, 2] [240, 224] ([(44, .sc (.b (strEq (p1.getD k0 ⟨#[]⟩) (((FkOwn).getD (((iRem (iAdd .i64 (iRem p0 8) 8) 8)).toNat) []).getD 0 ⟨#[]⟩)))), (33, .sc (.i .i64 ((k0 : Nat) : Int))), (32, .sc (.i .i64 ((p1.length : Nat) : Int))), (31, .sc (.ros p1)), (9, .sc (.s (((FkOwn).getD (((iRem (iAdd .i64 (iRem p0 8) 8) 8)).toNat) []).getD 0 ⟨#[]⟩))), (8, .sc (.p 240 0)), (7, .sc (.p 224 0)), (0, .sc (.i .i64 (iRem (iAdd .i64 (iRem p0 8) 8) 8))), (1, .sc (.ros p1)), (2, .sc (.b p2))], [(240, .vec .tab (FkOwn)), (224, .vec .tab (FkOwn))]) 624 (t3 (pg h4 (t4 pT))) ?_
 refine Tri.cond (x := (strEq (p1.getD k0 ⟨#[]⟩) (((FkOwn).getD (((iRem (iAdd .i64 (iRem p0 8) 8) 8)).toNat) []).getD 0 ⟨#[]⟩))) (by kernel_rfl) (fun h5 => ?_) (fun h5 => ?_)
 refine sq [] none [6] [] ([(6, .sc (.b true))], []) 640 (t1 pT) ?_
 refine Tri.ret ?_
 subst hz0
 have hf0 : fstB (FkKexFirsts0 p0 p1) p1.length = k0 := fst_found (by omega) hJ0 (by simp only [FkKexFirsts0, h1, h2, h3, h4, h5, sel_true, sel_false])
 have hb0 : Nat.blt k0 p1.length = true := blt_true (by omega)
 have hq0 : Nat.blt (fstB (FkKexFirsts0 p0 p1) p1.length) p1.length = true := by rw [hf0]; exact hb0
 refine rt ?_
 refine endP.conv (r' := ⟨.sc (.b true), []⟩) (by simp only [FkKexFirst, h1, h2, hq0, hf0, hb0, sel_true, sel_false]) ?_
 exact er [] pz
 refine Tri.skip ?_
 change Tri _ _ _ _ _ _
 refine rq [(45, qi ((k0 + 1 : Nat) : Int))] none [33, 32, 31, 9, 8, 7, 0, 1, 2] [240, 224] ([(33, .sc (.i .i64 ((k0 + 1 : Nat) : Int))), (32, .sc (.i .i64 ((p1.length : Nat) : Int))), (31, .sc (.ros p1)), (9, .sc (.s (((FkOwn).getD (((iRem (iAdd .i64 (iRem p0 8) 8) 8)).toNat) []).getD 0 ⟨#[]⟩))), (8, .sc (.p 240 0)), (7, .sc (.p 224 0)), (0, .sc (.i .i64 (iRem (iAdd .i64 (iRem p0 8) 8) 8))), (1, .sc (.ros p1)), (2, .sc (.b p2))], [(240, .vec .tab (FkOwn)), (224, .vec .tab (FkOwn))]) 656 (pv pT (pl (show (iAdd .i64 ((k0 : Nat) : Int) 1) = ((k0 + 1 : Nat) : Int) from iAdd_nat (a := k0) (b := 1) (by omega))) (t1 pT)) ?_
 repeat (refine blkP_normal ?_)
 refine countP_normal (by omega) (below_succ hJ0 (by subst hz0; simp only [FkKexFirsts0, h1, h2, h3, h4, h5, sel_true, sel_false])) ?_
 exact sp [(240, 240), (224, 224)] [33, 32, 31, 9, 8, 7, 0, 1, 2]
 have h3' := of_decide_eq_false h3
 refine Tri.exit ?_
 have hend0 : k0 = p1.length := by (have := of_decide_eq_false h3; omega)
 subst hend0; subst hz0
 have hf0 : fstB (FkKexFirsts0 p0 p1) p1.length = p1.length := fst_none hJ0
 have hb0 : Nat.blt p1.length p1.length = false := blt_self _
 have hq0 : Nat.blt (fstB (FkKexFirsts0 p0 p1) p1.length) p1.length = false := by rw [hf0]; exact hb0
 change Tri _ _ _ _ _ _
 refine sq [(51, .tup [])] none [9, 8, 7, 0, 1, 2] [224, 240] ([(9, .sc (.s (((FkOwn).getD (((iRem (iAdd .i64 (iRem p0 8) 8) 8)).toNat) []).getD 0 ⟨#[]⟩))), (8, .sc (.p 240 0)), (7, .sc (.p 224 0)), (0, .sc (.i .i64 (iRem (iAdd .i64 (iRem p0 8) 8) 8))), (1, .sc (.ros p1)), (2, .sc (.b p2))], [(224, .vec .tab ((FkOwn).set (((iRem (iAdd .i64 (iRem p0 8) 8) 8)).toNat) (p1 ++ [((FkOwn).getD (((iRem (iAdd .i64 (iRem p0 8) 8) 8)).toNat) []).getD 0 ⟨#[]⟩]))), (240, .vec .tab (FkOwn))]) 576 (t2 (pu (pa (pa (pa pT (lr (1 = 1))) (pa (pl (show 0 < 1 from by first | omega | decide | exact own_at (by omega) | (rw [own_8]; omega) | (simp only [List.length_append, List.length_cons, List.length_nil, List.length_set]; omega) | exact ⟨rows8_set own_rows (by rw [len1]; omega), own_rows⟩ | exact ⟨own_rows, rows8_set own_rows (by rw [len1]; omega)⟩ | exact ⟨rows8_set own_rows (by rw [len1]; omega), rows8_sel (rows8_set own_rows (by rw [len2]; omega)) (rows8_set own_rows (by rw [len1]; omega))⟩ | exact (rows8_sel (rows8_set own_rows (by rw [len2]; omega)) (rows8_set own_rows (by rw [len1]; omega))).1.symm)) (pa (pl (show p1.length * 16 ≤ 140737488355328 from by first | omega | decide | exact own_at (by omega) | (rw [own_8]; omega) | (simp only [List.length_append, List.length_cons, List.length_nil, List.length_set]; omega) | exact ⟨rows8_set own_rows (by rw [len1]; omega), own_rows⟩ | exact ⟨own_rows, rows8_set own_rows (by rw [len1]; omega)⟩ | exact ⟨rows8_set own_rows (by rw [len1]; omega), rows8_sel (rows8_set own_rows (by rw [len2]; omega)) (rows8_set own_rows (by rw [len1]; omega))⟩ | exact (rows8_sel (rows8_set own_rows (by rw [len2]; omega)) (rows8_set own_rows (by rw [len1]; omega))).1.symm)) (pl (show p1.length ≤ 140737488355328 from by first | omega | decide | exact own_at (by omega) | (rw [own_8]; omega) | (simp only [List.length_append, List.length_cons, List.length_nil, List.length_set]; omega) | exact ⟨rows8_set own_rows (by rw [len1]; omega), own_rows⟩ | exact ⟨own_rows, rows8_set own_rows (by rw [len1]; omega)⟩ | exact ⟨rows8_set own_rows (by rw [len1]; omega), rows8_sel (rows8_set own_rows (by rw [len2]; omega)) (rows8_set own_rows (by rw [len1]; omega))⟩ | exact (rows8_sel (rows8_set own_rows (by rw [len2]; omega)) (rows8_set own_rows (by rw [len1]; omega))).1.symm))))) (pl (show p1.length = p1.length * 1 from by first | omega | decide | exact own_at (by omega) | (rw [own_8]; omega) | (simp only [List.length_append, List.length_cons, List.length_nil, List.length_set]; omega) | exact ⟨rows8_set own_rows (by rw [len1]; omega), own_rows⟩ | exact ⟨own_rows, rows8_set own_rows (by rw [len1]; omega)⟩ | exact ⟨rows8_set own_rows (by rw [len1]; omega), rows8_sel (rows8_set own_rows (by rw [len2]; omega)) (rows8_set own_rows (by rw [len1]; omega))⟩ | exact (rows8_sel (rows8_set own_rows (by rw [len2]; omega)) (rows8_set own_rows (by rw [len1]; omega))).1.symm))) (t1 (pu (pa (pa (pa (pl (show 0 < 1 from by first | omega | decide | exact own_at (by omega) | (rw [own_8]; omega) | (simp only [List.length_append, List.length_cons, List.length_nil, List.length_set]; omega) | exact ⟨rows8_set own_rows (by rw [len1]; omega), own_rows⟩ | exact ⟨own_rows, rows8_set own_rows (by rw [len1]; omega)⟩ | exact ⟨rows8_set own_rows (by rw [len1]; omega), rows8_sel (rows8_set own_rows (by rw [len2]; omega)) (rows8_set own_rows (by rw [len1]; omega))⟩ | exact (rows8_sel (rows8_set own_rows (by rw [len2]; omega)) (rows8_set own_rows (by rw [len1]; omega))).1.symm)) (lr (1 = 1))) pT) (pa (pl (show 1 * 1 ≤ 16777216 from by first | omega | decide | exact own_at (by omega) | (rw [own_8]; omega) | (simp only [List.length_append, List.length_cons, List.length_nil, List.length_set]; omega) | exact ⟨rows8_set own_rows (by rw [len1]; omega), own_rows⟩ | exact ⟨own_rows, rows8_set own_rows (by rw [len1]; omega)⟩ | exact ⟨rows8_set own_rows (by rw [len1]; omega), rows8_sel (rows8_set own_rows (by rw [len2]; omega)) (rows8_set own_rows (by rw [len1]; omega))⟩ | exact (rows8_sel (rows8_set own_rows (by rw [len2]; omega)) (rows8_set own_rows (by rw [len1]; omega))).1.symm)) (lr (1 = 1)))) (pu (pa (pa (pa (pa (pa (pl (show 0 + 1 ≤ 1 from by first | omega | decide | exact own_at (by omega) | (rw [own_8]; omega) | (simp only [List.length_append, List.length_cons, List.length_nil, List.length_set]; omega) | exact ⟨rows8_set own_rows (by rw [len1]; omega), own_rows⟩ | exact ⟨own_rows, rows8_set own_rows (by rw [len1]; omega)⟩ | exact ⟨rows8_set own_rows (by rw [len1]; omega), rows8_sel (rows8_set own_rows (by rw [len2]; omega)) (rows8_set own_rows (by rw [len1]; omega))⟩ | exact (rows8_sel (rows8_set own_rows (by rw [len2]; omega)) (rows8_set own_rows (by rw [len1]; omega))).1.symm)) (lr (1 = 1))) (pa (pl (show 0 < 1 from by first | omega | decide | exact own_at (by omega) | (rw [own_8]; omega) | (simp only [List.length_append, List.length_cons, List.length_nil, List.length_set]; omega) | exact ⟨rows8_set own_rows (by rw [len1]; omega), own_rows⟩ | exact ⟨own_rows, rows8_set own_rows (by rw [len1]; omega)⟩ | exact ⟨rows8_set own_rows (by rw [len1]; omega), rows8_sel (rows8_set own_rows (by rw [len2]; omega)) (rows8_set own_rows (by rw [len1]; omega))⟩ | exact (rows8_sel (rows8_set own_rows (by rw [len2]; omega)) (rows8_set own_rows (by rw [len1]; omega))).1.symm)) (pa (pl (show (p1.length + 1) * 16 ≤ 140737488355328 from by first | omega | decide | exact own_at (by omega) | (rw [own_8]; omega) | (simp only [List.length_append, List.length_cons, List.length_nil, List.length_set]; omega) | exact ⟨rows8_set own_rows (by rw [len1]; omega), own_rows⟩ | exact ⟨own_rows, rows8_set own_rows (by rw [len1]; omega)⟩ | exact ⟨rows8_set own_rows (by rw [len1]; omega), rows8_sel (rows8_set own_rows (by rw [len2]; omega)) (rows8_set own_rows (by rw [len1]; omega))⟩ | exact (rows8_sel (rows8_set own_rows (by rw [len2]; omega)) (rows8_set own_rows (by rw [len1]; omega))).1.symm)) (pl (show p1.length + 1 ≤ 140737488355328 from by first | omega | decide | exact own_at (by omega) | (rw [own_8]; omega) | (simp only [List.length_append, List.length_cons, List.length_nil, List.length_set]; omega) | exact ⟨rows8_set own_rows (by rw [len1]; omega), own_rows⟩ | exact ⟨own_rows, rows8_set own_rows (by rw [len1]; omega)⟩ | exact ⟨rows8_set own_rows (by rw [len1]; omega), rows8_sel (rows8_set own_rows (by rw [len2]; omega)) (rows8_set own_rows (by rw [len1]; omega))⟩ | exact (rows8_sel (rows8_set own_rows (by rw [len2]; omega)) (rows8_set own_rows (by rw [len1]; omega))).1.symm))))) (pl (show 1 = 1 * 1 from by first | omega | decide | exact own_at (by omega) | (rw [own_8]; omega) | (simp only [List.length_append, List.length_cons, List.length_nil, List.length_set]; omega) | exact ⟨rows8_set own_rows (by rw [len1]; omega), own_rows⟩ | exact ⟨own_rows, rows8_set own_rows (by rw [len1]; omega)⟩ | exact ⟨rows8_set own_rows (by rw [len1]; omega), rows8_sel (rows8_set own_rows (by rw [len2]; omega)) (rows8_set own_rows (by rw [len1]; omega))⟩ | exact (rows8_sel (rows8_set own_rows (by rw [len2]; omega)) (rows8_set own_rows (by rw [len1]; omega))).1.symm))) (pa (lr (1 = 1)) (pl (show 0 + p1.length * 1 = p1.length from by first | omega | decide | exact own_at (by omega) | (rw [own_8]; omega) | (simp only [List.length_append, List.length_cons, List.length_nil, List.length_set]; omega) | exact ⟨rows8_set own_rows (by rw [len1]; omega), own_rows⟩ | exact ⟨own_rows, rows8_set own_rows (by rw [len1]; omega)⟩ | exact ⟨rows8_set own_rows (by rw [len1]; omega), rows8_sel (rows8_set own_rows (by rw [len2]; omega)) (rows8_set own_rows (by rw [len1]; omega))⟩ | exact (rows8_sel (rows8_set own_rows (by rw [len2]; omega)) (rows8_set own_rows (by rw [len1]; omega))).1.symm)))) (pl (show p1.length + 1 = (p1 ++ [((FkOwn).getD (((iRem (iAdd .i64 (iRem p0 8) 8) 8)).toNat) []).getD 0 ⟨#[]⟩]).length from (by simp only [List.length_append, List.length_cons, List.length_nil]; try omega)))) (pu (pl (show (0 : Int) ≤ (iRem (iAdd .i64 (iRem p0 8) 8) 8) ∧ (iRem (iAdd .i64 (iRem p0 8) 8) 8) < ((8 : Nat) : Int) from by first | omega | decide | exact own_at (by omega) | (rw [own_8]; omega) | (simp only [List.length_append, List.length_cons, List.length_nil, List.length_set]; omega) | exact ⟨rows8_set own_rows (by rw [len1]; omega), own_rows⟩ | exact ⟨own_rows, rows8_set own_rows (by rw [len1]; omega)⟩ | exact ⟨rows8_set own_rows (by rw [len1]; omega), rows8_sel (rows8_set own_rows (by rw [len2]; omega)) (rows8_set own_rows (by rw [len1]; omega))⟩ | exact (rows8_sel (rows8_set own_rows (by rw [len2]; omega)) (rows8_set own_rows (by rw [len1]; omega))).1.symm)) (pu (pa (pl (show ((iRem (iAdd .i64 (iRem p0 8) 8) 8)).toNat < (FkOwn).length from by first | omega | decide | exact own_at (by omega) | (rw [own_8]; omega) | (simp only [List.length_append, List.length_cons, List.length_nil, List.length_set]; omega) | exact ⟨rows8_set own_rows (by rw [len1]; omega), own_rows⟩ | exact ⟨own_rows, rows8_set own_rows (by rw [len1]; omega)⟩ | exact ⟨rows8_set own_rows (by rw [len1]; omega), rows8_sel (rows8_set own_rows (by rw [len2]; omega)) (rows8_set own_rows (by rw [len1]; omega))⟩ | exact (rows8_sel (rows8_set own_rows (by rw [len2]; omega)) (rows8_set own_rows (by rw [len1]; omega))).1.symm)) (lr (1 = 1))) pT))))))) ?_
 refine sq [] none [12, 9, 8, 7, 0, 1, 2] [224, 240] ([(12, .sc (.i .i64 (FkAgree ((FkOwn).set (((iRem (iAdd .i64 (iRem p0 8) 8) 8)).toNat) (p1 ++ [((FkOwn).getD (((iRem (iAdd .i64 (iRem p0 8) 8) 8)).toNat) []).getD 0 ⟨#[]⟩])) (FkOwn)))), (9, .sc (.s (((FkOwn).getD (((iRem (iAdd .i64 (iRem p0 8) 8) 8)).toNat) []).getD 0 ⟨#[]⟩))), (8, .sc (.p 240 0)), (7, .sc (.p 224 0)), (0, .sc (.i .i64 (iRem (iAdd .i64 (iRem p0 8) 8) 8))), (1, .sc (.ros p1)), (2, .sc (.b p2))], [(224, .vec .tab ((FkOwn).set (((iRem (iAdd .i64 (iRem p0 8) 8) 8)).toNat) (p1 ++ [((FkOwn).getD (((iRem (iAdd .i64 (iRem p0 8) 8) 8)).toNat) []).getD 0 ⟨#[]⟩]))), (240, .vec .tab (FkOwn))]) 640 (pu (pl (show 8 = ((FkOwn).set (((iRem (iAdd .i64 (iRem p0 8) 8) 8)).toNat) (p1 ++ [((FkOwn).getD (((iRem (iAdd .i64 (iRem p0 8) 8) 8)).toNat) []).getD 0 ⟨#[]⟩])).length from by first | omega | decide | exact own_at (by omega) | (rw [own_8]; omega) | (simp only [List.length_append, List.length_cons, List.length_nil, List.length_set]; omega) | exact ⟨rows8_set own_rows (by rw [len1]; omega), own_rows⟩ | exact ⟨own_rows, rows8_set own_rows (by rw [len1]; omega)⟩ | exact ⟨rows8_set own_rows (by rw [len1]; omega), rows8_sel (rows8_set own_rows (by rw [len2]; omega)) (rows8_set own_rows (by rw [len1]; omega))⟩ | exact (rows8_sel (rows8_set own_rows (by rw [len2]; omega)) (rows8_set own_rows (by rw [len1]; omega))).1.symm)) (pu (pl (show 8 = (FkOwn).length from by first | omega | decide | exact own_at (by omega) | (rw [own_8]; omega) | (simp only [List.length_append, List.length_cons, List.length_nil, List.length_set]; omega) | exact ⟨rows8_set own_rows (by rw [len1]; omega), own_rows⟩ | exact ⟨own_rows, rows8_set own_rows (by rw [len1]; omega)⟩ | exact ⟨rows8_set own_rows (by rw [len1]; omega), rows8_sel (rows8_set own_rows (by rw [len2]; omega)) (rows8_set own_rows (by rw [len1]; omega))⟩ | exact (rows8_sel (rows8_set own_rows (by rw [len2]; omega)) (rows8_set own_rows (by rw [len1]; omega))).1.symm)) (pu (pa pT (pl (show rows8 ((FkOwn).set (((iRem (iAdd .i64 (iRem p0 8) 8) 8)).toNat) (p1 ++ [((FkOwn).getD (((iRem (iAdd .i64 (iRem p0 8) 8) 8)).toNat) []).getD 0 ⟨#[]⟩])) ∧ rows8 (FkOwn) from by first | omega | decide | exact own_at (by omega) | (rw [own_8]; omega) | (simp only [List.length_append, List.length_cons, List.length_nil, List.length_set]; omega) | exact ⟨rows8_set own_rows (by rw [len1]; omega), own_rows⟩ | exact ⟨own_rows, rows8_set own_rows (by rw [len1]; omega)⟩ | exact ⟨rows8_set own_rows (by rw [len1]; omega), rows8_sel (rows8_set own_rows (by rw [len2]; omega)) (rows8_set own_rows (by rw [len1]; omega))⟩ | exact (rows8_sel (rows8_set own_rows (by rw [len2]; omega)) (rows8_set own_rows (by rw [len1]; omega))).1.symm))) (t1 pT)))) ?_
 refine sq [] none [13, 12, 9, 8, 7, 0, 1, 2] [224, 240] ([(13, .sc (.i .i64 (FkAgree (FkOwn) ((FkOwn).set (((iRem (iAdd .i64 (iRem p0 8) 8) 8)).toNat) (p1 ++ [((FkOwn).getD (((iRem (iAdd .i64 (iRem p0 8) 8) 8)).toNat) []).getD 0 ⟨#[]⟩]))))), (12, .sc (.i .i64 (FkAgree ((FkOwn).set (((iRem (iAdd .i64 (iRem p0 8) 8) 8)).toNat) (p1 ++ [((FkOwn).getD (((iRem (iAdd .i64 (iRem p0 8) 8) 8)).toNat) []).getD 0 ⟨#[]⟩])) (FkOwn)))), (9, .sc (.s (((FkOwn).getD (((iRem (iAdd .i64 (iRem p0 8) 8) 8)).toNat) []).getD 0 ⟨#[]⟩))), (8, .sc (.p 240 0)), (7, .sc (.p 224 0)), (0, .sc (.i .i64 (iRem (iAdd .i64 (iRem p0 8) 8) 8))), (1, .sc (.ros p1)), (2, .sc (.b p2))], [(224, .vec .tab ((FkOwn).set (((iRem (iAdd .i64 (iRem p0 8) 8) 8)).toNat) (p1 ++ [((FkOwn).getD (((iRem (iAdd .i64 (iRem p0 8) 8) 8)).toNat) []).getD 0 ⟨#[]⟩]))), (240, .vec .tab (FkOwn))]) 704 (pu (pl (show 8 = (FkOwn).length from by first | omega | decide | exact own_at (by omega) | (rw [own_8]; omega) | (simp only [List.length_append, List.length_cons, List.length_nil, List.length_set]; omega) | exact ⟨rows8_set own_rows (by rw [len1]; omega), own_rows⟩ | exact ⟨own_rows, rows8_set own_rows (by rw [len1]; omega)⟩ | exact ⟨rows8_set own_rows (by rw [len1]; omega), rows8_sel (rows8_set own_rows (by rw [len2]; omega)) (rows8_set own_rows (by rw [len1]; omega))⟩ | exact (rows8_sel (rows8_set own_rows (by rw [len2]; omega)) (rows8_set own_rows (by rw [len1]; omega))).1.symm)) (pu (pl (show 8 = ((FkOwn).set (((iRem (iAdd .i64 (iRem p0 8) 8) 8)).toNat) (p1 ++ [((FkOwn).getD (((iRem (iAdd .i64 (iRem p0 8) 8) 8)).toNat) []).getD 0 ⟨#[]⟩])).length from by first | omega | decide | exact own_at (by omega) | (rw [own_8]; omega) | (simp only [List.length_append, List.length_cons, List.length_nil, List.length_set]; omega) | exact ⟨rows8_set own_rows (by rw [len1]; omega), own_rows⟩ | exact ⟨own_rows, rows8_set own_rows (by rw [len1]; omega)⟩ | exact ⟨rows8_set own_rows (by rw [len1]; omega), rows8_sel (rows8_set own_rows (by rw [len2]; omega)) (rows8_set own_rows (by rw [len1]; omega))⟩ | exact (rows8_sel (rows8_set own_rows (by rw [len2]; omega)) (rows8_set own_rows (by rw [len1]; omega))).1.symm)) (pu (pa pT (pl (show rows8 (FkOwn) ∧ rows8 ((FkOwn).set (((iRem (iAdd .i64 (iRem p0 8) 8) 8)).toNat) (p1 ++ [((FkOwn).getD (((iRem (iAdd .i64 (iRem p0 8) 8) 8)).toNat) []).getD 0 ⟨#[]⟩])) from by first | omega | decide | exact own_at (by omega) | (rw [own_8]; omega) | (simp only [List.length_append, List.length_cons, List.length_nil, List.length_set]; omega) | exact ⟨rows8_set own_rows (by rw [len1]; omega), own_rows⟩ | exact ⟨own_rows, rows8_set own_rows (by rw [len1]; omega)⟩ | exact ⟨rows8_set own_rows (by rw [len1]; omega), rows8_sel (rows8_set own_rows (by rw [len2]; omega)) (rows8_set own_rows (by rw [len1]; omega))⟩ | exact (rows8_sel (rows8_set own_rows (by rw [len2]; omega)) (rows8_set own_rows (by rw [len1]; omega))).1.symm))) (t1 pT)))) ?_
 refine Tri.seq ?_
 refine sq [] none [59, 13, 12, 9, 8, 7, 0, 1] [224, 240] ([(59, .sc (.b p2)), (13, .sc (.i .i64 (FkAgree (FkOwn) ((FkOwn).set (((iRem (iAdd .i64 (iRem p0 8) 8) 8)).toNat) (p1 ++ [((FkOwn).getD (((iRem (iAdd .i64 (iRem p0 8) 8) 8)).toNat) []).getD 0 ⟨#[]⟩]))))), (12, .sc (.i .i64 (FkAgree ((FkOwn).set (((iRem (iAdd .i64 (iRem p0 8) 8) 8)).toNat) (p1 ++ [((FkOwn).getD (((iRem (iAdd .i64 (iRem p0 8) 8) 8)).toNat) []).getD 0 ⟨#[]⟩])) (FkOwn)))), (9, .sc (.s (((FkOwn).getD (((iRem (iAdd .i64 (iRem p0 8) 8) 8)).toNat) []).getD 0 ⟨#[]⟩))), (8, .sc (.p 240 0)), (7, .sc (.p 224 0)), (0, .sc (.i .i64 (iRem (iAdd .i64 (iRem p0 8) 8) 8))), (1, .sc (.ros p1))], [(224, .vec .tab ((FkOwn).set (((iRem (iAdd .i64 (iRem p0 8) 8) 8)).toNat) (p1 ++ [((FkOwn).getD (((iRem (iAdd .i64 (iRem p0 8) 8) 8)).toNat) []).getD 0 ⟨#[]⟩]))), (240, .vec .tab (FkOwn))]) 720 (t1 pT) ?_
 refine Tri.join (x := p2) (fun bb => ([(13, .sc (.i .i64 (FkAgree (FkOwn) ((FkOwn).set (((iRem (iAdd .i64 (iRem p0 8) 8) 8)).toNat) (p1 ++ [((FkOwn).getD (((iRem (iAdd .i64 (iRem p0 8) 8) 8)).toNat) []).getD 0 ⟨#[]⟩]))))), (12, .sc (.i .i64 (FkAgree ((FkOwn).set (((iRem (iAdd .i64 (iRem p0 8) 8) 8)).toNat) (p1 ++ [((FkOwn).getD (((iRem (iAdd .i64 (iRem p0 8) 8) 8)).toNat) []).getD 0 ⟨#[]⟩])) (FkOwn)))), (8, .sc (.p 240 0)), (7, .sc (.p 224 0)), (1, .sc (.ros p1))], [(240, .vec .tab (sel bb ((FkOwn).set (((iRem (iAdd .i64 (iRem p0 8) 8) 8)).toNat) ([((FkOwn).getD (((iRem (iAdd .i64 (iRem p0 8) 8) 8)).toNat) []).getD 0 ⟨#[]⟩] ++ p1)) ((FkOwn).set (((iRem (iAdd .i64 (iRem p0 8) 8) 8)).toNat) (p1 ++ [((FkOwn).getD (((iRem (iAdd .i64 (iRem p0 8) 8) 8)).toNat) []).getD 0 ⟨#[]⟩])))), (224, .vec .tab ((FkOwn).set (((iRem (iAdd .i64 (iRem p0 8) 8) 8)).toNat) (p1 ++ [((FkOwn).getD (((iRem (iAdd .i64 (iRem p0 8) 8) 8)).toNat) []).getD 0 ⟨#[]⟩])))])) 848 (by kernel_rfl) (fun h6 => ?_) (fun h6 => ?_) ?_
 refine rq [(64, .tup [])] none [13, 12, 8, 7, 1] [240, 224] ([(13, .sc (.i .i64 (FkAgree (FkOwn) ((FkOwn).set (((iRem (iAdd .i64 (iRem p0 8) 8) 8)).toNat) (p1 ++ [((FkOwn).getD (((iRem (iAdd .i64 (iRem p0 8) 8) 8)).toNat) []).getD 0 ⟨#[]⟩]))))), (12, .sc (.i .i64 (FkAgree ((FkOwn).set (((iRem (iAdd .i64 (iRem p0 8) 8) 8)).toNat) (p1 ++ [((FkOwn).getD (((iRem (iAdd .i64 (iRem p0 8) 8) 8)).toNat) []).getD 0 ⟨#[]⟩])) (FkOwn)))), (8, .sc (.p 240 0)), (7, .sc (.p 224 0)), (1, .sc (.ros p1))], [(240, .vec .tab ((FkOwn).set (((iRem (iAdd .i64 (iRem p0 8) 8) 8)).toNat) ([((FkOwn).getD (((iRem (iAdd .i64 (iRem p0 8) 8) 8)).toNat) []).getD 0 ⟨#[]⟩] ++ p1))), (224, .vec .tab ((FkOwn).set (((iRem (iAdd .i64 (iRem p0 8) 8) 8)).toNat) (p1 ++ [((FkOwn).getD (((iRem (iAdd .i64 (iRem p0 8) 8) 8)).toNat) []).getD 0 ⟨#[]⟩])))]) 832 (t2 (pu (pa (pa (pa (pl (show 0 < 1 from by first | omega | decide | exact own_at (by omega) | (rw [own_8]; omega) | (simp only [List.length_append, List.length_cons, List.length_nil, List.length_set]; omega) | exact ⟨rows8_set own_rows (by rw [len1]; omega), own_rows⟩ | exact ⟨own_rows, rows8_set own_rows (by rw [len1]; omega)⟩ | exact ⟨rows8_set own_rows (by rw [len1]; omega), rows8_sel (rows8_set own_rows (by rw [len2]; omega)) (rows8_set own_rows (by rw [len1]; omega))⟩ | exact (rows8_sel (rows8_set own_rows (by rw [len2]; omega)) (rows8_set own_rows (by rw [len1]; omega))).1.symm)) (lr (1 = 1))) pT) (pa (pl (show 1 * 1 ≤ 16777216 from by first | omega | decide | exact own_at (by omega) | (rw [own_8]; omega) | (simp only [List.length_append, List.length_cons, List.length_nil, List.length_set]; omega) | exact ⟨rows8_set own_rows (by rw [len1]; omega), own_rows⟩ | exact ⟨own_rows, rows8_set own_rows (by rw [len1]; omega)⟩ | exact ⟨rows8_set own_rows (by rw [len1]; omega), rows8_sel (rows8_set own_rows (by rw [len2]; omega)) (rows8_set own_rows (by rw [len1]; omega))⟩ | exact (rows8_sel (rows8_set own_rows (by rw [len2]; omega)) (rows8_set own_rows (by rw [len1]; omega))).1.symm)) (lr (1 = 1)))) (t1 (pu (pa (pa (pa (pa (pa pT (lr (1 = 1))) (pa (pl (show 0 < 1 from by first | omega | decide | exact own_at (by omega) | (rw [own_8]; omega) | (simp only [List.length_append, List.length_cons, List.length_nil, List.length_set]; omega) | exact ⟨rows8_set own_rows (by rw [len1]; omega), own_rows⟩ | exact ⟨own_rows, rows8_set own_rows (by rw [len1]; omega)⟩ | exact ⟨rows8_set own_rows (by rw [len1]; omega), rows8_sel (rows8_set own_rows (by rw [len2]; omega)) (rows8_set own_rows (by rw [len1]; omega))⟩ | exact (rows8_sel (rows8_set own_rows (by rw [len2]; omega)) (rows8_set own_rows (by rw [len1]; omega))).1.symm)) (pa (pl (show (1 + p1.length) * 16 ≤ 140737488355328 from by first | omega | decide | exact own_at (by omega) | (rw [own_8]; omega) | (simp only [List.length_append, List.length_cons, List.length_nil, List.length_set]; omega) | exact ⟨rows8_set own_rows (by rw [len1]; omega), own_rows⟩ | exact ⟨own_rows, rows8_set own_rows (by rw [len1]; omega)⟩ | exact ⟨rows8_set own_rows (by rw [len1]; omega), rows8_sel (rows8_set own_rows (by rw [len2]; omega)) (rows8_set own_rows (by rw [len1]; omega))⟩ | exact (rows8_sel (rows8_set own_rows (by rw [len2]; omega)) (rows8_set own_rows (by rw [len1]; omega))).1.symm)) (pl (show 1 + p1.length ≤ 140737488355328 from by first | omega | decide | exact own_at (by omega) | (rw [own_8]; omega) | (simp only [List.length_append, List.length_cons, List.length_nil, List.length_set]; omega) | exact ⟨rows8_set own_rows (by rw [len1]; omega), own_rows⟩ | exact ⟨own_rows, rows8_set own_rows (by rw [len1]; omega)⟩ | exact ⟨rows8_set own_rows (by rw [len1]; omega), rows8_sel (rows8_set own_rows (by rw [len2]; omega)) (rows8_set own_rows (by rw [len1]; omega))⟩ | exact (rows8_sel (rows8_set own_rows (by rw [len2]; omega)) (rows8_set own_rows (by rw [len1]; omega))).1.symm))))) (pl (show p1.length = p1.length * 1 from by first | omega | decide | exact own_at (by omega) | (rw [own_8]; omega) | (simp only [List.length_append, List.length_cons, List.length_nil, List.length_set]; omega) | exact ⟨rows8_set own_rows (by rw [len1]; omega), own_rows⟩ | exact ⟨own_rows, rows8_set own_rows (by rw [len1]; omega)⟩ | exact ⟨rows8_set own_rows (by rw [len1]; omega), rows8_sel (rows8_set own_rows (by rw [len2]; omega)) (rows8_set own_rows (by rw [len1]; omega))⟩ | exact (rows8_sel (rows8_set own_rows (by rw [len2]; omega)) (rows8_set own_rows (by rw [len1]; omega))).1.symm))) (pa (lr (1 = 1)) (pl (show 0 + 1 * 1 = 1 from by first | omega | decide | exact own_at (by omega) | (rw [own_8]; omega) | (simp only [List.length_append, List.length_cons, List.length_nil, List.length_set]; omega) | exact ⟨rows8_set own_rows (by rw [len1]; omega), own_rows⟩ | exact ⟨own_rows, rows8_set own_rows (by rw [len1]; omega)⟩ | exact ⟨rows8_set own_rows (by rw [len1]; omega), rows8_sel (rows8_set own_rows (by rw [len2]; omega)) (rows8_set own_rows (by rw [len1]; omega))⟩ | exact (rows8_sel (rows8_set own_rows (by rw [len2]; omega)) (rows8_set own_rows (by rw [len1]; omega))).1.symm)))) (pl (show 1 + p1.length = ([((FkOwn).getD (((iRem (iAdd .i64 (iRem p0 8) 8) 8)).toNat) []).getD 0 ⟨#[]⟩] ++ p1).length from (by simp only [List.length_append, List.length_cons, List.length_nil]; try omega)))) (pu (pl (show (0 : Int) ≤ (iRem (iAdd .i64 (iRem p0 8) 8) 8) ∧ (iRem (iAdd .i64 (iRem p0 8) 8) 8) < ((8 : Nat) : Int) from by first | omega | decide | exact own_at (by omega) | (rw [own_8]; omega) | (simp only [List.length_append, List.length_cons, List.length_nil, List.length_set]; omega) | exact ⟨rows8_set own_rows (by rw [len1]; omega), own_rows⟩ | exact ⟨own_rows, rows8_set own_rows (by rw [len1]; omega)⟩ | exact ⟨rows8_set own_rows (by rw [len1]; omega), rows8_sel (rows8_set own_rows (by rw [len2]; omega)) (rows8_set own_rows (by rw [len1]; omega))⟩ | exact (rows8_sel (rows8_set own_rows (by rw [len2]; omega)) (rows8_set own_rows (by rw [len1]; omega))).1.symm)) (pu (pa (pl (show ((iRem (iAdd .i64 (iRem p0 8) 8) 8)).toNat < (FkOwn).length from by first | omega | decide | exact own_at (by omega) | (rw [own_8]; omega) | (simp only [List.length_append, List.length_cons, List.length_nil, List.length_set]; omega) | exact ⟨rows8_set own_rows (by rw [len1]; omega), own_rows⟩ | exact ⟨own_rows, rows8_set own_rows (by rw [len1]; omega)⟩ | exact ⟨rows8_set own_rows (by rw [len1]; omega), rows8_sel (rows8_set own_rows (by rw [len2]; omega)) (rows8_set own_rows (by rw [len1]; omega))⟩ | exact (rows8_sel (rows8_set own_rows (by rw [len2]; omega)) (rows8_set own_rows (by rw [len1]; omega))).1.symm)) (lr (1 = 1))) pT)))))) ?_
 exact sn [(240, 240), (224, 224)] [13, 12, 8, 7, 1] ([(13, .sc (.i .i64 (FkAgree (FkOwn) ((FkOwn).set (((iRem (iAdd .i64 (iRem p0 8) 8) 8)).toNat) (p1 ++ [((FkOwn).getD (((iRem (iAdd .i64 (iRem p0 8) 8) 8)).toNat) []).getD 0 ⟨#[]⟩]))))), (12, .sc (.i .i64 (FkAgree ((FkOwn).set (((iRem (iAdd .i64 (iRem p0 8) 8) 8)).toNat) (p1 ++ [((FkOwn).getD (((iRem (iAdd .i64 (iRem p0 8) 8) 8)).toNat) []).getD 0 ⟨#[]⟩])) (FkOwn)))), (8, .sc (.p 240 0)), (7, .sc (.p 224 0)), (1, .sc (.ros p1))], [(240, .vec .tab ((FkOwn).set (((iRem (iAdd .i64 (iRem p0 8) 8) 8)).toNat) ([((FkOwn).getD (((iRem (iAdd .i64 (iRem p0 8) 8) 8)).toNat) []).getD 0 ⟨#[]⟩] ++ p1))), (224, .vec .tab ((FkOwn).set (((iRem (iAdd .i64 (iRem p0 8) 8) 8)).toNat) (p1 ++ [((FkOwn).getD (((iRem (iAdd .i64 (iRem p0 8) 8) 8)).toNat) []).getD 0 ⟨#[]⟩])))])
 refine rq [(71, .tup [])] none [13, 12, 8, 7, 1] [240, 224] ([(13, .sc (.i .i64 (FkAgree (FkOwn) ((FkOwn).set (((iRem (iAdd .i64 (iRem p0 8) 8) 8)).toNat) (p1 ++ [((FkOwn).getD (((iRem (iAdd .i64 (iRem p0 8) 8) 8)).toNat) []).getD 0 ⟨#[]⟩]))))), (12, .sc (.i .i64 (FkAgree ((FkOwn).set (((iRem (iAdd .i64 (iRem p0 8) 8) 8)).toNat) (p1 ++ [((FkOwn).getD (((iRem (iAdd .i64 (iRem p0 8) 8) 8)).toNat) []).getD 0 ⟨#[]⟩])) (FkOwn)))), (8, .sc (.p 240 0)), (7, .sc (.p 224 0)), (1, .sc (.ros p1))], [(240, .vec .tab ((FkOwn).set (((iRem (iAdd .i64 (iRem p0 8) 8) 8)).toNat) (p1 ++ [((FkOwn).getD (((iRem (iAdd .i64 (iRem p0 8) 8) 8)).toNat) []).getD 0 ⟨#[]⟩]))), (224, .vec .tab ((FkOwn).set (((iRem (iAdd .i64 (iRem p0 8) 8) 8)).toNat) (p1 ++ [((FkOwn).getD (((iRem (iAdd .i64 (iRem p0 8) 8) 8)).toNat) []).getD 0 ⟨#[]⟩])))]) 848 (t2 (pu (pa (pa (pa pT (lr (1 = 1))) (pa (pl (show 0 < 1 from by first | omega | decide | exact own_at (by omega) | (rw [own_8]; omega) | (simp only [List.length_append, List.length_cons, List.length_nil, List.length_set]; omega) | exact ⟨rows8_set own_rows (by rw [len1]; omega), own_rows⟩ | exact ⟨own_rows, rows8_set own_rows (by rw [len1]; omega)⟩ | exact ⟨rows8_set own_rows (by rw [len1]; omega), rows8_sel (rows8_set own_rows (by rw [len2]; omega)) (rows8_set own_rows (by rw [len1]; omega))⟩ | exact (rows8_sel (rows8_set own_rows (by rw [len2]; omega)) (rows8_set own_rows (by rw [len1]; omega))).1.symm)) (pa (pl (show p1.length * 16 ≤ 140737488355328 from by first | omega | decide | exact own_at (by omega) | (rw [own_8]; omega) | (simp only [List.length_append, List.length_cons, List.length_nil, List.length_set]; omega) | exact ⟨rows8_set own_rows (by rw [len1]; omega), own_rows⟩ | exact ⟨own_rows, rows8_set own_rows (by rw [len1]; omega)⟩ | exact ⟨rows8_set own_rows (by rw [len1]; omega), rows8_sel (rows8_set own_rows (by rw [len2]; omega)) (rows8_set own_rows (by rw [len1]; omega))⟩ | exact (rows8_sel (rows8_set own_rows (by rw [len2]; omega)) (rows8_set own_rows (by rw [len1]; omega))).1.symm)) (pl (show p1.length ≤ 140737488355328 from by first | omega | decide | exact own_at (by omega) | (rw [own_8]; omega) | (simp only [List.length_append, List.length_cons, List.length_nil, List.length_set]; omega) | exact ⟨rows8_set own_rows (by rw [len1]; omega), own_rows⟩ | exact ⟨own_rows, rows8_set own_rows (by rw [len1]; omega)⟩ | exact ⟨rows8_set own_rows (by rw [len1]; omega), rows8_sel (rows8_set own_rows (by rw [len2]; omega)) (rows8_set own_rows (by rw [len1]; omega))⟩ | exact (rows8_sel (rows8_set own_rows (by rw [len2]; omega)) (rows8_set own_rows (by rw [len1]; omega))).1.symm))))) (pl (show p1.length = p1.length * 1 from by first | omega | decide | exact own_at (by omega) | (rw [own_8]; omega) | (simp only [List.length_append, List.length_cons, List.length_nil, List.length_set]; omega) | exact ⟨rows8_set own_rows (by rw [len1]; omega), own_rows⟩ | exact ⟨own_rows, rows8_set own_rows (by rw [len1]; omega)⟩ | exact ⟨rows8_set own_rows (by rw [len1]; omega), rows8_sel (rows8_set own_rows (by rw [len2]; omega)) (rows8_set own_rows (by rw [len1]; omega))⟩ | exact (rows8_sel (rows8_set own_rows (by rw [len2]; omega)) (rows8_set own_rows (by rw [len1]; omega))).1.symm))) (t1 (pu (pa (pa (pa (pl (show 0 < 1 from by first | omega | decide | exact own_at (by omega) | (rw [own_8]; omega) | (simp only [List.length_append, List.length_cons, List.length_nil, List.length_set]; omega) | exact ⟨rows8_set own_rows (by rw [len1]; omega), own_rows⟩ | exact ⟨own_rows, rows8_set own_rows (by rw [len1]; omega)⟩ | exact ⟨rows8_set own_rows (by rw [len1]; omega), rows8_sel (rows8_set own_rows (by rw [len2]; omega)) (rows8_set own_rows (by rw [len1]; omega))⟩ | exact (rows8_sel (rows8_set own_rows (by rw [len2]; omega)) (rows8_set own_rows (by rw [len1]; omega))).1.symm)) (lr (1 = 1))) pT) (pa (pl (show 1 * 1 ≤ 16777216 from by first | omega | decide | exact own_at (by omega) | (rw [own_8]; omega) | (simp only [List.length_append, List.length_cons, List.length_nil, List.length_set]; omega) | exact ⟨rows8_set own_rows (by rw [len1]; omega), own_rows⟩ | exact ⟨own_rows, rows8_set own_rows (by rw [len1]; omega)⟩ | exact ⟨rows8_set own_rows (by rw [len1]; omega), rows8_sel (rows8_set own_rows (by rw [len2]; omega)) (rows8_set own_rows (by rw [len1]; omega))⟩ | exact (rows8_sel (rows8_set own_rows (by rw [len2]; omega)) (rows8_set own_rows (by rw [len1]; omega))).1.symm)) (lr (1 = 1)))) (pu (pa (pa (pa (pa (pa (pl (show 0 + 1 ≤ 1 from by first | omega | decide | exact own_at (by omega) | (rw [own_8]; omega) | (simp only [List.length_append, List.length_cons, List.length_nil, List.length_set]; omega) | exact ⟨rows8_set own_rows (by rw [len1]; omega), own_rows⟩ | exact ⟨own_rows, rows8_set own_rows (by rw [len1]; omega)⟩ | exact ⟨rows8_set own_rows (by rw [len1]; omega), rows8_sel (rows8_set own_rows (by rw [len2]; omega)) (rows8_set own_rows (by rw [len1]; omega))⟩ | exact (rows8_sel (rows8_set own_rows (by rw [len2]; omega)) (rows8_set own_rows (by rw [len1]; omega))).1.symm)) (lr (1 = 1))) (pa (pl (show 0 < 1 from by first | omega | decide | exact own_at (by omega) | (rw [own_8]; omega) | (simp only [List.length_append, List.length_cons, List.length_nil, List.length_set]; omega) | exact ⟨rows8_set own_rows (by rw [len1]; omega), own_rows⟩ | exact ⟨own_rows, rows8_set own_rows (by rw [len1]; omega)⟩ | exact ⟨rows8_set own_rows (by rw [len1]; omega), rows8_sel (rows8_set own_rows (by rw [len2]; omega)) (rows8_set own_rows (by rw [len1]; omega))⟩ | exact (rows8_sel (rows8_set own_rows (by rw [len2]; omega)) (rows8_set own_rows (by rw [len1]; omega))).1.symm)) (pa (pl (show (p1.length + 1) * 16 ≤ 140737488355328 from by first | omega | decide | exact own_at (by omega) | (rw [own_8]; omega) | (simp only [List.length_append, List.length_cons, List.length_nil, List.length_set]; omega) | exact ⟨rows8_set own_rows (by rw [len1]; omega), own_rows⟩ | exact ⟨own_rows, rows8_set own_rows (by rw [len1]; omega)⟩ | exact ⟨rows8_set own_rows (by rw [len1]; omega), rows8_sel (rows8_set own_rows (by rw [len2]; omega)) (rows8_set own_rows (by rw [len1]; omega))⟩ | exact (rows8_sel (rows8_set own_rows (by rw [len2]; omega)) (rows8_set own_rows (by rw [len1]; omega))).1.symm)) (pl (show p1.length + 1 ≤ 140737488355328 from by first | omega | decide | exact own_at (by omega) | (rw [own_8]; omega) | (simp only [List.length_append, List.length_cons, List.length_nil, List.length_set]; omega) | exact ⟨rows8_set own_rows (by rw [len1]; omega), own_rows⟩ | exact ⟨own_rows, rows8_set own_rows (by rw [len1]; omega)⟩ | exact ⟨rows8_set own_rows (by rw [len1]; omega), rows8_sel (rows8_set own_rows (by rw [len2]; omega)) (rows8_set own_rows (by rw [len1]; omega))⟩ | exact (rows8_sel (rows8_set own_rows (by rw [len2]; omega)) (rows8_set own_rows (by rw [len1]; omega))).1.symm))))) (pl (show 1 = 1 * 1 from by first | omega | decide | exact own_at (by omega) | (rw [own_8]; omega) | (simp only [List.length_append, List.length_cons, List.length_nil, List.length_set]; omega) | exact ⟨rows8_set own_rows (by rw [len1]; omega), own_rows⟩ | exact ⟨own_rows, rows8_set own_rows (by rw [len1]; omega)⟩ | exact ⟨rows8_set own_rows (by rw [len1]; omega), rows8_sel (rows8_set own_rows (by rw [len2]; omega)) (rows8_set own_rows (by rw [len1]; omega))⟩ | exact (rows8_sel (rows8_set own_rows (by rw [len2]; omega)) (rows8_set own_rows (by rw [len1]; omega))).1.symm))) (pa (lr (1 = 1)) (pl (show 0 + p1.length * 1 = p1.length from by first | omega | decide | exact own_at (by omega) | (rw [own_8]; omega) | (simp only [List.length_append, List.length_cons, List.length_nil, List.length_set]; omega) | exact ⟨rows8_set own_rows (by rw [len1]; omega), own_rows⟩ | exact ⟨own_rows, rows8_set own_rows (by rw [len1]; omega)⟩ | exact ⟨rows8_set own_rows (by rw [len1]; omega), rows8_sel (rows8_set own_rows (by rw [len2]; omega)) (rows8_set own_rows (by rw [len1]; omega))⟩ | exact (rows8_sel (rows8_set own_rows (by rw [len2]; omega)) (rows8_set own_rows (by rw [len1]; omega))).1.symm)))) (pl (show p1.length + 1 = (p1 ++ [((FkOwn).getD (((iRem (iAdd .i64 (iRem p0 8) 8) 8)).toNat) []).getD 0 ⟨#[]⟩]).length from (by simp only [List.length_append, List.length_cons, List.length_nil]; try omega)))) (pu (pl (show (0 : Int) ≤ (iRem (iAdd .i64 (iRem p0 8) 8) 8) ∧ (iRem (iAdd .i64 (iRem p0 8) 8) 8) < ((8 : Nat) : Int) from by first | omega | decide | exact own_at (by omega) | (rw [own_8]; omega) | (simp only [List.length_append, List.length_cons, List.length_nil, List.length_set]; omega) | exact ⟨rows8_set own_rows (by rw [len1]; omega), own_rows⟩ | exact ⟨own_rows, rows8_set own_rows (by rw [len1]; omega)⟩ | exact ⟨rows8_set own_rows (by rw [len1]; omega), rows8_sel (rows8_set own_rows (by rw [len2]; omega)) (rows8_set own_rows (by rw [len1]; omega))⟩ | exact (rows8_sel (rows8_set own_rows (by rw [len2]; omega)) (rows8_set own_rows (by rw [len1]; omega))).1.symm)) (pu (pa (pl (show ((iRem (iAdd .i64 (iRem p0 8) 8) 8)).toNat < (FkOwn).length from by first | omega | decide | exact own_at (by omega) | (rw [own_8]; omega) | (simp only [List.length_append, List.length_cons, List.length_nil, List.length_set]; omega) | exact ⟨rows8_set own_rows (by rw [len1]; omega), own_rows⟩ | exact ⟨own_rows, rows8_set own_rows (by rw [len1]; omega)⟩ | exact ⟨rows8_set own_rows (by rw [len1]; omega), rows8_sel (rows8_set own_rows (by rw [len2]; omega)) (rows8_set own_rows (by rw [len1]; omega))⟩ | exact (rows8_sel (rows8_set own_rows (by rw [len2]; omega)) (rows8_set own_rows (by rw [len1]; omega))).1.symm)) (lr (1 = 1))) pT))))))) ?_
 exact sn [(240, 240), (224, 224)] [13, 12, 8, 7, 1] ([(13, .sc (.i .i64 (FkAgree (FkOwn) ((FkOwn).set (((iRem (iAdd .i64 (iRem p0 8) 8) 8)).toNat) (p1 ++ [((FkOwn).getD (((iRem (iAdd .i64 (iRem p0 8) 8) 8)).toNat) []).getD 0 ⟨#[]⟩]))))), (12, .sc (.i .i64 (FkAgree ((FkOwn).set (((iRem (iAdd .i64 (iRem p0 8) 8) 8)).toNat) (p1 ++ [((FkOwn).getD (((iRem (iAdd .i64 (iRem p0 8) 8) 8)).toNat) []).getD 0 ⟨#[]⟩])) (FkOwn)))), (8, .sc (.p 240 0)), (7, .sc (.p 224 0)), (1, .sc (.ros p1))], [(240, .vec .tab ((FkOwn).set (((iRem (iAdd .i64 (iRem p0 8) 8) 8)).toNat) (p1 ++ [((FkOwn).getD (((iRem (iAdd .i64 (iRem p0 8) 8) 8)).toNat) []).getD 0 ⟨#[]⟩]))), (224, .vec .tab ((FkOwn).set (((iRem (iAdd .i64 (iRem p0 8) 8) 8)).toNat) (p1 ++ [((FkOwn).getD (((iRem (iAdd .i64 (iRem p0 8) 8) 8)).toNat) []).getD 0 ⟨#[]⟩])))])
 change Tri _ _ _ _ _ _
 refine sq [] none [14, 13, 12, 1] [] ([(14, .sc (.i .i64 (FkAgree ((FkOwn).set (((iRem (iAdd .i64 (iRem p0 8) 8) 8)).toNat) (p1 ++ [((FkOwn).getD (((iRem (iAdd .i64 (iRem p0 8) 8) 8)).toNat) []).getD 0 ⟨#[]⟩])) (sel p2 ((FkOwn).set (((iRem (iAdd .i64 (iRem p0 8) 8) 8)).toNat) ([((FkOwn).getD (((iRem (iAdd .i64 (iRem p0 8) 8) 8)).toNat) []).getD 0 ⟨#[]⟩] ++ p1)) ((FkOwn).set (((iRem (iAdd .i64 (iRem p0 8) 8) 8)).toNat) (p1 ++ [((FkOwn).getD (((iRem (iAdd .i64 (iRem p0 8) 8) 8)).toNat) []).getD 0 ⟨#[]⟩])))))), (13, .sc (.i .i64 (FkAgree (FkOwn) ((FkOwn).set (((iRem (iAdd .i64 (iRem p0 8) 8) 8)).toNat) (p1 ++ [((FkOwn).getD (((iRem (iAdd .i64 (iRem p0 8) 8) 8)).toNat) []).getD 0 ⟨#[]⟩]))))), (12, .sc (.i .i64 (FkAgree ((FkOwn).set (((iRem (iAdd .i64 (iRem p0 8) 8) 8)).toNat) (p1 ++ [((FkOwn).getD (((iRem (iAdd .i64 (iRem p0 8) 8) 8)).toNat) []).getD 0 ⟨#[]⟩])) (FkOwn)))), (1, .sc (.ros p1))], []) 912 (pu (pl (show 8 = ((FkOwn).set (((iRem (iAdd .i64 (iRem p0 8) 8) 8)).toNat) (p1 ++ [((FkOwn).getD (((iRem (iAdd .i64 (iRem p0 8) 8) 8)).toNat) []).getD 0 ⟨#[]⟩])).length from by first | omega | decide | exact own_at (by omega) | (rw [own_8]; omega) | (simp only [List.length_append, List.length_cons, List.length_nil, List.length_set]; omega) | exact ⟨rows8_set own_rows (by rw [len1]; omega), own_rows⟩ | exact ⟨own_rows, rows8_set own_rows (by rw [len1]; omega)⟩ | exact ⟨rows8_set own_rows (by rw [len1]; omega), rows8_sel (rows8_set own_rows (by rw [len2]; omega)) (rows8_set own_rows (by rw [len1]; omega))⟩ | exact (rows8_sel (rows8_set own_rows (by rw [len2]; omega)) (rows8_set own_rows (by rw [len1]; omega))).1.symm)) (pu (pl (show 8 = (sel p2 ((FkOwn).set (((iRem (iAdd .i64 (iRem p0 8) 8) 8)).toNat) ([((FkOwn).getD (((iRem (iAdd .i64 (iRem p0 8) 8) 8)).toNat) []).getD 0 ⟨#[]⟩] ++ p1)) ((FkOwn).set (((iRem (iAdd .i64 (iRem p0 8) 8) 8)).toNat) (p1 ++ [((FkOwn).getD (((iRem (iAdd .i64 (iRem p0 8) 8) 8)).toNat) []).getD 0 ⟨#[]⟩]))).length from by first | omega | decide | exact own_at (by omega) | (rw [own_8]; omega) | (simp only [List.length_append, List.length_cons, List.length_nil, List.length_set]; omega) | exact ⟨rows8_set own_rows (by rw [len1]; omega), own_rows⟩ | exact ⟨own_rows, rows8_set own_rows (by rw [len1]; omega)⟩ | exact ⟨rows8_set own_rows (by rw [len1]; omega), rows8_sel (rows8_set own_rows (by rw [len2]; omega)) (rows8_set own_rows (by rw [len1]; omega))⟩ | exact (rows8_sel (rows8_set own_rows (by rw [len2]; omega)) (rows8_set own_rows (by rw [len1]; omega))).1.symm)) (pu (pa pT (pl (show rows8 ((FkOwn).set (((iRem (iAdd .i64 (iRem p0 8) 8) 8)).toNat) (p1 ++ [((FkOwn).getD (((iRem (iAdd .i64 (iRem p0 8) 8) 8)).toNat) []).getD 0 ⟨#[]⟩])) ∧ rows8 (sel p2 ((FkOwn).set (((iRem (iAdd .i64 (iRem p0 8) 8) 8)).toNat) ([((FkOwn).getD (((iRem (iAdd .i64 (iRem p0 8) 8) 8)).toNat) []).getD 0 ⟨#[]⟩] ++ p1)) ((FkOwn).set (((iRem (iAdd .i64 (iRem p0 8) 8) 8)).toNat) (p1 ++ [((FkOwn).getD (((iRem (iAdd .i64 (iRem p0 8) 8) 8)).toNat) []).getD 0 ⟨#[]⟩]))) from by first | omega | decide | exact own_at (by omega) | (rw [own_8]; omega) | (simp only [List.length_append, List.length_cons, List.length_nil, List.length_set]; omega) | exact ⟨rows8_set own_rows (by rw [len1]; omega), own_rows⟩ | exact ⟨own_rows, rows8_set own_rows (by rw [len1]; omega)⟩ | exact ⟨rows8_set own_rows (by rw [len1]; omega), rows8_sel (rows8_set own_rows (by rw [len2]; omega)) (rows8_set own_rows (by rw [len1]; omega))⟩ | exact (rows8_sel (rows8_set own_rows (by rw [len2]; omega)) (rows8_set own_rows (by rw [len1]; omega))).1.symm))) (t1 pT)))) ?_
 refine Tri.split (((FkAgree ((FkOwn).set (((iRem (iAdd .i64 (iRem p0 8) 8) 8)).toNat) (p1 ++ [((FkOwn).getD (((iRem (iAdd .i64 (iRem p0 8) 8) 8)).toNat) []).getD 0 ⟨#[]⟩])) (FkOwn)) : Int) == 0) (fun h7 => ?_) (fun h7 => ?_)
 have h7' := eq_true_i h7
 refine Tri.split (((FkAgree (FkOwn) ((FkOwn).set (((iRem (iAdd .i64 (iRem p0 8) 8) 8)).toNat) (p1 ++ [((FkOwn).getD (((iRem (iAdd .i64 (iRem p0 8) 8) 8)).toNat) []).getD 0 ⟨#[]⟩]))) : Int) == 0) (fun h8 => ?_) (fun h8 => ?_)
 have h8' := eq_true_i h8
 refine sq [(78, qb true), (82, qb true)] none [6] [] ([(6, .sc (.b ((((FkAgree ((FkOwn).set (((iRem (iAdd .i64 (iRem p0 8) 8) 8)).toNat) (p1 ++ [((FkOwn).getD (((iRem (iAdd .i64 (iRem p0 8) 8) 8)).toNat) []).getD 0 ⟨#[]⟩])) (sel p2 ((FkOwn).set (((iRem (iAdd .i64 (iRem p0 8) 8) 8)).toNat) ([((FkOwn).getD (((iRem (iAdd .i64 (iRem p0 8) 8) 8)).toNat) []).getD 0 ⟨#[]⟩] ++ p1)) ((FkOwn).set (((iRem (iAdd .i64 (iRem p0 8) 8) 8)).toNat) (p1 ++ [((FkOwn).getD (((iRem (iAdd .i64 (iRem p0 8) 8) 8)).toNat) []).getD 0 ⟨#[]⟩])))) : Int) == 0) == ((((p1.length : Nat) : Int) : Int) == 0))))], []) 1152 (t2 (pg h7 (t3 (pg h8 (t8 pT))))) ?_
 refine Tri.ret ?_
 refine rt ?_
 refine endP.conv (r' := ⟨.sc (.b ((((FkAgree ((FkOwn).set (((iRem (iAdd .i64 (iRem p0 8) 8) 8)).toNat) (p1 ++ [((FkOwn).getD (((iRem (iAdd .i64 (iRem p0 8) 8) 8)).toNat) []).getD 0 ⟨#[]⟩])) (sel p2 ((FkOwn).set (((iRem (iAdd .i64 (iRem p0 8) 8) 8)).toNat) ([((FkOwn).getD (((iRem (iAdd .i64 (iRem p0 8) 8) 8)).toNat) []).getD 0 ⟨#[]⟩] ++ p1)) ((FkOwn).set (((iRem (iAdd .i64 (iRem p0 8) 8) 8)).toNat) (p1 ++ [((FkOwn).getD (((iRem (iAdd .i64 (iRem p0 8) 8) 8)).toNat) []).getD 0 ⟨#[]⟩])))) : Int) == 0) == ((((p1.length : Nat) : Int) : Int) == 0))), []⟩) (by simp only [FkKexFirst, h1, h2, hq0, hf0, hb0, h7, h8, sel_true, sel_false]) ?_
 exact er [] pz
 have h8' := eq_false_i h8
 refine sq [(78, qb true), (82, qb false)] none [6] [] ([(6, .sc (.b false))], []) 1152 (t2 (pg h7 (t3 (pg h8 (t8 pT))))) ?_
 refine Tri.ret ?_
 refine rt ?_
 refine endP.conv (r' := ⟨.sc (.b false), []⟩) (by simp only [FkKexFirst, h1, h2, hq0, hf0, hb0, h7, h8, sel_true, sel_false]) ?_
 exact er [] pz
 have h7' := eq_false_i h7
 refine sq [(78, qb false)] none [6] [] ([(6, .sc (.b false))], []) 1152 (t2 (pg h7 (t3 (t9 pT)))) ?_
 refine Tri.ret ?_
 refine rt ?_
 refine endP.conv (r' := ⟨.sc (.b false), []⟩) (by simp only [FkKexFirst, h1, h2, hq0, hf0, hb0, h7, sel_true, sel_false]) ?_
 exact er [] pz
end Go.Vm
set_option linter.unusedVariables false
set_option linter.unusedSimpArgs false
namespace Go.Vm
open Go
theorem has_in {l : List ByteArray} {x : ByteArray} {j : Nat} (hj : j < l.length) (h : strEq (l.getD j ⟨#[]⟩) x = true) : Fkhas l x = true := by
  unfold Fkhas
  cases hb : Nat.blt (fstB (Fkhass0 l x) l.length) l.length with
  | true => rw [sel_true]
  | false =>
    have := fst_none_of (S := Fkhass0 l x) hb j hj
    unfold Fkhass0 at this
    rw [h] at this
    cases this
theorem has_no {l : List ByteArray} {x : ByteArray} (h : ∀ j, j < l.length → strEq (l.getD j ⟨#[]⟩) x = false) : Fkhas l x = false := by
  unfold Fkhas
  rw [fst_none (S := Fkhass0 l x) fun j hj => by unfold Fkhass0; rw [h j hj]; rfl, blt_self, sel_false]
theorem kind_at {x y : List ByteArray} {o : ByteArray} {n : Nat} (hn : n < x.length) (lo : ∀ j, j < n → Fkhas y (x.getD j ⟨#[]⟩) = false) (h : Fkhas y (x.getD n ⟨#[]⟩) = true) : kindOk x y [o] = strEq (x.getD n ⟨#[]⟩) o := by
  have e : firstIn x y = n := fst_found hn lo h
  unfold kindOk
  rw [e, blt_true hn, Bool.true_and]
  rfl
theorem getD_end (l : List ByteArray) (o : ByteArray) : (l ++ [o]).getD l.length ⟨#[]⟩ = o := by
  rw [List.getD_eq_getElem?_getD, List.getElem?_append_right (Nat.le_refl _), Nat.sub_self]; rfl
theorem getD_front {l : List ByteArray} (r : List ByteArray) {j : Nat} (hj : j < l.length) : (l ++ r).getD j ⟨#[]⟩ = l.getD j ⟨#[]⟩ := by
  rw [List.getD_eq_getElem?_getD, List.getElem?_append_left hj, ← List.getD_eq_getElem?_getD]
theorem has_one (o : ByteArray) : Fkhas [o] o = true := has_in (j := 0) (Nat.lt_succ_self 0) (strEq_refl _)
theorem has_end (l : List ByteArray) (o : ByteArray) : Fkhas (l ++ [o]) o = true := has_in (j := l.length) (by rw [List.length_append]; exact Nat.lt_succ_self _) (by rw [getD_end]; exact strEq_refl _)
theorem kind_own (o : ByteArray) : kindOk [o] [o] [o] = true := by
  rw [kind_at (x := [o]) (n := 0) (Nat.lt_succ_self 0) (fun j hj => by omega) (has_one o)]; exact strEq_refl _
theorem kind_more {l : List ByteArray} {o : ByteArray} (h : ∀ j, j < l.length → strEq (l.getD j ⟨#[]⟩) o = false) : kindOk (l ++ [o]) [o] [o] = true := by
  rw [kind_at (n := l.length) (by rw [List.length_append]; exact Nat.lt_succ_self _) (fun j hj => ?_) (by rw [getD_end]; exact has_one o), getD_end]
  · exact strEq_refl _
  · rw [getD_front _ hj]
    refine has_no fun i hi => ?_
    have : i = 0 := by have : i < 1 := hi; omega
    subst this
    rw [strEq_comm]
    exact h j hj
theorem kind_back (l : List ByteArray) (o : ByteArray) : kindOk [o] (l ++ [o]) [o] = true := by
  rw [kind_at (x := [o]) (n := 0) (Nat.lt_succ_self 0) (fun j hj => by omega) (has_end l o)]; exact strEq_refl _
theorem kind_no {l : List ByteArray} {o : ByteArray} (y : List ByteArray) (h : ∀ j, j < l.length → strEq (l.getD j ⟨#[]⟩) o = false) (hl : 0 < l.length) (hy : Fkhas y (l.getD 0 ⟨#[]⟩) = true) : kindOk (l ++ [o]) y [o] = false := by
  rw [kind_at (n := 0) (by rw [List.length_append]; omega) (fun j hj => by omega) (by rw [getD_front _ hl]; exact hy), getD_front _ hl]
  exact h 0 hl
theorem agree_all {p0 p1 : List (List ByteArray)} (h : ∀ k, k < 8 → kindOk (p0.getD k []) (p1.getD k []) (FkOwn.getD k []) = true) : FkAgree p0 p1 = 0 := by
  unfold FkAgree
  rw [fst_none (S := FkAgrees0 p0 p1) fun j hj => by rw [agree_kind, h j hj]; rfl, blt_self, sel_false]
theorem agree_not {p0 p1 : List (List ByteArray)} {k : Nat} (hk : k < 8) (h : kindOk (p0.getD k []) (p1.getD k []) (FkOwn.getD k []) = false) : FkAgree p0 p1 = 7 := by
  unfold FkAgree
  cases hb : Nat.blt (fstB (FkAgrees0 p0 p1) 8) 8 with
  | true => rw [sel_true]
  | false =>
    have := fst_none_of (S := FkAgrees0 p0 p1) hb k hk
    rw [agree_kind, h] at this
    cases this
theorem own_one {k : Nat} (h : k < 8) : FkOwn.getD k [] = [(FkOwn.getD k []).getD 0 ⟨#[]⟩] := (by decide : ∀ k < 8, FkOwn.getD k [] = [(FkOwn.getD k []).getD 0 ⟨#[]⟩]) k h
theorem set_at {k : Nat} (x : List ByteArray) (h : k < 8) : (FkOwn.set k x).getD k [] = x := by
  rw [List.getD_eq_getElem?_getD, List.getElem?_set_self (by rw [own_8]; exact h)]; rfl
theorem set_no {k j : Nat} (x : List ByteArray) (h : k ≠ j) : (FkOwn.set k x).getD j [] = FkOwn.getD j [] := by
  rw [List.getD_eq_getElem?_getD, List.getElem?_set_ne h, ← List.getD_eq_getElem?_getD]
theorem kinds_own {k : Nat} (h : k < 8) : kindOk (FkOwn.getD k []) (FkOwn.getD k []) (FkOwn.getD k []) = true := by
  rw [own_one h]; exact kind_own _
theorem first_true (p0 : Int) (p1 : List ByteArray) (p2 : Bool) : FkKexFirst p0 p1 p2 = true := by
  unfold FkKexFirst
  rw [fit_true, Bool.not_true, sel_false]
  cases decide ((((p1.length : Nat) : Int) : Int) > 10)
  case true => rw [sel_true]
  rw [sel_false]
  cases hb : Nat.blt (fstB (FkKexFirsts0 p0 p1) p1.length) p1.length
  case true => rw [sel_true]
  rw [sel_false]
  have hm := fst_none_of (S := FkKexFirsts0 p0 p1) hb
  unfold FkKexFirsts0 at hm
  have hk := ix8 p0
  revert hm
  generalize hK : (iRem (iAdd .i64 (iRem p0 8) 8) 8).toNat = k
  have hk8 : k < 8 := by omega
  generalize ho : (FkOwn.getD k []).getD 0 ⟨#[]⟩ = o
  intro hm
  have how : FkOwn.getD k [] = [o] := by rw [own_one hk8, ho]
  have hne : ∀ j, j < p1.length → strEq (p1.getD j ⟨#[]⟩) o = false := by
    intro j hj
    have := hm j hj
    cases h : strEq (p1.getD j ⟨#[]⟩) o with
    | false => rfl
    | true =>
      rw [h] at this
      cases hd : decide (((((p1.getD j ⟨#[]⟩).size : Nat) : Int) : Int) > 30) with
      | true => rw [hd, sel_true] at this; cases this
      | false => rw [hd, sel_false, sel_true] at this; cases this
  have e1 : FkAgree (FkOwn.set k (p1 ++ [o])) FkOwn = 0 := agree_all fun j hj => by
    by_cases e : k = j
    · subst e; rw [set_at _ hj, how]; exact kind_more hne
    · rw [set_no _ e]; exact kinds_own hj
  have e2 : FkAgree FkOwn (FkOwn.set k (p1 ++ [o])) = 0 := agree_all fun j hj => by
    by_cases e : k = j
    · subst e; rw [set_at _ hj, how]; exact kind_back _ _
    · rw [set_no _ e]; exact kinds_own hj
  rw [e1, e2]
  show sel true (sel true _ false) false = true
  rw [sel_true, sel_true]
  have fin : ∀ y, Fkhas y o = true → (p1.length = 0 → y = [o]) → (0 < p1.length → Fkhas y (p1.getD 0 ⟨#[]⟩) = true) → ((FkAgree (FkOwn.set k (p1 ++ [o])) (FkOwn.set k y) == 0) == ((((p1.length : Nat) : Int) : Int) == 0)) = true := by
    intro y h1 h2 h3
    rcases Nat.eq_zero_or_pos p1.length with h | h
    · have e : FkAgree (FkOwn.set k (p1 ++ [o])) (FkOwn.set k y) = 0 := agree_all fun j hj => by
        by_cases e : k = j
        · subst e; rw [set_at _ hj, set_at _ hj, how, h2 h]; exact kind_more hne
        · rw [set_no _ e, set_no _ e]; exact kinds_own hj
      rw [e, h]; rfl
    · have e : FkAgree (FkOwn.set k (p1 ++ [o])) (FkOwn.set k y) = 7 := agree_not hk8 (by
        rw [set_at _ hk8, set_at _ hk8, how]; exact kind_no y hne h (h3 h))
      rw [e, show ((((p1.length : Nat) : Int) : Int) == 0) = false from beq_false_of_ne (by omega)]; rfl
  cases p2
  · rw [sel_false]
    exact fin _ (has_end _ _) (fun h => by rw [List.eq_nil_of_length_eq_zero h]; rfl) fun h => has_in (j := 0) (by rw [List.length_append]; omega) (by rw [getD_front _ h]; exact strEq_refl _)
  · rw [sel_true]
    refine fin _ (has_in (j := 0) (by rw [len2]; omega) (strEq_refl _)) (fun h => by rw [List.eq_nil_of_length_eq_zero h]; rfl) fun h => has_in (j := 1) (by rw [len2]; omega) ?_
    cases p1 with
    | nil => exact absurd h (Nat.lt_irrefl _)
    | cons a r => exact strEq_refl _
end Go.Vm
set_option linter.unusedVariables false
set_option linter.unusedSimpArgs false
namespace Go.Vm
open Go
section
variable {H : Type} {enc : TypeId × Value → H} {P : Program} {w : World} {base : Nat} {held : Bool}
end
end Go.Vm
