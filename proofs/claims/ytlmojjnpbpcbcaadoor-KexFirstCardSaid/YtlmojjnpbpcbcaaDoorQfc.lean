/- A part of a proof: the small machine that walks the program, the walks of its functions, and what they compute in plain. -/
import Derived.Test.YtlmojjnpbpcbcaaDoorQfb
import Derived.Test.YtlmojjnpbpcbcaaDoorChecked
set_option linter.unusedVariables false
set_option linter.unusedSimpArgs false
set_option maxRecDepth 4000
set_option maxHeartbeats 2000000
namespace Go.Vm
open Go
noncomputable def F36w32l0 (k0 : Nat) (z0 : Nat × List Int) : Nat × List Int :=
  (z0.1 + 1, z0.2 ++ [0])
noncomputable def F36w32l1 (p0 : List Int) (k1 : Nat) (z1 : List Int) : List Int :=
  z1.set (((iSub .i64 (((((itr (F36w32l0) ((119 - p0.length % 64) % 64) (p0.length + 1, p0 ++ [128])).1) + 8 : Nat) : Int) - 1 - ((0 : Nat) : Int)) ((k1 : Nat) : Int))).toNat) (IntKind.wrap .u8 (iShr .u64 (iMul .u64 (IntKind.wrap .u64 ((p0.length : Nat) : Int)) 8) ((8 * k1 : Nat) : Int)))
noncomputable def F36w32l2 (k2 : Nat) (z2 : List Int) : List Int :=
  z2.set k2 (iShr .u64 (z2.getD k2 0) 32)
noncomputable def F36w32l4 (p0 : List Int) (k3 : Nat) (k4 : Nat) (z4 : List Int) : List Int :=
  z4.set ((8 * k4) / 32) (iAdd .u64 (iMul .u64 (z4.getD ((8 * k4) / 32) 0) 256) (IntKind.wrap .u64 ((itr (F36w32l1 p0) 8 (((itr (F36w32l0) ((119 - p0.length % 64) % 64) (p0.length + 1, p0 ++ [128])).2) ++ (List.replicate 8 0))).getD ((64 * k3) + k4) 0)))
noncomputable def F36w32l5 (k5 : Nat) (z5 : List Int) : List Int :=
  z5.set (k5 + 16) (iAnd .u64 (iAdd .u64 (iAdd .u64 (iAdd .u64 (z5.getD ((k5 + 16) - 16) 0) (z5.getD ((k5 + 16) - 7) 0)) (F54w32 (z5.getD ((k5 + 16) - 15) 0) [7, 18, 3] true)) (F54w32 (z5.getD ((k5 + 16) - 2) 0) [17, 19, 10] true)) 4294967295)
noncomputable def F36w32l6 (p0 : List Int) (k3 : Nat) (k6 : Nat) (z6 : List Int) : List Int :=
  [(iAnd .u64 (iAdd .u64 (iAnd .u64 (iAdd .u64 (iAdd .u64 (iAdd .u64 (iAdd .u64 (z6.getD 7 0) (F54w32 (z6.getD 4 0) [6, 11, 25] false)) (iOr .u64 (iAnd .u64 (z6.getD 4 0) (z6.getD 5 0)) (iAnd .u64 (iXor .u64 4294967295 (z6.getD 4 0)) (z6.getD 6 0)))) (iShr .u64 ((F53).getD k6 0) 32)) ((itr (F36w32l5) 48 (itr (F36w32l4 p0 k3) 64 [0, 0, 0, 0, 0, 0, 0, 0, 0, 0, 0, 0, 0, 0, 0, 0, 0, 0, 0, 0, 0, 0, 0, 0, 0, 0, 0, 0, 0, 0, 0, 0, 0, 0, 0, 0, 0, 0, 0, 0, 0, 0, 0, 0, 0, 0, 0, 0, 0, 0, 0, 0, 0, 0, 0, 0, 0, 0, 0, 0, 0, 0, 0, 0, 0, 0, 0, 0, 0, 0, 0, 0, 0, 0, 0, 0, 0, 0, 0, 0])).getD k6 0)) 4294967295) (iAdd .u64 (F54w32 (z6.getD 0 0) [2, 13, 22] false) (iOr .u64 (iOr .u64 (iAnd .u64 (z6.getD 0 0) (z6.getD 1 0)) (iAnd .u64 (z6.getD 1 0) (z6.getD 2 0))) (iAnd .u64 (z6.getD 0 0) (z6.getD 2 0))))) 4294967295), z6.getD 0 0, z6.getD 1 0, z6.getD 2 0, (iAnd .u64 (iAdd .u64 (z6.getD 3 0) (iAnd .u64 (iAdd .u64 (iAdd .u64 (iAdd .u64 (iAdd .u64 (z6.getD 7 0) (F54w32 (z6.getD 4 0) [6, 11, 25] false)) (iOr .u64 (iAnd .u64 (z6.getD 4 0) (z6.getD 5 0)) (iAnd .u64 (iXor .u64 4294967295 (z6.getD 4 0)) (z6.getD 6 0)))) (iShr .u64 ((F53).getD k6 0) 32)) ((itr (F36w32l5) 48 (itr (F36w32l4 p0 k3) 64 [0, 0, 0, 0, 0, 0, 0, 0, 0, 0, 0, 0, 0, 0, 0, 0, 0, 0, 0, 0, 0, 0, 0, 0, 0, 0, 0, 0, 0, 0, 0, 0, 0, 0, 0, 0, 0, 0, 0, 0, 0, 0, 0, 0, 0, 0, 0, 0, 0, 0, 0, 0, 0, 0, 0, 0, 0, 0, 0, 0, 0, 0, 0, 0, 0, 0, 0, 0, 0, 0, 0, 0, 0, 0, 0, 0, 0, 0, 0, 0])).getD k6 0)) 4294967295)) 4294967295), z6.getD 4 0, z6.getD 5 0, z6.getD 6 0]
noncomputable def F36w32l7 (p0 : List Int) (k3 : Nat) (z3 : List Int) (k7 : Nat) (z7 : List Int) : List Int :=
  z7.set k7 (iAnd .u64 (iAdd .u64 (z7.getD k7 0) ((itr (F36w32l6 p0 k3) 64 z3).getD k7 0)) 4294967295)
noncomputable def F36w32l3 (p0 : List Int) (k3 : Nat) (z3 : List Int) : List Int :=
  (itr (F36w32l7 p0 k3 z3) 8 z3)
noncomputable def F36w32l8 (p0 : List Int) (k8 : Nat) (z8 : Nat × List Int) : Nat × List Int :=
  (z8.1 + 1, z8.2 ++ ([(IntKind.wrap .u8 (iShr .u64 ((itr (F36w32l3 p0) ((((itr (F36w32l0) ((119 - p0.length % 64) % 64) (p0.length + 1, p0 ++ [128])).1) + 8) / 64) (itr (F36w32l2) 8 [7640891576956012808, 13503953896175478587, 4354685564936845355, 11912009170470909681, 5840696475078001361, 11170449401992604703, 2270897969802886507, 6620516959819538809])).getD ((8 * k8) / 32) 0) ((24 - ((8 * k8) % 32) : Nat) : Int)))]))
noncomputable def F36w32 (p0 : List Int) : List Int :=
  (itr (F36w32l8 p0) 32 (0, ([] : List Int))).2
theorem n36w32 (p0 : List Int) : (itr (F36w32l8 p0) 32 (0, [])).1 = 32 := by
  have h0 : ∀ (k : Nat) (z : Nat × List Int), (itr (F36w32l8 p0) k z).1 = z.1 + k := by
    intro k z
    induction k with
    | zero => rw [itr_zero]; rfl
    | succ k ih => rw [itr_succ]; show (itr (F36w32l8 p0) k z).1 + 1 = _; rw [ih]; omega
  rw [h0]
noncomputable def S36w32 : List AV → List Blk → Option (Prop × Ret)
  | [.sc (.ro .u8 p0), .sc (.i .i64 p1)], [] => some ((((32 : Int) = p1) ∧ (p0.length ≤ 100000000)), ⟨.sc (.sl 0 0 32 1 none), [some (.ints .u8 32 (F36w32 p0))]⟩)
  | _, _ => none
noncomputable def B36w32 : Bs := { P := Go.Proofs.Tryd.prog, G := gD, tab := tabOf [⟨75, 800, [], [], [], ⟨0, 0, S52⟩, false⟩, ⟨76, 848, [], [], [], ⟨0, 0, S53⟩, false⟩, ⟨77, 1440, [.val, .val, .val, .val], [], [], ⟨0, 0, S54w32⟩, false⟩, ⟨77, 1584, [.val, .val, .val, .val], [], [], ⟨0, 0, S54w32⟩, false⟩, ⟨77, 1616, [.val, .val, .val, .val], [], [], ⟨0, 0, S54w32⟩, false⟩, ⟨77, 1984, [.val, .val, .val, .val], [], [], ⟨0, 0, S54w32⟩, false⟩], n := 292 }
theorem B36w32.ok : B36w32.Ok := ⟨tabOk (P := Go.Proofs.Tryd.prog) (G := gD) (l := [⟨75, 800, [], [], [], ⟨0, 0, S52⟩, false⟩, ⟨76, 848, [], [], [], ⟨0, 0, S53⟩, false⟩, ⟨77, 1440, [.val, .val, .val, .val], [], [], ⟨0, 0, S54w32⟩, false⟩, ⟨77, 1584, [.val, .val, .val, .val], [], [], ⟨0, 0, S54w32⟩, false⟩, ⟨77, 1616, [.val, .val, .val, .val], [], [], ⟨0, 0, S54w32⟩, false⟩, ⟨77, 1984, [.val, .val, .val, .val], [], [], ⟨0, 0, S54w32⟩, false⟩]) (And.intro K52 (And.intro K53 (And.intro K54w32 (And.intro K54w32 (And.intro K54w32 (And.intro K54w32 True.intro)))))), mixed⟩
theorem K36w32 : Known Go.Proofs.Tryd.prog gD 62 ⟨0, 1, S36w32⟩ := by
 refine Known.walk (B := B36w32) (fn := Go.Proofs.Tryd.f62) B36w32.ok (by kernel_rfl) rfl (by kernel_rfl) (by kernel_rfl) (by decide) (by decide) ?_
 intro E args ks C r h hC hlen
 simp only at h
 unfold S36w32 at h
 split at h
 rotate_left
 cases h
 rename_i p0 p1
 cases h
 simp only [lens] at hlen
 obtain ⟨hEp1, hC⟩ := hC
 subst hEp1
 refine ⟨show 2 ≤ 292 from by decide, ?_⟩
 refine Tri.sub (Sub.of_eq (show _ = ([(0, .sc (.ro .u8 p0)), (1, .sc (.i .i64 32))], []) from rfl)) ?_
 refine sq [] none [0, 1] [] ([(0, .sc (.ro .u8 p0)), (1, .sc (.i .i64 32))], []) 32 (t1 pT) ?_
 refine sq [] none [6, 5, 0, 1] [] ([(6, .sc (.i .u64 18446744073709551615)), (5, .sc (.i .i64 80)), (0, .sc (.ro .u8 p0)), (1, .sc (.i .i64 32))], []) 64 (t2 pT) ?_
 refine sq [] none [7, 6, 5, 0, 1] [144] ([(7, .sc (.p 144 0)), (6, .sc (.i .u64 18446744073709551615)), (5, .sc (.i .i64 80)), (0, .sc (.ro .u8 p0)), (1, .sc (.i .i64 32))], [(144, .ints .i64 12 [1, 8, 7, 19, 61, 6, 14, 18, 41, 28, 34, 39])]) 176 (pu (pa (pa (lo (0 < 3)) (lr (1 = 1))) (pa (pa (lo (1 < 3)) (lr (1 = 1))) (pa (pa (lo (2 < 3)) (lr (1 = 1))) pT))) (pu (pa (pa (lo (0 < 3)) (lr (1 = 1))) (pa (pa (lo (1 < 3)) (lr (1 = 1))) (pa (pa (lo (2 < 3)) (lr (1 = 1))) pT))) (pu (pa (pa (lo (0 < 3)) (lr (1 = 1))) (pa (pa (lo (1 < 3)) (lr (1 = 1))) (pa (pa (lo (2 < 3)) (lr (1 = 1))) pT))) (pu (pa (pa (lo (0 < 3)) (lr (1 = 1))) (pa (pa (lo (1 < 3)) (lr (1 = 1))) (pa (pa (lo (2 < 3)) (lr (1 = 1))) pT))) (pu (pa (pa (lo (0 + 3 ≤ 12)) (lr (3 = 3))) (pa (pa (lo (3 + 3 ≤ 12)) (lr (3 = 3))) (pa (pa (lo (6 + 3 ≤ 12)) (lr (3 = 3))) (pa (pa (lo (9 + 3 ≤ 12)) (lr (3 = 3))) pT)))) (t1 (pu (pa pT (lr (12 = 12))) pT))))))) ?_
 refine Tri.seq ?_
 refine sq [] none [33, 7, 6, 5, 0, 1] [144] ([(33, .sc (.b true)), (7, .sc (.p 144 0)), (6, .sc (.i .u64 18446744073709551615)), (5, .sc (.i .i64 80)), (0, .sc (.ro .u8 p0)), (1, .sc (.i .i64 32))], [(144, .ints .i64 12 [1, 8, 7, 19, 61, 6, 14, 18, 41, 28, 34, 39])]) 208 (t2 pT) ?_
 refine Tri.cond_true (by kernel_rfl) ?_
 refine sq [] none [5, 7, 0, 1] [144] ([(5, .sc (.i .i64 64)), (7, .sc (.p 144 0)), (0, .sc (.ro .u8 p0)), (1, .sc (.i .i64 32))], [(144, .ints .i64 12 [1, 8, 7, 19, 61, 6, 14, 18, 41, 28, 34, 39])]) 224 (t1 pT) ?_
 refine sq [] none [6, 5, 7, 0, 1] [144] ([(6, .sc (.i .u64 4294967295)), (5, .sc (.i .i64 64)), (7, .sc (.p 144 0)), (0, .sc (.ro .u8 p0)), (1, .sc (.i .i64 32))], [(144, .ints .i64 12 [1, 8, 7, 19, 61, 6, 14, 18, 41, 28, 34, 39])]) 240 (t1 pT) ?_
 refine rq [] none [6, 5, 7, 0, 1] [144] ([(6, .sc (.i .u64 4294967295)), (5, .sc (.i .i64 64)), (7, .sc (.p 144 0)), (0, .sc (.ro .u8 p0)), (1, .sc (.i .i64 32))], [(144, .ints .i64 12 [7, 18, 3, 17, 19, 10, 6, 11, 25, 2, 13, 22])]) 336 (pu (pa (pa (lo (0 < 3)) (lr (1 = 1))) (pa (pa (lo (1 < 3)) (lr (1 = 1))) (pa (pa (lo (2 < 3)) (lr (1 = 1))) pT))) (pu (pa (pa (lo (0 < 3)) (lr (1 = 1))) (pa (pa (lo (1 < 3)) (lr (1 = 1))) (pa (pa (lo (2 < 3)) (lr (1 = 1))) pT))) (pu (pa (pa (lo (0 < 3)) (lr (1 = 1))) (pa (pa (lo (1 < 3)) (lr (1 = 1))) (pa (pa (lo (2 < 3)) (lr (1 = 1))) pT))) (pu (pa (pa (lo (0 < 3)) (lr (1 = 1))) (pa (pa (lo (1 < 3)) (lr (1 = 1))) (pa (pa (lo (2 < 3)) (lr (1 = 1))) pT))) (pu (pa (pa (lo (0 + 3 ≤ 12)) (lr (3 = 3))) (pa (pa (lo (3 + 3 ≤ 12)) (lr (3 = 3))) (pa (pa (lo (6 + 3 ≤ 12)) (lr (3 = 3))) (pa (pa (lo (9 + 3 ≤ 12)) (lr (3 = 3))) pT)))) (pu (pa pT (lr (12 = 12))) pT)))))) ?_
 change Tri _ _ _ _ _ _
 refine sq [] none [8, 6, 5, 7, 0, 1] [144] ([(8, .sc (.i .i64 64)), (6, .sc (.i .u64 4294967295)), (5, .sc (.i .i64 64)), (7, .sc (.p 144 0)), (0, .sc (.ro .u8 p0)), (1, .sc (.i .i64 32))], [(144, .ints .i64 12 [7, 18, 3, 17, 19, 10, 6, 11, 25, 2, 13, 22])]) 384 (t3 pT) ?_
 refine sq [] none [9, 8, 6, 5, 7, 0, 1] [432, 144] ([(9, .sc (.sl 432 0 (p0.length + 1) 1 none)), (8, .sc (.i .i64 64)), (6, .sc (.i .u64 4294967295)), (5, .sc (.i .i64 64)), (7, .sc (.p 144 0)), (0, .sc (.ro .u8 p0)), (1, .sc (.i .i64 32))], [(432, .ints .u8 (p0.length + 1) (p0 ++ [128])), (144, .ints .i64 12 [7, 18, 3, 17, 19, 10, 6, 11, 25, 2, 13, 22])]) 464 (t1 (pu (pa (pa (pa pT (lr (1 = 1))) (pa (lo (0 < 1)) (pa (lo (p0.length * 1 ≤ 140737488355328)) (lo (p0.length ≤ 140737488355328))))) (lo (p0.length = p0.length * 1))) (pu (pa (pa (pa (lo (0 < 1)) (lr (1 = 1))) pT) (pa (lo (1 * 1 ≤ 16777216)) (lr (1 = 1)))) (pu (pa (pa (pa (pa (lo (0 + 1 ≤ 1)) (lr (1 = 1))) (pa (lo (0 < 1)) (pa (lo ((p0.length + 1) * 1 ≤ 140737488355328)) (lo (p0.length + 1 ≤ 140737488355328))))) (lo (1 = 1 * 1))) (pa (lr (1 = 1)) (lo (0 + p0.length * 1 = p0.length)))) (t1 pT))))) ?_
 refine Tri.seq ?_
 refine Tri.block ?_
 refine Tri.count 464 ((119 - p0.length % 64) % 64) (F36w32l0) (p0.length + 1, p0 ++ [128]) (fun k0 z0 => z0.1 = (p0.length + 1) + 1 * k0) (fun k0 z0 => ([(9, .sc (.sl 432 0 z0.1 1 none)), (8, .sc (.i .i64 64)), (6, .sc (.i .u64 4294967295)), (5, .sc (.i .i64 64)), (7, .sc (.p 144 0)), (0, .sc (.ro .u8 p0)), (1, .sc (.i .i64 32))], [(432, .ints .u8 z0.1 z0.2), (144, .ints .i64 12 [7, 18, 3, 17, 19, 10, 6, 11, 25, 2, 13, 22])])) (by simp) (Sub.of_eq (by kernel_rfl)) ?_
 intro k0 z0 hk0 hz0 hJ0
 refine Tri.seq ?_
 refine sq [(49, qi ((z0.1 + 8 : Nat) : Int)), (51, qi (((z0.1 + 8) % 64 : Nat) : Int))] none [52, 9, 8, 6, 5, 7, 0, 1] [432, 144] ([(52, .sc (.b (((((z0.1 + 8) % 64 : Nat) : Int) : Int) != 0))), (9, .sc (.sl 432 0 z0.1 1 none)), (8, .sc (.i .i64 64)), (6, .sc (.i .u64 4294967295)), (5, .sc (.i .i64 64)), (7, .sc (.p 144 0)), (0, .sc (.ro .u8 p0)), (1, .sc (.i .i64 32))], [(432, .ints .u8 z0.1 z0.2), (144, .ints .i64 12 [7, 18, 3, 17, 19, 10, 6, 11, 25, 2, 13, 22])]) 592 (t3 (pu (lo (4 ≠ (0 : Int))) (pv pT (pl (show (iAdd .i64 ((z0.1 : Nat) : Int) 8) = ((z0.1 + 8 : Nat) : Int) from iAdd_nat (a := z0.1) (b := 8) (by omega))) (t1 (pv (lo (64 ≠ (0 : Int))) (pl (show (iRem ((z0.1 + 8 : Nat) : Int) 64) = (((z0.1 + 8) % 64 : Nat) : Int) from iRem_nat (a := z0.1 + 8) (b := 64))) (t1 pT)))))) ?_
 refine Tri.cond (x := (((((z0.1 + 8) % 64 : Nat) : Int) : Int) != 0)) (by kernel_rfl) (fun h1 => ?_) (fun h1 => ?_)
 have h1' := ne_true_i h1
 refine Tri.skip ?_
 change Tri _ _ _ _ _ _
 refine Tri.block ?_
 refine rq [] none [9, 8, 6, 5, 7, 0, 1] [624, 144] ([(9, .sc (.sl 624 0 (z0.1 + 1) 1 none)), (8, .sc (.i .i64 64)), (6, .sc (.i .u64 4294967295)), (5, .sc (.i .i64 64)), (7, .sc (.p 144 0)), (0, .sc (.ro .u8 p0)), (1, .sc (.i .i64 32))], [(624, .ints .u8 (z0.1 + 1) (z0.2 ++ [0])), (144, .ints .i64 12 [7, 18, 3, 17, 19, 10, 6, 11, 25, 2, 13, 22])]) 656 (t1 (pu (pa (pa (pa (lo (0 < 1)) (lr (1 = 1))) pT) (pa (lo (1 * 1 ≤ 16777216)) (lr (1 = 1)))) (pu (pa (pa (pa (pa (lo (0 + 1 ≤ 1)) (lr (1 = 1))) (pa (lo (0 < 1)) (pa (lo ((z0.1 + 1) * 1 ≤ 140737488355328)) (lo (z0.1 + 1 ≤ 140737488355328))))) (lo (1 = 1 * 1))) (pa (lr (1 = 1)) (lo (0 + z0.1 * 1 = z0.1)))) (t1 pT)))) ?_
 repeat (refine blkP_normal ?_)
 refine countP_normal (by have h9 := ne_true_i h1; omega) (show z0.1 + 1 = (p0.length + 1) + 1 * (k0 + 1) by omega) ?_
 exact sp [(624, 432), (144, 144)] [9, 8, 6, 5, 7, 0, 1]
 have h1' := ne_false_i h1
 refine Tri.exit ?_
 have hend0 : k0 = ((119 - p0.length % 64) % 64) := by (have h9 := ne_false_i h1; omega)
 subst hend0; subst hz0
 change Tri _ _ _ _ _ _
 refine sq [] none [9, 8, 6, 5, 7, 0, 1] [640, 144] ([(9, .sc (.sl 640 0 (((itr (F36w32l0) ((119 - p0.length % 64) % 64) (p0.length + 1, p0 ++ [128])).1) + 8) 1 none)), (8, .sc (.i .i64 64)), (6, .sc (.i .u64 4294967295)), (5, .sc (.i .i64 64)), (7, .sc (.p 144 0)), (0, .sc (.ro .u8 p0)), (1, .sc (.i .i64 32))], [(640, .ints .u8 (((itr (F36w32l0) ((119 - p0.length % 64) % 64) (p0.length + 1, p0 ++ [128])).1) + 8) (((itr (F36w32l0) ((119 - p0.length % 64) % 64) (p0.length + 1, p0 ++ [128])).2) ++ (List.replicate 8 0))), (144, .ints .i64 12 [7, 18, 3, 17, 19, 10, 6, 11, 25, 2, 13, 22])]) 672 (t2 (pu (lo (4 ≠ (0 : Int))) (pu (pa (pa (pa (pa (pa (pa (lo ((0 : Int) ≤ 8)) (lo (8 ≤ (140737488355328 : Int)))) (lo (((1 : Nat) : Int) * 8 ≤ 281474976710656))) (lr (1 = 1))) (pa (lo (0 < 1)) (pa (lo ((((itr (F36w32l0) ((119 - p0.length % 64) % 64) (p0.length + 1, p0 ++ [128])).1) + 8) * 1 ≤ 140737488355328)) (lo (((itr (F36w32l0) ((119 - p0.length % 64) % 64) (p0.length + 1, p0 ++ [128])).1) + 8 ≤ 140737488355328))))) (lo (8 = 8 * 1))) (pa (lr (1 = 1)) (lo (0 + ((itr (F36w32l0) ((119 - p0.length % 64) % 64) (p0.length + 1, p0 ++ [128])).1) * 1 = (itr (F36w32l0) ((119 - p0.length % 64) % 64) (p0.length + 1, p0 ++ [128])).1)))) (t1 pT)))) ?_
 refine sq [] none [10, 9, 8, 6, 5, 7, 1] [640, 144] ([(10, .sc (.i .u64 (iMul .u64 (IntKind.wrap .u64 ((p0.length : Nat) : Int)) 8))), (9, .sc (.sl 640 0 (((itr (F36w32l0) ((119 - p0.length % 64) % 64) (p0.length + 1, p0 ++ [128])).1) + 8) 1 none)), (8, .sc (.i .i64 64)), (6, .sc (.i .u64 4294967295)), (5, .sc (.i .i64 64)), (7, .sc (.p 144 0)), (1, .sc (.i .i64 32))], [(640, .ints .u8 (((itr (F36w32l0) ((119 - p0.length % 64) % 64) (p0.length + 1, p0 ++ [128])).1) + 8) (((itr (F36w32l0) ((119 - p0.length % 64) % 64) (p0.length + 1, p0 ++ [128])).2) ++ (List.replicate 8 0))), (144, .ints .i64 12 [7, 18, 3, 17, 19, 10, 6, 11, 25, 2, 13, 22])]) 752 (t5 pT) ?_
 refine Tri.seq ?_
 refine sq [] none [11, 10, 9, 8, 6, 5, 7, 1] [640, 144] ([(11, .sc (.i .i64 0)), (10, .sc (.i .u64 (iMul .u64 (IntKind.wrap .u64 ((p0.length : Nat) : Int)) 8))), (9, .sc (.sl 640 0 (((itr (F36w32l0) ((119 - p0.length % 64) % 64) (p0.length + 1, p0 ++ [128])).1) + 8) 1 none)), (8, .sc (.i .i64 64)), (6, .sc (.i .u64 4294967295)), (5, .sc (.i .i64 64)), (7, .sc (.p 144 0)), (1, .sc (.i .i64 32))], [(640, .ints .u8 (((itr (F36w32l0) ((119 - p0.length % 64) % 64) (p0.length + 1, p0 ++ [128])).1) + 8) (((itr (F36w32l0) ((119 - p0.length % 64) % 64) (p0.length + 1, p0 ++ [128])).2) ++ (List.replicate 8 0))), (144, .ints .i64 12 [7, 18, 3, 17, 19, 10, 6, 11, 25, 2, 13, 22])]) 768 (t1 pT) ?_
 refine Tri.block ?_
 refine Tri.count 768 8 (F36w32l1 p0) (((itr (F36w32l0) ((119 - p0.length % 64) % 64) (p0.length + 1, p0 ++ [128])).2) ++ (List.replicate 8 0)) (fun k1 z1 => True) (fun k1 z1 => ([(11, .sc (.i .i64 ((k1 : Nat) : Int))), (10, .sc (.i .u64 (iMul .u64 (IntKind.wrap .u64 ((p0.length : Nat) : Int)) 8))), (9, .sc (.sl 640 0 (((itr (F36w32l0) ((119 - p0.length % 64) % 64) (p0.length + 1, p0 ++ [128])).1) + 8) 1 none)), (8, .sc (.i .i64 64)), (6, .sc (.i .u64 4294967295)), (5, .sc (.i .i64 64)), (7, .sc (.p 144 0)), (1, .sc (.i .i64 32))], [(640, .ints .u8 (((itr (F36w32l0) ((119 - p0.length % 64) % 64) (p0.length + 1, p0 ++ [128])).1) + 8) z1), (144, .ints .i64 12 [7, 18, 3, 17, 19, 10, 6, 11, 25, 2, 13, 22])])) trivial (Sub.of_eq (by kernel_rfl)) ?_
 intro k1 z1 hk1 hz1 hJ1
 refine Tri.seq ?_
 refine sq [] none [65, 11, 10, 9, 8, 6, 5, 7, 1] [640, 144] ([(65, .sc (.b (decide ((((k1 : Nat) : Int) : Int) < 8)))), (11, .sc (.i .i64 ((k1 : Nat) : Int))), (10, .sc (.i .u64 (iMul .u64 (IntKind.wrap .u64 ((p0.length : Nat) : Int)) 8))), (9, .sc (.sl 640 0 (((itr (F36w32l0) ((119 - p0.length % 64) % 64) (p0.length + 1, p0 ++ [128])).1) + 8) 1 none)), (8, .sc (.i .i64 64)), (6, .sc (.i .u64 4294967295)), (5, .sc (.i .i64 64)), (7, .sc (.p 144 0)), (1, .sc (.i .i64 32))], [(640, .ints .u8 (((itr (F36w32l0) ((119 - p0.length % 64) % 64) (p0.length + 1, p0 ++ [128])).1) + 8) z1), (144, .ints .i64 12 [7, 18, 3, 17, 19, 10, 6, 11, 25, 2, 13, 22])]) 800 (t2 pT) ?_
 refine Tri.cond (x := (decide ((((k1 : Nat) : Int) : Int) < 8))) (by kernel_rfl) (fun h2 => ?_) (fun h2 => ?_)
 have h2' := of_decide_eq_true h2
 refine Tri.skip ?_
 change Tri _ _ _ _ _ _
 refine Tri.seq ?_
 refine Tri.block ?_
 refine rq [(71, qi (((((itr (F36w32l0) ((119 - p0.length % 64) % 64) (p0.length + 1, p0 ++ [128])).1) + 8 : Nat) : Int) - 1 - ((0 : Nat) : Int))), (76, qi ((8 * k1 : Nat) : Int))] none [11, 10, 9, 8, 6, 5, 7, 1] [640, 144] ([(11, .sc (.i .i64 ((k1 : Nat) : Int))), (10, .sc (.i .u64 (iMul .u64 (IntKind.wrap .u64 ((p0.length : Nat) : Int)) 8))), (9, .sc (.sl 640 0 (((itr (F36w32l0) ((119 - p0.length % 64) % 64) (p0.length + 1, p0 ++ [128])).1) + 8) 1 none)), (8, .sc (.i .i64 64)), (6, .sc (.i .u64 4294967295)), (5, .sc (.i .i64 64)), (7, .sc (.p 144 0)), (1, .sc (.i .i64 32))], [(640, .ints .u8 (((itr (F36w32l0) ((119 - p0.length % 64) % 64) (p0.length + 1, p0 ++ [128])).1) + 8) (z1.set (((iSub .i64 (((((itr (F36w32l0) ((119 - p0.length % 64) % 64) (p0.length + 1, p0 ++ [128])).1) + 8 : Nat) : Int) - 1 - ((0 : Nat) : Int)) ((k1 : Nat) : Int))).toNat) (IntKind.wrap .u8 (iShr .u64 (iMul .u64 (IntKind.wrap .u64 ((p0.length : Nat) : Int)) 8) ((8 * k1 : Nat) : Int))))), (144, .ints .i64 12 [7, 18, 3, 17, 19, 10, 6, 11, 25, 2, 13, 22])]) 1008 (t3 (pv pT (pl (show (iSub .i64 ((((itr (F36w32l0) ((119 - p0.length % 64) % 64) (p0.length + 1, p0 ++ [128])).1) + 8 : Nat) : Int) 1) = (((((itr (F36w32l0) ((119 - p0.length % 64) % 64) (p0.length + 1, p0 ++ [128])).1) + 8 : Nat) : Int) - 1 - ((0 : Nat) : Int)) from iSub_dn0 (by omega))) (t4 (pv pT (pl (show (iMul .i64 8 ((k1 : Nat) : Int)) = ((8 * k1 : Nat) : Int) from iMul_nat (a := 8) (b := k1) (by omega))) (pu (lo ((0 : Int) ≤ ((8 * k1 : Nat) : Int))) (t1 (pu (li ((0 : Int) ≤ (iSub .i64 (((((itr (F36w32l0) ((119 - p0.length % 64) % 64) (p0.length + 1, p0 ++ [128])).1) + 8 : Nat) : Int) - 1 - ((0 : Nat) : Int)) ((k1 : Nat) : Int)) ∧ (iSub .i64 (((((itr (F36w32l0) ((119 - p0.length % 64) % 64) (p0.length + 1, p0 ++ [128])).1) + 8 : Nat) : Int) - 1 - ((0 : Nat) : Int)) ((k1 : Nat) : Int)) < ((((itr (F36w32l0) ((119 - p0.length % 64) % 64) (p0.length + 1, p0 ++ [128])).1) + 8 : Nat) : Int))) (pu (pa (li (((iSub .i64 (((((itr (F36w32l0) ((119 - p0.length % 64) % 64) (p0.length + 1, p0 ++ [128])).1) + 8 : Nat) : Int) - 1 - ((0 : Nat) : Int)) ((k1 : Nat) : Int))).toNat < ((itr (F36w32l0) ((119 - p0.length % 64) % 64) (p0.length + 1, p0 ++ [128])).1) + 8)) (lr (1 = 1))) pT)))))))) ?_
 change Tri _ _ _ _ _ _
 refine rq [(67, qi ((k1 + 1 : Nat) : Int))] none [11, 10, 9, 8, 6, 5, 7, 1] [640, 144] ([(11, .sc (.i .i64 ((k1 + 1 : Nat) : Int))), (10, .sc (.i .u64 (iMul .u64 (IntKind.wrap .u64 ((p0.length : Nat) : Int)) 8))), (9, .sc (.sl 640 0 (((itr (F36w32l0) ((119 - p0.length % 64) % 64) (p0.length + 1, p0 ++ [128])).1) + 8) 1 none)), (8, .sc (.i .i64 64)), (6, .sc (.i .u64 4294967295)), (5, .sc (.i .i64 64)), (7, .sc (.p 144 0)), (1, .sc (.i .i64 32))], [(640, .ints .u8 (((itr (F36w32l0) ((119 - p0.length % 64) % 64) (p0.length + 1, p0 ++ [128])).1) + 8) (z1.set (((iSub .i64 (((((itr (F36w32l0) ((119 - p0.length % 64) % 64) (p0.length + 1, p0 ++ [128])).1) + 8 : Nat) : Int) - 1 - ((0 : Nat) : Int)) ((k1 : Nat) : Int))).toNat) (IntKind.wrap .u8 (iShr .u64 (iMul .u64 (IntKind.wrap .u64 ((p0.length : Nat) : Int)) 8) ((8 * k1 : Nat) : Int))))), (144, .ints .i64 12 [7, 18, 3, 17, 19, 10, 6, 11, 25, 2, 13, 22])]) 1056 (t1 (pv pT (pl (show (iAdd .i64 ((k1 : Nat) : Int) 1) = ((k1 + 1 : Nat) : Int) from iAdd_nat (a := k1) (b := 1) (by omega))) (t1 pT))) ?_
 repeat (refine blkP_normal ?_)
 refine countP_normal (by omega) trivial ?_
 exact sp [(640, 640), (144, 144)] [11, 10, 9, 8, 6, 5, 7, 1]
 have h2' := of_decide_eq_false h2
 refine Tri.exit ?_
 have hend1 : k1 = 8 := by (have := of_decide_eq_false h2; omega)
 subst hend1; subst hz1
 change Tri _ _ _ _ _ _
 refine sq [] none [12, 9, 8, 6, 5, 7, 1] [816, 640, 144] ([(12, .sc (.p 816 0)), (9, .sc (.sl 640 0 (((itr (F36w32l0) ((119 - p0.length % 64) % 64) (p0.length + 1, p0 ++ [128])).1) + 8) 1 none)), (8, .sc (.i .i64 64)), (6, .sc (.i .u64 4294967295)), (5, .sc (.i .i64 64)), (7, .sc (.p 144 0)), (1, .sc (.i .i64 32))], [(816, .ints .u64 8 [7640891576956012808, 13503953896175478587, 4354685564936845355, 11912009170470909681, 5840696475078001361, 11170449401992604703, 2270897969802886507, 6620516959819538809]), (640, .ints .u8 (((itr (F36w32l0) ((119 - p0.length % 64) % 64) (p0.length + 1, p0 ++ [128])).1) + 8) (itr (F36w32l1 p0) 8 (((itr (F36w32l0) ((119 - p0.length % 64) % 64) (p0.length + 1, p0 ++ [128])).2) ++ (List.replicate 8 0)))), (144, .ints .i64 12 [7, 18, 3, 17, 19, 10, 6, 11, 25, 2, 13, 22])]) 848 (pu pz (t1 (pu (pa pT (lr (8 = 8))) pT))) ?_
 refine sq [] none [13, 12, 9, 8, 6, 5, 7, 1] [864, 816, 640, 144] ([(13, .sc (.p 864 0)), (12, .sc (.p 816 0)), (9, .sc (.sl 640 0 (((itr (F36w32l0) ((119 - p0.length % 64) % 64) (p0.length + 1, p0 ++ [128])).1) + 8) 1 none)), (8, .sc (.i .i64 64)), (6, .sc (.i .u64 4294967295)), (5, .sc (.i .i64 64)), (7, .sc (.p 144 0)), (1, .sc (.i .i64 32))], [(864, .ints .u64 80 (F53)), (816, .ints .u64 8 [7640891576956012808, 13503953896175478587, 4354685564936845355, 11912009170470909681, 5840696475078001361, 11170449401992604703, 2270897969802886507, 6620516959819538809]), (640, .ints .u8 (((itr (F36w32l0) ((119 - p0.length % 64) % 64) (p0.length + 1, p0 ++ [128])).1) + 8) (itr (F36w32l1 p0) 8 (((itr (F36w32l0) ((119 - p0.length % 64) % 64) (p0.length + 1, p0 ++ [128])).2) ++ (List.replicate 8 0)))), (144, .ints .i64 12 [7, 18, 3, 17, 19, 10, 6, 11, 25, 2, 13, 22])]) 896 (pu pz (t1 (pu (pa pT (lr (80 = 80))) pT))) ?_
 refine Tri.seq ?_
 refine sq [] none [14, 13, 12, 9, 8, 6, 5, 7, 1] [864, 816, 640, 144] ([(14, .sc (.i .i64 0)), (13, .sc (.p 864 0)), (12, .sc (.p 816 0)), (9, .sc (.sl 640 0 (((itr (F36w32l0) ((119 - p0.length % 64) % 64) (p0.length + 1, p0 ++ [128])).1) + 8) 1 none)), (8, .sc (.i .i64 64)), (6, .sc (.i .u64 4294967295)), (5, .sc (.i .i64 64)), (7, .sc (.p 144 0)), (1, .sc (.i .i64 32))], [(864, .ints .u64 80 (F53)), (816, .ints .u64 8 [7640891576956012808, 13503953896175478587, 4354685564936845355, 11912009170470909681, 5840696475078001361, 11170449401992604703, 2270897969802886507, 6620516959819538809]), (640, .ints .u8 (((itr (F36w32l0) ((119 - p0.length % 64) % 64) (p0.length + 1, p0 ++ [128])).1) + 8) (itr (F36w32l1 p0) 8 (((itr (F36w32l0) ((119 - p0.length % 64) % 64) (p0.length + 1, p0 ++ [128])).2) ++ (List.replicate 8 0)))), (144, .ints .i64 12 [7, 18, 3, 17, 19, 10, 6, 11, 25, 2, 13, 22])]) 912 (t1 pT) ?_
 refine Tri.block ?_
 refine Tri.count 912 8 (F36w32l2) [7640891576956012808, 13503953896175478587, 4354685564936845355, 11912009170470909681, 5840696475078001361, 11170449401992604703, 2270897969802886507, 6620516959819538809] (fun k2 z2 => True) (fun k2 z2 => ([(14, .sc (.i .i64 ((k2 : Nat) : Int))), (13, .sc (.p 864 0)), (12, .sc (.p 816 0)), (9, .sc (.sl 640 0 (((itr (F36w32l0) ((119 - p0.length % 64) % 64) (p0.length + 1, p0 ++ [128])).1) + 8) 1 none)), (8, .sc (.i .i64 64)), (6, .sc (.i .u64 4294967295)), (5, .sc (.i .i64 64)), (7, .sc (.p 144 0)), (1, .sc (.i .i64 32))], [(864, .ints .u64 80 (F53)), (816, .ints .u64 8 z2), (640, .ints .u8 (((itr (F36w32l0) ((119 - p0.length % 64) % 64) (p0.length + 1, p0 ++ [128])).1) + 8) (itr (F36w32l1 p0) 8 (((itr (F36w32l0) ((119 - p0.length % 64) % 64) (p0.length + 1, p0 ++ [128])).2) ++ (List.replicate 8 0)))), (144, .ints .i64 12 [7, 18, 3, 17, 19, 10, 6, 11, 25, 2, 13, 22])])) trivial (Sub.of_eq (by kernel_rfl)) ?_
 intro k2 z2 hk2 hz2 hJ2
 refine Tri.seq ?_
 refine sq [] none [83, 14, 13, 12, 9, 8, 6, 5, 7, 1] [864, 816, 640, 144] ([(83, .sc (.b (decide ((((k2 : Nat) : Int) : Int) < 8)))), (14, .sc (.i .i64 ((k2 : Nat) : Int))), (13, .sc (.p 864 0)), (12, .sc (.p 816 0)), (9, .sc (.sl 640 0 (((itr (F36w32l0) ((119 - p0.length % 64) % 64) (p0.length + 1, p0 ++ [128])).1) + 8) 1 none)), (8, .sc (.i .i64 64)), (6, .sc (.i .u64 4294967295)), (5, .sc (.i .i64 64)), (7, .sc (.p 144 0)), (1, .sc (.i .i64 32))], [(864, .ints .u64 80 (F53)), (816, .ints .u64 8 z2), (640, .ints .u8 (((itr (F36w32l0) ((119 - p0.length % 64) % 64) (p0.length + 1, p0 ++ [128])).1) + 8) (itr (F36w32l1 p0) 8 (((itr (F36w32l0) ((119 - p0.length % 64) % 64) (p0.length + 1, p0 ++ [128])).2) ++ (List.replicate 8 0)))), (144, .ints .i64 12 [7, 18, 3, 17, 19, 10, 6, 11, 25, 2, 13, 22])]) 944 (t2 pT) ?_
 refine Tri.cond (x := (decide ((((k2 : Nat) : Int) : Int) < 8))) (by kernel_rfl) (fun h3 => ?_) (fun h3 => ?_)
 have h3' := of_decide_eq_true h3
 refine Tri.skip ?_
 change Tri _ _ _ _ _ _
 refine Tri.seq ?_
 refine Tri.block ?_
 refine rq [] none [14, 13, 12, 9, 8, 6, 5, 7, 1] [816, 864, 640, 144] ([(14, .sc (.i .i64 ((k2 : Nat) : Int))), (13, .sc (.p 864 0)), (12, .sc (.p 816 0)), (9, .sc (.sl 640 0 (((itr (F36w32l0) ((119 - p0.length % 64) % 64) (p0.length + 1, p0 ++ [128])).1) + 8) 1 none)), (8, .sc (.i .i64 64)), (6, .sc (.i .u64 4294967295)), (5, .sc (.i .i64 64)), (7, .sc (.p 144 0)), (1, .sc (.i .i64 32))], [(816, .ints .u64 8 (z2.set k2 (iShr .u64 (z2.getD k2 0) 32))), (864, .ints .u64 80 (F53)), (640, .ints .u8 (((itr (F36w32l0) ((119 - p0.length % 64) % 64) (p0.length + 1, p0 ++ [128])).1) + 8) (itr (F36w32l1 p0) 8 (((itr (F36w32l0) ((119 - p0.length % 64) % 64) (p0.length + 1, p0 ++ [128])).2) ++ (List.replicate 8 0)))), (144, .ints .i64 12 [7, 18, 3, 17, 19, 10, 6, 11, 25, 2, 13, 22])]) 1088 (t2 (pu (lo ((0 : Int) ≤ ((k2 : Nat) : Int) ∧ ((k2 : Nat) : Int) < ((8 : Nat) : Int))) (pu (lo (k2 < 8)) (t2 (pu (lo ((0 : Int) ≤ 32)) (pu (lo ((0 : Int) ≤ ((k2 : Nat) : Int) ∧ ((k2 : Nat) : Int) < ((8 : Nat) : Int))) (pu (pa (lo (k2 < 8)) (lr (1 = 1))) pT))))))) ?_
 change Tri _ _ _ _ _ _
 refine rq [(85, qi ((k2 + 1 : Nat) : Int))] none [14, 13, 12, 9, 8, 6, 5, 7, 1] [816, 864, 640, 144] ([(14, .sc (.i .i64 ((k2 + 1 : Nat) : Int))), (13, .sc (.p 864 0)), (12, .sc (.p 816 0)), (9, .sc (.sl 640 0 (((itr (F36w32l0) ((119 - p0.length % 64) % 64) (p0.length + 1, p0 ++ [128])).1) + 8) 1 none)), (8, .sc (.i .i64 64)), (6, .sc (.i .u64 4294967295)), (5, .sc (.i .i64 64)), (7, .sc (.p 144 0)), (1, .sc (.i .i64 32))], [(816, .ints .u64 8 (z2.set k2 (iShr .u64 (z2.getD k2 0) 32))), (864, .ints .u64 80 (F53)), (640, .ints .u8 (((itr (F36w32l0) ((119 - p0.length % 64) % 64) (p0.length + 1, p0 ++ [128])).1) + 8) (itr (F36w32l1 p0) 8 (((itr (F36w32l0) ((119 - p0.length % 64) % 64) (p0.length + 1, p0 ++ [128])).2) ++ (List.replicate 8 0)))), (144, .ints .i64 12 [7, 18, 3, 17, 19, 10, 6, 11, 25, 2, 13, 22])]) 1136 (t1 (pv pT (pl (show (iAdd .i64 ((k2 : Nat) : Int) 1) = ((k2 + 1 : Nat) : Int) from iAdd_nat (a := k2) (b := 1) (by omega))) (t1 pT))) ?_
 repeat (refine blkP_normal ?_)
 refine countP_normal (by omega) trivial ?_
 exact sp [(864, 864), (816, 816), (640, 640), (144, 144)] [14, 13, 12, 9, 8, 6, 5, 7, 1]
 have h3' := of_decide_eq_false h3
 refine Tri.exit ?_
 have hend2 : k2 = 8 := by (have := of_decide_eq_false h3; omega)
 subst hend2; subst hz2
 change Tri _ _ _ _ _ _
 refine Tri.seq ?_
 refine sq [] none [15, 13, 12, 9, 8, 6, 5, 7, 1] [864, 816, 640, 144] ([(15, .sc (.i .i64 0)), (13, .sc (.p 864 0)), (12, .sc (.p 816 0)), (9, .sc (.sl 640 0 (((itr (F36w32l0) ((119 - p0.length % 64) % 64) (p0.length + 1, p0 ++ [128])).1) + 8) 1 none)), (8, .sc (.i .i64 64)), (6, .sc (.i .u64 4294967295)), (5, .sc (.i .i64 64)), (7, .sc (.p 144 0)), (1, .sc (.i .i64 32))], [(864, .ints .u64 80 (F53)), (816, .ints .u64 8 (itr (F36w32l2) 8 [7640891576956012808, 13503953896175478587, 4354685564936845355, 11912009170470909681, 5840696475078001361, 11170449401992604703, 2270897969802886507, 6620516959819538809])), (640, .ints .u8 (((itr (F36w32l0) ((119 - p0.length % 64) % 64) (p0.length + 1, p0 ++ [128])).1) + 8) (itr (F36w32l1 p0) 8 (((itr (F36w32l0) ((119 - p0.length % 64) % 64) (p0.length + 1, p0 ++ [128])).2) ++ (List.replicate 8 0)))), (144, .ints .i64 12 [7, 18, 3, 17, 19, 10, 6, 11, 25, 2, 13, 22])]) 960 (t1 pT) ?_
 refine Tri.block ?_
 refine Tri.count 960 ((((itr (F36w32l0) ((119 - p0.length % 64) % 64) (p0.length + 1, p0 ++ [128])).1) + 8) / 64) (F36w32l3 p0) (itr (F36w32l2) 8 [7640891576956012808, 13503953896175478587, 4354685564936845355, 11912009170470909681, 5840696475078001361, 11170449401992604703, 2270897969802886507, 6620516959819538809]) (fun k3 z3 => True) (fun k3 z3 => ([(15, .sc (.i .i64 ((64 * k3 : Nat) : Int))), (13, .sc (.p 864 0)), (12, .sc (.p 816 0)), (9, .sc (.sl 640 0 (((itr (F36w32l0) ((119 - p0.length % 64) % 64) (p0.length + 1, p0 ++ [128])).1) + 8) 1 none)), (8, .sc (.i .i64 64)), (6, .sc (.i .u64 4294967295)), (5, .sc (.i .i64 64)), (7, .sc (.p 144 0)), (1, .sc (.i .i64 32))], [(864, .ints .u64 80 (F53)), (816, .ints .u64 8 z3), (640, .ints .u8 (((itr (F36w32l0) ((119 - p0.length % 64) % 64) (p0.length + 1, p0 ++ [128])).1) + 8) (itr (F36w32l1 p0) 8 (((itr (F36w32l0) ((119 - p0.length % 64) % 64) (p0.length + 1, p0 ++ [128])).2) ++ (List.replicate 8 0)))), (144, .ints .i64 12 [7, 18, 3, 17, 19, 10, 6, 11, 25, 2, 13, 22])])) trivial (Sub.of_eq (by kernel_rfl)) ?_
 intro k3 z3 hk3 hz3 hJ3
 refine Tri.seq ?_
 refine sq [] none [97, 15, 13, 12, 9, 8, 6, 5, 7, 1] [864, 816, 640, 144] ([(97, .sc (.b (decide ((((64 * k3 : Nat) : Int) : Int) < ((((itr (F36w32l0) ((119 - p0.length % 64) % 64) (p0.length + 1, p0 ++ [128])).1) + 8 : Nat) : Int))))), (15, .sc (.i .i64 ((64 * k3 : Nat) : Int))), (13, .sc (.p 864 0)), (12, .sc (.p 816 0)), (9, .sc (.sl 640 0 (((itr (F36w32l0) ((119 - p0.length % 64) % 64) (p0.length + 1, p0 ++ [128])).1) + 8) 1 none)), (8, .sc (.i .i64 64)), (6, .sc (.i .u64 4294967295)), (5, .sc (.i .i64 64)), (7, .sc (.p 144 0)), (1, .sc (.i .i64 32))], [(864, .ints .u64 80 (F53)), (816, .ints .u64 8 z3), (640, .ints .u8 (((itr (F36w32l0) ((119 - p0.length % 64) % 64) (p0.length + 1, p0 ++ [128])).1) + 8) (itr (F36w32l1 p0) 8 (((itr (F36w32l0) ((119 - p0.length % 64) % 64) (p0.length + 1, p0 ++ [128])).2) ++ (List.replicate 8 0)))), (144, .ints .i64 12 [7, 18, 3, 17, 19, 10, 6, 11, 25, 2, 13, 22])]) 1024 (t4 pT) ?_
 refine Tri.cond (x := (decide ((((64 * k3 : Nat) : Int) : Int) < ((((itr (F36w32l0) ((119 - p0.length % 64) % 64) (p0.length + 1, p0 ++ [128])).1) + 8 : Nat) : Int)))) (by kernel_rfl) (fun h4 => ?_) (fun h4 => ?_)
 have h4' := of_decide_eq_true h4
 refine Tri.skip ?_
 change Tri _ _ _ _ _ _
 refine Tri.seq ?_
 refine Tri.block ?_
 refine sq [] none [16, 15, 13, 12, 9, 8, 6, 5, 7, 1] [1024, 864, 816, 640, 144] ([(16, .sc (.p 1024 0)), (15, .sc (.i .i64 ((64 * k3 : Nat) : Int))), (13, .sc (.p 864 0)), (12, .sc (.p 816 0)), (9, .sc (.sl 640 0 (((itr (F36w32l0) ((119 - p0.length % 64) % 64) (p0.length + 1, p0 ++ [128])).1) + 8) 1 none)), (8, .sc (.i .i64 64)), (6, .sc (.i .u64 4294967295)), (5, .sc (.i .i64 64)), (7, .sc (.p 144 0)), (1, .sc (.i .i64 32))], [(1024, .ints .u64 80 [0, 0, 0, 0, 0, 0, 0, 0, 0, 0, 0, 0, 0, 0, 0, 0, 0, 0, 0, 0, 0, 0, 0, 0, 0, 0, 0, 0, 0, 0, 0, 0, 0, 0, 0, 0, 0, 0, 0, 0, 0, 0, 0, 0, 0, 0, 0, 0, 0, 0, 0, 0, 0, 0, 0, 0, 0, 0, 0, 0, 0, 0, 0, 0, 0, 0, 0, 0, 0, 0, 0, 0, 0, 0, 0, 0, 0, 0, 0, 0]), (864, .ints .u64 80 (F53)), (816, .ints .u64 8 z3), (640, .ints .u8 (((itr (F36w32l0) ((119 - p0.length % 64) % 64) (p0.length + 1, p0 ++ [128])).1) + 8) (itr (F36w32l1 p0) 8 (((itr (F36w32l0) ((119 - p0.length % 64) % 64) (p0.length + 1, p0 ++ [128])).2) ++ (List.replicate 8 0)))), (144, .ints .i64 12 [7, 18, 3, 17, 19, 10, 6, 11, 25, 2, 13, 22])]) 1040 (t1 pT) ?_
 refine Tri.seq ?_
 refine sq [] none [17, 16, 15, 13, 12, 9, 8, 6, 5, 7, 1] [1024, 864, 816, 640, 144] ([(17, .sc (.i .i64 0)), (16, .sc (.p 1024 0)), (15, .sc (.i .i64 ((64 * k3 : Nat) : Int))), (13, .sc (.p 864 0)), (12, .sc (.p 816 0)), (9, .sc (.sl 640 0 (((itr (F36w32l0) ((119 - p0.length % 64) % 64) (p0.length + 1, p0 ++ [128])).1) + 8) 1 none)), (8, .sc (.i .i64 64)), (6, .sc (.i .u64 4294967295)), (5, .sc (.i .i64 64)), (7, .sc (.p 144 0)), (1, .sc (.i .i64 32))], [(1024, .ints .u64 80 [0, 0, 0, 0, 0, 0, 0, 0, 0, 0, 0, 0, 0, 0, 0, 0, 0, 0, 0, 0, 0, 0, 0, 0, 0, 0, 0, 0, 0, 0, 0, 0, 0, 0, 0, 0, 0, 0, 0, 0, 0, 0, 0, 0, 0, 0, 0, 0, 0, 0, 0, 0, 0, 0, 0, 0, 0, 0, 0, 0, 0, 0, 0, 0, 0, 0, 0, 0, 0, 0, 0, 0, 0, 0, 0, 0, 0, 0, 0, 0]), (864, .ints .u64 80 (F53)), (816, .ints .u64 8 z3), (640, .ints .u8 (((itr (F36w32l0) ((119 - p0.length % 64) % 64) (p0.length + 1, p0 ++ [128])).1) + 8) (itr (F36w32l1 p0) 8 (((itr (F36w32l0) ((119 - p0.length % 64) % 64) (p0.length + 1, p0 ++ [128])).2) ++ (List.replicate 8 0)))), (144, .ints .i64 12 [7, 18, 3, 17, 19, 10, 6, 11, 25, 2, 13, 22])]) 1056 (t1 pT) ?_
 refine Tri.block ?_
 refine Tri.count 1056 64 (F36w32l4 p0 k3) [0, 0, 0, 0, 0, 0, 0, 0, 0, 0, 0, 0, 0, 0, 0, 0, 0, 0, 0, 0, 0, 0, 0, 0, 0, 0, 0, 0, 0, 0, 0, 0, 0, 0, 0, 0, 0, 0, 0, 0, 0, 0, 0, 0, 0, 0, 0, 0, 0, 0, 0, 0, 0, 0, 0, 0, 0, 0, 0, 0, 0, 0, 0, 0, 0, 0, 0, 0, 0, 0, 0, 0, 0, 0, 0, 0, 0, 0, 0, 0] (fun k4 z4 => True) (fun k4 z4 => ([(17, .sc (.i .i64 ((k4 : Nat) : Int))), (16, .sc (.p 1024 0)), (15, .sc (.i .i64 ((64 * k3 : Nat) : Int))), (13, .sc (.p 864 0)), (12, .sc (.p 816 0)), (9, .sc (.sl 640 0 (((itr (F36w32l0) ((119 - p0.length % 64) % 64) (p0.length + 1, p0 ++ [128])).1) + 8) 1 none)), (8, .sc (.i .i64 64)), (6, .sc (.i .u64 4294967295)), (5, .sc (.i .i64 64)), (7, .sc (.p 144 0)), (1, .sc (.i .i64 32))], [(1024, .ints .u64 80 z4), (864, .ints .u64 80 (F53)), (816, .ints .u64 8 z3), (640, .ints .u8 (((itr (F36w32l0) ((119 - p0.length % 64) % 64) (p0.length + 1, p0 ++ [128])).1) + 8) (itr (F36w32l1 p0) 8 (((itr (F36w32l0) ((119 - p0.length % 64) % 64) (p0.length + 1, p0 ++ [128])).2) ++ (List.replicate 8 0)))), (144, .ints .i64 12 [7, 18, 3, 17, 19, 10, 6, 11, 25, 2, 13, 22])])) trivial (Sub.of_eq (by kernel_rfl)) ?_
 intro k4 z4 hk4 hz4 hJ4
 refine Tri.seq ?_
 refine sq [] none [103, 17, 16, 15, 13, 12, 9, 8, 6, 5, 7, 1] [1024, 864, 816, 640, 144] ([(103, .sc (.b (decide ((((k4 : Nat) : Int) : Int) < 64)))), (17, .sc (.i .i64 ((k4 : Nat) : Int))), (16, .sc (.p 1024 0)), (15, .sc (.i .i64 ((64 * k3 : Nat) : Int))), (13, .sc (.p 864 0)), (12, .sc (.p 816 0)), (9, .sc (.sl 640 0 (((itr (F36w32l0) ((119 - p0.length % 64) % 64) (p0.length + 1, p0 ++ [128])).1) + 8) 1 none)), (8, .sc (.i .i64 64)), (6, .sc (.i .u64 4294967295)), (5, .sc (.i .i64 64)), (7, .sc (.p 144 0)), (1, .sc (.i .i64 32))], [(1024, .ints .u64 80 z4), (864, .ints .u64 80 (F53)), (816, .ints .u64 8 z3), (640, .ints .u8 (((itr (F36w32l0) ((119 - p0.length % 64) % 64) (p0.length + 1, p0 ++ [128])).1) + 8) (itr (F36w32l1 p0) 8 (((itr (F36w32l0) ((119 - p0.length % 64) % 64) (p0.length + 1, p0 ++ [128])).2) ++ (List.replicate 8 0)))), (144, .ints .i64 12 [7, 18, 3, 17, 19, 10, 6, 11, 25, 2, 13, 22])]) 1104 (t3 pT) ?_
 refine Tri.cond (x := (decide ((((k4 : Nat) : Int) : Int) < 64))) (by kernel_rfl) (fun h5 => ?_) (fun h5 => ?_)
 have h5' := of_decide_eq_true h5
 refine Tri.skip ?_
 change Tri _ _ _ _ _ _
 refine Tri.seq ?_
 refine Tri.block ?_
 refine rq [(107, qi ((8 * k4 : Nat) : Int)), (109, qi (((8 * k4) / 32 : Nat) : Int)), (111, qi ((8 * k4 : Nat) : Int)), (113, qi (((8 * k4) / 32 : Nat) : Int)), (120, qi (((64 * k3) + k4 : Nat) : Int))] (some [0, 1, 0, 7, 0, 16, 0, 112, 240, 496, 1008, 0, 0, 0, 12288, 30720, 63488, 129024, 262128, 524287, 1048575]) [17, 16, 15, 13, 12, 9, 8, 6, 5, 7, 1] [1024, 864, 816, 640, 144] ([(17, .sc (.i .i64 ((k4 : Nat) : Int))), (16, .sc (.p 1024 0)), (15, .sc (.i .i64 ((64 * k3 : Nat) : Int))), (13, .sc (.p 864 0)), (12, .sc (.p 816 0)), (9, .sc (.sl 640 0 (((itr (F36w32l0) ((119 - p0.length % 64) % 64) (p0.length + 1, p0 ++ [128])).1) + 8) 1 none)), (8, .sc (.i .i64 64)), (6, .sc (.i .u64 4294967295)), (5, .sc (.i .i64 64)), (7, .sc (.p 144 0)), (1, .sc (.i .i64 32))], [(1024, .ints .u64 80 (z4.set ((8 * k4) / 32) (iAdd .u64 (iMul .u64 (z4.getD ((8 * k4) / 32) 0) 256) (IntKind.wrap .u64 ((itr (F36w32l1 p0) 8 (((itr (F36w32l0) ((119 - p0.length % 64) % 64) (p0.length + 1, p0 ++ [128])).2) ++ (List.replicate 8 0))).getD ((64 * k3) + k4) 0))))), (864, .ints .u64 80 (F53)), (816, .ints .u64 8 z3), (640, .ints .u8 (((itr (F36w32l0) ((119 - p0.length % 64) % 64) (p0.length + 1, p0 ++ [128])).1) + 8) (itr (F36w32l1 p0) 8 (((itr (F36w32l0) ((119 - p0.length % 64) % 64) (p0.length + 1, p0 ++ [128])).2) ++ (List.replicate 8 0)))), (144, .ints .i64 12 [7, 18, 3, 17, 19, 10, 6, 11, 25, 2, 13, 22])]) 1440 (t1 (pv pT (pl (show (iMul .i64 8 ((k4 : Nat) : Int)) = ((8 * k4 : Nat) : Int) from iMul_nat (a := 8) (b := k4) (by omega))) (t1 (pv (lo (32 ≠ (0 : Int))) (pl (show (iQuo .i64 ((8 * k4 : Nat) : Int) 32) = (((8 * k4) / 32 : Nat) : Int) from iQuo_nat (a := 8 * k4) (b := 32) (by omega))) (t1 (pv pT (pl (show (iMul .i64 8 ((k4 : Nat) : Int)) = ((8 * k4 : Nat) : Int) from iMul_nat (a := 8) (b := k4) (by omega))) (t1 (pv (lo (32 ≠ (0 : Int))) (pl (show (iQuo .i64 ((8 * k4 : Nat) : Int) 32) = (((8 * k4) / 32 : Nat) : Int) from iQuo_nat (a := 8 * k4) (b := 32) (by omega))) (pu (lo ((0 : Int) ≤ (((8 * k4) / 32 : Nat) : Int) ∧ (((8 * k4) / 32 : Nat) : Int) < ((80 : Nat) : Int))) (pu (lo ((8 * k4) / 32 < 80)) (t4 (pv pT (pl (show (iAdd .i64 ((64 * k3 : Nat) : Int) ((k4 : Nat) : Int)) = (((64 * k3) + k4 : Nat) : Int) from iAdd_nat (a := 64 * k3) (b := k4) (by omega))) (pu (lo ((0 : Int) ≤ (((64 * k3) + k4 : Nat) : Int) ∧ (((64 * k3) + k4 : Nat) : Int) < ((((itr (F36w32l0) ((119 - p0.length % 64) % 64) (p0.length + 1, p0 ++ [128])).1) + 8 : Nat) : Int))) (pu (lo ((64 * k3) + k4 < ((itr (F36w32l0) ((119 - p0.length % 64) % 64) (p0.length + 1, p0 ++ [128])).1) + 8)) (t2 (pu (lo ((0 : Int) ≤ (((8 * k4) / 32 : Nat) : Int) ∧ (((8 * k4) / 32 : Nat) : Int) < ((80 : Nat) : Int))) (pu (pa (lo ((8 * k4) / 32 < 80)) (lr (1 = 1))) pT))))))))))))))))) ?_
 change Tri _ _ _ _ _ _
 refine rq [(105, qi ((k4 + 1 : Nat) : Int))] none [17, 16, 15, 13, 12, 9, 8, 6, 5, 7, 1] [1024, 864, 816, 640, 144] ([(17, .sc (.i .i64 ((k4 + 1 : Nat) : Int))), (16, .sc (.p 1024 0)), (15, .sc (.i .i64 ((64 * k3 : Nat) : Int))), (13, .sc (.p 864 0)), (12, .sc (.p 816 0)), (9, .sc (.sl 640 0 (((itr (F36w32l0) ((119 - p0.length % 64) % 64) (p0.length + 1, p0 ++ [128])).1) + 8) 1 none)), (8, .sc (.i .i64 64)), (6, .sc (.i .u64 4294967295)), (5, .sc (.i .i64 64)), (7, .sc (.p 144 0)), (1, .sc (.i .i64 32))], [(1024, .ints .u64 80 (z4.set ((8 * k4) / 32) (iAdd .u64 (iMul .u64 (z4.getD ((8 * k4) / 32) 0) 256) (IntKind.wrap .u64 ((itr (F36w32l1 p0) 8 (((itr (F36w32l0) ((119 - p0.length % 64) % 64) (p0.length + 1, p0 ++ [128])).2) ++ (List.replicate 8 0))).getD ((64 * k3) + k4) 0))))), (864, .ints .u64 80 (F53)), (816, .ints .u64 8 z3), (640, .ints .u8 (((itr (F36w32l0) ((119 - p0.length % 64) % 64) (p0.length + 1, p0 ++ [128])).1) + 8) (itr (F36w32l1 p0) 8 (((itr (F36w32l0) ((119 - p0.length % 64) % 64) (p0.length + 1, p0 ++ [128])).2) ++ (List.replicate 8 0)))), (144, .ints .i64 12 [7, 18, 3, 17, 19, 10, 6, 11, 25, 2, 13, 22])]) 1488 (t1 (pv pT (pl (show (iAdd .i64 ((k4 : Nat) : Int) 1) = ((k4 + 1 : Nat) : Int) from iAdd_nat (a := k4) (b := 1) (by omega))) (t1 pT))) ?_
 repeat (refine blkP_normal ?_)
 refine countP_normal (by omega) trivial ?_
 exact sp [(1024, 1024), (864, 864), (816, 816), (640, 640), (144, 144)] [17, 16, 15, 13, 12, 9, 8, 6, 5, 7, 1]
 have h5' := of_decide_eq_false h5
 refine Tri.exit ?_
 have hend4 : k4 = 64 := by (have := of_decide_eq_false h5; omega)
 subst hend4; subst hz4
 change Tri _ _ _ _ _ _
 refine Tri.seq ?_
 refine sq [] none [18, 16, 15, 13, 12, 9, 8, 6, 5, 7, 1] [1024, 864, 816, 640, 144] ([(18, .sc (.i .i64 16)), (16, .sc (.p 1024 0)), (15, .sc (.i .i64 ((64 * k3 : Nat) : Int))), (13, .sc (.p 864 0)), (12, .sc (.p 816 0)), (9, .sc (.sl 640 0 (((itr (F36w32l0) ((119 - p0.length % 64) % 64) (p0.length + 1, p0 ++ [128])).1) + 8) 1 none)), (8, .sc (.i .i64 64)), (6, .sc (.i .u64 4294967295)), (5, .sc (.i .i64 64)), (7, .sc (.p 144 0)), (1, .sc (.i .i64 32))], [(1024, .ints .u64 80 (itr (F36w32l4 p0 k3) 64 [0, 0, 0, 0, 0, 0, 0, 0, 0, 0, 0, 0, 0, 0, 0, 0, 0, 0, 0, 0, 0, 0, 0, 0, 0, 0, 0, 0, 0, 0, 0, 0, 0, 0, 0, 0, 0, 0, 0, 0, 0, 0, 0, 0, 0, 0, 0, 0, 0, 0, 0, 0, 0, 0, 0, 0, 0, 0, 0, 0, 0, 0, 0, 0, 0, 0, 0, 0, 0, 0, 0, 0, 0, 0, 0, 0, 0, 0, 0, 0])), (864, .ints .u64 80 (F53)), (816, .ints .u64 8 z3), (640, .ints .u8 (((itr (F36w32l0) ((119 - p0.length % 64) % 64) (p0.length + 1, p0 ++ [128])).1) + 8) (itr (F36w32l1 p0) 8 (((itr (F36w32l0) ((119 - p0.length % 64) % 64) (p0.length + 1, p0 ++ [128])).2) ++ (List.replicate 8 0)))), (144, .ints .i64 12 [7, 18, 3, 17, 19, 10, 6, 11, 25, 2, 13, 22])]) 1120 (t1 pT) ?_
 refine Tri.block ?_
 refine Tri.count 1120 48 (F36w32l5) (itr (F36w32l4 p0 k3) 64 [0, 0, 0, 0, 0, 0, 0, 0, 0, 0, 0, 0, 0, 0, 0, 0, 0, 0, 0, 0, 0, 0, 0, 0, 0, 0, 0, 0, 0, 0, 0, 0, 0, 0, 0, 0, 0, 0, 0, 0, 0, 0, 0, 0, 0, 0, 0, 0, 0, 0, 0, 0, 0, 0, 0, 0, 0, 0, 0, 0, 0, 0, 0, 0, 0, 0, 0, 0, 0, 0, 0, 0, 0, 0, 0, 0, 0, 0, 0, 0]) (fun k5 z5 => True) (fun k5 z5 => ([(18, .sc (.i .i64 ((k5 + 16 : Nat) : Int))), (16, .sc (.p 1024 0)), (15, .sc (.i .i64 ((64 * k3 : Nat) : Int))), (13, .sc (.p 864 0)), (12, .sc (.p 816 0)), (9, .sc (.sl 640 0 (((itr (F36w32l0) ((119 - p0.length % 64) % 64) (p0.length + 1, p0 ++ [128])).1) + 8) 1 none)), (8, .sc (.i .i64 64)), (6, .sc (.i .u64 4294967295)), (5, .sc (.i .i64 64)), (7, .sc (.p 144 0)), (1, .sc (.i .i64 32))], [(1024, .ints .u64 80 z5), (864, .ints .u64 80 (F53)), (816, .ints .u64 8 z3), (640, .ints .u8 (((itr (F36w32l0) ((119 - p0.length % 64) % 64) (p0.length + 1, p0 ++ [128])).1) + 8) (itr (F36w32l1 p0) 8 (((itr (F36w32l0) ((119 - p0.length % 64) % 64) (p0.length + 1, p0 ++ [128])).2) ++ (List.replicate 8 0)))), (144, .ints .i64 12 [7, 18, 3, 17, 19, 10, 6, 11, 25, 2, 13, 22])])) trivial (Sub.of_eq (by kernel_rfl)) ?_
 intro k5 z5 hk5 hz5 hJ5
 refine Tri.seq ?_
 refine sq [] none [128, 18, 16, 15, 13, 12, 9, 8, 6, 5, 7, 1] [1024, 864, 816, 640, 144] ([(128, .sc (.b (decide ((((k5 + 16 : Nat) : Int) : Int) < 64)))), (18, .sc (.i .i64 ((k5 + 16 : Nat) : Int))), (16, .sc (.p 1024 0)), (15, .sc (.i .i64 ((64 * k3 : Nat) : Int))), (13, .sc (.p 864 0)), (12, .sc (.p 816 0)), (9, .sc (.sl 640 0 (((itr (F36w32l0) ((119 - p0.length % 64) % 64) (p0.length + 1, p0 ++ [128])).1) + 8) 1 none)), (8, .sc (.i .i64 64)), (6, .sc (.i .u64 4294967295)), (5, .sc (.i .i64 64)), (7, .sc (.p 144 0)), (1, .sc (.i .i64 32))], [(1024, .ints .u64 80 z5), (864, .ints .u64 80 (F53)), (816, .ints .u64 8 z3), (640, .ints .u8 (((itr (F36w32l0) ((119 - p0.length % 64) % 64) (p0.length + 1, p0 ++ [128])).1) + 8) (itr (F36w32l1 p0) 8 (((itr (F36w32l0) ((119 - p0.length % 64) % 64) (p0.length + 1, p0 ++ [128])).2) ++ (List.replicate 8 0)))), (144, .ints .i64 12 [7, 18, 3, 17, 19, 10, 6, 11, 25, 2, 13, 22])]) 1168 (t3 pT) ?_
 refine Tri.cond (x := (decide ((((k5 + 16 : Nat) : Int) : Int) < 64))) (by kernel_rfl) (fun h6 => ?_) (fun h6 => ?_)
 have h6' := of_decide_eq_true h6
 refine Tri.skip ?_
 change Tri _ _ _ _ _ _
 refine Tri.seq ?_
 refine Tri.block ?_
 refine rq [(133, qi (((k5 + 16) - 16 : Nat) : Int)), (137, qi (((k5 + 16) - 7 : Nat) : Int)), (142, qi (((k5 + 16) - 15 : Nat) : Int)), (151, qi (((k5 + 16) - 2 : Nat) : Int))] (some [0, 0, 2, 6, 14, 0, 32, 96, 224, 510, 0, 1024, 3072, 7168, 0, 16384, 0, 130048, 262142, 0, 524288, 1572864, 3670016, 0, 8388608, 0, 66845696, 134217726, 0, 536870910, 1073741823, 2147483647]) [18, 16, 15, 13, 12, 9, 8, 6, 5, 7, 1] [1024, 864, 816, 640, 144] ([(18, .sc (.i .i64 ((k5 + 16 : Nat) : Int))), (16, .sc (.p 1024 0)), (15, .sc (.i .i64 ((64 * k3 : Nat) : Int))), (13, .sc (.p 864 0)), (12, .sc (.p 816 0)), (9, .sc (.sl 640 0 (((itr (F36w32l0) ((119 - p0.length % 64) % 64) (p0.length + 1, p0 ++ [128])).1) + 8) 1 none)), (8, .sc (.i .i64 64)), (6, .sc (.i .u64 4294967295)), (5, .sc (.i .i64 64)), (7, .sc (.p 144 0)), (1, .sc (.i .i64 32))], [(1024, .ints .u64 80 (z5.set (k5 + 16) (iAnd .u64 (iAdd .u64 (iAdd .u64 (iAdd .u64 (z5.getD ((k5 + 16) - 16) 0) (z5.getD ((k5 + 16) - 7) 0)) (F54w32 (z5.getD ((k5 + 16) - 15) 0) [7, 18, 3] true)) (F54w32 (z5.getD ((k5 + 16) - 2) 0) [17, 19, 10] true)) 4294967295))), (864, .ints .u64 80 (F53)), (816, .ints .u64 8 z3), (640, .ints .u8 (((itr (F36w32l0) ((119 - p0.length % 64) % 64) (p0.length + 1, p0 ++ [128])).1) + 8) (itr (F36w32l1 p0) 8 (((itr (F36w32l0) ((119 - p0.length % 64) % 64) (p0.length + 1, p0 ++ [128])).2) ++ (List.replicate 8 0)))), (144, .ints .i64 12 [7, 18, 3, 17, 19, 10, 6, 11, 25, 2, 13, 22])]) 1680 (t2 (pv pT (pl (show (iSub .i64 ((k5 + 16 : Nat) : Int) 16) = (((k5 + 16) - 16 : Nat) : Int) from iSub_nat (a := k5 + 16) (b := 16) (by omega) (by omega))) (pu (lo ((0 : Int) ≤ (((k5 + 16) - 16 : Nat) : Int) ∧ (((k5 + 16) - 16 : Nat) : Int) < ((80 : Nat) : Int))) (pu (lo ((k5 + 16) - 16 < 80)) (t1 (pv pT (pl (show (iSub .i64 ((k5 + 16 : Nat) : Int) 7) = (((k5 + 16) - 7 : Nat) : Int) from iSub_nat (a := k5 + 16) (b := 7) (by omega) (by omega))) (pu (lo ((0 : Int) ≤ (((k5 + 16) - 7 : Nat) : Int) ∧ (((k5 + 16) - 7 : Nat) : Int) < ((80 : Nat) : Int))) (pu (lo ((k5 + 16) - 7 < 80)) (t2 (pv pT (pl (show (iSub .i64 ((k5 + 16 : Nat) : Int) 15) = (((k5 + 16) - 15 : Nat) : Int) from iSub_nat (a := k5 + 16) (b := 15) (by omega) (by omega))) (pu (lo ((0 : Int) ≤ (((k5 + 16) - 15 : Nat) : Int) ∧ (((k5 + 16) - 15 : Nat) : Int) < ((80 : Nat) : Int))) (pu (lo ((k5 + 16) - 15 < 80)) (pu (lo ((0 : Int) ≤ 0 ∧ 0 < ((4 : Nat) : Int))) (pu (lo (0 + 3 ≤ 12)) (t1 (pu (pa pT (pa (lr ((32 : Int) = (32 : Int))) (pl (show turns 32 [7, 18, 3] from by unfold turns; decide)))) (t2 (pv pT (pl (show (iSub .i64 ((k5 + 16 : Nat) : Int) 2) = (((k5 + 16) - 2 : Nat) : Int) from iSub_nat (a := k5 + 16) (b := 2) (by omega) (by omega))) (pu (lo ((0 : Int) ≤ (((k5 + 16) - 2 : Nat) : Int) ∧ (((k5 + 16) - 2 : Nat) : Int) < ((80 : Nat) : Int))) (pu (lo ((k5 + 16) - 2 < 80)) (pu (lo ((0 : Int) ≤ 1 ∧ 1 < ((4 : Nat) : Int))) (pu (lo (3 + 3 ≤ 12)) (t1 (pu (pa pT (pa (lr ((32 : Int) = (32 : Int))) (pl (show turns 32 [17, 19, 10] from by unfold turns; decide)))) (t3 (pu (lo ((0 : Int) ≤ ((k5 + 16 : Nat) : Int) ∧ ((k5 + 16 : Nat) : Int) < ((80 : Nat) : Int))) (pu (pa (lo (k5 + 16 < 80)) (lr (1 = 1))) pT))))))))))))))))))))))))))) ?_
 change Tri _ _ _ _ _ _
 refine rq [(130, qi (((k5 + 16) + 1 : Nat) : Int))] none [18, 16, 15, 13, 12, 9, 8, 6, 5, 7, 1] [1024, 864, 816, 640, 144] ([(18, .sc (.i .i64 (((k5 + 16) + 1 : Nat) : Int))), (16, .sc (.p 1024 0)), (15, .sc (.i .i64 ((64 * k3 : Nat) : Int))), (13, .sc (.p 864 0)), (12, .sc (.p 816 0)), (9, .sc (.sl 640 0 (((itr (F36w32l0) ((119 - p0.length % 64) % 64) (p0.length + 1, p0 ++ [128])).1) + 8) 1 none)), (8, .sc (.i .i64 64)), (6, .sc (.i .u64 4294967295)), (5, .sc (.i .i64 64)), (7, .sc (.p 144 0)), (1, .sc (.i .i64 32))], [(1024, .ints .u64 80 (z5.set (k5 + 16) (iAnd .u64 (iAdd .u64 (iAdd .u64 (iAdd .u64 (z5.getD ((k5 + 16) - 16) 0) (z5.getD ((k5 + 16) - 7) 0)) (F54w32 (z5.getD ((k5 + 16) - 15) 0) [7, 18, 3] true)) (F54w32 (z5.getD ((k5 + 16) - 2) 0) [17, 19, 10] true)) 4294967295))), (864, .ints .u64 80 (F53)), (816, .ints .u64 8 z3), (640, .ints .u8 (((itr (F36w32l0) ((119 - p0.length % 64) % 64) (p0.length + 1, p0 ++ [128])).1) + 8) (itr (F36w32l1 p0) 8 (((itr (F36w32l0) ((119 - p0.length % 64) % 64) (p0.length + 1, p0 ++ [128])).2) ++ (List.replicate 8 0)))), (144, .ints .i64 12 [7, 18, 3, 17, 19, 10, 6, 11, 25, 2, 13, 22])]) 1728 (t1 (pv pT (pl (show (iAdd .i64 ((k5 + 16 : Nat) : Int) 1) = (((k5 + 16) + 1 : Nat) : Int) from iAdd_nat (a := k5 + 16) (b := 1) (by omega))) (t1 pT))) ?_
 repeat (refine blkP_normal ?_)
 refine countP_normal (by omega) trivial ?_
 exact sp [(1024, 1024), (864, 864), (816, 816), (640, 640), (144, 144)] [18, 16, 15, 13, 12, 9, 8, 6, 5, 7, 1]
 have h6' := of_decide_eq_false h6
 refine Tri.exit ?_
 have hend5 : k5 = 48 := by (have := of_decide_eq_false h6; omega)
 subst hend5; subst hz5
 change Tri _ _ _ _ _ _
 refine sq [] none [19, 16, 15, 13, 12, 9, 8, 6, 5, 7, 1] [1184, 1024, 864, 816, 640, 144] ([(19, .sc (.p 1184 0)), (16, .sc (.p 1024 0)), (15, .sc (.i .i64 ((64 * k3 : Nat) : Int))), (13, .sc (.p 864 0)), (12, .sc (.p 816 0)), (9, .sc (.sl 640 0 (((itr (F36w32l0) ((119 - p0.length % 64) % 64) (p0.length + 1, p0 ++ [128])).1) + 8) 1 none)), (8, .sc (.i .i64 64)), (6, .sc (.i .u64 4294967295)), (5, .sc (.i .i64 64)), (7, .sc (.p 144 0)), (1, .sc (.i .i64 32))], [(1184, .ints .u64 8 z3), (1024, .ints .u64 80 (itr (F36w32l5) 48 (itr (F36w32l4 p0 k3) 64 [0, 0, 0, 0, 0, 0, 0, 0, 0, 0, 0, 0, 0, 0, 0, 0, 0, 0, 0, 0, 0, 0, 0, 0, 0, 0, 0, 0, 0, 0, 0, 0, 0, 0, 0, 0, 0, 0, 0, 0, 0, 0, 0, 0, 0, 0, 0, 0, 0, 0, 0, 0, 0, 0, 0, 0, 0, 0, 0, 0, 0, 0, 0, 0, 0, 0, 0, 0, 0, 0, 0, 0, 0, 0, 0, 0, 0, 0, 0, 0]))), (864, .ints .u64 80 (F53)), (816, .ints .u64 8 z3), (640, .ints .u8 (((itr (F36w32l0) ((119 - p0.length % 64) % 64) (p0.length + 1, p0 ++ [128])).1) + 8) (itr (F36w32l1 p0) 8 (((itr (F36w32l0) ((119 - p0.length % 64) % 64) (p0.length + 1, p0 ++ [128])).2) ++ (List.replicate 8 0)))), (144, .ints .i64 12 [7, 18, 3, 17, 19, 10, 6, 11, 25, 2, 13, 22])]) 1216 (t2 (pu (pa pT (lr (8 = 8))) pT)) ?_
 refine Tri.seq ?_
 refine sq [] none [20, 19, 16, 15, 13, 12, 9, 8, 6, 5, 7, 1] [1184, 1024, 864, 816, 640, 144] ([(20, .sc (.i .i64 0)), (19, .sc (.p 1184 0)), (16, .sc (.p 1024 0)), (15, .sc (.i .i64 ((64 * k3 : Nat) : Int))), (13, .sc (.p 864 0)), (12, .sc (.p 816 0)), (9, .sc (.sl 640 0 (((itr (F36w32l0) ((119 - p0.length % 64) % 64) (p0.length + 1, p0 ++ [128])).1) + 8) 1 none)), (8, .sc (.i .i64 64)), (6, .sc (.i .u64 4294967295)), (5, .sc (.i .i64 64)), (7, .sc (.p 144 0)), (1, .sc (.i .i64 32))], [(1184, .ints .u64 8 z3), (1024, .ints .u64 80 (itr (F36w32l5) 48 (itr (F36w32l4 p0 k3) 64 [0, 0, 0, 0, 0, 0, 0, 0, 0, 0, 0, 0, 0, 0, 0, 0, 0, 0, 0, 0, 0, 0, 0, 0, 0, 0, 0, 0, 0, 0, 0, 0, 0, 0, 0, 0, 0, 0, 0, 0, 0, 0, 0, 0, 0, 0, 0, 0, 0, 0, 0, 0, 0, 0, 0, 0, 0, 0, 0, 0, 0, 0, 0, 0, 0, 0, 0, 0, 0, 0, 0, 0, 0, 0, 0, 0, 0, 0, 0, 0]))), (864, .ints .u64 80 (F53)), (816, .ints .u64 8 z3), (640, .ints .u8 (((itr (F36w32l0) ((119 - p0.length % 64) % 64) (p0.length + 1, p0 ++ [128])).1) + 8) (itr (F36w32l1 p0) 8 (((itr (F36w32l0) ((119 - p0.length % 64) % 64) (p0.length + 1, p0 ++ [128])).2) ++ (List.replicate 8 0)))), (144, .ints .i64 12 [7, 18, 3, 17, 19, 10, 6, 11, 25, 2, 13, 22])]) 1232 (t1 pT) ?_
 refine Tri.block ?_
 refine Tri.count 1232 64 (F36w32l6 p0 k3) z3 (fun k6 z6 => True) (fun k6 z6 => ([(20, .sc (.i .i64 ((k6 : Nat) : Int))), (19, .sc (.p 1184 0)), (16, .sc (.p 1024 0)), (15, .sc (.i .i64 ((64 * k3 : Nat) : Int))), (13, .sc (.p 864 0)), (12, .sc (.p 816 0)), (9, .sc (.sl 640 0 (((itr (F36w32l0) ((119 - p0.length % 64) % 64) (p0.length + 1, p0 ++ [128])).1) + 8) 1 none)), (8, .sc (.i .i64 64)), (6, .sc (.i .u64 4294967295)), (5, .sc (.i .i64 64)), (7, .sc (.p 144 0)), (1, .sc (.i .i64 32))], [(1184, .ints .u64 8 z6), (1024, .ints .u64 80 (itr (F36w32l5) 48 (itr (F36w32l4 p0 k3) 64 [0, 0, 0, 0, 0, 0, 0, 0, 0, 0, 0, 0, 0, 0, 0, 0, 0, 0, 0, 0, 0, 0, 0, 0, 0, 0, 0, 0, 0, 0, 0, 0, 0, 0, 0, 0, 0, 0, 0, 0, 0, 0, 0, 0, 0, 0, 0, 0, 0, 0, 0, 0, 0, 0, 0, 0, 0, 0, 0, 0, 0, 0, 0, 0, 0, 0, 0, 0, 0, 0, 0, 0, 0, 0, 0, 0, 0, 0, 0, 0]))), (864, .ints .u64 80 (F53)), (816, .ints .u64 8 z3), (640, .ints .u8 (((itr (F36w32l0) ((119 - p0.length % 64) % 64) (p0.length + 1, p0 ++ [128])).1) + 8) (itr (F36w32l1 p0) 8 (((itr (F36w32l0) ((119 - p0.length % 64) % 64) (p0.length + 1, p0 ++ [128])).2) ++ (List.replicate 8 0)))), (144, .ints .i64 12 [7, 18, 3, 17, 19, 10, 6, 11, 25, 2, 13, 22])])) trivial (Sub.of_eq (by kernel_rfl)) ?_
 intro k6 z6 hk6 hz6 hJ6
 refine Tri.seq ?_
 refine sq [] none [165, 20, 19, 16, 15, 13, 12, 9, 8, 6, 5, 7, 1] [1184, 1024, 864, 816, 640, 144] ([(165, .sc (.b (decide ((((k6 : Nat) : Int) : Int) < 64)))), (20, .sc (.i .i64 ((k6 : Nat) : Int))), (19, .sc (.p 1184 0)), (16, .sc (.p 1024 0)), (15, .sc (.i .i64 ((64 * k3 : Nat) : Int))), (13, .sc (.p 864 0)), (12, .sc (.p 816 0)), (9, .sc (.sl 640 0 (((itr (F36w32l0) ((119 - p0.length % 64) % 64) (p0.length + 1, p0 ++ [128])).1) + 8) 1 none)), (8, .sc (.i .i64 64)), (6, .sc (.i .u64 4294967295)), (5, .sc (.i .i64 64)), (7, .sc (.p 144 0)), (1, .sc (.i .i64 32))], [(1184, .ints .u64 8 z6), (1024, .ints .u64 80 (itr (F36w32l5) 48 (itr (F36w32l4 p0 k3) 64 [0, 0, 0, 0, 0, 0, 0, 0, 0, 0, 0, 0, 0, 0, 0, 0, 0, 0, 0, 0, 0, 0, 0, 0, 0, 0, 0, 0, 0, 0, 0, 0, 0, 0, 0, 0, 0, 0, 0, 0, 0, 0, 0, 0, 0, 0, 0, 0, 0, 0, 0, 0, 0, 0, 0, 0, 0, 0, 0, 0, 0, 0, 0, 0, 0, 0, 0, 0, 0, 0, 0, 0, 0, 0, 0, 0, 0, 0, 0, 0]))), (864, .ints .u64 80 (F53)), (816, .ints .u64 8 z3), (640, .ints .u8 (((itr (F36w32l0) ((119 - p0.length % 64) % 64) (p0.length + 1, p0 ++ [128])).1) + 8) (itr (F36w32l1 p0) 8 (((itr (F36w32l0) ((119 - p0.length % 64) % 64) (p0.length + 1, p0 ++ [128])).2) ++ (List.replicate 8 0)))), (144, .ints .i64 12 [7, 18, 3, 17, 19, 10, 6, 11, 25, 2, 13, 22])]) 1280 (t3 pT) ?_
 refine Tri.cond (x := (decide ((((k6 : Nat) : Int) : Int) < 64))) (by kernel_rfl) (fun h7 => ?_) (fun h7 => ?_)
 have h7' := of_decide_eq_true h7
 refine Tri.skip ?_
 change Tri _ _ _ _ _ _
 refine Tri.seq ?_
 refine Tri.block ?_
 refine sq [] none [21, 20, 19, 16, 15, 13, 12, 9, 8, 6, 5, 7, 1] [1184, 1024, 864, 816, 640, 144] ([(21, .sc (.i .u64 (iOr .u64 (iAnd .u64 (z6.getD 4 0) (z6.getD 5 0)) (iAnd .u64 (iXor .u64 4294967295 (z6.getD 4 0)) (z6.getD 6 0))))), (20, .sc (.i .i64 ((k6 : Nat) : Int))), (19, .sc (.p 1184 0)), (16, .sc (.p 1024 0)), (15, .sc (.i .i64 ((64 * k3 : Nat) : Int))), (13, .sc (.p 864 0)), (12, .sc (.p 816 0)), (9, .sc (.sl 640 0 (((itr (F36w32l0) ((119 - p0.length % 64) % 64) (p0.length + 1, p0 ++ [128])).1) + 8) 1 none)), (8, .sc (.i .i64 64)), (6, .sc (.i .u64 4294967295)), (5, .sc (.i .i64 64)), (7, .sc (.p 144 0)), (1, .sc (.i .i64 32))], [(1184, .ints .u64 8 z6), (1024, .ints .u64 80 (itr (F36w32l5) 48 (itr (F36w32l4 p0 k3) 64 [0, 0, 0, 0, 0, 0, 0, 0, 0, 0, 0, 0, 0, 0, 0, 0, 0, 0, 0, 0, 0, 0, 0, 0, 0, 0, 0, 0, 0, 0, 0, 0, 0, 0, 0, 0, 0, 0, 0, 0, 0, 0, 0, 0, 0, 0, 0, 0, 0, 0, 0, 0, 0, 0, 0, 0, 0, 0, 0, 0, 0, 0, 0, 0, 0, 0, 0, 0, 0, 0, 0, 0, 0, 0, 0, 0, 0, 0, 0, 0]))), (864, .ints .u64 80 (F53)), (816, .ints .u64 8 z3), (640, .ints .u8 (((itr (F36w32l0) ((119 - p0.length % 64) % 64) (p0.length + 1, p0 ++ [128])).1) + 8) (itr (F36w32l1 p0) 8 (((itr (F36w32l0) ((119 - p0.length % 64) % 64) (p0.length + 1, p0 ++ [128])).2) ++ (List.replicate 8 0)))), (144, .ints .i64 12 [7, 18, 3, 17, 19, 10, 6, 11, 25, 2, 13, 22])]) 1504 (pu (lo ((0 : Int) ≤ 4 ∧ 4 < ((8 : Nat) : Int))) (pu (lo (4 < 8)) (pu (lo ((0 : Int) ≤ 5 ∧ 5 < ((8 : Nat) : Int))) (pu (lo (5 < 8)) (t2 (pu (lo ((0 : Int) ≤ 4 ∧ 4 < ((8 : Nat) : Int))) (pu (lo (4 < 8)) (t1 (pu (lo ((0 : Int) ≤ 6 ∧ 6 < ((8 : Nat) : Int))) (pu (lo (6 < 8)) (t3 pT))))))))))) ?_
 refine sq [] (some [0, 1, 0, 4, 0, 16, 0, 124, 255, 0, 1023, 0, 2048, 6144, 0, 16384, 63488, 131071, 0, 262144, 786432, 2097151, 0, 8388607, 16777215]) [22, 20, 19, 16, 15, 13, 12, 9, 8, 6, 5, 7, 1] [1184, 1024, 864, 816, 640, 144] ([(22, .sc (.i .u64 (iAnd .u64 (iAdd .u64 (iAdd .u64 (iAdd .u64 (iAdd .u64 (z6.getD 7 0) (F54w32 (z6.getD 4 0) [6, 11, 25] false)) (iOr .u64 (iAnd .u64 (z6.getD 4 0) (z6.getD 5 0)) (iAnd .u64 (iXor .u64 4294967295 (z6.getD 4 0)) (z6.getD 6 0)))) (iShr .u64 ((F53).getD k6 0) 32)) ((itr (F36w32l5) 48 (itr (F36w32l4 p0 k3) 64 [0, 0, 0, 0, 0, 0, 0, 0, 0, 0, 0, 0, 0, 0, 0, 0, 0, 0, 0, 0, 0, 0, 0, 0, 0, 0, 0, 0, 0, 0, 0, 0, 0, 0, 0, 0, 0, 0, 0, 0, 0, 0, 0, 0, 0, 0, 0, 0, 0, 0, 0, 0, 0, 0, 0, 0, 0, 0, 0, 0, 0, 0, 0, 0, 0, 0, 0, 0, 0, 0, 0, 0, 0, 0, 0, 0, 0, 0, 0, 0])).getD k6 0)) 4294967295))), (20, .sc (.i .i64 ((k6 : Nat) : Int))), (19, .sc (.p 1184 0)), (16, .sc (.p 1024 0)), (15, .sc (.i .i64 ((64 * k3 : Nat) : Int))), (13, .sc (.p 864 0)), (12, .sc (.p 816 0)), (9, .sc (.sl 640 0 (((itr (F36w32l0) ((119 - p0.length % 64) % 64) (p0.length + 1, p0 ++ [128])).1) + 8) 1 none)), (8, .sc (.i .i64 64)), (6, .sc (.i .u64 4294967295)), (5, .sc (.i .i64 64)), (7, .sc (.p 144 0)), (1, .sc (.i .i64 32))], [(1184, .ints .u64 8 z6), (1024, .ints .u64 80 (itr (F36w32l5) 48 (itr (F36w32l4 p0 k3) 64 [0, 0, 0, 0, 0, 0, 0, 0, 0, 0, 0, 0, 0, 0, 0, 0, 0, 0, 0, 0, 0, 0, 0, 0, 0, 0, 0, 0, 0, 0, 0, 0, 0, 0, 0, 0, 0, 0, 0, 0, 0, 0, 0, 0, 0, 0, 0, 0, 0, 0, 0, 0, 0, 0, 0, 0, 0, 0, 0, 0, 0, 0, 0, 0, 0, 0, 0, 0, 0, 0, 0, 0, 0, 0, 0, 0, 0, 0, 0, 0]))), (864, .ints .u64 80 (F53)), (816, .ints .u64 8 z3), (640, .ints .u8 (((itr (F36w32l0) ((119 - p0.length % 64) % 64) (p0.length + 1, p0 ++ [128])).1) + 8) (itr (F36w32l1 p0) 8 (((itr (F36w32l0) ((119 - p0.length % 64) % 64) (p0.length + 1, p0 ++ [128])).2) ++ (List.replicate 8 0)))), (144, .ints .i64 12 [7, 18, 3, 17, 19, 10, 6, 11, 25, 2, 13, 22])]) 1904 (pu (lo ((0 : Int) ≤ 7 ∧ 7 < ((8 : Nat) : Int))) (pu (lo (7 < 8)) (pu (lo ((0 : Int) ≤ 4 ∧ 4 < ((8 : Nat) : Int))) (pu (lo (4 < 8)) (pu (lo ((0 : Int) ≤ 2 ∧ 2 < ((4 : Nat) : Int))) (pu (lo (6 + 3 ≤ 12)) (t1 (pu (pa pT (pa (lr ((32 : Int) = (32 : Int))) (pl (show turns 32 [6, 11, 25] from by unfold turns; decide)))) (t4 (pu (lo ((0 : Int) ≤ ((k6 : Nat) : Int) ∧ ((k6 : Nat) : Int) < ((80 : Nat) : Int))) (pu (lo (k6 < 80)) (t2 (pu (lo ((0 : Int) ≤ 32)) (t2 (pu (lo ((0 : Int) ≤ ((k6 : Nat) : Int) ∧ ((k6 : Nat) : Int) < ((80 : Nat) : Int))) (pu (lo (k6 < 80)) (t4 pT))))))))))))))))) ?_
 refine sq [] (some [0, 1, 0, 4, 0, 31, 0, 64, 0, 256, 960, 0, 2048, 0, 8192, 30720, 65472, 0, 131072, 0, 524288, 1966080, 4194240, 8388607, 16777215]) [23, 22, 20, 19, 16, 15, 13, 12, 9, 8, 6, 5, 7, 1] [1184, 1024, 864, 816, 640, 144] ([(23, .sc (.i .u64 (iAdd .u64 (F54w32 (z6.getD 0 0) [2, 13, 22] false) (iOr .u64 (iOr .u64 (iAnd .u64 (z6.getD 0 0) (z6.getD 1 0)) (iAnd .u64 (z6.getD 1 0) (z6.getD 2 0))) (iAnd .u64 (z6.getD 0 0) (z6.getD 2 0)))))), (22, .sc (.i .u64 (iAnd .u64 (iAdd .u64 (iAdd .u64 (iAdd .u64 (iAdd .u64 (z6.getD 7 0) (F54w32 (z6.getD 4 0) [6, 11, 25] false)) (iOr .u64 (iAnd .u64 (z6.getD 4 0) (z6.getD 5 0)) (iAnd .u64 (iXor .u64 4294967295 (z6.getD 4 0)) (z6.getD 6 0)))) (iShr .u64 ((F53).getD k6 0) 32)) ((itr (F36w32l5) 48 (itr (F36w32l4 p0 k3) 64 [0, 0, 0, 0, 0, 0, 0, 0, 0, 0, 0, 0, 0, 0, 0, 0, 0, 0, 0, 0, 0, 0, 0, 0, 0, 0, 0, 0, 0, 0, 0, 0, 0, 0, 0, 0, 0, 0, 0, 0, 0, 0, 0, 0, 0, 0, 0, 0, 0, 0, 0, 0, 0, 0, 0, 0, 0, 0, 0, 0, 0, 0, 0, 0, 0, 0, 0, 0, 0, 0, 0, 0, 0, 0, 0, 0, 0, 0, 0, 0])).getD k6 0)) 4294967295))), (20, .sc (.i .i64 ((k6 : Nat) : Int))), (19, .sc (.p 1184 0)), (16, .sc (.p 1024 0)), (15, .sc (.i .i64 ((64 * k3 : Nat) : Int))), (13, .sc (.p 864 0)), (12, .sc (.p 816 0)), (9, .sc (.sl 640 0 (((itr (F36w32l0) ((119 - p0.length % 64) % 64) (p0.length + 1, p0 ++ [128])).1) + 8) 1 none)), (8, .sc (.i .i64 64)), (6, .sc (.i .u64 4294967295)), (5, .sc (.i .i64 64)), (7, .sc (.p 144 0)), (1, .sc (.i .i64 32))], [(1184, .ints .u64 8 z6), (1024, .ints .u64 80 (itr (F36w32l5) 48 (itr (F36w32l4 p0 k3) 64 [0, 0, 0, 0, 0, 0, 0, 0, 0, 0, 0, 0, 0, 0, 0, 0, 0, 0, 0, 0, 0, 0, 0, 0, 0, 0, 0, 0, 0, 0, 0, 0, 0, 0, 0, 0, 0, 0, 0, 0, 0, 0, 0, 0, 0, 0, 0, 0, 0, 0, 0, 0, 0, 0, 0, 0, 0, 0, 0, 0, 0, 0, 0, 0, 0, 0, 0, 0, 0, 0, 0, 0, 0, 0, 0, 0, 0, 0, 0, 0]))), (864, .ints .u64 80 (F53)), (816, .ints .u64 8 z3), (640, .ints .u8 (((itr (F36w32l0) ((119 - p0.length % 64) % 64) (p0.length + 1, p0 ++ [128])).1) + 8) (itr (F36w32l1 p0) 8 (((itr (F36w32l0) ((119 - p0.length % 64) % 64) (p0.length + 1, p0 ++ [128])).2) ++ (List.replicate 8 0)))), (144, .ints .i64 12 [7, 18, 3, 17, 19, 10, 6, 11, 25, 2, 13, 22])]) 2304 (pu (lo ((0 : Int) ≤ 0 ∧ 0 < ((8 : Nat) : Int))) (pu (lo (0 < 8)) (pu (lo ((0 : Int) ≤ 3 ∧ 3 < ((4 : Nat) : Int))) (pu (lo (9 + 3 ≤ 12)) (t1 (pu (pa pT (pa (lr ((32 : Int) = (32 : Int))) (pl (show turns 32 [2, 13, 22] from by unfold turns; decide)))) (pu (lo ((0 : Int) ≤ 0 ∧ 0 < ((8 : Nat) : Int))) (pu (lo (0 < 8)) (pu (lo ((0 : Int) ≤ 1 ∧ 1 < ((8 : Nat) : Int))) (pu (lo (1 < 8)) (t1 (pu (lo ((0 : Int) ≤ 1 ∧ 1 < ((8 : Nat) : Int))) (pu (lo (1 < 8)) (pu (lo ((0 : Int) ≤ 2 ∧ 2 < ((8 : Nat) : Int))) (pu (lo (2 < 8)) (t2 (pu (lo ((0 : Int) ≤ 0 ∧ 0 < ((8 : Nat) : Int))) (pu (lo (0 < 8)) (pu (lo ((0 : Int) ≤ 2 ∧ 2 < ((8 : Nat) : Int))) (pu (lo (2 < 8)) (t4 pT))))))))))))))))))))) ?_
 refine rq [] none [20, 19, 16, 15, 13, 12, 9, 8, 6, 5, 7, 1] [1184, 1024, 864, 816, 640, 144] ([(20, .sc (.i .i64 ((k6 : Nat) : Int))), (19, .sc (.p 1184 0)), (16, .sc (.p 1024 0)), (15, .sc (.i .i64 ((64 * k3 : Nat) : Int))), (13, .sc (.p 864 0)), (12, .sc (.p 816 0)), (9, .sc (.sl 640 0 (((itr (F36w32l0) ((119 - p0.length % 64) % 64) (p0.length + 1, p0 ++ [128])).1) + 8) 1 none)), (8, .sc (.i .i64 64)), (6, .sc (.i .u64 4294967295)), (5, .sc (.i .i64 64)), (7, .sc (.p 144 0)), (1, .sc (.i .i64 32))], [(1184, .ints .u64 8 ([(iAnd .u64 (iAdd .u64 (iAnd .u64 (iAdd .u64 (iAdd .u64 (iAdd .u64 (iAdd .u64 (z6.getD 7 0) (F54w32 (z6.getD 4 0) [6, 11, 25] false)) (iOr .u64 (iAnd .u64 (z6.getD 4 0) (z6.getD 5 0)) (iAnd .u64 (iXor .u64 4294967295 (z6.getD 4 0)) (z6.getD 6 0)))) (iShr .u64 ((F53).getD k6 0) 32)) ((itr (F36w32l5) 48 (itr (F36w32l4 p0 k3) 64 [0, 0, 0, 0, 0, 0, 0, 0, 0, 0, 0, 0, 0, 0, 0, 0, 0, 0, 0, 0, 0, 0, 0, 0, 0, 0, 0, 0, 0, 0, 0, 0, 0, 0, 0, 0, 0, 0, 0, 0, 0, 0, 0, 0, 0, 0, 0, 0, 0, 0, 0, 0, 0, 0, 0, 0, 0, 0, 0, 0, 0, 0, 0, 0, 0, 0, 0, 0, 0, 0, 0, 0, 0, 0, 0, 0, 0, 0, 0, 0])).getD k6 0)) 4294967295) (iAdd .u64 (F54w32 (z6.getD 0 0) [2, 13, 22] false) (iOr .u64 (iOr .u64 (iAnd .u64 (z6.getD 0 0) (z6.getD 1 0)) (iAnd .u64 (z6.getD 1 0) (z6.getD 2 0))) (iAnd .u64 (z6.getD 0 0) (z6.getD 2 0))))) 4294967295), z6.getD 0 0, z6.getD 1 0, z6.getD 2 0, (iAnd .u64 (iAdd .u64 (z6.getD 3 0) (iAnd .u64 (iAdd .u64 (iAdd .u64 (iAdd .u64 (iAdd .u64 (z6.getD 7 0) (F54w32 (z6.getD 4 0) [6, 11, 25] false)) (iOr .u64 (iAnd .u64 (z6.getD 4 0) (z6.getD 5 0)) (iAnd .u64 (iXor .u64 4294967295 (z6.getD 4 0)) (z6.getD 6 0)))) (iShr .u64 ((F53).getD k6 0) 32)) ((itr (F36w32l5) 48 (itr (F36w32l4 p0 k3) 64 [0, 0, 0, 0, 0, 0, 0, 0, 0, 0, 0, 0, 0, 0, 0, 0, 0, 0, 0, 0, 0, 0, 0, 0, 0, 0, 0, 0, 0, 0, 0, 0, 0, 0, 0, 0, 0, 0, 0, 0, 0, 0, 0, 0, 0, 0, 0, 0, 0, 0, 0, 0, 0, 0, 0, 0, 0, 0, 0, 0, 0, 0, 0, 0, 0, 0, 0, 0, 0, 0, 0, 0, 0, 0, 0, 0, 0, 0, 0, 0])).getD k6 0)) 4294967295)) 4294967295), z6.getD 4 0, z6.getD 5 0, z6.getD 6 0])), (1024, .ints .u64 80 (itr (F36w32l5) 48 (itr (F36w32l4 p0 k3) 64 [0, 0, 0, 0, 0, 0, 0, 0, 0, 0, 0, 0, 0, 0, 0, 0, 0, 0, 0, 0, 0, 0, 0, 0, 0, 0, 0, 0, 0, 0, 0, 0, 0, 0, 0, 0, 0, 0, 0, 0, 0, 0, 0, 0, 0, 0, 0, 0, 0, 0, 0, 0, 0, 0, 0, 0, 0, 0, 0, 0, 0, 0, 0, 0, 0, 0, 0, 0, 0, 0, 0, 0, 0, 0, 0, 0, 0, 0, 0, 0]))), (864, .ints .u64 80 (F53)), (816, .ints .u64 8 z3), (640, .ints .u8 (((itr (F36w32l0) ((119 - p0.length % 64) % 64) (p0.length + 1, p0 ++ [128])).1) + 8) (itr (F36w32l1 p0) 8 (((itr (F36w32l0) ((119 - p0.length % 64) % 64) (p0.length + 1, p0 ++ [128])).2) ++ (List.replicate 8 0)))), (144, .ints .i64 12 [7, 18, 3, 17, 19, 10, 6, 11, 25, 2, 13, 22])]) 2704 (t5 (pu (lo ((0 : Int) ≤ 0 ∧ 0 < ((8 : Nat) : Int))) (pu (lo (0 < 8)) (pu (lo ((0 : Int) ≤ 1 ∧ 1 < ((8 : Nat) : Int))) (pu (lo (1 < 8)) (pu (lo ((0 : Int) ≤ 2 ∧ 2 < ((8 : Nat) : Int))) (pu (lo (2 < 8)) (pu (lo ((0 : Int) ≤ 3 ∧ 3 < ((8 : Nat) : Int))) (pu (lo (3 < 8)) (t4 (pu (lo ((0 : Int) ≤ 4 ∧ 4 < ((8 : Nat) : Int))) (pu (lo (4 < 8)) (pu (lo ((0 : Int) ≤ 5 ∧ 5 < ((8 : Nat) : Int))) (pu (lo (5 < 8)) (pu (lo ((0 : Int) ≤ 6 ∧ 6 < ((8 : Nat) : Int))) (pu (lo (6 < 8)) (pu (pa (pa (lo (0 < 8)) (lr (1 = 1))) (pa (pa (lo (1 < 8)) (lr (1 = 1))) (pa (pa (lo (2 < 8)) (lr (1 = 1))) (pa (pa (lo (3 < 8)) (lr (1 = 1))) (pa (pa (lo (4 < 8)) (lr (1 = 1))) (pa (pa (lo (5 < 8)) (lr (1 = 1))) (pa (pa (lo (6 < 8)) (lr (1 = 1))) (pa (pa (lo (7 < 8)) (lr (1 = 1))) pT)))))))) (pu (pa pT (lr (8 = 8))) pT)))))))))))))))))) ?_
 change Tri _ _ _ _ _ _
 refine rq [(167, qi ((k6 + 1 : Nat) : Int))] none [20, 19, 16, 15, 13, 12, 9, 8, 6, 5, 7, 1] [1184, 1024, 864, 816, 640, 144] ([(20, .sc (.i .i64 ((k6 + 1 : Nat) : Int))), (19, .sc (.p 1184 0)), (16, .sc (.p 1024 0)), (15, .sc (.i .i64 ((64 * k3 : Nat) : Int))), (13, .sc (.p 864 0)), (12, .sc (.p 816 0)), (9, .sc (.sl 640 0 (((itr (F36w32l0) ((119 - p0.length % 64) % 64) (p0.length + 1, p0 ++ [128])).1) + 8) 1 none)), (8, .sc (.i .i64 64)), (6, .sc (.i .u64 4294967295)), (5, .sc (.i .i64 64)), (7, .sc (.p 144 0)), (1, .sc (.i .i64 32))], [(1184, .ints .u64 8 ([(iAnd .u64 (iAdd .u64 (iAnd .u64 (iAdd .u64 (iAdd .u64 (iAdd .u64 (iAdd .u64 (z6.getD 7 0) (F54w32 (z6.getD 4 0) [6, 11, 25] false)) (iOr .u64 (iAnd .u64 (z6.getD 4 0) (z6.getD 5 0)) (iAnd .u64 (iXor .u64 4294967295 (z6.getD 4 0)) (z6.getD 6 0)))) (iShr .u64 ((F53).getD k6 0) 32)) ((itr (F36w32l5) 48 (itr (F36w32l4 p0 k3) 64 [0, 0, 0, 0, 0, 0, 0, 0, 0, 0, 0, 0, 0, 0, 0, 0, 0, 0, 0, 0, 0, 0, 0, 0, 0, 0, 0, 0, 0, 0, 0, 0, 0, 0, 0, 0, 0, 0, 0, 0, 0, 0, 0, 0, 0, 0, 0, 0, 0, 0, 0, 0, 0, 0, 0, 0, 0, 0, 0, 0, 0, 0, 0, 0, 0, 0, 0, 0, 0, 0, 0, 0, 0, 0, 0, 0, 0, 0, 0, 0])).getD k6 0)) 4294967295) (iAdd .u64 (F54w32 (z6.getD 0 0) [2, 13, 22] false) (iOr .u64 (iOr .u64 (iAnd .u64 (z6.getD 0 0) (z6.getD 1 0)) (iAnd .u64 (z6.getD 1 0) (z6.getD 2 0))) (iAnd .u64 (z6.getD 0 0) (z6.getD 2 0))))) 4294967295), z6.getD 0 0, z6.getD 1 0, z6.getD 2 0, (iAnd .u64 (iAdd .u64 (z6.getD 3 0) (iAnd .u64 (iAdd .u64 (iAdd .u64 (iAdd .u64 (iAdd .u64 (z6.getD 7 0) (F54w32 (z6.getD 4 0) [6, 11, 25] false)) (iOr .u64 (iAnd .u64 (z6.getD 4 0) (z6.getD 5 0)) (iAnd .u64 (iXor .u64 4294967295 (z6.getD 4 0)) (z6.getD 6 0)))) (iShr .u64 ((F53).getD k6 0) 32)) ((itr (F36w32l5) 48 (itr (F36w32l4 p0 k3) 64 [0, 0, 0, 0, 0, 0, 0, 0, 0, 0, 0, 0, 0, 0, 0, 0, 0, 0, 0, 0, 0, 0, 0, 0, 0, 0, 0, 0, 0, 0, 0, 0, 0, 0, 0, 0, 0, 0, 0, 0, 0, 0, 0, 0, 0, 0, 0, 0, 0, 0, 0, 0, 0, 0, 0, 0, 0, 0, 0, 0, 0, 0, 0, 0, 0, 0, 0, 0, 0, 0, 0, 0, 0, 0, 0, 0, 0, 0, 0, 0])).getD k6 0)) 4294967295)) 4294967295), z6.getD 4 0, z6.getD 5 0, z6.getD 6 0])), (1024, .ints .u64 80 (itr (F36w32l5) 48 (itr (F36w32l4 p0 k3) 64 [0, 0, 0, 0, 0, 0, 0, 0, 0, 0, 0, 0, 0, 0, 0, 0, 0, 0, 0, 0, 0, 0, 0, 0, 0, 0, 0, 0, 0, 0, 0, 0, 0, 0, 0, 0, 0, 0, 0, 0, 0, 0, 0, 0, 0, 0, 0, 0, 0, 0, 0, 0, 0, 0, 0, 0, 0, 0, 0, 0, 0, 0, 0, 0, 0, 0, 0, 0, 0, 0, 0, 0, 0, 0, 0, 0, 0, 0, 0, 0]))), (864, .ints .u64 80 (F53)), (816, .ints .u64 8 z3), (640, .ints .u8 (((itr (F36w32l0) ((119 - p0.length % 64) % 64) (p0.length + 1, p0 ++ [128])).1) + 8) (itr (F36w32l1 p0) 8 (((itr (F36w32l0) ((119 - p0.length % 64) % 64) (p0.length + 1, p0 ++ [128])).2) ++ (List.replicate 8 0)))), (144, .ints .i64 12 [7, 18, 3, 17, 19, 10, 6, 11, 25, 2, 13, 22])]) 2752 (t1 (pv pT (pl (show (iAdd .i64 ((k6 : Nat) : Int) 1) = ((k6 + 1 : Nat) : Int) from iAdd_nat (a := k6) (b := 1) (by omega))) (t1 pT))) ?_
 repeat (refine blkP_normal ?_)
 refine countP_normal (by omega) trivial ?_
 exact sp [(1184, 1184), (1024, 1024), (864, 864), (816, 816), (640, 640), (144, 144)] [20, 19, 16, 15, 13, 12, 9, 8, 6, 5, 7, 1]
 have h7' := of_decide_eq_false h7
 refine Tri.exit ?_
 have hend6 : k6 = 64 := by (have := of_decide_eq_false h7; omega)
 subst hend6; subst hz6
 change Tri _ _ _ _ _ _
 refine sq [] none [24, 19, 15, 13, 12, 9, 8, 6, 5, 7, 1] [1184, 864, 816, 640, 144] ([(24, .sc (.i .i64 0)), (19, .sc (.p 1184 0)), (15, .sc (.i .i64 ((64 * k3 : Nat) : Int))), (13, .sc (.p 864 0)), (12, .sc (.p 816 0)), (9, .sc (.sl 640 0 (((itr (F36w32l0) ((119 - p0.length % 64) % 64) (p0.length + 1, p0 ++ [128])).1) + 8) 1 none)), (8, .sc (.i .i64 64)), (6, .sc (.i .u64 4294967295)), (5, .sc (.i .i64 64)), (7, .sc (.p 144 0)), (1, .sc (.i .i64 32))], [(1184, .ints .u64 8 (itr (F36w32l6 p0 k3) 64 z3)), (864, .ints .u64 80 (F53)), (816, .ints .u64 8 z3), (640, .ints .u8 (((itr (F36w32l0) ((119 - p0.length % 64) % 64) (p0.length + 1, p0 ++ [128])).1) + 8) (itr (F36w32l1 p0) 8 (((itr (F36w32l0) ((119 - p0.length % 64) % 64) (p0.length + 1, p0 ++ [128])).2) ++ (List.replicate 8 0)))), (144, .ints .i64 12 [7, 18, 3, 17, 19, 10, 6, 11, 25, 2, 13, 22])]) 1296 (t1 pT) ?_
 refine Tri.block ?_
 refine Tri.count 1296 8 (F36w32l7 p0 k3 z3) z3 (fun k7 z7 => True) (fun k7 z7 => ([(24, .sc (.i .i64 ((k7 : Nat) : Int))), (19, .sc (.p 1184 0)), (15, .sc (.i .i64 ((64 * k3 : Nat) : Int))), (13, .sc (.p 864 0)), (12, .sc (.p 816 0)), (9, .sc (.sl 640 0 (((itr (F36w32l0) ((119 - p0.length % 64) % 64) (p0.length + 1, p0 ++ [128])).1) + 8) 1 none)), (8, .sc (.i .i64 64)), (6, .sc (.i .u64 4294967295)), (5, .sc (.i .i64 64)), (7, .sc (.p 144 0)), (1, .sc (.i .i64 32))], [(1184, .ints .u64 8 (itr (F36w32l6 p0 k3) 64 z3)), (864, .ints .u64 80 (F53)), (816, .ints .u64 8 z7), (640, .ints .u8 (((itr (F36w32l0) ((119 - p0.length % 64) % 64) (p0.length + 1, p0 ++ [128])).1) + 8) (itr (F36w32l1 p0) 8 (((itr (F36w32l0) ((119 - p0.length % 64) % 64) (p0.length + 1, p0 ++ [128])).2) ++ (List.replicate 8 0)))), (144, .ints .i64 12 [7, 18, 3, 17, 19, 10, 6, 11, 25, 2, 13, 22])])) trivial (Sub.of_eq (by kernel_rfl)) ?_
 intro k7 z7 hk7 hz7 hJ7
 refine Tri.seq ?_
 refine sq [] none [254, 24, 19, 15, 13, 12, 9, 8, 6, 5, 7, 1] [1184, 864, 816, 640, 144] ([(254, .sc (.b (decide ((((k7 : Nat) : Int) : Int) < 8)))), (24, .sc (.i .i64 ((k7 : Nat) : Int))), (19, .sc (.p 1184 0)), (15, .sc (.i .i64 ((64 * k3 : Nat) : Int))), (13, .sc (.p 864 0)), (12, .sc (.p 816 0)), (9, .sc (.sl 640 0 (((itr (F36w32l0) ((119 - p0.length % 64) % 64) (p0.length + 1, p0 ++ [128])).1) + 8) 1 none)), (8, .sc (.i .i64 64)), (6, .sc (.i .u64 4294967295)), (5, .sc (.i .i64 64)), (7, .sc (.p 144 0)), (1, .sc (.i .i64 32))], [(1184, .ints .u64 8 (itr (F36w32l6 p0 k3) 64 z3)), (864, .ints .u64 80 (F53)), (816, .ints .u64 8 z7), (640, .ints .u8 (((itr (F36w32l0) ((119 - p0.length % 64) % 64) (p0.length + 1, p0 ++ [128])).1) + 8) (itr (F36w32l1 p0) 8 (((itr (F36w32l0) ((119 - p0.length % 64) % 64) (p0.length + 1, p0 ++ [128])).2) ++ (List.replicate 8 0)))), (144, .ints .i64 12 [7, 18, 3, 17, 19, 10, 6, 11, 25, 2, 13, 22])]) 1328 (t2 pT) ?_
 refine Tri.cond (x := (decide ((((k7 : Nat) : Int) : Int) < 8))) (by kernel_rfl) (fun h8 => ?_) (fun h8 => ?_)
 have h8' := of_decide_eq_true h8
 refine Tri.skip ?_
 change Tri _ _ _ _ _ _
 refine Tri.seq ?_
 refine Tri.block ?_
 refine rq [] (some [0, 0, 2, 6, 0, 16, 48, 126, 0, 510, 1023, 2047]) [24, 19, 15, 13, 12, 9, 8, 6, 5, 7, 1] [816, 1184, 864, 640, 144] ([(24, .sc (.i .i64 ((k7 : Nat) : Int))), (19, .sc (.p 1184 0)), (15, .sc (.i .i64 ((64 * k3 : Nat) : Int))), (13, .sc (.p 864 0)), (12, .sc (.p 816 0)), (9, .sc (.sl 640 0 (((itr (F36w32l0) ((119 - p0.length % 64) % 64) (p0.length + 1, p0 ++ [128])).1) + 8) 1 none)), (8, .sc (.i .i64 64)), (6, .sc (.i .u64 4294967295)), (5, .sc (.i .i64 64)), (7, .sc (.p 144 0)), (1, .sc (.i .i64 32))], [(816, .ints .u64 8 (z7.set k7 (iAnd .u64 (iAdd .u64 (z7.getD k7 0) ((itr (F36w32l6 p0 k3) 64 z3).getD k7 0)) 4294967295))), (1184, .ints .u64 8 (itr (F36w32l6 p0 k3) 64 z3)), (864, .ints .u64 80 (F53)), (640, .ints .u8 (((itr (F36w32l0) ((119 - p0.length % 64) % 64) (p0.length + 1, p0 ++ [128])).1) + 8) (itr (F36w32l1 p0) 8 (((itr (F36w32l0) ((119 - p0.length % 64) % 64) (p0.length + 1, p0 ++ [128])).2) ++ (List.replicate 8 0)))), (144, .ints .i64 12 [7, 18, 3, 17, 19, 10, 6, 11, 25, 2, 13, 22])]) 1520 (t2 (pu (lo ((0 : Int) ≤ ((k7 : Nat) : Int) ∧ ((k7 : Nat) : Int) < ((8 : Nat) : Int))) (pu (lo (k7 < 8)) (t1 (pu (lo ((0 : Int) ≤ ((k7 : Nat) : Int) ∧ ((k7 : Nat) : Int) < ((8 : Nat) : Int))) (pu (lo (k7 < 8)) (t3 (pu (lo ((0 : Int) ≤ ((k7 : Nat) : Int) ∧ ((k7 : Nat) : Int) < ((8 : Nat) : Int))) (pu (pa (lo (k7 < 8)) (lr (1 = 1))) pT))))))))) ?_
 change Tri _ _ _ _ _ _
 refine rq [(256, qi ((k7 + 1 : Nat) : Int))] none [24, 19, 15, 13, 12, 9, 8, 6, 5, 7, 1] [816, 1184, 864, 640, 144] ([(24, .sc (.i .i64 ((k7 + 1 : Nat) : Int))), (19, .sc (.p 1184 0)), (15, .sc (.i .i64 ((64 * k3 : Nat) : Int))), (13, .sc (.p 864 0)), (12, .sc (.p 816 0)), (9, .sc (.sl 640 0 (((itr (F36w32l0) ((119 - p0.length % 64) % 64) (p0.length + 1, p0 ++ [128])).1) + 8) 1 none)), (8, .sc (.i .i64 64)), (6, .sc (.i .u64 4294967295)), (5, .sc (.i .i64 64)), (7, .sc (.p 144 0)), (1, .sc (.i .i64 32))], [(816, .ints .u64 8 (z7.set k7 (iAnd .u64 (iAdd .u64 (z7.getD k7 0) ((itr (F36w32l6 p0 k3) 64 z3).getD k7 0)) 4294967295))), (1184, .ints .u64 8 (itr (F36w32l6 p0 k3) 64 z3)), (864, .ints .u64 80 (F53)), (640, .ints .u8 (((itr (F36w32l0) ((119 - p0.length % 64) % 64) (p0.length + 1, p0 ++ [128])).1) + 8) (itr (F36w32l1 p0) 8 (((itr (F36w32l0) ((119 - p0.length % 64) % 64) (p0.length + 1, p0 ++ [128])).2) ++ (List.replicate 8 0)))), (144, .ints .i64 12 [7, 18, 3, 17, 19, 10, 6, 11, 25, 2, 13, 22])]) 1568 (t1 (pv pT (pl (show (iAdd .i64 ((k7 : Nat) : Int) 1) = ((k7 + 1 : Nat) : Int) from iAdd_nat (a := k7) (b := 1) (by omega))) (t1 pT))) ?_
 repeat (refine blkP_normal ?_)
 refine countP_normal (by omega) trivial ?_
 exact sp [(1184, 1184), (864, 864), (816, 816), (640, 640), (144, 144)] [24, 19, 15, 13, 12, 9, 8, 6, 5, 7, 1]
 have h8' := of_decide_eq_false h8
 refine Tri.exit ?_
 have hend7 : k7 = 8 := by (have := of_decide_eq_false h8; omega)
 subst hend7; subst hz7
 change Tri _ _ _ _ _ _
 refine rq [(100, qi (((64 * k3) + 64 : Nat) : Int))] none [15, 13, 12, 9, 8, 6, 5, 7, 1] [864, 816, 640, 144] ([(15, .sc (.i .i64 (((64 * k3) + 64 : Nat) : Int))), (13, .sc (.p 864 0)), (12, .sc (.p 816 0)), (9, .sc (.sl 640 0 (((itr (F36w32l0) ((119 - p0.length % 64) % 64) (p0.length + 1, p0 ++ [128])).1) + 8) 1 none)), (8, .sc (.i .i64 64)), (6, .sc (.i .u64 4294967295)), (5, .sc (.i .i64 64)), (7, .sc (.p 144 0)), (1, .sc (.i .i64 32))], [(864, .ints .u64 80 (F53)), (816, .ints .u64 8 (itr (F36w32l7 p0 k3 z3) 8 z3)), (640, .ints .u8 (((itr (F36w32l0) ((119 - p0.length % 64) % 64) (p0.length + 1, p0 ++ [128])).1) + 8) (itr (F36w32l1 p0) 8 (((itr (F36w32l0) ((119 - p0.length % 64) % 64) (p0.length + 1, p0 ++ [128])).2) ++ (List.replicate 8 0)))), (144, .ints .i64 12 [7, 18, 3, 17, 19, 10, 6, 11, 25, 2, 13, 22])]) 1392 (t2 (pv pT (pl (show (iAdd .i64 ((64 * k3 : Nat) : Int) 64) = (((64 * k3) + 64 : Nat) : Int) from iAdd_nat (a := 64 * k3) (b := 64) (by omega))) (t1 pT))) ?_
 repeat (refine blkP_normal ?_)
 refine countP_normal (by omega) trivial ?_
 exact sp [(864, 864), (816, 816), (640, 640), (144, 144)] [15, 13, 12, 9, 8, 6, 5, 7, 1]
 have h4' := of_decide_eq_false h4
 refine Tri.exit ?_
 have hend3 : k3 = ((((itr (F36w32l0) ((119 - p0.length % 64) % 64) (p0.length + 1, p0 ++ [128])).1) + 8) / 64) := by (have := of_decide_eq_false h4; omega)
 subst hend3; subst hz3
 change Tri _ _ _ _ _ _
 refine sq [] none [25, 12, 1] [816] ([(25, .sc (.nils)), (12, .sc (.p 816 0)), (1, .sc (.i .i64 32))], [(816, .ints .u64 8 (itr (F36w32l3 p0) ((((itr (F36w32l0) ((119 - p0.length % 64) % 64) (p0.length + 1, p0 ++ [128])).1) + 8) / 64) (itr (F36w32l2) 8 [7640891576956012808, 13503953896175478587, 4354685564936845355, 11912009170470909681, 5840696475078001361, 11170449401992604703, 2270897969802886507, 6620516959819538809])))]) 1040 (t1 pT) ?_
 refine Tri.seq ?_
 refine sq [] none [26, 25, 12, 1] [816] ([(26, .sc (.i .i64 0)), (25, .sc (.nils)), (12, .sc (.p 816 0)), (1, .sc (.i .i64 32))], [(816, .ints .u64 8 (itr (F36w32l3 p0) ((((itr (F36w32l0) ((119 - p0.length % 64) % 64) (p0.length + 1, p0 ++ [128])).1) + 8) / 64) (itr (F36w32l2) 8 [7640891576956012808, 13503953896175478587, 4354685564936845355, 11912009170470909681, 5840696475078001361, 11170449401992604703, 2270897969802886507, 6620516959819538809])))]) 1056 (t1 pT) ?_
 refine Tri.block ?_
 refine Tri.sub (Sub.openNil (U := 1056) (U' := 1072) 25 1056 1 .u8 none (.inl rfl) (by decide) (by decide) (by kernel_rfl) (by kernel_rfl)) ?_
 refine Tri.count 1072 32 (F36w32l8 p0) (0, ([] : List Int)) (fun k8 z8 => z8.1 = 1 * k8) (fun k8 z8 => ([(25, .sc (.sl 1056 0 z8.1 1 none)), (26, .sc (.i .i64 ((k8 : Nat) : Int))), (12, .sc (.p 816 0)), (1, .sc (.i .i64 32))], [(1056, .ints .u8 z8.1 z8.2), (816, .ints .u64 8 (itr (F36w32l3 p0) ((((itr (F36w32l0) ((119 - p0.length % 64) % 64) (p0.length + 1, p0 ++ [128])).1) + 8) / 64) (itr (F36w32l2) 8 [7640891576956012808, 13503953896175478587, 4354685564936845355, 11912009170470909681, 5840696475078001361, 11170449401992604703, 2270897969802886507, 6620516959819538809])))])) rfl (Sub.of_eq (by kernel_rfl)) ?_
 intro k8 z8 hk8 hz8 hJ8
 refine Tri.seq ?_
 refine sq [] none [270, 25, 26, 12, 1] [1056, 816] ([(270, .sc (.b (decide ((((k8 : Nat) : Int) : Int) < 32)))), (25, .sc (.sl 1056 0 z8.1 1 none)), (26, .sc (.i .i64 ((k8 : Nat) : Int))), (12, .sc (.p 816 0)), (1, .sc (.i .i64 32))], [(1056, .ints .u8 z8.1 z8.2), (816, .ints .u64 8 (itr (F36w32l3 p0) ((((itr (F36w32l0) ((119 - p0.length % 64) % 64) (p0.length + 1, p0 ++ [128])).1) + 8) / 64) (itr (F36w32l2) 8 [7640891576956012808, 13503953896175478587, 4354685564936845355, 11912009170470909681, 5840696475078001361, 11170449401992604703, 2270897969802886507, 6620516959819538809])))]) 1120 (t3 pT) ?_
 refine Tri.cond (x := (decide ((((k8 : Nat) : Int) : Int) < 32))) (by kernel_rfl) (fun h9 => ?_) (fun h9 => ?_)
 have h9' := of_decide_eq_true h9
 refine Tri.skip ?_
 change Tri _ _ _ _ _ _
 refine Tri.seq ?_
 refine Tri.block ?_
 refine rq [(275, qi ((8 * k8 : Nat) : Int)), (277, qi (((8 * k8) / 32 : Nat) : Int)), (283, qi ((8 * k8 : Nat) : Int)), (285, qi (((8 * k8) % 32 : Nat) : Int)), (286, qi ((24 - ((8 * k8) % 32) : Nat) : Int))] (some [0, 0, 2, 0, 14, 30, 62, 0, 128, 0, 512, 0, 3584, 8064, 16382, 32766, 65534, 131071, 262143]) [25, 26, 12, 1] [1392, 816] ([(25, .sc (.sl 1392 0 (z8.1 + 1) 1 none)), (26, .sc (.i .i64 ((k8 : Nat) : Int))), (12, .sc (.p 816 0)), (1, .sc (.i .i64 32))], [(1392, .ints .u8 (z8.1 + 1) (z8.2 ++ ([(IntKind.wrap .u8 (iShr .u64 ((itr (F36w32l3 p0) ((((itr (F36w32l0) ((119 - p0.length % 64) % 64) (p0.length + 1, p0 ++ [128])).1) + 8) / 64) (itr (F36w32l2) 8 [7640891576956012808, 13503953896175478587, 4354685564936845355, 11912009170470909681, 5840696475078001361, 11170449401992604703, 2270897969802886507, 6620516959819538809])).getD ((8 * k8) / 32) 0) ((24 - ((8 * k8) % 32) : Nat) : Int)))]))), (816, .ints .u64 8 (itr (F36w32l3 p0) ((((itr (F36w32l0) ((119 - p0.length % 64) % 64) (p0.length + 1, p0 ++ [128])).1) + 8) / 64) (itr (F36w32l2) 8 [7640891576956012808, 13503953896175478587, 4354685564936845355, 11912009170470909681, 5840696475078001361, 11170449401992604703, 2270897969802886507, 6620516959819538809])))]) 1424 (t2 (pv pT (pl (show (iMul .i64 8 ((k8 : Nat) : Int)) = ((8 * k8 : Nat) : Int) from iMul_nat (a := 8) (b := k8) (by omega))) (t1 (pv (lo (32 ≠ (0 : Int))) (pl (show (iQuo .i64 ((8 * k8 : Nat) : Int) 32) = (((8 * k8) / 32 : Nat) : Int) from iQuo_nat (a := 8 * k8) (b := 32) (by omega))) (pu (lo ((0 : Int) ≤ (((8 * k8) / 32 : Nat) : Int) ∧ (((8 * k8) / 32 : Nat) : Int) < ((8 : Nat) : Int))) (pu (lo ((8 * k8) / 32 < 8)) (t3 (pv pT (pl (show (iMul .i64 8 ((k8 : Nat) : Int)) = ((8 * k8 : Nat) : Int) from iMul_nat (a := 8) (b := k8) (by omega))) (t1 (pv (lo (32 ≠ (0 : Int))) (pl (show (iRem ((8 * k8 : Nat) : Int) 32) = (((8 * k8) % 32 : Nat) : Int) from iRem_nat (a := 8 * k8) (b := 32))) (pv pT (pl (show (iSub .i64 24 (((8 * k8) % 32 : Nat) : Int)) = ((24 - ((8 * k8) % 32) : Nat) : Int) from iSub_nat (a := 24) (b := (8 * k8) % 32) (by omega) (by omega))) (pu (lo ((0 : Int) ≤ ((24 - ((8 * k8) % 32) : Nat) : Int))) (t1 (pu (pa (pa (pa (lo (0 < 1)) (lr (1 = 1))) pT) (pa (lo (1 * 1 ≤ 16777216)) (lr (1 = 1)))) (pu (pa (pa (pa (pa (lo (0 + 1 ≤ 1)) (lr (1 = 1))) (pa (lo (0 < 1)) (pa (lo ((z8.1 + 1) * 1 ≤ 140737488355328)) (lo (z8.1 + 1 ≤ 140737488355328))))) (lo (1 = 1 * 1))) (pa (lr (1 = 1)) (lo (0 + z8.1 * 1 = z8.1)))) (t1 pT)))))))))))))))) ?_
 change Tri _ _ _ _ _ _
 refine rq [(272, qi ((k8 + 1 : Nat) : Int))] none [26, 25, 12, 1] [1392, 816] ([(26, .sc (.i .i64 ((k8 + 1 : Nat) : Int))), (25, .sc (.sl 1392 0 (z8.1 + 1) 1 none)), (12, .sc (.p 816 0)), (1, .sc (.i .i64 32))], [(1392, .ints .u8 (z8.1 + 1) (z8.2 ++ ([(IntKind.wrap .u8 (iShr .u64 ((itr (F36w32l3 p0) ((((itr (F36w32l0) ((119 - p0.length % 64) % 64) (p0.length + 1, p0 ++ [128])).1) + 8) / 64) (itr (F36w32l2) 8 [7640891576956012808, 13503953896175478587, 4354685564936845355, 11912009170470909681, 5840696475078001361, 11170449401992604703, 2270897969802886507, 6620516959819538809])).getD ((8 * k8) / 32) 0) ((24 - ((8 * k8) % 32) : Nat) : Int)))]))), (816, .ints .u64 8 (itr (F36w32l3 p0) ((((itr (F36w32l0) ((119 - p0.length % 64) % 64) (p0.length + 1, p0 ++ [128])).1) + 8) / 64) (itr (F36w32l2) 8 [7640891576956012808, 13503953896175478587, 4354685564936845355, 11912009170470909681, 5840696475078001361, 11170449401992604703, 2270897969802886507, 6620516959819538809])))]) 1472 (t1 (pv pT (pl (show (iAdd .i64 ((k8 : Nat) : Int) 1) = ((k8 + 1 : Nat) : Int) from iAdd_nat (a := k8) (b := 1) (by omega))) (t1 pT))) ?_
 repeat (refine blkP_normal ?_)
 refine countP_normal (by omega) (show z8.1 + 1 = 1 * (k8 + 1) by omega) ?_
 exact sp [(1392, 1056), (816, 816)] [25, 26, 12, 1]
 have h9' := of_decide_eq_false h9
 refine Tri.exit ?_
 have hend8 : k8 = 32 := by (have := of_decide_eq_false h9; omega)
 subst hend8; subst hz8
 change Tri _ _ _ _ _ _
 refine sq [] none [4] [1056] ([(4, .sc (.sl 1056 0 ((itr (F36w32l8 p0) 32 (0, ([] : List Int))).1) 1 none))], [(1056, .ints .u8 ((itr (F36w32l8 p0) 32 (0, ([] : List Int))).1) ((itr (F36w32l8 p0) 32 (0, ([] : List Int))).2))]) 1152 (t2 pT) ?_
 refine Tri.ret ?_
 refine rt ?_
 refine endP.conv (r' := ⟨.sc (.sl 0 0 ((itr (F36w32l8 p0) 32 (0, ([] : List Int))).1) 1 none), [some (.ints .u8 ((itr (F36w32l8 p0) 32 (0, ([] : List Int))).1) ((itr (F36w32l8 p0) 32 (0, ([] : List Int))).2))]⟩) (by simp only [F36w32, n36w32, sel_true, sel_false]) ?_
 exact er [(1056, 0)] pz
theorem len36w32 (p0 : List Int) : (F36w32 p0).length = 32 := by
  have h0 : ∀ (k : Nat) (z : Nat × List Int), z.2.length = z.1 → (itr (F36w32l8 p0) k z).2.length = (itr (F36w32l8 p0) k z).1 := by
    intro k z hz
    induction k with
    | zero => rw [itr_zero]; exact hz
    | succ k ih => rw [itr_succ]; show ((itr (F36w32l8 p0) k z).2 ++ [_]).length = (itr (F36w32l8 p0) k z).1 + 1; rw [List.length_append, ih]; rfl
  unfold F36w32
  rw [h0 32 _ rfl, n36w32]
noncomputable def F38l0 (p1 : Int) (k0 : Nat) (z0 : Nat × List Int) : Nat × List Int :=
  (z0.1 + 1, z0.2 ++ [(IntKind.wrap .u8 (iShr .u64 p1 ((8 * (8 - 1 - k0) : Nat) : Int)))])
noncomputable def F38 (p0 : ByteArray) (p1 : Int) : List Int :=
  (F34 (part1 ((itr (F38l0 p1) 8 (p0.size, bytesI p0)).2) ((itr (F38l0 p1) 8 (p0.size, bytesI p0)).1) 0 ((itr (F38l0 p1) 8 (p0.size, bytesI p0)).1)))
noncomputable def S38 : List AV → List Blk → Option (Prop × Ret)
  | [.sc (.s p0), .sc (.i .u64 p1)], [] => some ((p0.size ≤ 100000), ⟨.ints .u8 32 (F38 p0 p1), []⟩)
  | _, _ => none
noncomputable def B38 : Bs := { P := Go.Proofs.Tryd.prog, G := gD, tab := tabOf [⟨60, 144, [.ro .u8], [48], [], ⟨0, 0, S34⟩, false⟩], n := 23 }
theorem B38.ok : B38.Ok := ⟨tabOk (P := Go.Proofs.Tryd.prog) (G := gD) (l := [⟨60, 144, [.ro .u8], [48], [], ⟨0, 0, S34⟩, false⟩]) (And.intro K34 True.intro), mixed⟩
theorem K38 : Known Go.Proofs.Tryd.prog gD 32 ⟨0, 0, S38⟩ := by
 refine Known.walk (B := B38) (fn := Go.Proofs.Tryd.f32) B38.ok (by kernel_rfl) rfl (by kernel_rfl) (by kernel_rfl) (by decide) (by decide) ?_
 intro E args ks C r h hC hlen
 simp only at h
 unfold S38 at h
 split at h
 rotate_left
 cases h
 rename_i p0 p1
 cases h
 simp only [lens] at hlen
 refine ⟨show 2 ≤ 23 from by decide, ?_⟩
 refine Tri.sub (Sub.of_eq (show _ = ([(0, .sc (.s p0)), (1, .sc (.i .u64 p1))], []) from rfl)) ?_
 refine sq [] none [4, 0, 1] [16] ([(4, .sc (.p 16 0)), (0, .sc (.s p0)), (1, .sc (.i .u64 p1))], [(16, .ints .u8 32 [0, 0, 0, 0, 0, 0, 0, 0, 0, 0, 0, 0, 0, 0, 0, 0, 0, 0, 0, 0, 0, 0, 0, 0, 0, 0, 0, 0, 0, 0, 0, 0])]) 32 (t1 pT) ?_
 refine sq [] none [5, 4, 1] [48, 16] ([(5, .sc (.sl 48 0 p0.size 1 none)), (4, .sc (.p 16 0)), (1, .sc (.i .u64 p1))], [(48, .ints .u8 p0.size (bytesI p0)), (16, .ints .u8 32 [0, 0, 0, 0, 0, 0, 0, 0, 0, 0, 0, 0, 0, 0, 0, 0, 0, 0, 0, 0, 0, 0, 0, 0, 0, 0, 0, 0, 0, 0, 0, 0])]) 80 (t3 pT) ?_
 refine Tri.seq ?_
 refine sq [] none [6, 5, 4, 1] [48, 16] ([(6, .sc (.i .i64 7)), (5, .sc (.sl 48 0 p0.size 1 none)), (4, .sc (.p 16 0)), (1, .sc (.i .u64 p1))], [(48, .ints .u8 p0.size (bytesI p0)), (16, .ints .u8 32 [0, 0, 0, 0, 0, 0, 0, 0, 0, 0, 0, 0, 0, 0, 0, 0, 0, 0, 0, 0, 0, 0, 0, 0, 0, 0, 0, 0, 0, 0, 0, 0])]) 96 (t1 pT) ?_
 refine Tri.block ?_
 refine Tri.count 96 8 (F38l0 p1) (p0.size, bytesI p0) (fun k0 z0 => z0.1 = p0.size + 1 * k0) (fun k0 z0 => ([(6, .sc (.i .i64 (((8 : Nat) : Int) - 1 - ((k0 : Nat) : Int)))), (5, .sc (.sl 48 0 z0.1 1 none)), (4, .sc (.p 16 0)), (1, .sc (.i .u64 p1))], [(48, .ints .u8 z0.1 z0.2), (16, .ints .u8 32 [0, 0, 0, 0, 0, 0, 0, 0, 0, 0, 0, 0, 0, 0, 0, 0, 0, 0, 0, 0, 0, 0, 0, 0, 0, 0, 0, 0, 0, 0, 0, 0])])) (by simp) (Sub.of_eq (by kernel_rfl)) ?_
 intro k0 z0 hk0 hz0 hJ0
 refine Tri.seq ?_
 refine sq [] none [10, 6, 5, 4, 1] [48, 16] ([(10, .sc (.b (decide (((((8 : Nat) : Int) - 1 - ((k0 : Nat) : Int)) : Int) ≥ 0)))), (6, .sc (.i .i64 (((8 : Nat) : Int) - 1 - ((k0 : Nat) : Int)))), (5, .sc (.sl 48 0 z0.1 1 none)), (4, .sc (.p 16 0)), (1, .sc (.i .u64 p1))], [(48, .ints .u8 z0.1 z0.2), (16, .ints .u8 32 [0, 0, 0, 0, 0, 0, 0, 0, 0, 0, 0, 0, 0, 0, 0, 0, 0, 0, 0, 0, 0, 0, 0, 0, 0, 0, 0, 0, 0, 0, 0, 0])]) 128 (t2 pT) ?_
 refine Tri.cond (x := (decide (((((8 : Nat) : Int) - 1 - ((k0 : Nat) : Int)) : Int) ≥ 0))) (by kernel_rfl) (fun h1 => ?_) (fun h1 => ?_)
 have h1' := of_decide_eq_true h1
 refine Tri.skip ?_
 change Tri _ _ _ _ _ _
 refine Tri.seq ?_
 refine Tri.block ?_
 refine rq [(16, qi ((8 * (8 - 1 - k0) : Nat) : Int))] none [5, 6, 4, 1] [240, 16] ([(5, .sc (.sl 240 0 (z0.1 + 1) 1 none)), (6, .sc (.i .i64 (((8 : Nat) : Int) - 1 - ((k0 : Nat) : Int)))), (4, .sc (.p 16 0)), (1, .sc (.i .u64 p1))], [(240, .ints .u8 (z0.1 + 1) (z0.2 ++ [(IntKind.wrap .u8 (iShr .u64 p1 ((8 * (8 - 1 - k0) : Nat) : Int)))])), (16, .ints .u8 32 [0, 0, 0, 0, 0, 0, 0, 0, 0, 0, 0, 0, 0, 0, 0, 0, 0, 0, 0, 0, 0, 0, 0, 0, 0, 0, 0, 0, 0, 0, 0, 0])]) 272 (t3 (pv pT (pl (show (iMul .i64 8 (((8 : Nat) : Int) - 1 - ((k0 : Nat) : Int))) = ((8 * (8 - 1 - k0) : Nat) : Int) from by rw [dn_nat (by omega)]; exact iMul_nat (a := 8) (b := 8 - 1 - k0) (by omega))) (pu (lo ((0 : Int) ≤ ((8 * (8 - 1 - k0) : Nat) : Int))) (t1 (pu (pa (pa (pa (lo (0 < 1)) (lr (1 = 1))) pT) (pa (lo (1 * 1 ≤ 16777216)) (lr (1 = 1)))) (pu (pa (pa (pa (pa (lo (0 + 1 ≤ 1)) (lr (1 = 1))) (pa (lo (0 < 1)) (pa (lo ((z0.1 + 1) * 1 ≤ 140737488355328)) (lo (z0.1 + 1 ≤ 140737488355328))))) (lo (1 = 1 * 1))) (pa (lr (1 = 1)) (lo (0 + z0.1 * 1 = z0.1)))) (t1 pT))))))) ?_
 change Tri _ _ _ _ _ _
 refine rq [(12, qi (((8 : Nat) : Int) - 1 - ((k0 + 1 : Nat) : Int)))] none [6, 5, 4, 1] [240, 16] ([(6, .sc (.i .i64 (((8 : Nat) : Int) - 1 - ((k0 + 1 : Nat) : Int)))), (5, .sc (.sl 240 0 (z0.1 + 1) 1 none)), (4, .sc (.p 16 0)), (1, .sc (.i .u64 p1))], [(240, .ints .u8 (z0.1 + 1) (z0.2 ++ [(IntKind.wrap .u8 (iShr .u64 p1 ((8 * (8 - 1 - k0) : Nat) : Int)))])), (16, .ints .u8 32 [0, 0, 0, 0, 0, 0, 0, 0, 0, 0, 0, 0, 0, 0, 0, 0, 0, 0, 0, 0, 0, 0, 0, 0, 0, 0, 0, 0, 0, 0, 0, 0])]) 320 (t1 (pv pT (pl (show (iSub .i64 (((8 : Nat) : Int) - 1 - ((k0 : Nat) : Int)) 1) = (((8 : Nat) : Int) - 1 - ((k0 + 1 : Nat) : Int)) from iSub_dn (by omega) (by omega))) (t1 pT))) ?_
 repeat (refine blkP_normal ?_)
 refine countP_normal (by omega) (show z0.1 + 1 = p0.size + 1 * (k0 + 1) by omega) ?_
 exact sp [(240, 48), (16, 16)] [6, 5, 4, 1]
 have h1' := of_decide_eq_false h1
 refine Tri.exit ?_
 have hend0 : k0 = 8 := by (have := of_decide_eq_false h1; omega)
 subst hend0; subst hz0
 change Tri _ _ _ _ _ _
 refine Tri.len 48 rfl (fun hl2 => ?_)
 refine sq [] none [4] [16] ([(4, .sc (.p 16 0))], [(16, .ints .u8 32 (F34 (part1 ((itr (F38l0 p1) 8 (p0.size, bytesI p0)).2) ((itr (F38l0 p1) 8 (p0.size, bytesI p0)).1) 0 ((itr (F38l0 p1) 8 (p0.size, bytesI p0)).1))))]) 176 (t1 (pu (pa (pa (lo (0 + ((itr (F38l0 p1) 8 (p0.size, bytesI p0)).1) ≤ (itr (F38l0 p1) 8 (p0.size, bytesI p0)).1)) pT) (lo ((part1 ((itr (F38l0 p1) 8 (p0.size, bytesI p0)).2) ((itr (F38l0 p1) 8 (p0.size, bytesI p0)).1) 0 ((itr (F38l0 p1) 8 (p0.size, bytesI p0)).1)).length ≤ 100000000))) (pu (pa pT (lr (32 = 32))) pT))) ?_
 refine Tri.ret ?_
 refine rt ?_
 exact er [] pz
noncomputable def F39l0 (p1 : Int) (k0 : Nat) (z0 : Nat × List Int) : Nat × List Int :=
  (z0.1 + 1, z0.2 ++ [(IntKind.wrap .u8 (iShr .u64 p1 ((56 - (8 * k0) : Nat) : Int)))])
noncomputable def F39 (p0 : ByteArray) (p1 : Int) : List Int :=
  (F36w32 (part1 ((itr (F39l0 p1) 8 (p0.size, bytesI p0)).2) ((itr (F39l0 p1) 8 (p0.size, bytesI p0)).1) 0 ((itr (F39l0 p1) 8 (p0.size, bytesI p0)).1)))
noncomputable def S39 : List AV → List Blk → Option (Prop × Ret)
  | [.sc (.s p0), .sc (.i .u64 p1)], [] => some ((p0.size ≤ 100000), ⟨.sc (.sl 0 0 32 1 none), [some (.ints .u8 32 (F39 p0 p1))]⟩)
  | _, _ => none
noncomputable def B39 : Bs := { P := Go.Proofs.Tryd.prog, G := gD, tab := tabOf [⟨62, 144, [.ro .u8, .val], [48], [], ⟨0, 1, S36w32⟩, false⟩], n := 24 }
theorem B39.ok : B39.Ok := ⟨tabOk (P := Go.Proofs.Tryd.prog) (G := gD) (l := [⟨62, 144, [.ro .u8, .val], [48], [], ⟨0, 1, S36w32⟩, false⟩]) (And.intro K36w32 True.intro), mixed⟩
theorem K39 : Known Go.Proofs.Tryd.prog gD 36 ⟨0, 1, S39⟩ := by
 refine Known.walk (B := B39) (fn := Go.Proofs.Tryd.f36) B39.ok (by kernel_rfl) rfl (by kernel_rfl) (by kernel_rfl) (by decide) (by decide) ?_
 intro E args ks C r h hC hlen
 simp only at h
 unfold S39 at h
 split at h
 rotate_left
 cases h
 rename_i p0 p1
 cases h
 simp only [lens] at hlen
 refine ⟨show 2 ≤ 24 from by decide, ?_⟩
 refine Tri.sub (Sub.of_eq (show _ = ([(0, .sc (.s p0)), (1, .sc (.i .u64 p1))], []) from rfl)) ?_
 refine sq [] none [0, 1] [] ([(0, .sc (.s p0)), (1, .sc (.i .u64 p1))], []) 32 (t1 pT) ?_
 refine sq [] none [5, 1] [48] ([(5, .sc (.sl 48 0 p0.size 1 none)), (1, .sc (.i .u64 p1))], [(48, .ints .u8 p0.size (bytesI p0))]) 80 (t3 pT) ?_
 refine Tri.seq ?_
 refine sq [] none [6, 5, 1] [48] ([(6, .sc (.i .i64 0)), (5, .sc (.sl 48 0 p0.size 1 none)), (1, .sc (.i .u64 p1))], [(48, .ints .u8 p0.size (bytesI p0))]) 96 (t1 pT) ?_
 refine Tri.block ?_
 refine Tri.count 96 8 (F39l0 p1) (p0.size, bytesI p0) (fun k0 z0 => z0.1 = p0.size + 1 * k0) (fun k0 z0 => ([(6, .sc (.i .i64 ((k0 : Nat) : Int))), (5, .sc (.sl 48 0 z0.1 1 none)), (1, .sc (.i .u64 p1))], [(48, .ints .u8 z0.1 z0.2)])) (by simp) (Sub.of_eq (by kernel_rfl)) ?_
 intro k0 z0 hk0 hz0 hJ0
 refine Tri.seq ?_
 refine sq [] none [10, 6, 5, 1] [48] ([(10, .sc (.b (decide ((((k0 : Nat) : Int) : Int) < 8)))), (6, .sc (.i .i64 ((k0 : Nat) : Int))), (5, .sc (.sl 48 0 z0.1 1 none)), (1, .sc (.i .u64 p1))], [(48, .ints .u8 z0.1 z0.2)]) 128 (t2 pT) ?_
 refine Tri.cond (x := (decide ((((k0 : Nat) : Int) : Int) < 8))) (by kernel_rfl) (fun h1 => ?_) (fun h1 => ?_)
 have h1' := of_decide_eq_true h1
 refine Tri.skip ?_
 change Tri _ _ _ _ _ _
 refine Tri.seq ?_
 refine Tri.block ?_
 refine rq [(16, qi ((8 * k0 : Nat) : Int)), (17, qi ((56 - (8 * k0) : Nat) : Int))] none [5, 6, 1] [256] ([(5, .sc (.sl 256 0 (z0.1 + 1) 1 none)), (6, .sc (.i .i64 ((k0 : Nat) : Int))), (1, .sc (.i .u64 p1))], [(256, .ints .u8 (z0.1 + 1) (z0.2 ++ [(IntKind.wrap .u8 (iShr .u64 p1 ((56 - (8 * k0) : Nat) : Int)))]))]) 288 (t3 (pv pT (pl (show (iMul .i64 8 ((k0 : Nat) : Int)) = ((8 * k0 : Nat) : Int) from iMul_nat (a := 8) (b := k0) (by omega))) (pv pT (pl (show (iSub .i64 56 ((8 * k0 : Nat) : Int)) = ((56 - (8 * k0) : Nat) : Int) from iSub_nat (a := 56) (b := 8 * k0) (by omega) (by omega))) (pu (lo ((0 : Int) ≤ ((56 - (8 * k0) : Nat) : Int))) (t1 (pu (pa (pa (pa (lo (0 < 1)) (lr (1 = 1))) pT) (pa (lo (1 * 1 ≤ 16777216)) (lr (1 = 1)))) (pu (pa (pa (pa (pa (lo (0 + 1 ≤ 1)) (lr (1 = 1))) (pa (lo (0 < 1)) (pa (lo ((z0.1 + 1) * 1 ≤ 140737488355328)) (lo (z0.1 + 1 ≤ 140737488355328))))) (lo (1 = 1 * 1))) (pa (lr (1 = 1)) (lo (0 + z0.1 * 1 = z0.1)))) (t1 pT)))))))) ?_
 change Tri _ _ _ _ _ _
 refine rq [(12, qi ((k0 + 1 : Nat) : Int))] none [6, 5, 1] [256] ([(6, .sc (.i .i64 ((k0 + 1 : Nat) : Int))), (5, .sc (.sl 256 0 (z0.1 + 1) 1 none)), (1, .sc (.i .u64 p1))], [(256, .ints .u8 (z0.1 + 1) (z0.2 ++ [(IntKind.wrap .u8 (iShr .u64 p1 ((56 - (8 * k0) : Nat) : Int)))]))]) 336 (t1 (pv pT (pl (show (iAdd .i64 ((k0 : Nat) : Int) 1) = ((k0 + 1 : Nat) : Int) from iAdd_nat (a := k0) (b := 1) (by omega))) (t1 pT))) ?_
 repeat (refine blkP_normal ?_)
 refine countP_normal (by omega) (show z0.1 + 1 = p0.size + 1 * (k0 + 1) by omega) ?_
 exact sp [(256, 48)] [6, 5, 1]
 have h1' := of_decide_eq_false h1
 refine Tri.exit ?_
 have hend0 : k0 = 8 := by (have := of_decide_eq_false h1; omega)
 subst hend0; subst hz0
 change Tri _ _ _ _ _ _
 refine Tri.len 48 rfl (fun hl2 => ?_)
 refine sq [] none [4] [144] ([(4, .sc (.sl 144 0 32 1 none))], [(144, .ints .u8 32 (F36w32 (part1 ((itr (F39l0 p1) 8 (p0.size, bytesI p0)).2) ((itr (F39l0 p1) 8 (p0.size, bytesI p0)).1) 0 ((itr (F39l0 p1) 8 (p0.size, bytesI p0)).1))))]) 176 (t1 (pu (pa (pa (lo (0 + ((itr (F39l0 p1) 8 (p0.size, bytesI p0)).1) ≤ (itr (F39l0 p1) 8 (p0.size, bytesI p0)).1)) pT) (pa (lr ((32 : Int) = (32 : Int))) (lo ((part1 ((itr (F39l0 p1) 8 (p0.size, bytesI p0)).2) ((itr (F39l0 p1) 8 (p0.size, bytesI p0)).1) 0 ((itr (F39l0 p1) 8 (p0.size, bytesI p0)).1)).length ≤ 100000000)))) (t1 pT))) ?_
 refine Tri.ret ?_
 refine rt ?_
 exact er [(144, 0)] pz
end Go.Vm
set_option linter.unusedVariables false
set_option linter.unusedSimpArgs false
set_option maxRecDepth 4000
set_option maxHeartbeats 2000000
namespace Go.Vm
open Go
noncomputable def FwIdxByte (p0 : ByteArray) (p1 : Int) : Int :=
  (idxB p0 p1)
noncomputable def SwIdxByte : List AV → List Blk → Option (Prop × Ret)
  | [.sc (.s p0), .sc (.i .u8 p1)], [] => some (True, ⟨.sc (.i .i64 (FwIdxByte p0 p1)), []⟩)
  | _, _ => none
noncomputable def BwIdxByte : Bs := { P := Go.Proofs.Tryd.prog, G := gD, tab := tabOf [⟨99, 64, [.val, .val], [], [], ⟨0, 0, specIdx⟩, false⟩], n := 8 }
theorem BwIdxByte.ok : BwIdxByte.Ok := ⟨tabOk (P := Go.Proofs.Tryd.prog) (G := gD) (l := [⟨99, 64, [.val, .val], [], [], ⟨0, 0, specIdx⟩, false⟩]) (And.intro Kidx True.intro), mixed⟩
theorem KwIdxByte : Known Go.Proofs.Tryd.prog gD 95 ⟨0, 0, SwIdxByte⟩ := by
 refine Known.walk (B := BwIdxByte) (fn := Go.Proofs.Tryd.f95) BwIdxByte.ok (by kernel_rfl) rfl (by kernel_rfl) (by kernel_rfl) (by decide) (by decide) ?_
 intro E args ks C r h hC hlen
 simp only at h
 unfold SwIdxByte at h
 split at h
 rotate_left
 cases h
 rename_i p0 p1
 cases h
 simp only [lens] at hlen
 refine ⟨show 2 ≤ 8 from by decide, ?_⟩
 refine Tri.sub (Sub.of_eq (show _ = ([(0, .sc (.s p0)), (1, .sc (.i .u8 p1))], []) from rfl)) ?_
 refine sq [] none [0, 1] [] ([(0, .sc (.s p0)), (1, .sc (.i .u8 p1))], []) 32 (t1 pT) ?_
 refine sq [] none [4] [] ([(4, .sc (.i .i64 (idxB p0 p1)))], []) 96 (t2 (pu pz (t1 pT))) ?_
 refine Tri.ret ?_
 refine rt ?_
 exact er [] pz
noncomputable def FwslIndex (p0 : ByteArray) : Int :=
  (sel (strEq (⟨#[44]⟩ : ByteArray) p0) 0 (FwIdxByte p0 44))
noncomputable def SwslIndex : List AV → List Blk → Option (Prop × Ret)
  | [.sc (.s p0), .sc (.s p1)], [] => some ((((⟨#[44]⟩ : ByteArray) = p1) ∧ True), ⟨.sc (.i .i64 (FwslIndex p0)), []⟩)
  | _, _ => none
noncomputable def BwslIndex : Bs := { P := Go.Proofs.Tryd.prog, G := gD, tab := tabOf [⟨95, 304, [.val, .val], [], [], ⟨0, 0, SwIdxByte⟩, false⟩], n := 143 }
theorem BwslIndex.ok : BwslIndex.Ok := ⟨tabOk (P := Go.Proofs.Tryd.prog) (G := gD) (l := [⟨95, 304, [.val, .val], [], [], ⟨0, 0, SwIdxByte⟩, false⟩]) (And.intro KwIdxByte True.intro), mixed⟩
theorem KwslIndex : Known Go.Proofs.Tryd.prog gD 93 ⟨0, 0, SwslIndex⟩ := by
 refine Known.walk (B := BwslIndex) (fn := Go.Proofs.Tryd.f93) BwslIndex.ok (by kernel_rfl) rfl (by kernel_rfl) (by kernel_rfl) (by decide) (by decide) ?_
 intro E args ks C r h hC hlen
 simp only at h
 unfold SwslIndex at h
 split at h
 rotate_left
 cases h
 rename_i p0 p1
 cases h
 simp only [lens] at hlen
 obtain ⟨hEp1, hC⟩ := hC
 subst hEp1
 refine ⟨show 2 ≤ 143 from by decide, ?_⟩
 refine Tri.sub (Sub.of_eq (show _ = ([(0, .sc (.s p0)), (1, .sc (.s (⟨#[44]⟩ : ByteArray)))], []) from rfl)) ?_
 refine sq [] none [0, 1] [] ([(0, .sc (.s p0)), (1, .sc (.s (⟨#[44]⟩ : ByteArray)))], []) 32 (t1 pT) ?_
 refine sq [] none [5, 0, 1] [] ([(5, .sc (.i .i64 1)), (0, .sc (.s p0)), (1, .sc (.s (⟨#[44]⟩ : ByteArray)))], []) 80 (t3 pT) ?_
 refine Tri.seq ?_
 refine Tri.block ?_
 refine sq [] none [16, 5, 0, 1] [] ([(16, .sc (.b (strEq (⟨#[44]⟩ : ByteArray) p0))), (5, .sc (.i .i64 1)), (0, .sc (.s p0)), (1, .sc (.s (⟨#[44]⟩ : ByteArray)))], []) 208 (t8 pT) ?_
 refine Tri.cond (x := (strEq (⟨#[44]⟩ : ByteArray) p0)) (by kernel_rfl) (fun h1 => ?_) (fun h1 => ?_)
 refine sq [] none [4] [] ([(4, .sc (.i .i64 0))], []) 224 (t1 pT) ?_
 refine Tri.ret ?_
 refine rt ?_
 refine endP.conv (r' := ⟨.sc (.i .i64 0), []⟩) (by simp only [FwslIndex, h1, sel_true, sel_false]) ?_
 exact er [] pz
 refine sq [] none [24, 5, 0, 1] [] ([(24, .sc (.b true)), (5, .sc (.i .i64 1)), (0, .sc (.s p0)), (1, .sc (.s (⟨#[44]⟩ : ByteArray)))], []) 256 (t3 pT) ?_
 refine Tri.cond_true (by kernel_rfl) ?_
 refine sq [(29, .sc (.i .u8 44))] none [4] [] ([(4, .sc (.i .i64 (FwIdxByte p0 44)))], []) 336 (t2 (pv (ld ((0 : Int) ≤ 0 ∧ 0 < ((⟨#[44]⟩ : ByteArray).size : Int))) (ld ((byteAt (⟨#[44]⟩ : ByteArray) 0) = 44)) (pu pz (t1 pT)))) ?_
 refine Tri.ret ?_
 refine rt ?_
 refine endP.conv (r' := ⟨.sc (.i .i64 (FwIdxByte p0 44)), []⟩) (by simp only [FwslIndex, h1, sel_true, sel_false]) ?_
 exact er [] pz
noncomputable def FwIndex (p0 : ByteArray) : Int :=
  (FwslIndex p0)
noncomputable def SwIndex : List AV → List Blk → Option (Prop × Ret)
  | [.sc (.s p0), .sc (.s p1)], [] => some ((((⟨#[44]⟩ : ByteArray) = p1) ∧ True), ⟨.sc (.i .i64 (FwIndex p0)), []⟩)
  | _, _ => none
noncomputable def BwIndex : Bs := { P := Go.Proofs.Tryd.prog, G := gD, tab := tabOf [⟨93, 64, [.val, .val], [], [], ⟨0, 0, SwslIndex⟩, false⟩], n := 8 }
theorem BwIndex.ok : BwIndex.Ok := ⟨tabOk (P := Go.Proofs.Tryd.prog) (G := gD) (l := [⟨93, 64, [.val, .val], [], [], ⟨0, 0, SwslIndex⟩, false⟩]) (And.intro KwslIndex True.intro), mixed⟩
theorem KwIndex : Known Go.Proofs.Tryd.prog gD 87 ⟨0, 0, SwIndex⟩ := by
 refine Known.walk (B := BwIndex) (fn := Go.Proofs.Tryd.f87) BwIndex.ok (by kernel_rfl) rfl (by kernel_rfl) (by kernel_rfl) (by decide) (by decide) ?_
 intro E args ks C r h hC hlen
 simp only at h
 unfold SwIndex at h
 split at h
 rotate_left
 cases h
 rename_i p0 p1
 cases h
 simp only [lens] at hlen
 obtain ⟨hEp1, hC⟩ := hC
 subst hEp1
 refine ⟨show 2 ≤ 8 from by decide, ?_⟩
 refine Tri.sub (Sub.of_eq (show _ = ([(0, .sc (.s p0)), (1, .sc (.s (⟨#[44]⟩ : ByteArray)))], []) from rfl)) ?_
 refine sq [] none [0, 1] [] ([(0, .sc (.s p0)), (1, .sc (.s (⟨#[44]⟩ : ByteArray)))], []) 32 (t1 pT) ?_
 refine sq [] none [4] [] ([(4, .sc (.i .i64 (FwslIndex p0)))], []) 96 (t2 (pu (pa pT (pa (lr ((⟨#[44]⟩ : ByteArray) = (⟨#[44]⟩ : ByteArray))) pT)) (t1 pT))) ?_
 refine Tri.ret ?_
 refine rt ?_
 exact er [] pz
theorem in_FwIndex (p0 : ByteArray) : -1 ≤ FwIndex p0 ∧ FwIndex p0 < (p0.size : Int) := by
  unfold FwIndex FwslIndex
  cases h : strEq (⟨#[44]⟩ : ByteArray) p0
  · rw [sel_false]; exact idx_in p0 44
  · rw [sel_true, ← strEq_eq h]; exact ⟨by decide, by decide⟩
noncomputable def FwCount (p0 : ByteArray) : Nat :=
  (cntB p0 44)
noncomputable def SwCount : List AV → List Blk → Option (Prop × Ret)
  | [.sc (.s p0), .sc (.s p1)], [] => some ((((⟨#[44]⟩ : ByteArray) = p1) ∧ True), ⟨.sc (.i .i64 (((FwCount p0) : Nat) : Int)), []⟩)
  | _, _ => none
noncomputable def BwCount : Bs := { P := Go.Proofs.Tryd.prog, G := gD, tab := tabOf [⟨92, 176, [.val, .val], [], [], ⟨0, 0, specCnt⟩, false⟩], n := 34 }
theorem BwCount.ok : BwCount.Ok := ⟨tabOk (P := Go.Proofs.Tryd.prog) (G := gD) (l := [⟨92, 176, [.val, .val], [], [], ⟨0, 0, specCnt⟩, false⟩]) (And.intro Kcnt True.intro), mixed⟩
theorem KwCount : Known Go.Proofs.Tryd.prog gD 86 ⟨0, 0, SwCount⟩ := by
 refine Known.walk (B := BwCount) (fn := Go.Proofs.Tryd.f86) BwCount.ok (by kernel_rfl) rfl (by kernel_rfl) (by kernel_rfl) (by decide) (by decide) ?_
 intro E args ks C r h hC hlen
 simp only at h
 unfold SwCount at h
 split at h
 rotate_left
 cases h
 rename_i p0 p1
 cases h
 simp only [lens] at hlen
 obtain ⟨hEp1, hC⟩ := hC
 subst hEp1
 refine ⟨show 2 ≤ 34 from by decide, ?_⟩
 refine Tri.sub (Sub.of_eq (show _ = ([(0, .sc (.s p0)), (1, .sc (.s (⟨#[44]⟩ : ByteArray)))], []) from rfl)) ?_
 refine sq [] none [0, 1] [] ([(0, .sc (.s p0)), (1, .sc (.s (⟨#[44]⟩ : ByteArray)))], []) 32 (t1 pT) ?_
 refine Tri.seq ?_
 refine sq [] none [9, 0, 1] [] ([(9, .sc (.b false)), (0, .sc (.s p0)), (1, .sc (.s (⟨#[44]⟩ : ByteArray)))], []) 80 (t3 pT) ?_
 refine Tri.cond_false (by kernel_rfl) ?_
 refine Tri.skip ?_
 change Tri _ _ _ _ _ _
 refine Tri.seq ?_
 refine sq [] none [15, 0, 1] [] ([(15, .sc (.b true)), (0, .sc (.s p0)), (1, .sc (.s (⟨#[44]⟩ : ByteArray)))], []) 128 (t3 pT) ?_
 refine Tri.cond_true (by kernel_rfl) ?_
 refine sq [(18, .sc (.i .u8 44))] none [4] [] ([(4, .sc (.i .i64 (((cntB p0 44) : Nat) : Int)))], []) 208 (t2 (pv (ld ((0 : Int) ≤ 0 ∧ 0 < ((⟨#[44]⟩ : ByteArray).size : Int))) (ld ((byteAt (⟨#[44]⟩ : ByteArray) 0) = 44)) (pu pz (t1 pT)))) ?_
 refine Tri.ret ?_
 refine rt ?_
 exact er [] pz
theorem le_FwCount (p0 : ByteArray) : FwCount p0 ≤ p0.size := cnt_le p0 44
noncomputable def FwgenSplitl0 (k0 : Nat) (z0 : ByteArray × List ByteArray) : ByteArray × List ByteArray :=
  ((z0.1.extract (((iAdd .i64 (FwIndex z0.1) 1)).toNat) z0.1.size), z0.2.set k0 (z0.1.extract 0 (((iAdd .i64 (FwIndex z0.1) 0)).toNat)))
noncomputable def FwgenSplits0 (p0 : ByteArray) (k0 : Nat) : Bool :=
  (sel (decide (((FwIndex (itr (FwgenSplitl0) k0 (p0, List.replicate (min ((FwCount p0) + 1) (p0.size + 1)) (⟨#[]⟩ : ByteArray))).1) : Int) < 0)) true false)
noncomputable def FwgenSplit (p0 : ByteArray) : List ByteArray :=
  (sel (Nat.blt (fstB (FwgenSplits0 p0) ((min ((FwCount p0) + 1) (p0.size + 1)) - 1)) ((min ((FwCount p0) + 1) (p0.size + 1)) - 1)) (((itr (FwgenSplitl0) (fstB (FwgenSplits0 p0) ((min ((FwCount p0) + 1) (p0.size + 1)) - 1)) (p0, List.replicate (min ((FwCount p0) + 1) (p0.size + 1)) (⟨#[]⟩ : ByteArray))).2).set (fstB (FwgenSplits0 p0) ((min ((FwCount p0) + 1) (p0.size + 1)) - 1)) ((itr (FwgenSplitl0) (fstB (FwgenSplits0 p0) ((min ((FwCount p0) + 1) (p0.size + 1)) - 1)) (p0, List.replicate (min ((FwCount p0) + 1) (p0.size + 1)) (⟨#[]⟩ : ByteArray))).1)) (((itr (FwgenSplitl0) ((min ((FwCount p0) + 1) (p0.size + 1)) - 1) (p0, List.replicate (min ((FwCount p0) + 1) (p0.size + 1)) (⟨#[]⟩ : ByteArray))).2).set ((min ((FwCount p0) + 1) (p0.size + 1)) - 1) ((itr (FwgenSplitl0) ((min ((FwCount p0) + 1) (p0.size + 1)) - 1) (p0, List.replicate (min ((FwCount p0) + 1) (p0.size + 1)) (⟨#[]⟩ : ByteArray))).1)))
noncomputable def FwgenSplitn0 (p0 : ByteArray) : Nat :=
  (sel (Nat.blt (fstB (FwgenSplits0 p0) ((min ((FwCount p0) + 1) (p0.size + 1)) - 1)) ((min ((FwCount p0) + 1) (p0.size + 1)) - 1)) (((fstB (FwgenSplits0 p0) ((min ((FwCount p0) + 1) (p0.size + 1)) - 1)) + 1) - 0) ((((min ((FwCount p0) + 1) (p0.size + 1)) - 1) + 1) - 0))
noncomputable def SwgenSplit : List AV → List Blk → Option (Prop × Ret)
  | [.sc (.s p0), .sc (.s p1), .sc (.i .i64 p2), .sc (.i .i64 p3)], [] => some ((((⟨#[44]⟩ : ByteArray) = p1) ∧ (((0 : Int) = p2) ∧ (((-1 : Int) = p3) ∧ (p0.size ≤ 1000000000)))), ⟨.sc (.sl 0 0 (FwgenSplitn0 p0) 1 none), [some (.vec .str (FwgenSplit p0))]⟩)
  | _, _ => none
noncomputable def BwgenSplit : Bs := { P := Go.Proofs.Tryd.prog, G := gD, tab := tabOf [⟨86, 160, [.val, .val], [], [], ⟨0, 0, SwCount⟩, false⟩, ⟨87, 496, [.val, .val], [], [], ⟨0, 0, SwIndex⟩, false⟩], n := 66 }
theorem BwgenSplit.ok : BwgenSplit.Ok := ⟨tabOk (P := Go.Proofs.Tryd.prog) (G := gD) (l := [⟨86, 160, [.val, .val], [], [], ⟨0, 0, SwCount⟩, false⟩, ⟨87, 496, [.val, .val], [], [], ⟨0, 0, SwIndex⟩, false⟩]) (And.intro KwCount (And.intro KwIndex True.intro)), mixed⟩
theorem KwgenSplit : Known Go.Proofs.Tryd.prog gD 81 ⟨0, 1, SwgenSplit⟩ := by
 refine Known.walk (B := BwgenSplit) (fn := Go.Proofs.Tryd.f81) BwgenSplit.ok (by kernel_rfl) rfl (by kernel_rfl) (by kernel_rfl) (by decide) (by decide) ?_
 intro E args ks C r h hC hlen
 simp only at h
 unfold SwgenSplit at h
 split at h
 rotate_left
 cases h
 rename_i p0 p1 p2 p3
 cases h
 simp only [lens] at hlen
 obtain ⟨hEp1, hC⟩ := hC
 obtain ⟨hEp2, hC⟩ := hC
 obtain ⟨hEp3, hC⟩ := hC
 subst hEp1
 subst hEp2
 subst hEp3
 have hc := le_FwCount p0
 refine ⟨show 4 ≤ 66 from by decide, ?_⟩
 refine Tri.sub (Sub.of_eq (show _ = ([(0, .sc (.s p0)), (1, .sc (.s (⟨#[44]⟩ : ByteArray))), (2, .sc (.i .i64 0)), (3, .sc (.i .i64 (-1)))], []) from rfl)) ?_
 refine sq [] none [0, 1, 2, 3] [] ([(0, .sc (.s p0)), (1, .sc (.s (⟨#[44]⟩ : ByteArray))), (2, .sc (.i .i64 0)), (3, .sc (.i .i64 (-1)))], []) 32 (t1 pT) ?_
 refine Tri.seq ?_
 refine sq [] none [13, 0, 1, 2, 3] [] ([(13, .sc (.b false)), (0, .sc (.s p0)), (1, .sc (.s (⟨#[44]⟩ : ByteArray))), (2, .sc (.i .i64 0)), (3, .sc (.i .i64 (-1)))], []) 64 (t2 pT) ?_
 refine Tri.cond_false (by kernel_rfl) ?_
 refine Tri.skip ?_
 change Tri _ _ _ _ _ _
 refine Tri.seq ?_
 refine sq [] none [15, 0, 1, 2, 3] [] ([(15, .sc (.b (strEq (⟨#[44]⟩ : ByteArray) (⟨#[]⟩ : ByteArray)))), (0, .sc (.s p0)), (1, .sc (.s (⟨#[44]⟩ : ByteArray))), (2, .sc (.i .i64 0)), (3, .sc (.i .i64 (-1)))], []) 96 (t2 pT) ?_
 refine Tri.cond (x := (strEq (⟨#[44]⟩ : ByteArray) (⟨#[]⟩ : ByteArray))) (by kernel_rfl) (fun h => absurd (h.symm.trans (by rw [strEq_data] <;> decide)) (by decide)) (fun h => ?_)
 refine Tri.skip ?_
 change Tri _ _ _ _ _ _
 refine Tri.seq ?_
 refine sq [] none [20, 0, 1, 2, 3] [] ([(20, .sc (.b true)), (0, .sc (.s p0)), (1, .sc (.s (⟨#[44]⟩ : ByteArray))), (2, .sc (.i .i64 0)), (3, .sc (.i .i64 (-1)))], []) 128 (t2 pT) ?_
 refine Tri.cond_true (by kernel_rfl) ?_
 refine rq [(24, qi (((FwCount p0) + 1 : Nat) : Int))] none [3, 0, 1, 2] [] ([(3, .sc (.i .i64 (((FwCount p0) + 1 : Nat) : Int))), (0, .sc (.s p0)), (1, .sc (.s (⟨#[44]⟩ : ByteArray))), (2, .sc (.i .i64 0))], []) 208 (t2 (pu (pa pT (pa (lr ((⟨#[44]⟩ : ByteArray) = (⟨#[44]⟩ : ByteArray))) pT)) (pv pT (pl (show (iAdd .i64 (((FwCount p0) : Nat) : Int) 1) = (((FwCount p0) + 1 : Nat) : Int) from iAdd_nat (a := (FwCount p0)) (b := 1) (by omega))) (t1 pT)))) ?_
 change Tri _ _ _ _ _ _
 refine sq [(28, qi ((p0.size + 1 : Nat) : Int)), (29, qi ((min ((FwCount p0) + 1) (p0.size + 1) : Nat) : Int))] none [3, 0, 1, 2] [] ([(3, .sc (.i .i64 ((min ((FwCount p0) + 1) (p0.size + 1) : Nat) : Int))), (0, .sc (.s p0)), (1, .sc (.s (⟨#[44]⟩ : ByteArray))), (2, .sc (.i .i64 0))], []) 304 (t3 (pv pT (pl (show (iAdd .i64 ((p0.size : Nat) : Int) 1) = ((p0.size + 1 : Nat) : Int) from iAdd_nat (a := p0.size) (b := 1) (by omega))) (pv pT (pl (show (minI (((FwCount p0) + 1 : Nat) : Int) ((p0.size + 1 : Nat) : Int)) = ((min ((FwCount p0) + 1) (p0.size + 1) : Nat) : Int) from minI_nat ((FwCount p0) + 1) (p0.size + 1))) (t1 pT)))) ?_
 refine sq [] none [9, 3, 0, 1, 2] [320] ([(9, .sc (.sl 320 0 (min ((FwCount p0) + 1) (p0.size + 1)) 1 none)), (3, .sc (.i .i64 ((min ((FwCount p0) + 1) (p0.size + 1) : Nat) : Int))), (0, .sc (.s p0)), (1, .sc (.s (⟨#[44]⟩ : ByteArray))), (2, .sc (.i .i64 0))], [(320, .vec .str (List.replicate (min ((FwCount p0) + 1) (p0.size + 1)) (⟨#[]⟩ : ByteArray)))]) 352 (t1 (pu (pa (lo ((0 : Int) ≤ ((min ((FwCount p0) + 1) (p0.size + 1) : Nat) : Int) ∧ (((min ((FwCount p0) + 1) (p0.size + 1) : Nat) : Int) : Int) = ((min ((FwCount p0) + 1) (p0.size + 1) : Nat) : Int))) (pa (lo (((min ((FwCount p0) + 1) (p0.size + 1) : Nat) : Int) ≤ (140737488355328 : Int))) (lo (((16 : Nat) : Int) * ((min ((FwCount p0) + 1) (p0.size + 1) : Nat) : Int) ≤ 281474976710656)))) (t1 pT))) ?_
 refine sq [(33, qi (((min ((FwCount p0) + 1) (p0.size + 1)) - 1 : Nat) : Int))] none [3, 9, 0, 1, 2] [320] ([(3, .sc (.i .i64 (((min ((FwCount p0) + 1) (p0.size + 1)) - 1 : Nat) : Int))), (9, .sc (.sl 320 0 (min ((FwCount p0) + 1) (p0.size + 1)) 1 none)), (0, .sc (.s p0)), (1, .sc (.s (⟨#[44]⟩ : ByteArray))), (2, .sc (.i .i64 0))], [(320, .vec .str (List.replicate (min ((FwCount p0) + 1) (p0.size + 1)) (⟨#[]⟩ : ByteArray)))]) 400 (t1 (pv pT (pl (show (iSub .i64 ((min ((FwCount p0) + 1) (p0.size + 1) : Nat) : Int) 1) = (((min ((FwCount p0) + 1) (p0.size + 1)) - 1 : Nat) : Int) from iSub_nat (a := min ((FwCount p0) + 1) (p0.size + 1)) (b := 1) (by omega) (by omega))) (t1 pT))) ?_
 refine sq [] none [10, 3, 9, 0, 1, 2] [320] ([(10, .sc (.i .i64 0)), (3, .sc (.i .i64 (((min ((FwCount p0) + 1) (p0.size + 1)) - 1 : Nat) : Int))), (9, .sc (.sl 320 0 (min ((FwCount p0) + 1) (p0.size + 1)) 1 none)), (0, .sc (.s p0)), (1, .sc (.s (⟨#[44]⟩ : ByteArray))), (2, .sc (.i .i64 0))], [(320, .vec .str (List.replicate (min ((FwCount p0) + 1) (p0.size + 1)) (⟨#[]⟩ : ByteArray)))]) 416 (t1 pT) ?_
 refine Tri.seq ?_
 refine Tri.block ?_
 refine Tri.count 416 ((min ((FwCount p0) + 1) (p0.size + 1)) - 1) (FwgenSplitl0) (p0, List.replicate (min ((FwCount p0) + 1) (p0.size + 1)) (⟨#[]⟩ : ByteArray)) (fun k0 z0 => (z0.2.length = min (FwCount p0 + 1) (p0.size + 1) ∧ z0.1.size ≤ 1000000000) ∧ (∀ j, j < k0 → (FwgenSplits0 p0) j = false)) (fun k0 z0 => ([(10, .sc (.i .i64 ((k0 : Nat) : Int))), (3, .sc (.i .i64 (((min ((FwCount p0) + 1) (p0.size + 1)) - 1 : Nat) : Int))), (9, .sc (.sl 320 0 (min ((FwCount p0) + 1) (p0.size + 1)) 1 none)), (0, .sc (.s z0.1)), (1, .sc (.s (⟨#[44]⟩ : ByteArray))), (2, .sc (.i .i64 0))], [(320, .vec .str z0.2)])) (⟨⟨by rw [List.length_replicate], by omega⟩, (fun j hj => absurd hj (Nat.not_lt_zero j))⟩) (Sub.of_eq (by kernel_rfl)) ?_
 intro k0 z0 hk0 hz0 hJ0
 have hx := in_FwIndex z0.1
 have hy : iAdd .i64 (FwIndex z0.1) 1 = FwIndex z0.1 + 1 := iAdd_i64 (by omega) (by omega)
 have hy0 : iAdd .i64 (FwIndex z0.1) 0 = FwIndex z0.1 + 0 := iAdd_i64 (by omega) (by omega)
 refine Tri.seq ?_
 refine sq [] none [36, 10, 3, 9, 0, 1, 2] [320] ([(36, .sc (.b (decide ((((k0 : Nat) : Int) : Int) < (((min ((FwCount p0) + 1) (p0.size + 1)) - 1 : Nat) : Int))))), (10, .sc (.i .i64 ((k0 : Nat) : Int))), (3, .sc (.i .i64 (((min ((FwCount p0) + 1) (p0.size + 1)) - 1 : Nat) : Int))), (9, .sc (.sl 320 0 (min ((FwCount p0) + 1) (p0.size + 1)) 1 none)), (0, .sc (.s z0.1)), (1, .sc (.s (⟨#[44]⟩ : ByteArray))), (2, .sc (.i .i64 0))], [(320, .vec .str z0.2)]) 464 (t3 pT) ?_
 refine Tri.cond (x := (decide ((((k0 : Nat) : Int) : Int) < (((min ((FwCount p0) + 1) (p0.size + 1)) - 1 : Nat) : Int)))) (by kernel_rfl) (fun h1 => ?_) (fun h1 => ?_)
 have h1' := of_decide_eq_true h1
 refine Tri.skip ?_
 change Tri _ _ _ _ _ _
 refine Tri.block ?_
 refine sq [] none [11, 10, 3, 9, 0, 1, 2] [320] ([(11, .sc (.i .i64 (FwIndex z0.1))), (10, .sc (.i .i64 ((k0 : Nat) : Int))), (3, .sc (.i .i64 (((min ((FwCount p0) + 1) (p0.size + 1)) - 1 : Nat) : Int))), (9, .sc (.sl 320 0 (min ((FwCount p0) + 1) (p0.size + 1)) 1 none)), (0, .sc (.s z0.1)), (1, .sc (.s (⟨#[44]⟩ : ByteArray))), (2, .sc (.i .i64 0))], [(320, .vec .str z0.2)]) 528 (t2 (pu (pa pT (pa (lr ((⟨#[44]⟩ : ByteArray) = (⟨#[44]⟩ : ByteArray))) pT)) (t1 pT))) ?_
 refine Tri.seq ?_
 refine sq [] none [41, 11, 10, 3, 9, 0, 1, 2] [320] ([(41, .sc (.b (decide (((FwIndex z0.1) : Int) < 0)))), (11, .sc (.i .i64 (FwIndex z0.1))), (10, .sc (.i .i64 ((k0 : Nat) : Int))), (3, .sc (.i .i64 (((min ((FwCount p0) + 1) (p0.size + 1)) - 1 : Nat) : Int))), (9, .sc (.sl 320 0 (min ((FwCount p0) + 1) (p0.size + 1)) 1 none)), (0, .sc (.s z0.1)), (1, .sc (.s (⟨#[44]⟩ : ByteArray))), (2, .sc (.i .i64 0))], [(320, .vec .str z0.2)]) 560 (t2 pT) ?_
 refine Tri.cond (x := (decide (((FwIndex z0.1) : Int) < 0))) (by kernel_rfl) (fun h2 => ?_) (fun h2 => ?_)
 have h2' := of_decide_eq_true h2
 refine Tri.exit ?_
 subst hz0
 have hf0 : fstB (FwgenSplits0 p0) ((min ((FwCount p0) + 1) (p0.size + 1)) - 1) = k0 := fst_found (by omega) hJ0.2 (by simp only [FwgenSplits0, h1, h2, sel_true, sel_false])
 have hb0 : Nat.blt k0 ((min ((FwCount p0) + 1) (p0.size + 1)) - 1) = true := blt_true (by omega)
 have hq0 : Nat.blt (fstB (FwgenSplits0 p0) ((min ((FwCount p0) + 1) (p0.size + 1)) - 1)) ((min ((FwCount p0) + 1) (p0.size + 1)) - 1) = true := by rw [hf0]; exact hb0
 change Tri _ _ _ _ _ _
 refine sq [] none [10, 9] [320] ([(10, .sc (.i .i64 ((k0 : Nat) : Int))), (9, .sc (.sl 320 0 (min ((FwCount p0) + 1) (p0.size + 1)) 1 none))], [(320, .vec .str (((itr (FwgenSplitl0) k0 (p0, List.replicate (min ((FwCount p0) + 1) (p0.size + 1)) (⟨#[]⟩ : ByteArray))).2).set k0 ((itr (FwgenSplitl0) k0 (p0, List.replicate (min ((FwCount p0) + 1) (p0.size + 1)) (⟨#[]⟩ : ByteArray))).1)))]) 640 (t3 (pu (lo ((0 : Int) ≤ ((k0 : Nat) : Int) ∧ ((k0 : Nat) : Int) < ((min ((FwCount p0) + 1) (p0.size + 1) : Nat) : Int))) (pu (pa (lo (k0 < ((itr (FwgenSplitl0) k0 (p0, List.replicate (min ((FwCount p0) + 1) (p0.size + 1)) (⟨#[]⟩ : ByteArray))).2).length)) (lr (1 = 1))) pT))) ?_
 refine sq [(64, qi ((k0 + 1 : Nat) : Int))] none [8] [320] ([(8, .sc (.sl 320 0 ((k0 + 1) - 0) 1 none))], [(320, .vec .str (((itr (FwgenSplitl0) k0 (p0, List.replicate (min ((FwCount p0) + 1) (p0.size + 1)) (⟨#[]⟩ : ByteArray))).2).set k0 ((itr (FwgenSplitl0) k0 (p0, List.replicate (min ((FwCount p0) + 1) (p0.size + 1)) (⟨#[]⟩ : ByteArray))).1)))]) 720 (t2 (pv pT (pl (show (iAdd .i64 ((k0 : Nat) : Int) 1) = ((k0 + 1 : Nat) : Int) from iAdd_nat (a := k0) (b := 1) (by omega))) (pu (lo ((0 : Int) ≤ 0 ∧ (0 : Int) ≤ ((k0 + 1 : Nat) : Int) ∧ ((k0 + 1 : Nat) : Int) ≤ ((min ((FwCount p0) + 1) (p0.size + 1) : Nat) : Int))) (t1 pT)))) ?_
 refine Tri.ret ?_
 refine rt ?_
 refine endP.conv (r' := ⟨.sc (.sl 0 0 ((k0 + 1) - 0) 1 none), [some (.vec .str (((itr (FwgenSplitl0) k0 (p0, List.replicate (min ((FwCount p0) + 1) (p0.size + 1)) (⟨#[]⟩ : ByteArray))).2).set k0 ((itr (FwgenSplitl0) k0 (p0, List.replicate (min ((FwCount p0) + 1) (p0.size + 1)) (⟨#[]⟩ : ByteArray))).1)))]⟩) (by simp only [FwgenSplit, FwgenSplitn0, hq0, hf0, hb0, sel_true, sel_false]) ?_
 exact er [(320, 0)] pz
 have h2' := of_decide_eq_false h2
 refine Tri.skip ?_
 change Tri _ _ _ _ _ _
 refine sq [] none [11, 10, 3, 9, 0, 1, 2] [320] ([(11, .sc (.i .i64 (FwIndex z0.1))), (10, .sc (.i .i64 ((k0 : Nat) : Int))), (3, .sc (.i .i64 (((min ((FwCount p0) + 1) (p0.size + 1)) - 1 : Nat) : Int))), (9, .sc (.sl 320 0 (min ((FwCount p0) + 1) (p0.size + 1)) 1 none)), (0, .sc (.s z0.1)), (1, .sc (.s (⟨#[44]⟩ : ByteArray))), (2, .sc (.i .i64 0))], [(320, .vec .str (z0.2.set k0 (z0.1.extract 0 (((iAdd .i64 (FwIndex z0.1) 0)).toNat))))]) 704 (t6 (pu (lo ((0 : Int) ≤ 0 ∧ (0 : Int) ≤ (iAdd .i64 (FwIndex z0.1) 0) ∧ (iAdd .i64 (FwIndex z0.1) 0) ≤ (z0.1.size : Int))) (pu (lo ((0 : Int) ≤ ((k0 : Nat) : Int) ∧ ((k0 : Nat) : Int) < ((min ((FwCount p0) + 1) (p0.size + 1) : Nat) : Int))) (pu (pa (lo (k0 < z0.2.length)) (lr (1 = 1))) pT)))) ?_
 refine sq [] none [0, 10, 3, 9, 1, 2] [320] ([(0, .sc (.s (z0.1.extract (((iAdd .i64 (FwIndex z0.1) 1)).toNat) z0.1.size))), (10, .sc (.i .i64 ((k0 : Nat) : Int))), (3, .sc (.i .i64 (((min ((FwCount p0) + 1) (p0.size + 1)) - 1 : Nat) : Int))), (9, .sc (.sl 320 0 (min ((FwCount p0) + 1) (p0.size + 1)) 1 none)), (1, .sc (.s (⟨#[44]⟩ : ByteArray))), (2, .sc (.i .i64 0))], [(320, .vec .str (z0.2.set k0 (z0.1.extract 0 (((iAdd .i64 (FwIndex z0.1) 0)).toNat))))]) 816 (t5 (pu (lo ((0 : Int) ≤ (iAdd .i64 (FwIndex z0.1) 1) ∧ ((iAdd .i64 (FwIndex z0.1) 1) : Int) ≤ ((z0.1.size : Nat) : Int) ∧ ((z0.1.size : Nat) : Int) ≤ (z0.1.size : Int))) (t1 pT))) ?_
 refine rq [(57, qi ((k0 + 1 : Nat) : Int))] none [10, 0, 3, 9, 1, 2] [320] ([(10, .sc (.i .i64 ((k0 + 1 : Nat) : Int))), (0, .sc (.s (z0.1.extract (((iAdd .i64 (FwIndex z0.1) 1)).toNat) z0.1.size))), (3, .sc (.i .i64 (((min ((FwCount p0) + 1) (p0.size + 1)) - 1 : Nat) : Int))), (9, .sc (.sl 320 0 (min ((FwCount p0) + 1) (p0.size + 1)) 1 none)), (1, .sc (.s (⟨#[44]⟩ : ByteArray))), (2, .sc (.i .i64 0))], [(320, .vec .str (z0.2.set k0 (z0.1.extract 0 (((iAdd .i64 (FwIndex z0.1) 0)).toNat))))]) 864 (t1 (pv pT (pl (show (iAdd .i64 ((k0 : Nat) : Int) 1) = ((k0 + 1 : Nat) : Int) from iAdd_nat (a := k0) (b := 1) (by omega))) (t1 pT))) ?_
 repeat (refine blkP_normal ?_)
 refine countP_normal (by omega) (⟨(by unfold FwgenSplitl0; exact ⟨by rw [List.length_set]; exact hJ0.1.1, Nat.le_trans (extract_le _ _ _) hJ0.1.2⟩), (below_succ hJ0.2 (by subst hz0; simp only [FwgenSplits0, h1, h2, sel_true, sel_false]))⟩) ?_
 exact sp [(320, 320)] [10, 3, 9, 0, 1, 2]
 have h1' := of_decide_eq_false h1
 refine Tri.exit ?_
 have hend0 : k0 = ((min ((FwCount p0) + 1) (p0.size + 1)) - 1) := by (have := of_decide_eq_false h1; omega)
 subst hend0; subst hz0
 have hf0 : fstB (FwgenSplits0 p0) ((min ((FwCount p0) + 1) (p0.size + 1)) - 1) = ((min ((FwCount p0) + 1) (p0.size + 1)) - 1) := fst_none hJ0.2
 have hb0 : Nat.blt ((min ((FwCount p0) + 1) (p0.size + 1)) - 1) ((min ((FwCount p0) + 1) (p0.size + 1)) - 1) = false := blt_self _
 have hq0 : Nat.blt (fstB (FwgenSplits0 p0) ((min ((FwCount p0) + 1) (p0.size + 1)) - 1)) ((min ((FwCount p0) + 1) (p0.size + 1)) - 1) = false := by rw [hf0]; exact hb0
 change Tri _ _ _ _ _ _
 refine sq [] none [10, 9] [320] ([(10, .sc (.i .i64 ((((min ((FwCount p0) + 1) (p0.size + 1)) - 1) : Nat) : Int))), (9, .sc (.sl 320 0 (min ((FwCount p0) + 1) (p0.size + 1)) 1 none))], [(320, .vec .str (((itr (FwgenSplitl0) ((min ((FwCount p0) + 1) (p0.size + 1)) - 1) (p0, List.replicate (min ((FwCount p0) + 1) (p0.size + 1)) (⟨#[]⟩ : ByteArray))).2).set ((min ((FwCount p0) + 1) (p0.size + 1)) - 1) ((itr (FwgenSplitl0) ((min ((FwCount p0) + 1) (p0.size + 1)) - 1) (p0, List.replicate (min ((FwCount p0) + 1) (p0.size + 1)) (⟨#[]⟩ : ByteArray))).1)))]) 544 (t3 (pu (lo ((0 : Int) ≤ ((((min ((FwCount p0) + 1) (p0.size + 1)) - 1) : Nat) : Int) ∧ ((((min ((FwCount p0) + 1) (p0.size + 1)) - 1) : Nat) : Int) < ((min ((FwCount p0) + 1) (p0.size + 1) : Nat) : Int))) (pu (pa (lo (((min ((FwCount p0) + 1) (p0.size + 1)) - 1) < ((itr (FwgenSplitl0) ((min ((FwCount p0) + 1) (p0.size + 1)) - 1) (p0, List.replicate (min ((FwCount p0) + 1) (p0.size + 1)) (⟨#[]⟩ : ByteArray))).2).length)) (lr (1 = 1))) pT))) ?_
 refine sq [(64, qi ((((min ((FwCount p0) + 1) (p0.size + 1)) - 1) + 1 : Nat) : Int))] none [8] [320] ([(8, .sc (.sl 320 0 ((((min ((FwCount p0) + 1) (p0.size + 1)) - 1) + 1) - 0) 1 none))], [(320, .vec .str (((itr (FwgenSplitl0) ((min ((FwCount p0) + 1) (p0.size + 1)) - 1) (p0, List.replicate (min ((FwCount p0) + 1) (p0.size + 1)) (⟨#[]⟩ : ByteArray))).2).set ((min ((FwCount p0) + 1) (p0.size + 1)) - 1) ((itr (FwgenSplitl0) ((min ((FwCount p0) + 1) (p0.size + 1)) - 1) (p0, List.replicate (min ((FwCount p0) + 1) (p0.size + 1)) (⟨#[]⟩ : ByteArray))).1)))]) 624 (t2 (pv pT (pl (show (iAdd .i64 ((((min ((FwCount p0) + 1) (p0.size + 1)) - 1) : Nat) : Int) 1) = ((((min ((FwCount p0) + 1) (p0.size + 1)) - 1) + 1 : Nat) : Int) from iAdd_nat (a := ((min ((FwCount p0) + 1) (p0.size + 1)) - 1)) (b := 1) (by omega))) (pu (lo ((0 : Int) ≤ 0 ∧ (0 : Int) ≤ ((((min ((FwCount p0) + 1) (p0.size + 1)) - 1) + 1 : Nat) : Int) ∧ ((((min ((FwCount p0) + 1) (p0.size + 1)) - 1) + 1 : Nat) : Int) ≤ ((min ((FwCount p0) + 1) (p0.size + 1) : Nat) : Int))) (t1 pT)))) ?_
 refine Tri.ret ?_
 refine rt ?_
 refine endP.conv (r' := ⟨.sc (.sl 0 0 ((((min ((FwCount p0) + 1) (p0.size + 1)) - 1) + 1) - 0) 1 none), [some (.vec .str (((itr (FwgenSplitl0) ((min ((FwCount p0) + 1) (p0.size + 1)) - 1) (p0, List.replicate (min ((FwCount p0) + 1) (p0.size + 1)) (⟨#[]⟩ : ByteArray))).2).set ((min ((FwCount p0) + 1) (p0.size + 1)) - 1) ((itr (FwgenSplitl0) ((min ((FwCount p0) + 1) (p0.size + 1)) - 1) (p0, List.replicate (min ((FwCount p0) + 1) (p0.size + 1)) (⟨#[]⟩ : ByteArray))).1)))]⟩) (by simp only [FwgenSplit, FwgenSplitn0, hq0, hf0, hb0, sel_true, sel_false]) ?_
 exact er [(320, 0)] pz
noncomputable def FwSplit (p0 : ByteArray) : List ByteArray :=
  (FwgenSplit p0)
noncomputable def SwSplit : List AV → List Blk → Option (Prop × Ret)
  | [.sc (.s p0), .sc (.s p1)], [] => some ((((⟨#[44]⟩ : ByteArray) = p1) ∧ (p0.size ≤ 1000000000)), ⟨.sc (.sl 0 0 (FwgenSplitn0 p0) 1 none), [some (.vec .str (FwSplit p0))]⟩)
  | _, _ => none
noncomputable def BwSplit : Bs := { P := Go.Proofs.Tryd.prog, G := gD, tab := tabOf [⟨81, 64, [.val, .val, .val, .val], [], [], ⟨0, 1, SwgenSplit⟩, false⟩], n := 8 }
theorem BwSplit.ok : BwSplit.Ok := ⟨tabOk (P := Go.Proofs.Tryd.prog) (G := gD) (l := [⟨81, 64, [.val, .val, .val, .val], [], [], ⟨0, 1, SwgenSplit⟩, false⟩]) (And.intro KwgenSplit True.intro), mixed⟩
theorem KwSplit : Known Go.Proofs.Tryd.prog gD 68 ⟨0, 1, SwSplit⟩ := by
 refine Known.walk (B := BwSplit) (fn := Go.Proofs.Tryd.f68) BwSplit.ok (by kernel_rfl) rfl (by kernel_rfl) (by kernel_rfl) (by decide) (by decide) ?_
 intro E args ks C r h hC hlen
 simp only at h
 unfold SwSplit at h
 split at h
 rotate_left
 cases h
 rename_i p0 p1
 cases h
 simp only [lens] at hlen
 obtain ⟨hEp1, hC⟩ := hC
 subst hEp1
 refine ⟨show 2 ≤ 8 from by decide, ?_⟩
 refine Tri.sub (Sub.of_eq (show _ = ([(0, .sc (.s p0)), (1, .sc (.s (⟨#[44]⟩ : ByteArray)))], []) from rfl)) ?_
 refine sq [] none [0, 1] [] ([(0, .sc (.s p0)), (1, .sc (.s (⟨#[44]⟩ : ByteArray)))], []) 32 (t1 pT) ?_
 refine sq [] none [4] [64] ([(4, .sc (.sl 64 0 (FwgenSplitn0 p0) 1 none))], [(64, .vec .str (FwgenSplit p0))]) 96 (t2 (pu (pa pT (pa (lr ((⟨#[44]⟩ : ByteArray) = (⟨#[44]⟩ : ByteArray))) (pa (lr ((0 : Int) = (0 : Int))) (pa (lr ((-1 : Int) = (-1 : Int))) (lo (p0.size ≤ 1000000000)))))) (t1 pT))) ?_
 refine Tri.ret ?_
 refine rt ?_
 exact er [(64, 0)] pz
theorem len_FwSplit (s : ByteArray) : (FwSplit s).length = min (FwCount s + 1) (s.size + 1) := by
  have h : ∀ k, (itr FwgenSplitl0 k (s, List.replicate (min (FwCount s + 1) (s.size + 1)) (⟨#[]⟩ : ByteArray))).2.length = min (FwCount s + 1) (s.size + 1) := by
    intro k
    induction k with
    | zero => rw [itr_zero, List.length_replicate]
    | succ k ih => rw [itr_succ]; unfold FwgenSplitl0; rw [List.length_set]; exact ih
  unfold FwSplit FwgenSplit
  cases Nat.blt (fstB (FwgenSplits0 s) ((min ((FwCount s) + 1) (s.size + 1)) - 1)) ((min ((FwCount s) + 1) (s.size + 1)) - 1)
  · rw [sel_false, List.length_set]; exact h _
  · rw [sel_true, List.length_set]; exact h _
theorem n_FwSplit (s : ByteArray) : FwgenSplitn0 s ≤ (FwSplit s).length := by
  rw [len_FwSplit]
  have := fst_le (FwgenSplits0 s) ((min ((FwCount s) + 1) (s.size + 1)) - 1)
  unfold FwgenSplitn0
  cases Nat.blt (fstB (FwgenSplits0 s) ((min ((FwCount s) + 1) (s.size + 1)) - 1)) ((min ((FwCount s) + 1) (s.size + 1)) - 1)
  · rw [sel_false]; omega
  · rw [sel_true]; omega
noncomputable def SwFrom : List AV → List Blk → Option (Prop × Ret)
  | [.sc (.ro .u8 p0)], [] => some (True, ⟨.sc (.p 0 0), [some (.cells [.ro .u8 p0, .b false])]⟩)
  | _, _ => none
noncomputable def BwFrom : Bs := { P := Go.Proofs.Tryd.prog, G := gD, tab := tabOf [], n := 6 }
theorem BwFrom.ok : BwFrom.Ok := ⟨tabOk (P := Go.Proofs.Tryd.prog) (G := gD) (l := []) True.intro, mixed⟩
theorem KwFrom : Known Go.Proofs.Tryd.prog gD 38 ⟨0, 1, SwFrom⟩ := by
 refine Known.walk (B := BwFrom) (fn := Go.Proofs.Tryd.f38) BwFrom.ok (by kernel_rfl) rfl (by kernel_rfl) (by kernel_rfl) (by decide) (by decide) ?_
 intro E args ks C r h hC hlen
 simp only at h
 unfold SwFrom at h
 split at h
 rotate_left
 cases h
 rename_i p0
 cases h
 simp only [lens] at hlen
 refine ⟨show 1 ≤ 6 from by decide, ?_⟩
 refine Tri.sub (Sub.of_eq (show _ = ([(0, .sc (.ro .u8 p0))], []) from rfl)) ?_
 refine sq [] none [0] [] ([(0, .sc (.ro .u8 p0))], []) 32 (t1 pT) ?_
 refine sq [] none [2] [64] ([(2, .sc (.p 64 0))], [(64, .cells [.ro .u8 p0, .b false])]) 96 (t1 (pu (pa (pa (lo (0 < 2)) (lr (1 = 1))) pT) (t2 pT))) ?_
 refine Tri.ret ?_
 refine rt ?_
 exact er [(64, 0)] pz
noncomputable def FwtakeOk (p0 : List Int) (p1 : Bool) (p2 : Int) : List Int :=
  (p0.drop 0).take (((p2).toNat) - 0)
noncomputable def FwtakeOk_1 (p0 : List Int) (p1 : Bool) (p2 : Int) : List Int :=
  (p0.drop ((p2).toNat)).take (p0.length - ((p2).toNat))
noncomputable def SwtakeOk : List AV → List Blk → Option (Prop × Ret)
  | [.sc (.p 0 0), .sc (.i .i64 p2)], [.cells [.ro .u8 p0, .b p1]] => some (((p1 = false) ∧ (((decide ((p2 : Int) > ((p0.length : Nat) : Int))) = false) ∧ ((0 : Int) ≤ p2))), ⟨.sc (.ro .u8 (FwtakeOk p0 p1 p2)), [some (.cells [.ro .u8 (FwtakeOk_1 p0 p1 p2), .b p1])]⟩)
  | _, _ => none
noncomputable def BwtakeOk : Bs := { P := Go.Proofs.Tryd.prog, G := gD, tab := tabOf [], n := 48 }
theorem BwtakeOk.ok : BwtakeOk.Ok := ⟨tabOk (P := Go.Proofs.Tryd.prog) (G := gD) (l := []) True.intro, mixed⟩
theorem KwtakeOk : Known Go.Proofs.Tryd.prog gD 67 ⟨1, 0, SwtakeOk⟩ := by
 refine Known.walk (B := BwtakeOk) (fn := Go.Proofs.Tryd.f67) BwtakeOk.ok (by kernel_rfl) rfl (by kernel_rfl) (by kernel_rfl) (by decide) (by decide) ?_
 intro E args ks C r h hC hlen
 simp only at h
 unfold SwtakeOk at h
 split at h
 rotate_left
 cases h
 rename_i p2 p0 p1
 cases h
 simp only [lens] at hlen
 have hG0 := hC.1
 have hG1 := hC.2.1
 have hG1' := of_decide_eq_false hG1
 have hC := hC.2.2
 refine ⟨show 2 ≤ 48 from by decide, ?_⟩
 refine Tri.sub (Sub.of_eq (show _ = ([(0, .sc (.p 0 0)), (1, .sc (.i .i64 p2))], [(0, .cells [.ro .u8 p0, .b p1])]) from rfl)) ?_
 refine sq [] none [0, 1] [0] ([(0, .sc (.p 0 0)), (1, .sc (.i .i64 p2))], [(0, .cells [.ro .u8 p0, .b p1])]) 32 (t1 pT) ?_
 refine Tri.seq ?_
 refine sq [(14, qb false)] none [22, 0, 1] [0] ([(22, .sc (.b (decide ((p2 : Int) > ((p0.length : Nat) : Int))))), (0, .sc (.p 0 0)), (1, .sc (.i .i64 p2))], [(0, .cells [.ro .u8 p0, .b p1])]) 304 (t6 (pu (lo (1 < 2)) (t1 (pg hG0 (t4 (pu (lo (0 < 2)) (t3 pT))))))) ?_
 refine Tri.cond (x := (decide ((p2 : Int) > ((p0.length : Nat) : Int)))) (by kernel_rfl) (fun h => absurd (h.symm.trans hG1) (by decide)) (fun h => ?_)
 refine Tri.skip ?_
 change Tri _ _ _ _ _ _
 refine sq [] none [5, 0, 1] [0] ([(5, .sc (.ro .u8 ((p0.drop 0).take (((p2).toNat) - 0)))), (0, .sc (.p 0 0)), (1, .sc (.i .i64 p2))], [(0, .cells [.ro .u8 p0, .b p1])]) 432 (t3 (pu (lo (0 < 2)) (t2 (pu (lo ((0 : Int) ≤ 0 ∧ (0 : Int) ≤ p2 ∧ (p2 : Int) ≤ p2 ∧ (p2 : Int) ≤ (p0.length : Int))) (t1 pT))))) ?_
 refine sq [] none [5] [0] ([(5, .sc (.ro .u8 ((p0.drop 0).take (((p2).toNat) - 0))))], [(0, .cells [.ro .u8 ((p0.drop ((p2).toNat)).take (p0.length - ((p2).toNat))), .b p1])]) 592 (t4 (pu (lo (0 < 2)) (t1 (pu (lo ((0 : Int) ≤ p2 ∧ (p2 : Int) ≤ ((p0.length : Nat) : Int) ∧ ((p0.length : Nat) : Int) ≤ (p0.length : Int))) (t2 (pu (pa (lo (0 < 2)) (lr (1 = 1))) pT)))))) ?_
 refine sq [] none [4] [0] ([(4, .sc (.ro .u8 ((p0.drop 0).take (((p2).toNat) - 0))))], [(0, .cells [.ro .u8 ((p0.drop ((p2).toNat)).take (p0.length - ((p2).toNat))), .b p1])]) 624 (t2 pT) ?_
 refine Tri.ret ?_
 refine rt ?_
 exact er [(0, 0)] pz
theorem len_FwtakeOk {p0 : List Int} {p1 : Bool} {p2 : Int} (h : (decide ((p2 : Int) > ((p0.length : Nat) : Int))) = false) (h0 : 0 ≤ p2) : ((FwtakeOk p0 p1 p2).length : Int) = p2 := by
  have := of_decide_eq_false h
  unfold FwtakeOk
  simp only [List.length_take, List.length_drop]
  omega
noncomputable def SwtakeNo : List AV → List Blk → Option (Prop × Ret)
  | [.sc (.p 0 0), .sc (.i .i64 p2)], [.cells [.ro .u8 p0, .b p1]] => some (((p1 = false) ∧ (((decide ((p2 : Int) > ((p0.length : Nat) : Int))) = true) ∧ True)), ⟨.sc (.nils), [some (.cells [.ro .u8 ([] : List Int), .b true])]⟩)
  | _, _ => none
noncomputable def BwtakeNo : Bs := { P := Go.Proofs.Tryd.prog, G := gD, tab := tabOf [], n := 48 }
theorem BwtakeNo.ok : BwtakeNo.Ok := ⟨tabOk (P := Go.Proofs.Tryd.prog) (G := gD) (l := []) True.intro, mixed⟩
theorem KwtakeNo : Known Go.Proofs.Tryd.prog gD 67 ⟨1, 0, SwtakeNo⟩ := by
 refine Known.walk (B := BwtakeNo) (fn := Go.Proofs.Tryd.f67) BwtakeNo.ok (by kernel_rfl) rfl (by kernel_rfl) (by kernel_rfl) (by decide) (by decide) ?_
 intro E args ks C r h hC hlen
 simp only at h
 unfold SwtakeNo at h
 split at h
 rotate_left
 cases h
 rename_i p2 p0 p1
 cases h
 simp only [lens] at hlen
 have hG0 := hC.1
 have hG1 := hC.2.1
 have hG1' := of_decide_eq_true hG1
 have hC := hC.2.2
 refine ⟨show 2 ≤ 48 from by decide, ?_⟩
 refine Tri.sub (Sub.of_eq (show _ = ([(0, .sc (.p 0 0)), (1, .sc (.i .i64 p2))], [(0, .cells [.ro .u8 p0, .b p1])]) from rfl)) ?_
 refine sq [] none [0, 1] [0] ([(0, .sc (.p 0 0)), (1, .sc (.i .i64 p2))], [(0, .cells [.ro .u8 p0, .b p1])]) 32 (t1 pT) ?_
 refine Tri.seq ?_
 refine sq [(14, qb false)] none [22, 0, 1] [0] ([(22, .sc (.b (decide ((p2 : Int) > ((p0.length : Nat) : Int))))), (0, .sc (.p 0 0)), (1, .sc (.i .i64 p2))], [(0, .cells [.ro .u8 p0, .b p1])]) 304 (t6 (pu (lo (1 < 2)) (t1 (pg hG0 (t4 (pu (lo (0 < 2)) (t3 pT))))))) ?_
 refine Tri.cond (x := (decide ((p2 : Int) > ((p0.length : Nat) : Int)))) (by kernel_rfl) (fun h => ?_) (fun h => absurd (h.symm.trans hG1) (by decide))
 refine Tri.seq ?_
 refine sq [] none [24, 0] [0] ([(24, .sc (.b true)), (0, .sc (.p 0 0))], [(0, .cells [.ro .u8 p0, .b p1])]) 336 (t2 pT) ?_
 refine Tri.cond_true (by kernel_rfl) ?_
 refine rq [] none [] [0] ([], [(0, .cells [.nils, .b true])]) 464 (t4 (pu (pa (lo (1 < 2)) (lr (1 = 1))) (t2 (pu (pa (lo (0 < 2)) (lr (1 = 1))) pT)))) ?_
 change Tri _ _ _ _ _ _
 refine sq [] none [4] [0] ([(4, .sc (.nils))], [(0, .cells [.nils, .b true])]) 480 (t1 pT) ?_
 refine Tri.sub (Sub.nilCell (l := [.nils, .b true]) 0 0 .u8 (by kernel_rfl) (by kernel_rfl)) ?_
 refine Tri.ret ?_
 refine rt ?_
 exact er [(0, 0)] pz
noncomputable def SwtakeBad : List AV → List Blk → Option (Prop × Ret)
  | [.sc (.p 0 0), .sc (.i .i64 p2)], [.cells [.ro .u8 p0, .b p1]] => some (((p1 = true) ∧ True), ⟨.sc (.nils), [some (.cells [.ro .u8 ([] : List Int), .b true])]⟩)
  | _, _ => none
noncomputable def BwtakeBad : Bs := { P := Go.Proofs.Tryd.prog, G := gD, tab := tabOf [], n := 48 }
theorem BwtakeBad.ok : BwtakeBad.Ok := ⟨tabOk (P := Go.Proofs.Tryd.prog) (G := gD) (l := []) True.intro, mixed⟩
theorem KwtakeBad : Known Go.Proofs.Tryd.prog gD 67 ⟨1, 0, SwtakeBad⟩ := by
 refine Known.walk (B := BwtakeBad) (fn := Go.Proofs.Tryd.f67) BwtakeBad.ok (by kernel_rfl) rfl (by kernel_rfl) (by kernel_rfl) (by decide) (by decide) ?_
 intro E args ks C r h hC hlen
 simp only at h
 unfold SwtakeBad at h
 split at h
 rotate_left
 cases h
 rename_i p2 p0 p1
 cases h
 simp only [lens] at hlen
 have hG0 := hC.1
 have hC := hC.2
 refine ⟨show 2 ≤ 48 from by decide, ?_⟩
 refine Tri.sub (Sub.of_eq (show _ = ([(0, .sc (.p 0 0)), (1, .sc (.i .i64 p2))], [(0, .cells [.ro .u8 p0, .b p1])]) from rfl)) ?_
 refine sq [] none [0, 1] [0] ([(0, .sc (.p 0 0)), (1, .sc (.i .i64 p2))], [(0, .cells [.ro .u8 p0, .b p1])]) 32 (t1 pT) ?_
 refine Tri.seq ?_
 refine sq [(14, qb true)] none [22, 0, 1] [0] ([(22, .sc (.b true)), (0, .sc (.p 0 0)), (1, .sc (.i .i64 p2))], [(0, .cells [.ro .u8 p0, .b p1])]) 304 (t6 (pu (lo (1 < 2)) (t1 (pg hG0 (t8 pT))))) ?_
 refine Tri.cond_true (by kernel_rfl) ?_
 refine Tri.seq ?_
 refine sq [] none [24, 0] [0] ([(24, .sc (.b true)), (0, .sc (.p 0 0))], [(0, .cells [.ro .u8 p0, .b p1])]) 336 (t2 pT) ?_
 refine Tri.cond_true (by kernel_rfl) ?_
 refine rq [] none [] [0] ([], [(0, .cells [.nils, .b true])]) 464 (t4 (pu (pa (lo (1 < 2)) (lr (1 = 1))) (t2 (pu (pa (lo (0 < 2)) (lr (1 = 1))) pT)))) ?_
 change Tri _ _ _ _ _ _
 refine sq [] none [4] [0] ([(4, .sc (.nils))], [(0, .cells [.nils, .b true])]) 480 (t1 pT) ?_
 refine Tri.sub (Sub.nilCell (l := [.nils, .b true]) 0 0 .u8 (by kernel_rfl) (by kernel_rfl)) ?_
 refine Tri.ret ?_
 refine rt ?_
 exact er [(0, 0)] pz
noncomputable def FwtakeF (p0 : List Int) (p1 : Bool) (p2 : Int) : List Int :=
  (sel p1 ([] : List Int) (sel (decide ((p2 : Int) > ((p0.length : Nat) : Int))) ([] : List Int) ((p0.drop 0).take (((p2).toNat) - 0))))
noncomputable def FwtakeF_1 (p0 : List Int) (p1 : Bool) (p2 : Int) : List Int :=
  (sel p1 ([] : List Int) (sel (decide ((p2 : Int) > ((p0.length : Nat) : Int))) ([] : List Int) ((p0.drop ((p2).toNat)).take (p0.length - ((p2).toNat)))))
noncomputable def FwtakeF_2 (p0 : List Int) (p1 : Bool) (p2 : Int) : Bool :=
  (sel p1 true (sel (decide ((p2 : Int) > ((p0.length : Nat) : Int))) true p1))
noncomputable def SwtakeF : List AV → List Blk → Option (Prop × Ret)
  | [.sc (.p 0 0), .sc (.i .i64 p2)], [.cells [.ro .u8 p0, .b p1]] => some (((0 : Int) ≤ p2), ⟨.sc (.ro .u8 (FwtakeF p0 p1 p2)), [some (.cells [.ro .u8 (FwtakeF_1 p0 p1 p2), .b (FwtakeF_2 p0 p1 p2)])]⟩)
  | _, _ => none
noncomputable def BwtakeF : Bs := { P := Go.Proofs.Tryd.prog, G := gD, tab := tabOf [], n := 48 }
theorem BwtakeF.ok : BwtakeF.Ok := ⟨tabOk (P := Go.Proofs.Tryd.prog) (G := gD) (l := []) True.intro, mixed⟩
theorem KwtakeF : Known Go.Proofs.Tryd.prog gD 67 ⟨1, 0, SwtakeF⟩ := by
 refine Known.walk (B := BwtakeF) (fn := Go.Proofs.Tryd.f67) BwtakeF.ok (by kernel_rfl) rfl (by kernel_rfl) (by kernel_rfl) (by decide) (by decide) ?_
 intro E args ks C r h hC hlen
 simp only at h
 unfold SwtakeF at h
 split at h
 rotate_left
 cases h
 rename_i p2 p0 p1
 cases h
 simp only [lens] at hlen
 refine ⟨show 2 ≤ 48 from by decide, ?_⟩
 refine Tri.sub (Sub.of_eq (show _ = ([(0, .sc (.p 0 0)), (1, .sc (.i .i64 p2))], [(0, .cells [.ro .u8 p0, .b p1])]) from rfl)) ?_
 refine sq [] none [0, 1] [0] ([(0, .sc (.p 0 0)), (1, .sc (.i .i64 p2))], [(0, .cells [.ro .u8 p0, .b p1])]) 32 (t1 pT) ?_
 refine Tri.seq ?_
 refine Tri.split p1 (fun h1 => ?_) (fun h1 => ?_)
 refine sq [(14, qb true)] none [22, 0, 1] [0] ([(22, .sc (.b true)), (0, .sc (.p 0 0)), (1, .sc (.i .i64 p2))], [(0, .cells [.ro .u8 p0, .b p1])]) 304 (t6 (pu (lo (1 < 2)) (t1 (pg h1 (t8 pT))))) ?_
 refine Tri.cond_true (by kernel_rfl) ?_
 refine Tri.seq ?_
 refine sq [] none [24, 0] [0] ([(24, .sc (.b true)), (0, .sc (.p 0 0))], [(0, .cells [.ro .u8 p0, .b p1])]) 336 (t2 pT) ?_
 refine Tri.cond_true (by kernel_rfl) ?_
 refine rq [] none [] [0] ([], [(0, .cells [.nils, .b true])]) 464 (t4 (pu (pa (lo (1 < 2)) (lr (1 = 1))) (t2 (pu (pa (lo (0 < 2)) (lr (1 = 1))) pT)))) ?_
 change Tri _ _ _ _ _ _
 refine sq [] none [4] [0] ([(4, .sc (.nils))], [(0, .cells [.nils, .b true])]) 480 (t1 pT) ?_
 refine Tri.sub (Sub.nilRo 4 .u8 (by kernel_rfl)) ?_
 refine Tri.sub (Sub.nilCell (l := [.nils, .b true]) 0 0 .u8 (by kernel_rfl) (by kernel_rfl)) ?_
 refine Tri.ret ?_
 refine rt ?_
 refine endP.conv (r' := ⟨.sc (.ro .u8 ([] : List Int)), [some (.cells [.ro .u8 ([] : List Int), .b true])]⟩) (by simp only [FwtakeF, FwtakeF_1, FwtakeF_2, h1, sel_true, sel_false]) ?_
 exact er [(0, 0)] pz
 refine sq [(14, qb false)] none [22, 0, 1] [0] ([(22, .sc (.b (decide ((p2 : Int) > ((p0.length : Nat) : Int))))), (0, .sc (.p 0 0)), (1, .sc (.i .i64 p2))], [(0, .cells [.ro .u8 p0, .b p1])]) 304 (t6 (pu (lo (1 < 2)) (t1 (pg h1 (t4 (pu (lo (0 < 2)) (t3 pT))))))) ?_
 refine Tri.cond (x := (decide ((p2 : Int) > ((p0.length : Nat) : Int)))) (by kernel_rfl) (fun h2 => ?_) (fun h2 => ?_)
 have h2' := of_decide_eq_true h2
 refine Tri.seq ?_
 refine sq [] none [24, 0] [0] ([(24, .sc (.b true)), (0, .sc (.p 0 0))], [(0, .cells [.ro .u8 p0, .b p1])]) 336 (t2 pT) ?_
 refine Tri.cond_true (by kernel_rfl) ?_
 refine rq [] none [] [0] ([], [(0, .cells [.nils, .b true])]) 464 (t4 (pu (pa (lo (1 < 2)) (lr (1 = 1))) (t2 (pu (pa (lo (0 < 2)) (lr (1 = 1))) pT)))) ?_
 change Tri _ _ _ _ _ _
 refine sq [] none [4] [0] ([(4, .sc (.nils))], [(0, .cells [.nils, .b true])]) 480 (t1 pT) ?_
 refine Tri.sub (Sub.nilRo 4 .u8 (by kernel_rfl)) ?_
 refine Tri.sub (Sub.nilCell (l := [.nils, .b true]) 0 0 .u8 (by kernel_rfl) (by kernel_rfl)) ?_
 refine Tri.ret ?_
 refine rt ?_
 refine endP.conv (r' := ⟨.sc (.ro .u8 ([] : List Int)), [some (.cells [.ro .u8 ([] : List Int), .b true])]⟩) (by simp only [FwtakeF, FwtakeF_1, FwtakeF_2, h1, h2, sel_true, sel_false]) ?_
 exact er [(0, 0)] pz
 have h2' := of_decide_eq_false h2
 refine Tri.skip ?_
 change Tri _ _ _ _ _ _
 refine sq [] none [5, 0, 1] [0] ([(5, .sc (.ro .u8 ((p0.drop 0).take (((p2).toNat) - 0)))), (0, .sc (.p 0 0)), (1, .sc (.i .i64 p2))], [(0, .cells [.ro .u8 p0, .b p1])]) 432 (t3 (pu (lo (0 < 2)) (t2 (pu (lo ((0 : Int) ≤ 0 ∧ (0 : Int) ≤ p2 ∧ (p2 : Int) ≤ p2 ∧ (p2 : Int) ≤ (p0.length : Int))) (t1 pT))))) ?_
 refine sq [] none [5] [0] ([(5, .sc (.ro .u8 ((p0.drop 0).take (((p2).toNat) - 0))))], [(0, .cells [.ro .u8 ((p0.drop ((p2).toNat)).take (p0.length - ((p2).toNat))), .b p1])]) 592 (t4 (pu (lo (0 < 2)) (t1 (pu (lo ((0 : Int) ≤ p2 ∧ (p2 : Int) ≤ ((p0.length : Nat) : Int) ∧ ((p0.length : Nat) : Int) ≤ (p0.length : Int))) (t2 (pu (pa (lo (0 < 2)) (lr (1 = 1))) pT)))))) ?_
 refine sq [] none [4] [0] ([(4, .sc (.ro .u8 ((p0.drop 0).take (((p2).toNat) - 0))))], [(0, .cells [.ro .u8 ((p0.drop ((p2).toNat)).take (p0.length - ((p2).toNat))), .b p1])]) 624 (t2 pT) ?_
 refine Tri.ret ?_
 refine rt ?_
 refine endP.conv (r' := ⟨.sc (.ro .u8 ((p0.drop 0).take (((p2).toNat) - 0))), [some (.cells [.ro .u8 ((p0.drop ((p2).toNat)).take (p0.length - ((p2).toNat))), .b p1])]⟩) (by simp only [FwtakeF, FwtakeF_1, FwtakeF_2, h1, h2, sel_true, sel_false]) ?_
 exact er [(0, 0)] pz
theorem le_FwtakeF (p0 : List Int) (p1 : Bool) (p2 : Int) : (FwtakeF p0 p1 p2).length ≤ p2.toNat := by
  unfold FwtakeF
  cases p1
  · simp only [sel_false]
    cases (decide ((p2 : Int) > ((p0.length : Nat) : Int)))
    · simp only [sel_false, List.length_take, List.length_drop]; omega
    · simp only [sel_true, List.length_nil]; omega
  · simp only [sel_true, List.length_nil]; omega
noncomputable def FwByte (p0 : List Int) (p1 : Bool) : Int :=
  (sel p1 0 (sel (decide ((1 : Int) > ((p0.length : Nat) : Int))) 0 ((FwtakeOk p0 p1 1).getD 0 0)))
noncomputable def FwByte_1 (p0 : List Int) (p1 : Bool) : List Int :=
  (sel p1 ([] : List Int) (sel (decide ((1 : Int) > ((p0.length : Nat) : Int))) ([] : List Int) (FwtakeOk_1 p0 p1 1)))
noncomputable def FwByte_2 (p0 : List Int) (p1 : Bool) : Bool :=
  (sel p1 true (sel (decide ((1 : Int) > ((p0.length : Nat) : Int))) true p1))
noncomputable def SwByte : List AV → List Blk → Option (Prop × Ret)
  | [.sc (.p 0 0)], [.cells [.ro .u8 p0, .b p1]] => some (True, ⟨.sc (.i .u8 (FwByte p0 p1)), [some (.cells [.ro .u8 (FwByte_1 p0 p1), .b (FwByte_2 p0 p1)])]⟩)
  | _, _ => none
noncomputable def BwByte : Bs := { P := Go.Proofs.Tryd.prog, G := gD, tab := tabOf [⟨67, 48, [.io, .val], [], [0], ⟨1, 0, SwtakeBad⟩, false⟩, ⟨67, 144, [.io, .val], [], [0], ⟨1, 0, SwtakeNo⟩, false⟩, ⟨67, 240, [.io, .val], [], [0], ⟨1, 0, SwtakeOk⟩, false⟩], n := 11 }
theorem BwByte.ok : BwByte.Ok := ⟨tabOk (P := Go.Proofs.Tryd.prog) (G := gD) (l := [⟨67, 48, [.io, .val], [], [0], ⟨1, 0, SwtakeBad⟩, false⟩, ⟨67, 144, [.io, .val], [], [0], ⟨1, 0, SwtakeNo⟩, false⟩, ⟨67, 240, [.io, .val], [], [0], ⟨1, 0, SwtakeOk⟩, false⟩]) (And.intro KwtakeBad (And.intro KwtakeNo (And.intro KwtakeOk True.intro))), mixed⟩
theorem KwByte : Known Go.Proofs.Tryd.prog gD 39 ⟨1, 0, SwByte⟩ := by
 refine Known.walk (B := BwByte) (fn := Go.Proofs.Tryd.f39) BwByte.ok (by kernel_rfl) rfl (by kernel_rfl) (by kernel_rfl) (by decide) (by decide) ?_
 intro E args ks C r h hC hlen
 simp only at h
 unfold SwByte at h
 split at h
 rotate_left
 cases h
 rename_i p0 p1
 cases h
 simp only [lens] at hlen
 refine ⟨show 1 ≤ 11 from by decide, ?_⟩
 refine Tri.sub (Sub.of_eq (show _ = ([(0, .sc (.p 0 0))], [(0, .cells [.ro .u8 p0, .b p1])]) from rfl)) ?_
 refine sq [] none [0] [0] ([(0, .sc (.p 0 0))], [(0, .cells [.ro .u8 p0, .b p1])]) 32 (t1 pT) ?_
 refine Tri.seq ?_
 refine Tri.split p1 (fun h1 => ?_) (fun h1 => ?_)
 refine sq [] none [3] [0] ([(3, .sc (.nils))], [(0, .cells [.ro .u8 ([] : List Int), .b true])]) 80 (t1 (pu (pa pT (pa (pl h1) pT)) (t1 pT))) ?_
 refine sq [] none [7, 3] [0] ([(7, .sc (.b false)), (3, .sc (.nils))], [(0, .cells [.ro .u8 ([] : List Int), .b true])]) 112 (t2 pT) ?_
 refine Tri.cond_false (by kernel_rfl) ?_
 refine Tri.skip ?_
 change Tri _ _ _ _ _ _
 refine sq [] none [2] [0] ([(2, .sc (.i .u8 0))], [(0, .cells [.ro .u8 ([] : List Int), .b true])]) 128 (t1 pT) ?_
 refine Tri.ret ?_
 refine rt ?_
 refine endP.conv (r' := ⟨.sc (.i .u8 0), [some (.cells [.ro .u8 ([] : List Int), .b true])]⟩) (by simp only [FwByte, FwByte_1, FwByte_2, h1, sel_true, sel_false]) ?_
 exact er [(0, 0)] pz
 refine Tri.sub (Sub.up (U' := 128) (by decide)) ?_
 refine Tri.split (decide ((1 : Int) > ((p0.length : Nat) : Int))) (fun h2 => ?_) (fun h2 => ?_)
 have h2' := of_decide_eq_true h2
 refine sq [] none [3] [0] ([(3, .sc (.nils))], [(0, .cells [.ro .u8 ([] : List Int), .b true])]) 176 (t1 (pu (pa pT (pa (pl h1) (pa (pl h2) pT))) (t1 pT))) ?_
 refine sq [] none [7, 3] [0] ([(7, .sc (.b false)), (3, .sc (.nils))], [(0, .cells [.ro .u8 ([] : List Int), .b true])]) 208 (t2 pT) ?_
 refine Tri.cond_false (by kernel_rfl) ?_
 refine Tri.skip ?_
 change Tri _ _ _ _ _ _
 refine sq [] none [2] [0] ([(2, .sc (.i .u8 0))], [(0, .cells [.ro .u8 ([] : List Int), .b true])]) 224 (t1 pT) ?_
 refine Tri.ret ?_
 refine rt ?_
 refine endP.conv (r' := ⟨.sc (.i .u8 0), [some (.cells [.ro .u8 ([] : List Int), .b true])]⟩) (by simp only [FwByte, FwByte_1, FwByte_2, h1, h2, sel_true, sel_false]) ?_
 exact er [(0, 0)] pz
 have h2' := of_decide_eq_false h2
 refine Tri.sub (Sub.up (U' := 224) (by decide)) ?_
 refine sq [] none [3] [0] ([(3, .sc (.ro .u8 (FwtakeOk p0 p1 1)))], [(0, .cells [.ro .u8 (FwtakeOk_1 p0 p1 1), .b p1])]) 272 (t1 (pu (pa pT (pa (pl h1) (pa (pl h2) (pl (show (0 : Int) ≤ 1 from by first | omega | (have hq := len_FwtakeOk (p0 := p0) (p1 := p1) (p2 := 1) (by assumption) (by decide); omega) | decide))))) (t1 pT))) ?_
 refine sq [] none [7, 3] [0] ([(7, .sc (.b true)), (3, .sc (.ro .u8 (FwtakeOk p0 p1 1)))], [(0, .cells [.ro .u8 (FwtakeOk_1 p0 p1 1), .b p1])]) 304 (t1 (pu (pl (show 0 < (FwtakeOk p0 p1 1).length from by first | omega | (have hq := len_FwtakeOk (p0 := p0) (p1 := p1) (p2 := 1) (by assumption) (by decide); omega) | decide)) pT)) ?_
 refine Tri.cond_true (by kernel_rfl) ?_
 refine sq [] none [2] [0] ([(2, .sc (.i .u8 ((FwtakeOk p0 p1 1).getD 0 0)))], [(0, .cells [.ro .u8 (FwtakeOk_1 p0 p1 1), .b p1])]) 368 (t1 (pu (pl (show (0 : Int) ≤ 0 ∧ 0 < ((FwtakeOk p0 p1 1).length : Int) from by first | omega | (have hq := len_FwtakeOk (p0 := p0) (p1 := p1) (p2 := 1) (by assumption) (by decide); omega) | decide)) (pu (pl (show 0 < (FwtakeOk p0 p1 1).length from by first | omega | (have hq := len_FwtakeOk (p0 := p0) (p1 := p1) (p2 := 1) (by assumption) (by decide); omega) | decide)) (t1 pT)))) ?_
 refine Tri.ret ?_
 refine rt ?_
 refine endP.conv (r' := ⟨.sc (.i .u8 ((FwtakeOk p0 p1 1).getD 0 0)), [some (.cells [.ro .u8 (FwtakeOk_1 p0 p1 1), .b p1])]⟩) (by simp only [FwByte, FwByte_1, FwByte_2, h1, h2, sel_true, sel_false]) ?_
 exact er [(0, 0)] pz
noncomputable def FwFlag (p0 : List Int) (p1 : Bool) : Bool :=
  (((FwByte p0 p1) : Int) != 0)
noncomputable def FwFlag_1 (p0 : List Int) (p1 : Bool) : List Int :=
  (FwByte_1 p0 p1)
noncomputable def FwFlag_2 (p0 : List Int) (p1 : Bool) : Bool :=
  (FwByte_2 p0 p1)
noncomputable def SwFlag : List AV → List Blk → Option (Prop × Ret)
  | [.sc (.p 0 0)], [.cells [.ro .u8 p0, .b p1]] => some (True, ⟨.sc (.b (FwFlag p0 p1)), [some (.cells [.ro .u8 (FwFlag_1 p0 p1), .b (FwFlag_2 p0 p1)])]⟩)
  | _, _ => none
noncomputable def BwFlag : Bs := { P := Go.Proofs.Tryd.prog, G := gD, tab := tabOf [⟨39, 48, [.io], [], [0], ⟨1, 0, SwByte⟩, false⟩], n := 6 }
theorem BwFlag.ok : BwFlag.Ok := ⟨tabOk (P := Go.Proofs.Tryd.prog) (G := gD) (l := [⟨39, 48, [.io], [], [0], ⟨1, 0, SwByte⟩, false⟩]) (And.intro KwByte True.intro), mixed⟩
theorem KwFlag : Known Go.Proofs.Tryd.prog gD 42 ⟨1, 0, SwFlag⟩ := by
 refine Known.walk (B := BwFlag) (fn := Go.Proofs.Tryd.f42) BwFlag.ok (by kernel_rfl) rfl (by kernel_rfl) (by kernel_rfl) (by decide) (by decide) ?_
 intro E args ks C r h hC hlen
 simp only at h
 unfold SwFlag at h
 split at h
 rotate_left
 cases h
 rename_i p0 p1
 cases h
 simp only [lens] at hlen
 refine ⟨show 1 ≤ 6 from by decide, ?_⟩
 refine Tri.sub (Sub.of_eq (show _ = ([(0, .sc (.p 0 0))], [(0, .cells [.ro .u8 p0, .b p1])]) from rfl)) ?_
 refine sq [] none [0] [0] ([(0, .sc (.p 0 0))], [(0, .cells [.ro .u8 p0, .b p1])]) 32 (t1 pT) ?_
 refine sq [] none [2] [0] ([(2, .sc (.b (((FwByte p0 p1) : Int) != 0)))], [(0, .cells [.ro .u8 (FwByte_1 p0 p1), .b (FwByte_2 p0 p1)])]) 96 (t1 (pu pz (t2 pT))) ?_
 refine Tri.ret ?_
 refine rt ?_
 exact er [(0, 0)] pz
noncomputable def FwOk (p0 : List Int) (p1 : Bool) : Bool :=
  (!p1)
noncomputable def SwOk : List AV → List Blk → Option (Prop × Ret)
  | [.sc (.p 0 0)], [.cells [.ro .u8 p0, .b p1]] => some (True, ⟨.sc (.b (FwOk p0 p1)), [some (.cells [.ro .u8 p0, .b p1])]⟩)
  | _, _ => none
noncomputable def BwOk : Bs := { P := Go.Proofs.Tryd.prog, G := gD, tab := tabOf [], n := 12 }
theorem BwOk.ok : BwOk.Ok := ⟨tabOk (P := Go.Proofs.Tryd.prog) (G := gD) (l := []) True.intro, mixed⟩
theorem KwOk : Known Go.Proofs.Tryd.prog gD 69 ⟨1, 0, SwOk⟩ := by
 refine Known.walk (B := BwOk) (fn := Go.Proofs.Tryd.f69) BwOk.ok (by kernel_rfl) rfl (by kernel_rfl) (by kernel_rfl) (by decide) (by decide) ?_
 intro E args ks C r h hC hlen
 simp only at h
 unfold SwOk at h
 split at h
 rotate_left
 cases h
 rename_i p0 p1
 cases h
 simp only [lens] at hlen
 refine ⟨show 1 ≤ 12 from by decide, ?_⟩
 refine Tri.sub (Sub.of_eq (show _ = ([(0, .sc (.p 0 0))], [(0, .cells [.ro .u8 p0, .b p1])]) from rfl)) ?_
 refine sq [] none [0] [0] ([(0, .sc (.p 0 0))], [(0, .cells [.ro .u8 p0, .b p1])]) 32 (t1 pT) ?_
 refine sq [] none [2] [0] ([(2, .sc (.b (!p1)))], [(0, .cells [.ro .u8 p0, .b p1])]) 192 (t6 (pu (lo (1 < 2)) (t3 pT))) ?_
 refine Tri.ret ?_
 refine rt ?_
 exact er [(0, 0)] pz
noncomputable def FwEnd (p0 : List Int) (p1 : Bool) : Bool :=
  (sel (FwOk p0 p1) ((((p0.length : Nat) : Int) : Int) == 0) false)
noncomputable def SwEnd : List AV → List Blk → Option (Prop × Ret)
  | [.sc (.p 0 0)], [.cells [.ro .u8 p0, .b p1]] => some (True, ⟨.sc (.b (FwEnd p0 p1)), [some (.cells [.ro .u8 p0, .b p1])]⟩)
  | _, _ => none
noncomputable def BwEnd : Bs := { P := Go.Proofs.Tryd.prog, G := gD, tab := tabOf [⟨69, 48, [.io], [], [0], ⟨1, 0, SwOk⟩, false⟩], n := 13 }
theorem BwEnd.ok : BwEnd.Ok := ⟨tabOk (P := Go.Proofs.Tryd.prog) (G := gD) (l := [⟨69, 48, [.io], [], [0], ⟨1, 0, SwOk⟩, false⟩]) (And.intro KwOk True.intro), mixed⟩
theorem KwEnd : Known Go.Proofs.Tryd.prog gD 44 ⟨1, 0, SwEnd⟩ := by
 refine Known.walk (B := BwEnd) (fn := Go.Proofs.Tryd.f44) BwEnd.ok (by kernel_rfl) rfl (by kernel_rfl) (by kernel_rfl) (by decide) (by decide) ?_
 intro E args ks C r h hC hlen
 simp only at h
 unfold SwEnd at h
 split at h
 rotate_left
 cases h
 rename_i p0 p1
 cases h
 simp only [lens] at hlen
 refine ⟨show 1 ≤ 13 from by decide, ?_⟩
 refine Tri.sub (Sub.of_eq (show _ = ([(0, .sc (.p 0 0))], [(0, .cells [.ro .u8 p0, .b p1])]) from rfl)) ?_
 refine sq [] none [0] [0] ([(0, .sc (.p 0 0))], [(0, .cells [.ro .u8 p0, .b p1])]) 32 (t1 pT) ?_
 refine Tri.split (FwOk p0 p1) (fun h1 => ?_) (fun h1 => ?_)
 refine sq [(5, qb true)] none [2] [0] ([(2, .sc (.b ((((p0.length : Nat) : Int) : Int) == 0)))], [(0, .cells [.ro .u8 p0, .b p1])]) 208 (t1 (pu pz (pg h1 (t3 (pu (lo (0 < 2)) (t4 pT)))))) ?_
 refine Tri.ret ?_
 refine rt ?_
 refine endP.conv (r' := ⟨.sc (.b ((((p0.length : Nat) : Int) : Int) == 0)), [some (.cells [.ro .u8 p0, .b p1])]⟩) (by simp only [FwEnd, h1, sel_true, sel_false]) ?_
 exact er [(0, 0)] pz
 refine sq [(5, qb false)] none [2] [0] ([(2, .sc (.b false))], [(0, .cells [.ro .u8 p0, .b p1])]) 208 (t1 (pu pz (pg h1 (t8 pT)))) ?_
 refine Tri.ret ?_
 refine rt ?_
 refine endP.conv (r' := ⟨.sc (.b false), [some (.cells [.ro .u8 p0, .b p1])]⟩) (by simp only [FwEnd, h1, sel_true, sel_false]) ?_
 exact er [(0, 0)] pz
noncomputable def FwU32l0 (p0 : List Int) (p1 : Bool) (k0 : Nat) (z0 : Int) : Int :=
  (iOr .u32 (iShl .u32 z0 8) (IntKind.wrap .u32 ((FwtakeF p0 p1 4).getD k0 0)))
noncomputable def FwU32 (p0 : List Int) (p1 : Bool) : Int :=
  (itr (FwU32l0 p0 p1) ((FwtakeF p0 p1 4).length) 0)
noncomputable def FwU32_1 (p0 : List Int) (p1 : Bool) : List Int :=
  (FwtakeF_1 p0 p1 4)
noncomputable def FwU32_2 (p0 : List Int) (p1 : Bool) : Bool :=
  (FwtakeF_2 p0 p1 4)
noncomputable def SwU32 : List AV → List Blk → Option (Prop × Ret)
  | [.sc (.p 0 0)], [.cells [.ro .u8 p0, .b p1]] => some (True, ⟨.sc (.i .u32 (FwU32 p0 p1)), [some (.cells [.ro .u8 (FwU32_1 p0 p1), .b (FwU32_2 p0 p1)])]⟩)
  | _, _ => none
noncomputable def BwU32 : Bs := { P := Go.Proofs.Tryd.prog, G := gD, tab := tabOf [⟨67, 64, [.io, .val], [], [0], ⟨1, 0, SwtakeF⟩, false⟩], n := 20 }
theorem BwU32.ok : BwU32.Ok := ⟨tabOk (P := Go.Proofs.Tryd.prog) (G := gD) (l := [⟨67, 64, [.io, .val], [], [0], ⟨1, 0, SwtakeF⟩, false⟩]) (And.intro KwtakeF True.intro), mixed⟩
theorem KwU32 : Known Go.Proofs.Tryd.prog gD 43 ⟨1, 0, SwU32⟩ := by
 refine Known.walk (B := BwU32) (fn := Go.Proofs.Tryd.f43) BwU32.ok (by kernel_rfl) rfl (by kernel_rfl) (by kernel_rfl) (by decide) (by decide) ?_
 intro E args ks C r h hC hlen
 simp only at h
 unfold SwU32 at h
 split at h
 rotate_left
 cases h
 rename_i p0 p1
 cases h
 simp only [lens] at hlen
 have hf0 : (FwtakeF p0 p1 4).length ≤ 4 := le_FwtakeF p0 p1 4
 refine ⟨show 1 ≤ 20 from by decide, ?_⟩
 refine Tri.sub (Sub.of_eq (show _ = ([(0, .sc (.p 0 0))], [(0, .cells [.ro .u8 p0, .b p1])]) from rfl)) ?_
 refine sq [] none [0] [0] ([(0, .sc (.p 0 0))], [(0, .cells [.ro .u8 p0, .b p1])]) 32 (t1 pT) ?_
 refine sq [] none [3, 0] [0] ([(3, .sc (.i .u32 0)), (0, .sc (.p 0 0))], [(0, .cells [.ro .u8 p0, .b p1])]) 48 (t1 pT) ?_
 refine Tri.seq ?_
 refine sq [] none [9, 8, 7, 3] [0] ([(9, .sc (.i .i64 0)), (8, .sc (.i .i64 (((FwtakeF p0 p1 4).length : Nat) : Int))), (7, .sc (.ro .u8 (FwtakeF p0 p1 4))), (3, .sc (.i .u32 0))], [(0, .cells [.ro .u8 (FwtakeF_1 p0 p1 4), .b (FwtakeF_2 p0 p1 4)])]) 112 (t1 (pu (pa pT (lo ((0 : Int) ≤ 4))) (t2 pT))) ?_
 refine Tri.block ?_
 refine Tri.count 112 ((FwtakeF p0 p1 4).length) (FwU32l0 p0 p1) 0 (fun k0 z0 => True) (fun k0 z0 => ([(9, .sc (.i .i64 ((k0 : Nat) : Int))), (8, .sc (.i .i64 (((FwtakeF p0 p1 4).length : Nat) : Int))), (7, .sc (.ro .u8 (FwtakeF p0 p1 4))), (3, .sc (.i .u32 z0))], [(0, .cells [.ro .u8 (FwtakeF_1 p0 p1 4), .b (FwtakeF_2 p0 p1 4)])])) trivial (Sub.of_eq (by kernel_rfl)) ?_
 intro k0 z0 hk0 hz0 hJ0
 refine sq [] none [10, 9, 8, 7, 3] [0] ([(10, .sc (.b (decide ((((k0 : Nat) : Int) : Int) < (((FwtakeF p0 p1 4).length : Nat) : Int))))), (9, .sc (.i .i64 ((k0 : Nat) : Int))), (8, .sc (.i .i64 (((FwtakeF p0 p1 4).length : Nat) : Int))), (7, .sc (.ro .u8 (FwtakeF p0 p1 4))), (3, .sc (.i .u32 z0))], [(0, .cells [.ro .u8 (FwtakeF_1 p0 p1 4), .b (FwtakeF_2 p0 p1 4)])]) 128 (t1 pT) ?_
 refine Tri.seq ?_
 refine Tri.cond (x := (decide ((((k0 : Nat) : Int) : Int) < (((FwtakeF p0 p1 4).length : Nat) : Int)))) (by kernel_rfl) (fun h1 => ?_) (fun h1 => ?_)
 have h1' := of_decide_eq_true h1
 refine Tri.skip ?_
 change Tri _ _ _ _ _ _
 refine Tri.seq ?_
 refine Tri.block ?_
 refine sq [] none [5, 9, 8, 7, 3] [0] ([(5, .sc (.i .u8 ((FwtakeF p0 p1 4).getD k0 0))), (9, .sc (.i .i64 ((k0 : Nat) : Int))), (8, .sc (.i .i64 (((FwtakeF p0 p1 4).length : Nat) : Int))), (7, .sc (.ro .u8 (FwtakeF p0 p1 4))), (3, .sc (.i .u32 z0))], [(0, .cells [.ro .u8 (FwtakeF_1 p0 p1 4), .b (FwtakeF_2 p0 p1 4)])]) 176 (pu (lo ((0 : Int) ≤ ((k0 : Nat) : Int) ∧ ((k0 : Nat) : Int) < ((FwtakeF p0 p1 4).length : Int))) (pu (lo (k0 < (FwtakeF p0 p1 4).length)) (t1 pT))) ?_
 refine rq [] none [3, 9, 8, 7] [0] ([(3, .sc (.i .u32 (iOr .u32 (iShl .u32 z0 8) (IntKind.wrap .u32 ((FwtakeF p0 p1 4).getD k0 0))))), (9, .sc (.i .i64 ((k0 : Nat) : Int))), (8, .sc (.i .i64 (((FwtakeF p0 p1 4).length : Nat) : Int))), (7, .sc (.ro .u8 (FwtakeF p0 p1 4)))], [(0, .cells [.ro .u8 (FwtakeF_1 p0 p1 4), .b (FwtakeF_2 p0 p1 4)])]) 272 (t1 (pu (lo ((0 : Int) ≤ 8)) (t4 pT))) ?_
 change Tri _ _ _ _ _ _
 refine rq [(18, qi ((k0 + 1 : Nat) : Int))] none [9, 3, 8, 7] [0] ([(9, .sc (.i .i64 ((k0 + 1 : Nat) : Int))), (3, .sc (.i .u32 (iOr .u32 (iShl .u32 z0 8) (IntKind.wrap .u32 ((FwtakeF p0 p1 4).getD k0 0))))), (8, .sc (.i .i64 (((FwtakeF p0 p1 4).length : Nat) : Int))), (7, .sc (.ro .u8 (FwtakeF p0 p1 4)))], [(0, .cells [.ro .u8 (FwtakeF_1 p0 p1 4), .b (FwtakeF_2 p0 p1 4)])]) 304 (pv pT (pl (show (iAdd .i64 ((k0 : Nat) : Int) 1) = ((k0 + 1 : Nat) : Int) from iAdd_nat (a := k0) (b := 1) (by omega))) (t1 pT)) ?_
 repeat (refine blkP_normal ?_)
 refine countP_normal (by omega) trivial ?_
 exact sp [(0, 0)] [9, 8, 7, 3]
 have h1' := of_decide_eq_false h1
 refine Tri.exit ?_
 have hend0 : k0 = ((FwtakeF p0 p1 4).length) := by (have := of_decide_eq_false h1; omega)
 subst hend0; subst hz0
 change Tri _ _ _ _ _ _
 refine sq [] none [2] [0] ([(2, .sc (.i .u32 (itr (FwU32l0 p0 p1) ((FwtakeF p0 p1 4).length) 0)))], [(0, .cells [.ro .u8 (FwtakeF_1 p0 p1 4), .b (FwtakeF_2 p0 p1 4)])]) 160 (t2 pT) ?_
 refine Tri.ret ?_
 refine rt ?_
 exact er [(0, 0)] pz
theorem in_FwU32 (p0 : List Int) (p1 : Bool) : 0 ≤ FwU32 p0 p1 ∧ FwU32 p0 p1 < 4294967296 := by
  have h0 : ∀ n, 0 ≤ itr (FwU32l0 p0 p1) n 0 ∧ itr (FwU32l0 p0 p1) n 0 < 4294967296 := by
    intro n
    cases n with
    | zero => rw [itr_zero]; decide
    | succ k => rw [itr_succ]; unfold FwU32l0 iOr; rw [wrap_u32]; omega
  exact h0 _
theorem nn_FwU32 (p0 : List Int) (p1 : Bool) : 0 ≤ IntKind.wrap .i64 (FwU32 p0 p1) := by
  have := in_FwU32 p0 p1
  rw [wrap_small (by omega) (by omega)]
  exact this.1
noncomputable def FwText (p0 : List Int) (p1 : Bool) : ByteArray :=
  (sel (decide (((FwU32 p0 p1) : Int) > 16384)) (⟨#[]⟩ : ByteArray) (bytesOf (FwtakeF (FwU32_1 p0 p1) (FwU32_2 p0 p1) (IntKind.wrap .i64 (FwU32 p0 p1)))))
noncomputable def FwText_1 (p0 : List Int) (p1 : Bool) : List Int :=
  (sel (decide (((FwU32 p0 p1) : Int) > 16384)) (FwtakeF_1 (FwU32_1 p0 p1) (FwU32_2 p0 p1) 1073741824) (FwtakeF_1 (FwU32_1 p0 p1) (FwU32_2 p0 p1) (IntKind.wrap .i64 (FwU32 p0 p1))))
noncomputable def FwText_2 (p0 : List Int) (p1 : Bool) : Bool :=
  (sel (decide (((FwU32 p0 p1) : Int) > 16384)) (FwtakeF_2 (FwU32_1 p0 p1) (FwU32_2 p0 p1) 1073741824) (FwtakeF_2 (FwU32_1 p0 p1) (FwU32_2 p0 p1) (IntKind.wrap .i64 (FwU32 p0 p1))))
noncomputable def SwText : List AV → List Blk → Option (Prop × Ret)
  | [.sc (.p 0 0)], [.cells [.ro .u8 p0, .b p1]] => some (True, ⟨.sc (.s (FwText p0 p1)), [some (.cells [.ro .u8 (FwText_1 p0 p1), .b (FwText_2 p0 p1)])]⟩)
  | _, _ => none
noncomputable def BwText : Bs := { P := Go.Proofs.Tryd.prog, G := gD, tab := tabOf [⟨43, 48, [.io], [], [0], ⟨1, 0, SwU32⟩, false⟩, ⟨67, 128, [.io, .val], [], [0], ⟨1, 0, SwtakeF⟩, false⟩, ⟨67, 160, [.io, .val], [], [0], ⟨1, 0, SwtakeF⟩, false⟩], n := 15 }
theorem BwText.ok : BwText.Ok := ⟨tabOk (P := Go.Proofs.Tryd.prog) (G := gD) (l := [⟨43, 48, [.io], [], [0], ⟨1, 0, SwU32⟩, false⟩, ⟨67, 128, [.io, .val], [], [0], ⟨1, 0, SwtakeF⟩, false⟩, ⟨67, 160, [.io, .val], [], [0], ⟨1, 0, SwtakeF⟩, false⟩]) (And.intro KwU32 (And.intro KwtakeF (And.intro KwtakeF True.intro))), mixed⟩
theorem KwText : Known Go.Proofs.Tryd.prog gD 57 ⟨1, 0, SwText⟩ := by
 refine Known.walk (B := BwText) (fn := Go.Proofs.Tryd.f57) BwText.ok (by kernel_rfl) rfl (by kernel_rfl) (by kernel_rfl) (by decide) (by decide) ?_
 intro E args ks C r h hC hlen
 simp only at h
 unfold SwText at h
 split at h
 rotate_left
 cases h
 rename_i p0 p1
 cases h
 simp only [lens] at hlen
 refine ⟨show 1 ≤ 15 from by decide, ?_⟩
 refine Tri.sub (Sub.of_eq (show _ = ([(0, .sc (.p 0 0))], [(0, .cells [.ro .u8 p0, .b p1])]) from rfl)) ?_
 refine sq [] none [0] [0] ([(0, .sc (.p 0 0))], [(0, .cells [.ro .u8 p0, .b p1])]) 32 (t1 pT) ?_
 refine sq [] none [3, 0] [0] ([(3, .sc (.i .u32 (FwU32 p0 p1))), (0, .sc (.p 0 0))], [(0, .cells [.ro .u8 (FwU32_1 p0 p1), .b (FwU32_2 p0 p1)])]) 80 (t1 (pu pz (t1 pT))) ?_
 refine Tri.seq ?_
 refine sq [] none [7, 3, 0] [0] ([(7, .sc (.b (decide (((FwU32 p0 p1) : Int) > 16384)))), (3, .sc (.i .u32 (FwU32 p0 p1))), (0, .sc (.p 0 0))], [(0, .cells [.ro .u8 (FwU32_1 p0 p1), .b (FwU32_2 p0 p1)])]) 112 (t2 pT) ?_
 refine Tri.cond (x := (decide (((FwU32 p0 p1) : Int) > 16384))) (by kernel_rfl) (fun h1 => ?_) (fun h1 => ?_)
 have h1' := of_decide_eq_true h1
 refine sq [] none [] [0] ([], [(0, .cells [.ro .u8 (FwtakeF_1 (FwU32_1 p0 p1) (FwU32_2 p0 p1) 1073741824), .b (FwtakeF_2 (FwU32_1 p0 p1) (FwU32_2 p0 p1) 1073741824)])]) 144 (t1 (pu (pa pT (pl (show (0 : Int) ≤ 1073741824 from by first | omega | exact nn_FwU32 _ _ | decide))) pT)) ?_
 refine sq [] none [2] [0] ([(2, .sc (.s (⟨#[]⟩ : ByteArray)))], [(0, .cells [.ro .u8 (FwtakeF_1 (FwU32_1 p0 p1) (FwU32_2 p0 p1) 1073741824), .b (FwtakeF_2 (FwU32_1 p0 p1) (FwU32_2 p0 p1) 1073741824)])]) 160 (t1 pT) ?_
 refine Tri.ret ?_
 refine rt ?_
 refine endP.conv (r' := ⟨.sc (.s (⟨#[]⟩ : ByteArray)), [some (.cells [.ro .u8 (FwtakeF_1 (FwU32_1 p0 p1) (FwU32_2 p0 p1) 1073741824), .b (FwtakeF_2 (FwU32_1 p0 p1) (FwU32_2 p0 p1) 1073741824)])]⟩) (by simp only [FwText, FwText_1, FwText_2, h1, sel_true, sel_false]) ?_
 exact er [(0, 0)] pz
 have h1' := of_decide_eq_false h1
 refine Tri.skip ?_
 change Tri _ _ _ _ _ _
 refine sq [] none [2] [0] ([(2, .sc (.s (bytesOf (FwtakeF (FwU32_1 p0 p1) (FwU32_2 p0 p1) (IntKind.wrap .i64 (FwU32 p0 p1))))))], [(0, .cells [.ro .u8 (FwtakeF_1 (FwU32_1 p0 p1) (FwU32_2 p0 p1) (IntKind.wrap .i64 (FwU32 p0 p1))), .b (FwtakeF_2 (FwU32_1 p0 p1) (FwU32_2 p0 p1) (IntKind.wrap .i64 (FwU32 p0 p1)))])]) 208 (t3 (pu (pa pT (pl (show (0 : Int) ≤ (IntKind.wrap .i64 (FwU32 p0 p1)) from by first | omega | exact nn_FwU32 _ _ | decide))) (t2 pT))) ?_
 refine Tri.ret ?_
 refine rt ?_
 refine endP.conv (r' := ⟨.sc (.s (bytesOf (FwtakeF (FwU32_1 p0 p1) (FwU32_2 p0 p1) (IntKind.wrap .i64 (FwU32 p0 p1))))), [some (.cells [.ro .u8 (FwtakeF_1 (FwU32_1 p0 p1) (FwU32_2 p0 p1) (IntKind.wrap .i64 (FwU32 p0 p1))), .b (FwtakeF_2 (FwU32_1 p0 p1) (FwU32_2 p0 p1) (IntKind.wrap .i64 (FwU32 p0 p1)))])]⟩) (by simp only [FwText, FwText_1, FwText_2, h1, sel_true, sel_false]) ?_
 exact er [(0, 0)] pz
theorem size_FwText (p0 : List Int) (p1 : Bool) : (FwText p0 p1).size ≤ 16384 := by
  unfold FwText
  cases h : (decide (((FwU32 p0 p1) : Int) > 16384))
  · have h0 := of_decide_eq_false h
    have h1 := in_FwU32 p0 p1
    have h2 := le_FwtakeF (FwU32_1 p0 p1) (FwU32_2 p0 p1) (IntKind.wrap .i64 (FwU32 p0 p1))
    rw [wrap_small (by omega) (by omega)] at h2 ⊢
    rw [sel_false]
    have h3 : ∀ xs : List Int, (bytesOf xs).size = xs.length := fun xs => by simp [bytesOf, ByteArray.size]
    rw [h3]
    omega
  · rw [sel_true]; decide
theorem sel_nn (p2 : Int) : 0 ≤ sel (decide (p2 < 0)) 1073741824 p2 := by
  cases h : decide (p2 < 0)
  · have := of_decide_eq_false h
    rw [sel_false]; omega
  · rw [sel_true]; decide
noncomputable def FwBytes (p0 : List Int) (p1 : Bool) (p2 : Int) : List Int :=
  (FwtakeF p0 p1 (sel (decide ((p2 : Int) < 0)) 1073741824 p2))
noncomputable def FwBytes_1 (p0 : List Int) (p1 : Bool) (p2 : Int) : List Int :=
  (FwtakeF_1 p0 p1 (sel (decide ((p2 : Int) < 0)) 1073741824 p2))
noncomputable def FwBytes_2 (p0 : List Int) (p1 : Bool) (p2 : Int) : Bool :=
  (FwtakeF_2 p0 p1 (sel (decide ((p2 : Int) < 0)) 1073741824 p2))
noncomputable def SwBytes : List AV → List Blk → Option (Prop × Ret)
  | [.sc (.p 0 0), .sc (.i .i64 p2)], [.cells [.ro .u8 p0, .b p1]] => some (True, ⟨.sc (.ro .u8 (FwBytes p0 p1 p2)), [some (.cells [.ro .u8 (FwBytes_1 p0 p1 p2), .b (FwBytes_2 p0 p1 p2)])]⟩)
  | _, _ => none
noncomputable def BwBytes : Bs := { P := Go.Proofs.Tryd.prog, G := gD, tab := tabOf [⟨67, 112, [.io, .val], [], [0], ⟨1, 0, SwtakeF⟩, false⟩], n := 10 }
theorem BwBytes.ok : BwBytes.Ok := ⟨tabOk (P := Go.Proofs.Tryd.prog) (G := gD) (l := [⟨67, 112, [.io, .val], [], [0], ⟨1, 0, SwtakeF⟩, false⟩]) (And.intro KwtakeF True.intro), mixed⟩
theorem KwBytes : Known Go.Proofs.Tryd.prog gD 40 ⟨1, 0, SwBytes⟩ := by
 refine Known.walk (B := BwBytes) (fn := Go.Proofs.Tryd.f40) BwBytes.ok (by kernel_rfl) rfl (by kernel_rfl) (by kernel_rfl) (by decide) (by decide) ?_
 intro E args ks C r h hC hlen
 simp only at h
 unfold SwBytes at h
 split at h
 rotate_left
 cases h
 rename_i p2 p0 p1
 cases h
 simp only [lens] at hlen
 refine ⟨show 2 ≤ 10 from by decide, ?_⟩
 refine Tri.sub (Sub.of_eq (show _ = ([(0, .sc (.p 0 0)), (1, .sc (.i .i64 p2))], [(0, .cells [.ro .u8 p0, .b p1])]) from rfl)) ?_
 refine sq [] none [0, 1] [0] ([(0, .sc (.p 0 0)), (1, .sc (.i .i64 p2))], [(0, .cells [.ro .u8 p0, .b p1])]) 32 (t1 pT) ?_
 refine Tri.seq ?_
 refine sq [] none [6, 0, 1] [0] ([(6, .sc (.b (decide ((p2 : Int) < 0)))), (0, .sc (.p 0 0)), (1, .sc (.i .i64 p2))], [(0, .cells [.ro .u8 p0, .b p1])]) 64 (t2 pT) ?_
 refine Tri.join (x := (decide ((p2 : Int) < 0))) (fun bb => ([(1, .sc (.i .i64 (sel bb 1073741824 p2))), (0, .sc (.p 0 0))], [(0, .cells [.ro .u8 p0, .b p1])])) 80 (by kernel_rfl) (fun h1 => ?_) (fun h1 => ?_) ?_
 have h1' := of_decide_eq_true h1
 refine rq [] none [1, 0] [0] ([(1, .sc (.i .i64 1073741824)), (0, .sc (.p 0 0))], [(0, .cells [.ro .u8 p0, .b p1])]) 80 (t1 pT) ?_
 exact sn [(0, 0)] [1, 0] ([(1, .sc (.i .i64 1073741824)), (0, .sc (.p 0 0))], [(0, .cells [.ro .u8 p0, .b p1])])
 have h1' := of_decide_eq_false h1
 refine Tri.skip ?_
 exact sn [(0, 0)] [1, 0] ([(1, .sc (.i .i64 p2)), (0, .sc (.p 0 0))], [(0, .cells [.ro .u8 p0, .b p1])])
 change Tri _ _ _ _ _ _
 refine sq [] none [4] [0] ([(4, .sc (.ro .u8 (FwtakeF p0 p1 (sel (decide ((p2 : Int) < 0)) 1073741824 p2))))], [(0, .cells [.ro .u8 (FwtakeF_1 p0 p1 (sel (decide ((p2 : Int) < 0)) 1073741824 p2)), .b (FwtakeF_2 p0 p1 (sel (decide ((p2 : Int) < 0)) 1073741824 p2))])]) 144 (t2 (pu (pa pT (pl (show (0 : Int) ≤ (sel (decide ((p2 : Int) < 0)) 1073741824 p2) from by first | omega | exact sel_nn _ | decide))) (t1 pT))) ?_
 refine Tri.ret ?_
 refine rt ?_
 exact er [(0, 0)] pz
noncomputable def FwNamesl0 (k0 : Nat) (z0 : Unit) : Unit :=
  ()
noncomputable def FwNamess0 (p0 : List Int) (p1 : Bool) (k0 : Nat) : Bool :=
  (sel (strEq ((FwSplit (FwText p0 p1)).getD k0 (⟨#[]⟩ : ByteArray)) (⟨#[]⟩ : ByteArray)) true false)
noncomputable def FwNames (p0 : List Int) (p1 : Bool) : List ByteArray :=
  (sel (strEq (FwText p0 p1) (⟨#[]⟩ : ByteArray)) [] (sel (Nat.blt (fstB (FwNamess0 p0 p1) (FwgenSplitn0 (FwText p0 p1))) (FwgenSplitn0 (FwText p0 p1))) [] (partV (FwSplit (FwText p0 p1)) 0 (FwgenSplitn0 (FwText p0 p1)))))
noncomputable def FwNames_1 (p0 : List Int) (p1 : Bool) : List Int :=
  (sel (strEq (FwText p0 p1) (⟨#[]⟩ : ByteArray)) (FwText_1 p0 p1) (sel (Nat.blt (fstB (FwNamess0 p0 p1) (FwgenSplitn0 (FwText p0 p1))) (FwgenSplitn0 (FwText p0 p1))) (FwtakeF_1 (FwText_1 p0 p1) (FwText_2 p0 p1) 1073741824) (FwText_1 p0 p1)))
noncomputable def FwNames_2 (p0 : List Int) (p1 : Bool) : Bool :=
  (sel (strEq (FwText p0 p1) (⟨#[]⟩ : ByteArray)) (FwText_2 p0 p1) (sel (Nat.blt (fstB (FwNamess0 p0 p1) (FwgenSplitn0 (FwText p0 p1))) (FwgenSplitn0 (FwText p0 p1))) (FwtakeF_2 (FwText_1 p0 p1) (FwText_2 p0 p1) 1073741824) (FwText_2 p0 p1)))
noncomputable def SwNames : List AV → List Blk → Option (Prop × Ret)
  | [.sc (.p 0 0)], [.cells [.ro .u8 p0, .b p1]] => some (True, ⟨.sc (.ros (FwNames p0 p1)), [some (.cells [.ro .u8 (FwNames_1 p0 p1), .b (FwNames_2 p0 p1)])]⟩)
  | _, _ => none
noncomputable def BwNames : Bs := { P := Go.Proofs.Tryd.prog, G := gD, tab := tabOf [⟨57, 48, [.io], [], [0], ⟨1, 0, SwText⟩, false⟩, ⟨67, 320, [.io, .val], [], [0], ⟨1, 0, SwtakeF⟩, false⟩, ⟨68, 128, [.val, .val], [], [], ⟨0, 1, SwSplit⟩, false⟩], n := 25 }
theorem BwNames.ok : BwNames.Ok := ⟨tabOk (P := Go.Proofs.Tryd.prog) (G := gD) (l := [⟨57, 48, [.io], [], [0], ⟨1, 0, SwText⟩, false⟩, ⟨67, 320, [.io, .val], [], [0], ⟨1, 0, SwtakeF⟩, false⟩, ⟨68, 128, [.val, .val], [], [], ⟨0, 1, SwSplit⟩, false⟩]) (And.intro KwText (And.intro KwtakeF (And.intro KwSplit True.intro))), mixed⟩
theorem KwNames : Known Go.Proofs.Tryd.prog gD 41 ⟨1, 0, SwNames⟩ := by
 refine Known.walk (B := BwNames) (fn := Go.Proofs.Tryd.f41) BwNames.ok (by kernel_rfl) rfl (by kernel_rfl) (by kernel_rfl) (by decide) (by decide) ?_
 intro E args ks C r h hC hlen
 simp only at h
 unfold SwNames at h
 split at h
 rotate_left
 cases h
 rename_i p0 p1
 cases h
 simp only [lens] at hlen
 have hs := size_FwText p0 p1
 have hn := n_FwSplit (FwText p0 p1)
 have hm := len_FwSplit (FwText p0 p1)
 have hm1 := le_FwCount (FwText p0 p1)
 refine ⟨show 1 ≤ 25 from by decide, ?_⟩
 refine Tri.sub (Sub.of_eq (show _ = ([(0, .sc (.p 0 0))], [(0, .cells [.ro .u8 p0, .b p1])]) from rfl)) ?_
 refine sq [] none [0] [0] ([(0, .sc (.p 0 0))], [(0, .cells [.ro .u8 p0, .b p1])]) 32 (t1 pT) ?_
 refine sq [] none [3, 0] [0] ([(3, .sc (.s (FwText p0 p1))), (0, .sc (.p 0 0))], [(0, .cells [.ro .u8 (FwText_1 p0 p1), .b (FwText_2 p0 p1)])]) 80 (t1 (pu pz (t1 pT))) ?_
 refine Tri.seq ?_
 refine sq [] none [10, 3, 0] [0] ([(10, .sc (.b (strEq (FwText p0 p1) (⟨#[]⟩ : ByteArray)))), (3, .sc (.s (FwText p0 p1))), (0, .sc (.p 0 0))], [(0, .cells [.ro .u8 (FwText_1 p0 p1), .b (FwText_2 p0 p1)])]) 112 (t2 pT) ?_
 refine Tri.cond (x := (strEq (FwText p0 p1) (⟨#[]⟩ : ByteArray))) (by kernel_rfl) (fun h1 => ?_) (fun h1 => ?_)
 refine sq [] none [2] [0] ([(2, .sc (.nils))], [(0, .cells [.ro .u8 (FwText_1 p0 p1), .b (FwText_2 p0 p1)])]) 128 (t1 pT) ?_
 refine Tri.sub (Sub.nilRos 2 (by kernel_rfl)) ?_
 refine Tri.ret ?_
 refine rt ?_
 refine endP.conv (r' := ⟨.sc (.ros []), [some (.cells [.ro .u8 (FwText_1 p0 p1), .b (FwText_2 p0 p1)])]⟩) (by simp only [FwNames, FwNames_1, FwNames_2, h1, sel_true, sel_false]) ?_
 exact er [(0, 0)] pz
 refine Tri.skip ?_
 change Tri _ _ _ _ _ _
 refine sq [] none [4, 0] [128, 0] ([(4, .sc (.sl 128 0 (FwgenSplitn0 (FwText p0 p1)) 1 none)), (0, .sc (.p 0 0))], [(128, .vec .str (FwSplit (FwText p0 p1))), (0, .cells [.ro .u8 (FwText_1 p0 p1), .b (FwText_2 p0 p1)])]) 160 (t1 (pu (pa pT (pa (lr ((⟨#[44]⟩ : ByteArray) = (⟨#[44]⟩ : ByteArray))) (lo ((FwText p0 p1).size ≤ 1000000000)))) (t1 pT))) ?_
 refine Tri.seq ?_
 refine sq [] none [15, 14, 13, 4, 0] [128, 0] ([(15, .sc (.i .i64 0)), (14, .sc (.i .i64 (((FwgenSplitn0 (FwText p0 p1)) : Nat) : Int))), (13, .sc (.sl 128 0 (FwgenSplitn0 (FwText p0 p1)) 1 none)), (4, .sc (.sl 128 0 (FwgenSplitn0 (FwText p0 p1)) 1 none)), (0, .sc (.p 0 0))], [(128, .vec .str (FwSplit (FwText p0 p1))), (0, .cells [.ro .u8 (FwText_1 p0 p1), .b (FwText_2 p0 p1)])]) 208 (t3 pT) ?_
 refine Tri.block ?_
 refine Tri.count 208 (FwgenSplitn0 (FwText p0 p1)) (FwNamesl0) (()) (fun k0 z0 => (∀ j, j < k0 → (FwNamess0 p0 p1) j = false)) (fun k0 z0 => ([(15, .sc (.i .i64 ((k0 : Nat) : Int))), (14, .sc (.i .i64 (((FwgenSplitn0 (FwText p0 p1)) : Nat) : Int))), (13, .sc (.sl 128 0 (FwgenSplitn0 (FwText p0 p1)) 1 none)), (4, .sc (.sl 128 0 (FwgenSplitn0 (FwText p0 p1)) 1 none)), (0, .sc (.p 0 0))], [(128, .vec .str (FwSplit (FwText p0 p1))), (0, .cells [.ro .u8 (FwText_1 p0 p1), .b (FwText_2 p0 p1)])])) (fun j hj => absurd hj (Nat.not_lt_zero j)) (Sub.of_eq (by kernel_rfl)) ?_
 intro k0 z0 hk0 hz0 hJ0
 refine sq [] none [16, 15, 14, 13, 4, 0] [128, 0] ([(16, .sc (.b (decide ((((k0 : Nat) : Int) : Int) < (((FwgenSplitn0 (FwText p0 p1)) : Nat) : Int))))), (15, .sc (.i .i64 ((k0 : Nat) : Int))), (14, .sc (.i .i64 (((FwgenSplitn0 (FwText p0 p1)) : Nat) : Int))), (13, .sc (.sl 128 0 (FwgenSplitn0 (FwText p0 p1)) 1 none)), (4, .sc (.sl 128 0 (FwgenSplitn0 (FwText p0 p1)) 1 none)), (0, .sc (.p 0 0))], [(128, .vec .str (FwSplit (FwText p0 p1))), (0, .cells [.ro .u8 (FwText_1 p0 p1), .b (FwText_2 p0 p1)])]) 224 (t1 pT) ?_
 refine Tri.seq ?_
 refine Tri.cond (x := (decide ((((k0 : Nat) : Int) : Int) < (((FwgenSplitn0 (FwText p0 p1)) : Nat) : Int)))) (by kernel_rfl) (fun h2 => ?_) (fun h2 => ?_)
 have h2' := of_decide_eq_true h2
 refine Tri.skip ?_
 change Tri _ _ _ _ _ _
 refine Tri.seq ?_
 refine Tri.block ?_
 refine sq [] none [6, 15, 14, 13, 4, 0] [128, 0] ([(6, .sc (.s ((FwSplit (FwText p0 p1)).getD k0 (⟨#[]⟩ : ByteArray)))), (15, .sc (.i .i64 ((k0 : Nat) : Int))), (14, .sc (.i .i64 (((FwgenSplitn0 (FwText p0 p1)) : Nat) : Int))), (13, .sc (.sl 128 0 (FwgenSplitn0 (FwText p0 p1)) 1 none)), (4, .sc (.sl 128 0 (FwgenSplitn0 (FwText p0 p1)) 1 none)), (0, .sc (.p 0 0))], [(128, .vec .str (FwSplit (FwText p0 p1))), (0, .cells [.ro .u8 (FwText_1 p0 p1), .b (FwText_2 p0 p1)])]) 272 (pu (lo ((0 : Int) ≤ ((k0 : Nat) : Int) ∧ ((k0 : Nat) : Int) < (((FwgenSplitn0 (FwText p0 p1)) : Nat) : Int))) (pu (lo (k0 < (FwSplit (FwText p0 p1)).length)) (t1 pT))) ?_
 refine sq [] none [20, 15, 14, 13, 4, 0] [128, 0] ([(20, .sc (.b (strEq ((FwSplit (FwText p0 p1)).getD k0 (⟨#[]⟩ : ByteArray)) (⟨#[]⟩ : ByteArray)))), (15, .sc (.i .i64 ((k0 : Nat) : Int))), (14, .sc (.i .i64 (((FwgenSplitn0 (FwText p0 p1)) : Nat) : Int))), (13, .sc (.sl 128 0 (FwgenSplitn0 (FwText p0 p1)) 1 none)), (4, .sc (.sl 128 0 (FwgenSplitn0 (FwText p0 p1)) 1 none)), (0, .sc (.p 0 0))], [(128, .vec .str (FwSplit (FwText p0 p1))), (0, .cells [.ro .u8 (FwText_1 p0 p1), .b (FwText_2 p0 p1)])]) 304 (t2 pT) ?_
 refine Tri.cond (x := (strEq ((FwSplit (FwText p0 p1)).getD k0 (⟨#[]⟩ : ByteArray)) (⟨#[]⟩ : ByteArray))) (by kernel_rfl) (fun h3 => ?_) (fun h3 => ?_)
 refine sq [] none [] [0] ([], [(0, .cells [.ro .u8 (FwtakeF_1 (FwText_1 p0 p1) (FwText_2 p0 p1) 1073741824), .b (FwtakeF_2 (FwText_1 p0 p1) (FwText_2 p0 p1) 1073741824)])]) 336 (t1 (pu (pa pT (lo ((0 : Int) ≤ 1073741824))) pT)) ?_
 refine sq [] none [2] [0] ([(2, .sc (.nils))], [(0, .cells [.ro .u8 (FwtakeF_1 (FwText_1 p0 p1) (FwText_2 p0 p1) 1073741824), .b (FwtakeF_2 (FwText_1 p0 p1) (FwText_2 p0 p1) 1073741824)])]) 352 (t1 pT) ?_
 refine Tri.sub (Sub.nilRos 2 (by kernel_rfl)) ?_
 refine Tri.ret ?_
 subst hz0
 have hf0 : fstB (FwNamess0 p0 p1) (FwgenSplitn0 (FwText p0 p1)) = k0 := fst_found (by omega) hJ0 (by simp only [FwNamess0, h1, h2, h3, sel_true, sel_false])
 have hb0 : Nat.blt k0 (FwgenSplitn0 (FwText p0 p1)) = true := blt_true (by omega)
 have hq0 : Nat.blt (fstB (FwNamess0 p0 p1) (FwgenSplitn0 (FwText p0 p1))) (FwgenSplitn0 (FwText p0 p1)) = true := by rw [hf0]; exact hb0
 refine rt ?_
 refine endP.conv (r' := ⟨.sc (.ros []), [some (.cells [.ro .u8 (FwtakeF_1 (FwText_1 p0 p1) (FwText_2 p0 p1) 1073741824), .b (FwtakeF_2 (FwText_1 p0 p1) (FwText_2 p0 p1) 1073741824)])]⟩) (by simp only [FwNames, FwNames_1, FwNames_2, h1, hq0, hf0, hb0, sel_true, sel_false]) ?_
 exact er [(0, 0)] pz
 refine Tri.skip ?_
 change Tri _ _ _ _ _ _
 refine rq [(23, qi ((k0 + 1 : Nat) : Int))] none [15, 14, 13, 4, 0] [128, 0] ([(15, .sc (.i .i64 ((k0 + 1 : Nat) : Int))), (14, .sc (.i .i64 (((FwgenSplitn0 (FwText p0 p1)) : Nat) : Int))), (13, .sc (.sl 128 0 (FwgenSplitn0 (FwText p0 p1)) 1 none)), (4, .sc (.sl 128 0 (FwgenSplitn0 (FwText p0 p1)) 1 none)), (0, .sc (.p 0 0))], [(128, .vec .str (FwSplit (FwText p0 p1))), (0, .cells [.ro .u8 (FwText_1 p0 p1), .b (FwText_2 p0 p1)])]) 336 (pv pT (pl (show (iAdd .i64 ((k0 : Nat) : Int) 1) = ((k0 + 1 : Nat) : Int) from iAdd_nat (a := k0) (b := 1) (by omega))) (t1 pT)) ?_
 repeat (refine blkP_normal ?_)
 refine countP_normal (by omega) (below_succ hJ0 (by subst hz0; simp only [FwNamess0, h1, h2, h3, sel_true, sel_false])) ?_
 exact sp [(128, 128), (0, 0)] [15, 14, 13, 4, 0]
 have h2' := of_decide_eq_false h2
 refine Tri.exit ?_
 have hend0 : k0 = (FwgenSplitn0 (FwText p0 p1)) := by (have := of_decide_eq_false h2; omega)
 subst hend0; subst hz0
 have hf0 : fstB (FwNamess0 p0 p1) (FwgenSplitn0 (FwText p0 p1)) = (FwgenSplitn0 (FwText p0 p1)) := fst_none hJ0
 have hb0 : Nat.blt (FwgenSplitn0 (FwText p0 p1)) (FwgenSplitn0 (FwText p0 p1)) = false := blt_self _
 have hq0 : Nat.blt (fstB (FwNamess0 p0 p1) (FwgenSplitn0 (FwText p0 p1))) (FwgenSplitn0 (FwText p0 p1)) = false := by rw [hf0]; exact hb0
 change Tri _ _ _ _ _ _
 refine sq [] none [2] [128, 0] ([(2, .sc (.sl 128 0 (FwgenSplitn0 (FwText p0 p1)) 1 none))], [(128, .vec .str (FwSplit (FwText p0 p1))), (0, .cells [.ro .u8 (FwText_1 p0 p1), .b (FwText_2 p0 p1)])]) 256 (t2 pT) ?_
 refine Tri.sub (Sub.still (s' := ([(2, .sc (.ros (partV (FwSplit (FwText p0 p1)) 0 (FwgenSplitn0 (FwText p0 p1)))))], [(0, .cells [.ro .u8 (FwText_1 p0 p1), .b (FwText_2 p0 p1)])])) 128 (.vec .str (FwSplit (FwText p0 p1))) (by kernel_rfl) (show 0 + (FwgenSplitn0 (FwText p0 p1)) ≤ (FwSplit (FwText p0 p1)).length from by first | omega | (rw [adr_eq]; omega) | exact iAnd_nn _ _ | exact iSub_nn _ _ | exact part1_le (by omega) (by first | omega | (simp only [List.length_append]; omega)) | decide) (by kernel_rfl)) ?_
 refine Tri.ret ?_
 refine rt ?_
 refine endP.conv (r' := ⟨.sc (.ros (partV (FwSplit (FwText p0 p1)) 0 (FwgenSplitn0 (FwText p0 p1)))), [some (.cells [.ro .u8 (FwText_1 p0 p1), .b (FwText_2 p0 p1)])]⟩) (by simp only [FwNames, FwNames_1, FwNames_2, h1, hq0, hf0, hb0, sel_true, sel_false]) ?_
 exact er [(0, 0)] pz
end Go.Vm
