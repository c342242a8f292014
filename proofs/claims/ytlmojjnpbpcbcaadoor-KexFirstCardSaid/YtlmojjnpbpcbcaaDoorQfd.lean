/- A part of a proof: the small machine that walks the program, the walks of its functions, and what they compute in plain. -/
import Derived.Test.YtlmojjnpbpcbcaaDoorQfc
import Derived.Test.YtlmojjnpbpcbcaaDoorChecked
set_option linter.unusedVariables false
set_option linter.unusedSimpArgs false
set_option maxRecDepth 4000
set_option maxHeartbeats 2000000
namespace Go.Vm
open Go
noncomputable def FwcTake (p0 : List Int) (p1 : Int) (p2 : Bool) (p3 : Int) : List Int :=
  (sel p2 ([] : List Int) (sel (decide ((p3 : Int) < 0)) ([] : List Int) (sel (decide ((p3 : Int) > (iSub .i64 ((p0.length : Nat) : Int) p1))) ([] : List Int) ((p0.drop (((iSub .i64 (iAdd .i64 p1 p3) p3)).toNat)).take ((((iAdd .i64 p1 p3)).toNat) - (((iSub .i64 (iAdd .i64 p1 p3) p3)).toNat))))))
noncomputable def FwcTake_1 (p0 : List Int) (p1 : Int) (p2 : Bool) (p3 : Int) : Int :=
  (sel p2 p1 (sel (decide ((p3 : Int) < 0)) p1 (sel (decide ((p3 : Int) > (iSub .i64 ((p0.length : Nat) : Int) p1))) p1 (iAdd .i64 p1 p3))))
noncomputable def FwcTake_2 (p0 : List Int) (p1 : Int) (p2 : Bool) (p3 : Int) : Bool :=
  (sel p2 true (sel (decide ((p3 : Int) < 0)) true (sel (decide ((p3 : Int) > (iSub .i64 ((p0.length : Nat) : Int) p1))) true p2)))
noncomputable def SwcTake : List AV → List Blk → Option (Prop × Ret)
  | [.sc (.p 0 0), .sc (.i .i64 p3)], [.cells [.ro .u8 p0, .i .i64 p1, .b p2]] => some ((p0.length ≤ 1000000000 ∧ (0 : Int) ≤ p1 ∧ p1 ≤ (p0.length : Int)), ⟨.sc (.ro .u8 (FwcTake p0 p1 p2 p3)), [some (.cells [.ro .u8 p0, .i .i64 (FwcTake_1 p0 p1 p2 p3), .b (FwcTake_2 p0 p1 p2 p3)])]⟩)
  | _, _ => none
noncomputable def BwcTake : Bs := { P := Go.Proofs.Tryd.prog, G := gD, tab := tabOf [], n := 53 }
theorem BwcTake.ok : BwcTake.Ok := ⟨tabOk (P := Go.Proofs.Tryd.prog) (G := gD) (l := []) True.intro, mixed⟩
theorem KwcTake : Known Go.Proofs.Tryd.prog gD 46 ⟨1, 0, SwcTake⟩ := by
 refine Known.walk (B := BwcTake) (fn := Go.Proofs.Tryd.f46) BwcTake.ok (by kernel_rfl) rfl (by kernel_rfl) (by kernel_rfl) (by decide) (by decide) ?_
 intro E args ks C r h hC hlen
 simp only at h
 unfold SwcTake at h
 split at h
 rotate_left
 cases h
 rename_i p3 p0 p1 p2
 cases h
 simp only [lens] at hlen
 refine ⟨show 2 ≤ 53 from by decide, ?_⟩
 refine Tri.sub (Sub.of_eq (show _ = ([(0, .sc (.p 0 0)), (1, .sc (.i .i64 p3))], [(0, .cells [.ro .u8 p0, .i .i64 p1, .b p2])]) from rfl)) ?_
 refine sq [] none [0, 1] [0] ([(0, .sc (.p 0 0)), (1, .sc (.i .i64 p3))], [(0, .cells [.ro .u8 p0, .i .i64 p1, .b p2])]) 32 (t1 pT) ?_
 refine Tri.seq ?_
 refine Tri.split p2 (fun h1 => ?_) (fun h1 => ?_)
 refine sq [(9, qb true)] (some [0, 1, 3, 7, 15, 31, 63, 127, 255, 511, 511, 1535, 3583, 7679, 15871, 511, 33279, 98815, 229887, 523775, 1048575, 2097151]) [26, 0, 1] [0] ([(26, .sc (.b true)), (0, .sc (.p 0 0)), (1, .sc (.i .i64 p3))], [(0, .cells [.ro .u8 p0, .i .i64 p1, .b p2])]) 384 (t3 (pu (pl (show 2 < 3 from by first | omega | (have a1 : iSub .i64 ((p0.length : Nat) : Int) p1 = (p0.length : Int) - p1 := iSub_i64 (by omega) (by omega); have a2 : iAdd .i64 p1 p3 = p1 + p3 := iAdd_i64 (by omega) (by omega); have a3 : iSub .i64 (iAdd .i64 p1 p3) p3 = iAdd .i64 p1 p3 - p3 := iSub_i64 (by omega) (by omega); omega))) (pg h1 (t8 (t9 pT))))) ?_
 refine Tri.cond_true (by kernel_rfl) ?_
 refine sq [] none [] [0] ([], [(0, .cells [.ro .u8 p0, .i .i64 p1, .b true])]) 448 (t3 (pu (pa (pl (show 2 < 3 from by first | omega | (have a1 : iSub .i64 ((p0.length : Nat) : Int) p1 = (p0.length : Int) - p1 := iSub_i64 (by omega) (by omega); have a2 : iAdd .i64 p1 p3 = p1 + p3 := iAdd_i64 (by omega) (by omega); have a3 : iSub .i64 (iAdd .i64 p1 p3) p3 = iAdd .i64 p1 p3 - p3 := iSub_i64 (by omega) (by omega); omega))) (lr (1 = 1))) pT)) ?_
 refine sq [] none [4] [0] ([(4, .sc (.nils))], [(0, .cells [.ro .u8 p0, .i .i64 p1, .b true])]) 464 (t1 pT) ?_
 refine Tri.sub (Sub.nilRo 4 .u8 (by kernel_rfl)) ?_
 refine Tri.ret ?_
 refine rt ?_
 refine endP.conv (r' := ⟨.sc (.ro .u8 ([] : List Int)), [some (.cells [.ro .u8 p0, .i .i64 p1, .b true])]⟩) (by simp only [FwcTake, FwcTake_1, FwcTake_2, h1, sel_true, sel_false]) ?_
 exact er [(0, 0)] pz
 refine Tri.split (decide ((p3 : Int) < 0)) (fun h2 => ?_) (fun h2 => ?_)
 have h2' := of_decide_eq_true h2
 refine sq [(9, qb false), (13, qb true)] (some [0, 1, 3, 7, 15, 31, 63, 127, 255, 511, 511, 1535, 3583, 7679, 15871, 511, 33279, 98815, 229887, 523775, 1048575, 2097151]) [26, 0, 1] [0] ([(26, .sc (.b true)), (0, .sc (.p 0 0)), (1, .sc (.i .i64 p3))], [(0, .cells [.ro .u8 p0, .i .i64 p1, .b p2])]) 384 (t3 (pu (pl (show 2 < 3 from by first | omega | (have a1 : iSub .i64 ((p0.length : Nat) : Int) p1 = (p0.length : Int) - p1 := iSub_i64 (by omega) (by omega); have a2 : iAdd .i64 p1 p3 = p1 + p3 := iAdd_i64 (by omega) (by omega); have a3 : iSub .i64 (iAdd .i64 p1 p3) p3 = iAdd .i64 p1 p3 - p3 := iSub_i64 (by omega) (by omega); omega))) (pg h1 (t3 (pg h2 (t4 (t9 pT))))))) ?_
 refine Tri.cond_true (by kernel_rfl) ?_
 refine sq [] none [] [0] ([], [(0, .cells [.ro .u8 p0, .i .i64 p1, .b true])]) 448 (t3 (pu (pa (pl (show 2 < 3 from by first | omega | (have a1 : iSub .i64 ((p0.length : Nat) : Int) p1 = (p0.length : Int) - p1 := iSub_i64 (by omega) (by omega); have a2 : iAdd .i64 p1 p3 = p1 + p3 := iAdd_i64 (by omega) (by omega); have a3 : iSub .i64 (iAdd .i64 p1 p3) p3 = iAdd .i64 p1 p3 - p3 := iSub_i64 (by omega) (by omega); omega))) (lr (1 = 1))) pT)) ?_
 refine sq [] none [4] [0] ([(4, .sc (.nils))], [(0, .cells [.ro .u8 p0, .i .i64 p1, .b true])]) 464 (t1 pT) ?_
 refine Tri.sub (Sub.nilRo 4 .u8 (by kernel_rfl)) ?_
 refine Tri.ret ?_
 refine rt ?_
 refine endP.conv (r' := ⟨.sc (.ro .u8 ([] : List Int)), [some (.cells [.ro .u8 p0, .i .i64 p1, .b true])]⟩) (by simp only [FwcTake, FwcTake_1, FwcTake_2, h1, h2, sel_true, sel_false]) ?_
 exact er [(0, 0)] pz
 have h2' := of_decide_eq_false h2
 refine sq [(9, qb false), (13, qb false)] (some [0, 1, 3, 7, 15, 31, 63, 127, 255, 511, 511, 1535, 3583, 7679, 15871, 511, 33279, 98815, 229887, 523775, 1048575, 2097151]) [26, 0, 1] [0] ([(26, .sc (.b (decide ((p3 : Int) > (iSub .i64 ((p0.length : Nat) : Int) p1))))), (0, .sc (.p 0 0)), (1, .sc (.i .i64 p3))], [(0, .cells [.ro .u8 p0, .i .i64 p1, .b p2])]) 384 (t3 (pu (pl (show 2 < 3 from by first | omega | (have a1 : iSub .i64 ((p0.length : Nat) : Int) p1 = (p0.length : Int) - p1 := iSub_i64 (by omega) (by omega); have a2 : iAdd .i64 p1 p3 = p1 + p3 := iAdd_i64 (by omega) (by omega); have a3 : iSub .i64 (iAdd .i64 p1 p3) p3 = iAdd .i64 p1 p3 - p3 := iSub_i64 (by omega) (by omega); omega))) (pg h1 (t3 (pg h2 (t4 (pu (pl (show 0 < 3 from by first | omega | (have a1 : iSub .i64 ((p0.length : Nat) : Int) p1 = (p0.length : Int) - p1 := iSub_i64 (by omega) (by omega); have a2 : iAdd .i64 p1 p3 = p1 + p3 := iAdd_i64 (by omega) (by omega); have a3 : iSub .i64 (iAdd .i64 p1 p3) p3 = iAdd .i64 p1 p3 - p3 := iSub_i64 (by omega) (by omega); omega))) (t4 (pu (pl (show 1 < 3 from by first | omega | (have a1 : iSub .i64 ((p0.length : Nat) : Int) p1 = (p0.length : Int) - p1 := iSub_i64 (by omega) (by omega); have a2 : iAdd .i64 p1 p3 = p1 + p3 := iAdd_i64 (by omega) (by omega); have a3 : iSub .i64 (iAdd .i64 p1 p3) p3 = iAdd .i64 p1 p3 - p3 := iSub_i64 (by omega) (by omega); omega))) (t3 pT)))))))))) ?_
 refine Tri.cond (x := (decide ((p3 : Int) > (iSub .i64 ((p0.length : Nat) : Int) p1)))) (by kernel_rfl) (fun h3 => ?_) (fun h3 => ?_)
 have h3' := of_decide_eq_true h3
 refine sq [] none [] [0] ([], [(0, .cells [.ro .u8 p0, .i .i64 p1, .b true])]) 448 (t3 (pu (pa (pl (show 2 < 3 from by first | omega | (have a1 : iSub .i64 ((p0.length : Nat) : Int) p1 = (p0.length : Int) - p1 := iSub_i64 (by omega) (by omega); have a2 : iAdd .i64 p1 p3 = p1 + p3 := iAdd_i64 (by omega) (by omega); have a3 : iSub .i64 (iAdd .i64 p1 p3) p3 = iAdd .i64 p1 p3 - p3 := iSub_i64 (by omega) (by omega); omega))) (lr (1 = 1))) pT)) ?_
 refine sq [] none [4] [0] ([(4, .sc (.nils))], [(0, .cells [.ro .u8 p0, .i .i64 p1, .b true])]) 464 (t1 pT) ?_
 refine Tri.sub (Sub.nilRo 4 .u8 (by kernel_rfl)) ?_
 refine Tri.ret ?_
 refine rt ?_
 refine endP.conv (r' := ⟨.sc (.ro .u8 ([] : List Int)), [some (.cells [.ro .u8 p0, .i .i64 p1, .b true])]⟩) (by simp only [FwcTake, FwcTake_1, FwcTake_2, h1, h2, h3, sel_true, sel_false]) ?_
 exact er [(0, 0)] pz
 have h3' := of_decide_eq_false h3
 refine Tri.skip ?_
 change Tri _ _ _ _ _ _
 refine sq [] none [0, 1] [0] ([(0, .sc (.p 0 0)), (1, .sc (.i .i64 p3))], [(0, .cells [.ro .u8 p0, .i .i64 (iAdd .i64 p1 p3), .b p2])]) 528 (t3 (pu (pl (show 1 < 3 from by first | omega | (have a1 : iSub .i64 ((p0.length : Nat) : Int) p1 = (p0.length : Int) - p1 := iSub_i64 (by omega) (by omega); have a2 : iAdd .i64 p1 p3 = p1 + p3 := iAdd_i64 (by omega) (by omega); have a3 : iSub .i64 (iAdd .i64 p1 p3) p3 = iAdd .i64 p1 p3 - p3 := iSub_i64 (by omega) (by omega); omega))) (t4 (pu (pa (pl (show 1 < 3 from by first | omega | (have a1 : iSub .i64 ((p0.length : Nat) : Int) p1 = (p0.length : Int) - p1 := iSub_i64 (by omega) (by omega); have a2 : iAdd .i64 p1 p3 = p1 + p3 := iAdd_i64 (by omega) (by omega); have a3 : iSub .i64 (iAdd .i64 p1 p3) p3 = iAdd .i64 p1 p3 - p3 := iSub_i64 (by omega) (by omega); omega))) (lr (1 = 1))) pT)))) ?_
 refine sq [] (some [0, 1, 3, 7, 0, 16, 48, 112, 0, 496, 0, 1024, 3072, 7168, 16383, 32767]) [4] [0] ([(4, .sc (.ro .u8 ((p0.drop (((iSub .i64 (iAdd .i64 p1 p3) p3)).toNat)).take ((((iAdd .i64 p1 p3)).toNat) - (((iSub .i64 (iAdd .i64 p1 p3) p3)).toNat)))))], [(0, .cells [.ro .u8 p0, .i .i64 (iAdd .i64 p1 p3), .b p2])]) 784 (t3 (pu (pl (show 0 < 3 from by first | omega | (have a1 : iSub .i64 ((p0.length : Nat) : Int) p1 = (p0.length : Int) - p1 := iSub_i64 (by omega) (by omega); have a2 : iAdd .i64 p1 p3 = p1 + p3 := iAdd_i64 (by omega) (by omega); have a3 : iSub .i64 (iAdd .i64 p1 p3) p3 = iAdd .i64 p1 p3 - p3 := iSub_i64 (by omega) (by omega); omega))) (t3 (pu (pl (show 1 < 3 from by first | omega | (have a1 : iSub .i64 ((p0.length : Nat) : Int) p1 = (p0.length : Int) - p1 := iSub_i64 (by omega) (by omega); have a2 : iAdd .i64 p1 p3 = p1 + p3 := iAdd_i64 (by omega) (by omega); have a3 : iSub .i64 (iAdd .i64 p1 p3) p3 = iAdd .i64 p1 p3 - p3 := iSub_i64 (by omega) (by omega); omega))) (t5 (pu (pl (show 1 < 3 from by first | omega | (have a1 : iSub .i64 ((p0.length : Nat) : Int) p1 = (p0.length : Int) - p1 := iSub_i64 (by omega) (by omega); have a2 : iAdd .i64 p1 p3 = p1 + p3 := iAdd_i64 (by omega) (by omega); have a3 : iSub .i64 (iAdd .i64 p1 p3) p3 = iAdd .i64 p1 p3 - p3 := iSub_i64 (by omega) (by omega); omega))) (pu (pl (show (0 : Int) ≤ (iSub .i64 (iAdd .i64 p1 p3) p3) ∧ ((iSub .i64 (iAdd .i64 p1 p3) p3) : Int) ≤ (iAdd .i64 p1 p3) ∧ (iAdd .i64 p1 p3) ≤ (p0.length : Int) from by first | omega | (have a1 : iSub .i64 ((p0.length : Nat) : Int) p1 = (p0.length : Int) - p1 := iSub_i64 (by omega) (by omega); have a2 : iAdd .i64 p1 p3 = p1 + p3 := iAdd_i64 (by omega) (by omega); have a3 : iSub .i64 (iAdd .i64 p1 p3) p3 = iAdd .i64 p1 p3 - p3 := iSub_i64 (by omega) (by omega); omega))) (t1 pT)))))))) ?_
 refine Tri.ret ?_
 refine rt ?_
 refine endP.conv (r' := ⟨.sc (.ro .u8 ((p0.drop (((iSub .i64 (iAdd .i64 p1 p3) p3)).toNat)).take ((((iAdd .i64 p1 p3)).toNat) - (((iSub .i64 (iAdd .i64 p1 p3) p3)).toNat)))), [some (.cells [.ro .u8 p0, .i .i64 (iAdd .i64 p1 p3), .b p2])]⟩) (by simp only [FwcTake, FwcTake_1, FwcTake_2, h1, h2, h3, sel_true, sel_false]) ?_
 exact er [(0, 0)] pz
theorem cTake_is {p0 : List Int} {p1 : Int} (p2 : Bool) (n : Int) (h : p0.length ≤ 1000000000 ∧ (0 : Int) ≤ p1 ∧ p1 ≤ (p0.length : Int)) :
    (p2 = false ∧ 0 ≤ n ∧ p1 + n ≤ (p0.length : Int) ∧ FwcTake p0 p1 p2 n = (p0.drop p1.toNat).take n.toNat ∧ FwcTake_1 p0 p1 p2 n = p1 + n ∧ FwcTake_2 p0 p1 p2 n = false) ∨
    (¬ (p2 = false ∧ 0 ≤ n ∧ p1 + n ≤ (p0.length : Int)) ∧ FwcTake p0 p1 p2 n = [] ∧ FwcTake_1 p0 p1 p2 n = p1 ∧ FwcTake_2 p0 p1 p2 n = true) := by
  obtain ⟨h1, h2, h3⟩ := h
  unfold FwcTake FwcTake_1 FwcTake_2
  cases p2
  · simp only [sel_false]
    cases h4 : decide (n < 0)
    · have h4' := of_decide_eq_false h4
      simp only [sel_false]
      have a1 : iSub .i64 ((p0.length : Nat) : Int) p1 = (p0.length : Int) - p1 := iSub_i64 (by omega) (by omega)
      rw [a1]
      cases h5 : decide (n > (p0.length : Int) - p1)
      · have h5' := of_decide_eq_false h5
        simp only [sel_false]
        have a2 : iAdd .i64 p1 n = p1 + n := iAdd_i64 (by omega) (by omega)
        have a3 : iSub .i64 (p1 + n) n = p1 := by rw [iSub_i64 (by omega) (by omega)]; omega
        rw [a2, a3]
        have a4 : (p1 + n).toNat - p1.toNat = n.toNat := by omega
        rw [a4]
        first | exact .inl ⟨rfl, by omega, by omega, rfl, rfl, rfl⟩ | exact .inl ⟨trivial, by omega, by omega, rfl, rfl, trivial⟩ | exact .inl ⟨trivial, by omega, by omega, trivial, trivial, trivial⟩
      · have h5' := of_decide_eq_true h5
        simp only [sel_true]
        exact .inr ⟨fun ⟨_, _, h⟩ => by omega, trivial, trivial, trivial⟩
    · have h4' := of_decide_eq_true h4
      simp only [sel_true]
      exact .inr ⟨fun ⟨_, h, _⟩ => by omega, trivial, trivial, trivial⟩
  · simp only [sel_true]
    exact .inr ⟨fun ⟨h, _⟩ => (by cases h), trivial, trivial, trivial⟩
theorem in_cTake {p0 : List Int} {p1 : Int} (p2 : Bool) (n : Int) (h : p0.length ≤ 1000000000 ∧ (0 : Int) ≤ p1 ∧ p1 ≤ (p0.length : Int)) : 0 ≤ FwcTake_1 p0 p1 p2 n ∧ FwcTake_1 p0 p1 p2 n ≤ (p0.length : Int) := by
  rcases cTake_is p2 n h with ⟨_, _, _, _, h1, _⟩ | ⟨_, _, h1, _⟩ <;> rw [h1] <;> omega
theorem len_cTake {p0 : List Int} {p1 : Int} {p2 : Bool} {n : Int} (h : p0.length ≤ 1000000000 ∧ (0 : Int) ≤ p1 ∧ p1 ≤ (p0.length : Int)) (hb : FwcTake_2 p0 p1 p2 n = false) : ((FwcTake p0 p1 p2 n).length : Int) = n := by
  rcases cTake_is p2 n h with ⟨_, _, _, h1, _⟩ | ⟨_, _, _, h1⟩
  · rw [h1, List.length_take, List.length_drop]; omega
  · rw [h1] at hb; cases hb
noncomputable def FwcByte (p0 : List Int) (p1 : Int) (p2 : Bool) : Int :=
  (sel (FwcTake_2 p0 p1 p2 1) 0 (IntKind.wrap .i64 ((FwcTake p0 p1 p2 1).getD 0 0)))
noncomputable def FwcByte_1 (p0 : List Int) (p1 : Int) (p2 : Bool) : Int :=
  (FwcTake_1 p0 p1 p2 1)
noncomputable def FwcByte_2 (p0 : List Int) (p1 : Int) (p2 : Bool) : Bool :=
  (FwcTake_2 p0 p1 p2 1)
noncomputable def SwcByte : List AV → List Blk → Option (Prop × Ret)
  | [.sc (.p 0 0)], [.cells [.ro .u8 p0, .i .i64 p1, .b p2]] => some ((p0.length ≤ 1000000000 ∧ (0 : Int) ≤ p1 ∧ p1 ≤ (p0.length : Int)), ⟨.sc (.i .i64 (FwcByte p0 p1 p2)), [some (.cells [.ro .u8 p0, .i .i64 (FwcByte_1 p0 p1 p2), .b (FwcByte_2 p0 p1 p2)])]⟩)
  | _, _ => none
noncomputable def BwcByte : Bs := { P := Go.Proofs.Tryd.prog, G := gD, tab := tabOf [⟨46, 48, [.io, .val], [], [0], ⟨1, 0, SwcTake⟩, false⟩], n := 14 }
theorem BwcByte.ok : BwcByte.Ok := ⟨tabOk (P := Go.Proofs.Tryd.prog) (G := gD) (l := [⟨46, 48, [.io, .val], [], [0], ⟨1, 0, SwcTake⟩, false⟩]) (And.intro KwcTake True.intro), mixed⟩
theorem KwcByte : Known Go.Proofs.Tryd.prog gD 45 ⟨1, 0, SwcByte⟩ := by
 refine Known.walk (B := BwcByte) (fn := Go.Proofs.Tryd.f45) BwcByte.ok (by kernel_rfl) rfl (by kernel_rfl) (by kernel_rfl) (by decide) (by decide) ?_
 intro E args ks C r h hC hlen
 simp only at h
 unfold SwcByte at h
 split at h
 rotate_left
 cases h
 rename_i p0 p1 p2
 cases h
 simp only [lens] at hlen
 refine ⟨show 1 ≤ 14 from by decide, ?_⟩
 refine Tri.sub (Sub.of_eq (show _ = ([(0, .sc (.p 0 0))], [(0, .cells [.ro .u8 p0, .i .i64 p1, .b p2])]) from rfl)) ?_
 refine sq [] none [0] [0] ([(0, .sc (.p 0 0))], [(0, .cells [.ro .u8 p0, .i .i64 p1, .b p2])]) 32 (t1 pT) ?_
 refine sq [] none [3, 0] [0] ([(3, .sc (.ro .u8 (FwcTake p0 p1 p2 1))), (0, .sc (.p 0 0))], [(0, .cells [.ro .u8 p0, .i .i64 (FwcTake_1 p0 p1 p2 1), .b (FwcTake_2 p0 p1 p2 1)])]) 80 (t1 (pu (pa pT (pl (show p0.length ≤ 1000000000 ∧ (0 : Int) ≤ p1 ∧ p1 ≤ (p0.length : Int) from by first | omega | (have hq := len_cTake hC (n := 1) (by assumption); omega) | decide))) (t1 pT))) ?_
 refine Tri.seq ?_
 refine sq [] none [9, 3] [0] ([(9, .sc (.b (FwcTake_2 p0 p1 p2 1))), (3, .sc (.ro .u8 (FwcTake p0 p1 p2 1)))], [(0, .cells [.ro .u8 p0, .i .i64 (FwcTake_1 p0 p1 p2 1), .b (FwcTake_2 p0 p1 p2 1)])]) 144 (t3 (pu (pl (show 2 < 3 from by first | omega | (have hq := len_cTake hC (n := 1) (by assumption); omega) | decide)) pT)) ?_
 refine Tri.cond (x := (FwcTake_2 p0 p1 p2 1)) (by kernel_rfl) (fun h1 => ?_) (fun h1 => ?_)
 refine sq [] none [2] [0] ([(2, .sc (.i .i64 0))], [(0, .cells [.ro .u8 p0, .i .i64 (FwcTake_1 p0 p1 p2 1), .b (FwcTake_2 p0 p1 p2 1)])]) 160 (t1 pT) ?_
 refine Tri.ret ?_
 refine rt ?_
 refine endP.conv (r' := ⟨.sc (.i .i64 0), [some (.cells [.ro .u8 p0, .i .i64 (FwcTake_1 p0 p1 p2 1), .b (FwcTake_2 p0 p1 p2 1)])]⟩) (by simp only [FwcByte, FwcByte_1, FwcByte_2, h1, sel_true, sel_false]) ?_
 exact er [(0, 0)] pz
 refine Tri.skip ?_
 change Tri _ _ _ _ _ _
 refine sq [] none [2] [0] ([(2, .sc (.i .i64 (IntKind.wrap .i64 ((FwcTake p0 p1 p2 1).getD 0 0))))], [(0, .cells [.ro .u8 p0, .i .i64 (FwcTake_1 p0 p1 p2 1), .b (FwcTake_2 p0 p1 p2 1)])]) 224 (t1 (pu (pl (show (0 : Int) ≤ 0 ∧ 0 < ((FwcTake p0 p1 p2 1).length : Int) from by first | omega | (have hq := len_cTake hC (n := 1) (by assumption); omega) | decide)) (pu (pl (show 0 < (FwcTake p0 p1 p2 1).length from by first | omega | (have hq := len_cTake hC (n := 1) (by assumption); omega) | decide)) (t2 pT)))) ?_
 refine Tri.ret ?_
 refine rt ?_
 refine endP.conv (r' := ⟨.sc (.i .i64 (IntKind.wrap .i64 ((FwcTake p0 p1 p2 1).getD 0 0))), [some (.cells [.ro .u8 p0, .i .i64 (FwcTake_1 p0 p1 p2 1), .b (FwcTake_2 p0 p1 p2 1)])]⟩) (by simp only [FwcByte, FwcByte_1, FwcByte_2, h1, sel_true, sel_false]) ?_
 exact er [(0, 0)] pz
noncomputable def FwcU32 (p0 : List Int) (p1 : Int) (p2 : Bool) : Int :=
  (sel (FwcTake_2 p0 p1 p2 4) 0 (iAdd .i64 (iAdd .i64 (iAdd .i64 (iMul .i64 (IntKind.wrap .i64 ((FwcTake p0 p1 p2 4).getD 0 0)) 16777216) (iMul .i64 (IntKind.wrap .i64 ((FwcTake p0 p1 p2 4).getD 1 0)) 65536)) (iMul .i64 (IntKind.wrap .i64 ((FwcTake p0 p1 p2 4).getD 2 0)) 256)) (IntKind.wrap .i64 ((FwcTake p0 p1 p2 4).getD 3 0))))
noncomputable def FwcU32_1 (p0 : List Int) (p1 : Int) (p2 : Bool) : Int :=
  (FwcTake_1 p0 p1 p2 4)
noncomputable def FwcU32_2 (p0 : List Int) (p1 : Int) (p2 : Bool) : Bool :=
  (FwcTake_2 p0 p1 p2 4)
noncomputable def SwcU32 : List AV → List Blk → Option (Prop × Ret)
  | [.sc (.p 0 0)], [.cells [.ro .u8 p0, .i .i64 p1, .b p2]] => some ((p0.length ≤ 1000000000 ∧ (0 : Int) ≤ p1 ∧ p1 ≤ (p0.length : Int)), ⟨.sc (.i .i64 (FwcU32 p0 p1 p2)), [some (.cells [.ro .u8 p0, .i .i64 (FwcU32_1 p0 p1 p2), .b (FwcU32_2 p0 p1 p2)])]⟩)
  | _, _ => none
noncomputable def BwcU32 : Bs := { P := Go.Proofs.Tryd.prog, G := gD, tab := tabOf [⟨46, 48, [.io, .val], [], [0], ⟨1, 0, SwcTake⟩, false⟩], n := 32 }
theorem BwcU32.ok : BwcU32.Ok := ⟨tabOk (P := Go.Proofs.Tryd.prog) (G := gD) (l := [⟨46, 48, [.io, .val], [], [0], ⟨1, 0, SwcTake⟩, false⟩]) (And.intro KwcTake True.intro), mixed⟩
theorem KwcU32 : Known Go.Proofs.Tryd.prog gD 48 ⟨1, 0, SwcU32⟩ := by
 refine Known.walk (B := BwcU32) (fn := Go.Proofs.Tryd.f48) BwcU32.ok (by kernel_rfl) rfl (by kernel_rfl) (by kernel_rfl) (by decide) (by decide) ?_
 intro E args ks C r h hC hlen
 simp only at h
 unfold SwcU32 at h
 split at h
 rotate_left
 cases h
 rename_i p0 p1 p2
 cases h
 simp only [lens] at hlen
 refine ⟨show 1 ≤ 32 from by decide, ?_⟩
 refine Tri.sub (Sub.of_eq (show _ = ([(0, .sc (.p 0 0))], [(0, .cells [.ro .u8 p0, .i .i64 p1, .b p2])]) from rfl)) ?_
 refine sq [] none [0] [0] ([(0, .sc (.p 0 0))], [(0, .cells [.ro .u8 p0, .i .i64 p1, .b p2])]) 32 (t1 pT) ?_
 refine sq [] none [3, 0] [0] ([(3, .sc (.ro .u8 (FwcTake p0 p1 p2 4))), (0, .sc (.p 0 0))], [(0, .cells [.ro .u8 p0, .i .i64 (FwcTake_1 p0 p1 p2 4), .b (FwcTake_2 p0 p1 p2 4)])]) 80 (t1 (pu (pa pT (pl (show p0.length ≤ 1000000000 ∧ (0 : Int) ≤ p1 ∧ p1 ≤ (p0.length : Int) from by first | omega | (have hq := len_cTake hC (n := 4) (by assumption); omega) | decide))) (t1 pT))) ?_
 refine Tri.seq ?_
 refine sq [] none [9, 3] [0] ([(9, .sc (.b (FwcTake_2 p0 p1 p2 4))), (3, .sc (.ro .u8 (FwcTake p0 p1 p2 4)))], [(0, .cells [.ro .u8 p0, .i .i64 (FwcTake_1 p0 p1 p2 4), .b (FwcTake_2 p0 p1 p2 4)])]) 144 (t3 (pu (pl (show 2 < 3 from by first | omega | (have hq := len_cTake hC (n := 4) (by assumption); omega) | decide)) pT)) ?_
 refine Tri.cond (x := (FwcTake_2 p0 p1 p2 4)) (by kernel_rfl) (fun h1 => ?_) (fun h1 => ?_)
 refine sq [] none [2] [0] ([(2, .sc (.i .i64 0))], [(0, .cells [.ro .u8 p0, .i .i64 (FwcTake_1 p0 p1 p2 4), .b (FwcTake_2 p0 p1 p2 4)])]) 160 (t1 pT) ?_
 refine Tri.ret ?_
 refine rt ?_
 refine endP.conv (r' := ⟨.sc (.i .i64 0), [some (.cells [.ro .u8 p0, .i .i64 (FwcTake_1 p0 p1 p2 4), .b (FwcTake_2 p0 p1 p2 4)])]⟩) (by simp only [FwcU32, FwcU32_1, FwcU32_2, h1, sel_true, sel_false]) ?_
 exact er [(0, 0)] pz
 refine Tri.skip ?_
 change Tri _ _ _ _ _ _
 refine sq [] (some [0, 1, 3, 7, 15, 0, 32, 96, 224, 480, 1023, 0, 2048, 6144, 14336, 30720, 65535, 0, 131072, 393216, 917504, 2097151, 4194303]) [2] [0] ([(2, .sc (.i .i64 (iAdd .i64 (iAdd .i64 (iAdd .i64 (iMul .i64 (IntKind.wrap .i64 ((FwcTake p0 p1 p2 4).getD 0 0)) 16777216) (iMul .i64 (IntKind.wrap .i64 ((FwcTake p0 p1 p2 4).getD 1 0)) 65536)) (iMul .i64 (IntKind.wrap .i64 ((FwcTake p0 p1 p2 4).getD 2 0)) 256)) (IntKind.wrap .i64 ((FwcTake p0 p1 p2 4).getD 3 0)))))], [(0, .cells [.ro .u8 p0, .i .i64 (FwcTake_1 p0 p1 p2 4), .b (FwcTake_2 p0 p1 p2 4)])]) 512 (t1 (pu (pl (show (0 : Int) ≤ 0 ∧ 0 < ((FwcTake p0 p1 p2 4).length : Int) from by first | omega | (have hq := len_cTake hC (n := 4) (by assumption); omega) | decide)) (pu (pl (show 0 < (FwcTake p0 p1 p2 4).length from by first | omega | (have hq := len_cTake hC (n := 4) (by assumption); omega) | decide)) (t3 (pu (pl (show (0 : Int) ≤ 1 ∧ 1 < ((FwcTake p0 p1 p2 4).length : Int) from by first | omega | (have hq := len_cTake hC (n := 4) (by assumption); omega) | decide)) (pu (pl (show 1 < (FwcTake p0 p1 p2 4).length from by first | omega | (have hq := len_cTake hC (n := 4) (by assumption); omega) | decide)) (t4 (pu (pl (show (0 : Int) ≤ 2 ∧ 2 < ((FwcTake p0 p1 p2 4).length : Int) from by first | omega | (have hq := len_cTake hC (n := 4) (by assumption); omega) | decide)) (pu (pl (show 2 < (FwcTake p0 p1 p2 4).length from by first | omega | (have hq := len_cTake hC (n := 4) (by assumption); omega) | decide)) (t4 (pu (pl (show (0 : Int) ≤ 3 ∧ 3 < ((FwcTake p0 p1 p2 4).length : Int) from by first | omega | (have hq := len_cTake hC (n := 4) (by assumption); omega) | decide)) (pu (pl (show 3 < (FwcTake p0 p1 p2 4).length from by first | omega | (have hq := len_cTake hC (n := 4) (by assumption); omega) | decide)) (t3 pT))))))))))))) ?_
 refine Tri.ret ?_
 refine rt ?_
 refine endP.conv (r' := ⟨.sc (.i .i64 (iAdd .i64 (iAdd .i64 (iAdd .i64 (iMul .i64 (IntKind.wrap .i64 ((FwcTake p0 p1 p2 4).getD 0 0)) 16777216) (iMul .i64 (IntKind.wrap .i64 ((FwcTake p0 p1 p2 4).getD 1 0)) 65536)) (iMul .i64 (IntKind.wrap .i64 ((FwcTake p0 p1 p2 4).getD 2 0)) 256)) (IntKind.wrap .i64 ((FwcTake p0 p1 p2 4).getD 3 0)))), [some (.cells [.ro .u8 p0, .i .i64 (FwcTake_1 p0 p1 p2 4), .b (FwcTake_2 p0 p1 p2 4)])]⟩) (by simp only [FwcU32, FwcU32_1, FwcU32_2, h1, sel_true, sel_false]) ?_
 exact er [(0, 0)] pz
theorem in_cU32 {p0 : List Int} {p1 : Int} (p2 : Bool) (h : p0.length ≤ 1000000000 ∧ (0 : Int) ≤ p1 ∧ p1 ≤ (p0.length : Int)) : 0 ≤ FwcU32_1 p0 p1 p2 ∧ FwcU32_1 p0 p1 p2 ≤ (p0.length : Int) := in_cTake p2 4 h
noncomputable def FwcText (p0 : List Int) (p1 : Int) (p2 : Bool) : ByteArray :=
  (bytesOf (FwcTake p0 (FwcU32_1 p0 p1 p2) (sel (decide (((FwcU32 p0 p1 p2) : Int) > 16384)) true (FwcU32_2 p0 p1 p2)) (FwcU32 p0 p1 p2)))
noncomputable def FwcText_1 (p0 : List Int) (p1 : Int) (p2 : Bool) : Int :=
  (FwcTake_1 p0 (FwcU32_1 p0 p1 p2) (sel (decide (((FwcU32 p0 p1 p2) : Int) > 16384)) true (FwcU32_2 p0 p1 p2)) (FwcU32 p0 p1 p2))
noncomputable def FwcText_2 (p0 : List Int) (p1 : Int) (p2 : Bool) : Bool :=
  (FwcTake_2 p0 (FwcU32_1 p0 p1 p2) (sel (decide (((FwcU32 p0 p1 p2) : Int) > 16384)) true (FwcU32_2 p0 p1 p2)) (FwcU32 p0 p1 p2))
noncomputable def SwcText : List AV → List Blk → Option (Prop × Ret)
  | [.sc (.p 0 0)], [.cells [.ro .u8 p0, .i .i64 p1, .b p2]] => some ((p0.length ≤ 1000000000 ∧ (0 : Int) ≤ p1 ∧ p1 ≤ (p0.length : Int)), ⟨.sc (.s (FwcText p0 p1 p2)), [some (.cells [.ro .u8 p0, .i .i64 (FwcText_1 p0 p1 p2), .b (FwcText_2 p0 p1 p2)])]⟩)
  | _, _ => none
noncomputable def BwcText : Bs := { P := Go.Proofs.Tryd.prog, G := gD, tab := tabOf [⟨46, 208, [.io, .val], [], [0], ⟨1, 0, SwcTake⟩, false⟩, ⟨48, 48, [.io], [], [0], ⟨1, 0, SwcU32⟩, false⟩], n := 15 }
theorem BwcText.ok : BwcText.Ok := ⟨tabOk (P := Go.Proofs.Tryd.prog) (G := gD) (l := [⟨46, 208, [.io, .val], [], [0], ⟨1, 0, SwcTake⟩, false⟩, ⟨48, 48, [.io], [], [0], ⟨1, 0, SwcU32⟩, false⟩]) (And.intro KwcTake (And.intro KwcU32 True.intro)), mixed⟩
theorem KwcText : Known Go.Proofs.Tryd.prog gD 58 ⟨1, 0, SwcText⟩ := by
 refine Known.walk (B := BwcText) (fn := Go.Proofs.Tryd.f58) BwcText.ok (by kernel_rfl) rfl (by kernel_rfl) (by kernel_rfl) (by decide) (by decide) ?_
 intro E args ks C r h hC hlen
 simp only at h
 unfold SwcText at h
 split at h
 rotate_left
 cases h
 rename_i p0 p1 p2
 cases h
 simp only [lens] at hlen
 refine ⟨show 1 ≤ 15 from by decide, ?_⟩
 refine Tri.sub (Sub.of_eq (show _ = ([(0, .sc (.p 0 0))], [(0, .cells [.ro .u8 p0, .i .i64 p1, .b p2])]) from rfl)) ?_
 refine sq [] none [0] [0] ([(0, .sc (.p 0 0))], [(0, .cells [.ro .u8 p0, .i .i64 p1, .b p2])]) 32 (t1 pT) ?_
 refine sq [] none [3, 0] [0] ([(3, .sc (.i .i64 (FwcU32 p0 p1 p2))), (0, .sc (.p 0 0))], [(0, .cells [.ro .u8 p0, .i .i64 (FwcU32_1 p0 p1 p2), .b (FwcU32_2 p0 p1 p2)])]) 80 (t1 (pu (pa pT (pl (show p0.length ≤ 1000000000 ∧ (0 : Int) ≤ p1 ∧ p1 ≤ (p0.length : Int) from by first | omega | (have hq := in_cU32 p2 hC; exact ⟨hC.1, hq.1, hq.2⟩)))) (t1 pT))) ?_
 refine Tri.seq ?_
 refine sq [] none [7, 3, 0] [0] ([(7, .sc (.b (decide (((FwcU32 p0 p1 p2) : Int) > 16384)))), (3, .sc (.i .i64 (FwcU32 p0 p1 p2))), (0, .sc (.p 0 0))], [(0, .cells [.ro .u8 p0, .i .i64 (FwcU32_1 p0 p1 p2), .b (FwcU32_2 p0 p1 p2)])]) 112 (t2 pT) ?_
 refine Tri.join (x := (decide (((FwcU32 p0 p1 p2) : Int) > 16384))) (fun bb => ([(3, .sc (.i .i64 (FwcU32 p0 p1 p2))), (0, .sc (.p 0 0))], [(0, .cells [.ro .u8 p0, .i .i64 (FwcU32_1 p0 p1 p2), .b (sel bb true (FwcU32_2 p0 p1 p2))])])) 176 (by kernel_rfl) (fun h1 => ?_) (fun h1 => ?_) ?_
 have h1' := of_decide_eq_true h1
 refine rq [] none [3, 0] [0] ([(3, .sc (.i .i64 (FwcU32 p0 p1 p2))), (0, .sc (.p 0 0))], [(0, .cells [.ro .u8 p0, .i .i64 (FwcU32_1 p0 p1 p2), .b true])]) 176 (t3 (pu (pa (pl (show 2 < 3 from by first | omega | (have hq := in_cU32 p2 hC; exact ⟨hC.1, hq.1, hq.2⟩))) (lr (1 = 1))) pT)) ?_
 exact sn [(0, 0)] [3, 0] ([(3, .sc (.i .i64 (FwcU32 p0 p1 p2))), (0, .sc (.p 0 0))], [(0, .cells [.ro .u8 p0, .i .i64 (FwcU32_1 p0 p1 p2), .b true])])
 have h1' := of_decide_eq_false h1
 refine Tri.skip ?_
 exact sn [(0, 0)] [3, 0] ([(3, .sc (.i .i64 (FwcU32 p0 p1 p2))), (0, .sc (.p 0 0))], [(0, .cells [.ro .u8 p0, .i .i64 (FwcU32_1 p0 p1 p2), .b (FwcU32_2 p0 p1 p2)])])
 change Tri _ _ _ _ _ _
 refine sq [] none [2] [0] ([(2, .sc (.s (bytesOf (FwcTake p0 (FwcU32_1 p0 p1 p2) (sel (decide (((FwcU32 p0 p1 p2) : Int) > 16384)) true (FwcU32_2 p0 p1 p2)) (FwcU32 p0 p1 p2)))))], [(0, .cells [.ro .u8 p0, .i .i64 (FwcTake_1 p0 (FwcU32_1 p0 p1 p2) (sel (decide (((FwcU32 p0 p1 p2) : Int) > 16384)) true (FwcU32_2 p0 p1 p2)) (FwcU32 p0 p1 p2)), .b (FwcTake_2 p0 (FwcU32_1 p0 p1 p2) (sel (decide (((FwcU32 p0 p1 p2) : Int) > 16384)) true (FwcU32_2 p0 p1 p2)) (FwcU32 p0 p1 p2))])]) 256 (t2 (pu (pa pT (pl (show p0.length ≤ 1000000000 ∧ (0 : Int) ≤ (FwcU32_1 p0 p1 p2) ∧ (FwcU32_1 p0 p1 p2) ≤ (p0.length : Int) from by first | omega | (have hq := in_cU32 p2 hC; exact ⟨hC.1, hq.1, hq.2⟩)))) (t2 pT))) ?_
 refine Tri.ret ?_
 refine rt ?_
 exact er [(0, 0)] pz
theorem size_cText {p0 : List Int} {p1 : Int} (p2 : Bool) (h : p0.length ≤ 1000000000 ∧ (0 : Int) ≤ p1 ∧ p1 ≤ (p0.length : Int)) : (FwcText p0 p1 p2).size ≤ 16384 := by
  have hc := in_cU32 p2 h
  unfold FwcText
  rw [size_bytesOf]
  rcases cTake_is (sel (decide (((FwcU32 p0 p1 p2) : Int) > 16384)) true (FwcU32_2 p0 p1 p2)) (FwcU32 p0 p1 p2) ⟨h.1, hc.1, hc.2⟩ with ⟨hb, _, _, h1, _⟩ | ⟨_, h1, _⟩
  · rw [h1, List.length_take]
    cases hd : decide (FwcU32 p0 p1 p2 > 16384)
    · have := of_decide_eq_false hd
      omega
    · rw [hd, sel_true] at hb; cases hb
  · rw [h1]; exact Nat.zero_le _
noncomputable def FwcEnd (p0 : List Int) (p1 : Int) (p2 : Bool) : Bool :=
  (sel (!p2) ((p1 : Int) == ((p0.length : Nat) : Int)) false)
noncomputable def SwcEnd : List AV → List Blk → Option (Prop × Ret)
  | [.sc (.p 0 0)], [.cells [.ro .u8 p0, .i .i64 p1, .b p2]] => some (True, ⟨.sc (.b (FwcEnd p0 p1 p2)), [some (.cells [.ro .u8 p0, .i .i64 p1, .b p2])]⟩)
  | _, _ => none
noncomputable def BwcEnd : Bs := { P := Go.Proofs.Tryd.prog, G := gD, tab := tabOf [], n := 20 }
theorem BwcEnd.ok : BwcEnd.Ok := ⟨tabOk (P := Go.Proofs.Tryd.prog) (G := gD) (l := []) True.intro, mixed⟩
theorem KwcEnd : Known Go.Proofs.Tryd.prog gD 49 ⟨1, 0, SwcEnd⟩ := by
 refine Known.walk (B := BwcEnd) (fn := Go.Proofs.Tryd.f49) BwcEnd.ok (by kernel_rfl) rfl (by kernel_rfl) (by kernel_rfl) (by decide) (by decide) ?_
 intro E args ks C r h hC hlen
 simp only at h
 unfold SwcEnd at h
 split at h
 rotate_left
 cases h
 rename_i p0 p1 p2
 cases h
 simp only [lens] at hlen
 refine ⟨show 1 ≤ 20 from by decide, ?_⟩
 refine Tri.sub (Sub.of_eq (show _ = ([(0, .sc (.p 0 0))], [(0, .cells [.ro .u8 p0, .i .i64 p1, .b p2])]) from rfl)) ?_
 refine sq [] none [0] [0] ([(0, .sc (.p 0 0))], [(0, .cells [.ro .u8 p0, .i .i64 p1, .b p2])]) 32 (t1 pT) ?_
 refine Tri.split (!p2) (fun h1 => ?_) (fun h1 => ?_)
 refine sq [(8, qb true)] (some [0, 1, 3, 7, 15, 31, 63, 127, 255, 511, 63, 1087, 3135, 7231, 15423, 32767, 65535, 131071]) [2] [0] ([(2, .sc (.b ((p1 : Int) == ((p0.length : Nat) : Int))))], [(0, .cells [.ro .u8 p0, .i .i64 p1, .b p2])]) 320 (t3 (pu (lo (2 < 3)) (t1 (pg h1 (t3 (pu (lo (1 < 3)) (t3 (pu (lo (0 < 3)) (t4 pT))))))))) ?_
 refine Tri.ret ?_
 refine rt ?_
 refine endP.conv (r' := ⟨.sc (.b ((p1 : Int) == ((p0.length : Nat) : Int))), [some (.cells [.ro .u8 p0, .i .i64 p1, .b p2])]⟩) (by simp only [FwcEnd, h1, sel_true, sel_false]) ?_
 exact er [(0, 0)] pz
 refine sq [(8, qb false)] (some [0, 1, 3, 7, 15, 31, 63, 127, 255, 511, 63, 1087, 3135, 7231, 15423, 32767, 65535, 131071]) [2] [0] ([(2, .sc (.b false))], [(0, .cells [.ro .u8 p0, .i .i64 p1, .b p2])]) 320 (t3 (pu (lo (2 < 3)) (t1 (pg h1 (t3 (t9 pT)))))) ?_
 refine Tri.ret ?_
 refine rt ?_
 refine endP.conv (r' := ⟨.sc (.b false), [some (.cells [.ro .u8 p0, .i .i64 p1, .b p2])]⟩) (by simp only [FwcEnd, h1, sel_true, sel_false]) ?_
 exact er [(0, 0)] pz
theorem names_0 : 1 ≤ [(⟨#[]⟩ : ByteArray)].length ∧ [(⟨#[]⟩ : ByteArray)].length ≤ 0 + 1 ∧ ∀ j, ([(⟨#[]⟩ : ByteArray)].getD j (⟨#[]⟩ : ByteArray)).size ≤ 0 :=
  ⟨by decide, by decide, fun j => by cases j <;> exact Nat.le_refl 0⟩
theorem names_1 {z : List ByteArray} {k m : Nat} {b : Bool} {y : ByteArray} (h : 1 ≤ z.length ∧ z.length ≤ k + 1 ∧ ∀ j, (z.getD j (⟨#[]⟩ : ByteArray)).size ≤ k) (hy : y.size ≤ m) (hm : m ≤ 1) :
    1 ≤ (sel b (z ++ [(⟨#[]⟩ : ByteArray)]) (z.set (z.length - 1) (z.getD (z.length - 1) (⟨#[]⟩ : ByteArray) ++ y))).length ∧ (sel b (z ++ [(⟨#[]⟩ : ByteArray)]) (z.set (z.length - 1) (z.getD (z.length - 1) (⟨#[]⟩ : ByteArray) ++ y))).length ≤ k + 1 + 1 ∧
      ∀ j, ((sel b (z ++ [(⟨#[]⟩ : ByteArray)]) (z.set (z.length - 1) (z.getD (z.length - 1) (⟨#[]⟩ : ByteArray) ++ y))).getD j (⟨#[]⟩ : ByteArray)).size ≤ k + 1 := by
  obtain ⟨h1, h2, h3⟩ := h
  cases b
  · rw [sel_false, List.length_set]
    refine ⟨h1, by omega, fun j => ?_⟩
    rw [List.getD_eq_getElem?_getD, List.getElem?_set]
    split
    · have := h3 (z.length - 1)
      rw [if_pos (by omega)]
      show (_ ++ y).size ≤ _
      rw [ByteArray.size_append]
      omega
    · have := h3 j
      rw [List.getD_eq_getElem?_getD] at this
      omega
  · rw [sel_true, List.length_append]
    refine ⟨by omega, by show _ + 1 ≤ _; omega, fun j => ?_⟩
    rw [List.getD_eq_getElem?_getD, List.getElem?_append]
    split
    · have := h3 j
      rw [List.getD_eq_getElem?_getD] at this
      omega
    · cases j - z.length <;> exact Nat.zero_le _
noncomputable def FwcNamesl0 (p0 : List Int) (p1 : Int) (p2 : Bool) (k0 : Nat) (z0 : List ByteArray) : List ByteArray :=
  (sel (((byteAt (FwcText p0 p1 p2) ((k0 : Nat) : Int)) : Int) == 44) (z0 ++ [(⟨#[]⟩ : ByteArray)]) (z0.set (z0.length - 1) (z0.getD (z0.length - 1) (⟨#[]⟩ : ByteArray) ++ ((FwcText p0 p1 p2).extract k0 (k0 + 1)))))
noncomputable def FwcNamesl1 (k1 : Nat) (z1 : Unit) : Unit :=
  ()
noncomputable def FwcNamess1 (p0 : List Int) (p1 : Int) (p2 : Bool) (k1 : Nat) : Bool :=
  (sel (strEq ((itr (FwcNamesl0 p0 p1 p2) ((FwcText p0 p1 p2).size) ([(⟨#[]⟩ : ByteArray)])).getD k1 (⟨#[]⟩ : ByteArray)) (⟨#[]⟩ : ByteArray)) true false)
noncomputable def FwcNames (p0 : List Int) (p1 : Int) (p2 : Bool) : List ByteArray :=
  (sel (strEq (FwcText p0 p1 p2) (⟨#[]⟩ : ByteArray)) [] (sel (Nat.blt (fstB (FwcNamess1 p0 p1 p2) ((itr (FwcNamesl0 p0 p1 p2) ((FwcText p0 p1 p2).size) ([(⟨#[]⟩ : ByteArray)])).length)) ((itr (FwcNamesl0 p0 p1 p2) ((FwcText p0 p1 p2).size) ([(⟨#[]⟩ : ByteArray)])).length)) [] (partV (itr (FwcNamesl0 p0 p1 p2) ((FwcText p0 p1 p2).size) ([(⟨#[]⟩ : ByteArray)])) 0 ((itr (FwcNamesl0 p0 p1 p2) ((FwcText p0 p1 p2).size) ([(⟨#[]⟩ : ByteArray)])).length))))
noncomputable def FwcNames_1 (p0 : List Int) (p1 : Int) (p2 : Bool) : Int :=
  (FwcText_1 p0 p1 p2)
noncomputable def FwcNames_2 (p0 : List Int) (p1 : Int) (p2 : Bool) : Bool :=
  (sel (strEq (FwcText p0 p1 p2) (⟨#[]⟩ : ByteArray)) (FwcText_2 p0 p1 p2) (sel (Nat.blt (fstB (FwcNamess1 p0 p1 p2) ((itr (FwcNamesl0 p0 p1 p2) ((FwcText p0 p1 p2).size) ([(⟨#[]⟩ : ByteArray)])).length)) ((itr (FwcNamesl0 p0 p1 p2) ((FwcText p0 p1 p2).size) ([(⟨#[]⟩ : ByteArray)])).length)) true (FwcText_2 p0 p1 p2)))
noncomputable def SwcNames : List AV → List Blk → Option (Prop × Ret)
  | [.sc (.p 0 0)], [.cells [.ro .u8 p0, .i .i64 p1, .b p2]] => some ((p0.length ≤ 1000000000 ∧ (0 : Int) ≤ p1 ∧ p1 ≤ (p0.length : Int)), ⟨.sc (.ros (FwcNames p0 p1 p2)), [some (.cells [.ro .u8 p0, .i .i64 (FwcNames_1 p0 p1 p2), .b (FwcNames_2 p0 p1 p2)])]⟩)
  | _, _ => none
noncomputable def BwcNames : Bs := { P := Go.Proofs.Tryd.prog, G := gD, tab := tabOf [⟨58, 48, [.io], [], [0], ⟨1, 0, SwcText⟩, false⟩], n := 53 }
theorem BwcNames.ok : BwcNames.Ok := ⟨tabOk (P := Go.Proofs.Tryd.prog) (G := gD) (l := [⟨58, 48, [.io], [], [0], ⟨1, 0, SwcText⟩, false⟩]) (And.intro KwcText True.intro), mixed⟩
theorem KwcNames : Known Go.Proofs.Tryd.prog gD 47 ⟨1, 0, SwcNames⟩ := by
 refine Known.walk (B := BwcNames) (fn := Go.Proofs.Tryd.f47) BwcNames.ok (by kernel_rfl) rfl (by kernel_rfl) (by kernel_rfl) (by decide) (by decide) ?_
 intro E args ks C r h hC hlen
 simp only at h
 unfold SwcNames at h
 split at h
 rotate_left
 cases h
 rename_i p0 p1 p2
 cases h
 simp only [lens] at hlen
 have hs := size_cText p2 hC
 refine ⟨show 1 ≤ 53 from by decide, ?_⟩
 refine Tri.sub (Sub.of_eq (show _ = ([(0, .sc (.p 0 0))], [(0, .cells [.ro .u8 p0, .i .i64 p1, .b p2])]) from rfl)) ?_
 refine sq [] none [0] [0] ([(0, .sc (.p 0 0))], [(0, .cells [.ro .u8 p0, .i .i64 p1, .b p2])]) 32 (t1 pT) ?_
 refine sq [] none [3, 0] [0] ([(3, .sc (.s (FwcText p0 p1 p2))), (0, .sc (.p 0 0))], [(0, .cells [.ro .u8 p0, .i .i64 (FwcText_1 p0 p1 p2), .b (FwcText_2 p0 p1 p2)])]) 80 (t1 (pu (pa pT (pl (show p0.length ≤ 1000000000 ∧ (0 : Int) ≤ p1 ∧ p1 ≤ (p0.length : Int) from by first | omega | decide | (have hq := hJ0.2.2 (z0.length - 1); have hr := extract_le' (FwcText p0 p1 p2) k0 (k0 + 1); omega)))) (t1 pT))) ?_
 refine Tri.seq ?_
 refine sq [] none [10, 3, 0] [0] ([(10, .sc (.b (strEq (FwcText p0 p1 p2) (⟨#[]⟩ : ByteArray)))), (3, .sc (.s (FwcText p0 p1 p2))), (0, .sc (.p 0 0))], [(0, .cells [.ro .u8 p0, .i .i64 (FwcText_1 p0 p1 p2), .b (FwcText_2 p0 p1 p2)])]) 112 (t2 pT) ?_
 refine Tri.cond (x := (strEq (FwcText p0 p1 p2) (⟨#[]⟩ : ByteArray))) (by kernel_rfl) (fun h1 => ?_) (fun h1 => ?_)
 refine sq [] none [2] [0] ([(2, .sc (.nils))], [(0, .cells [.ro .u8 p0, .i .i64 (FwcText_1 p0 p1 p2), .b (FwcText_2 p0 p1 p2)])]) 128 (t1 pT) ?_
 refine Tri.sub (Sub.nilRos 2 (by kernel_rfl)) ?_
 refine Tri.ret ?_
 refine rt ?_
 refine endP.conv (r' := ⟨.sc (.ros []), [some (.cells [.ro .u8 p0, .i .i64 (FwcText_1 p0 p1 p2), .b (FwcText_2 p0 p1 p2)])]⟩) (by simp only [FwcNames, FwcNames_1, FwcNames_2, h1, sel_true, sel_false]) ?_
 exact er [(0, 0)] pz
 refine Tri.skip ?_
 change Tri _ _ _ _ _ _
 refine sq [] none [4, 3, 0] [112, 0] ([(4, .sc (.sl 112 0 1 1 none)), (3, .sc (.s (FwcText p0 p1 p2))), (0, .sc (.p 0 0))], [(112, .cells [.s (⟨#[]⟩ : ByteArray)]), (0, .cells [.ro .u8 p0, .i .i64 (FwcText_1 p0 p1 p2), .b (FwcText_2 p0 p1 p2)])]) 144 (pu (pa (pa (pa (pl (show 0 < 1 from by first | omega | decide | (have hq := hJ0.2.2 (z0.length - 1); have hr := extract_le' (FwcText p0 p1 p2) k0 (k0 + 1); omega))) (lr (1 = 1))) pT) (pa (pl (show 1 * 1 ≤ 16777216 from by first | omega | decide | (have hq := hJ0.2.2 (z0.length - 1); have hr := extract_le' (FwcText p0 p1 p2) k0 (k0 + 1); omega))) (lr (1 = 1)))) (t1 pT)) ?_
 refine Tri.seq ?_
 refine sq [] none [5, 4, 3, 0] [112, 0] ([(5, .sc (.i .i64 0)), (4, .sc (.sl 112 0 1 1 none)), (3, .sc (.s (FwcText p0 p1 p2))), (0, .sc (.p 0 0))], [(112, .cells [.s (⟨#[]⟩ : ByteArray)]), (0, .cells [.ro .u8 p0, .i .i64 (FwcText_1 p0 p1 p2), .b (FwcText_2 p0 p1 p2)])]) 160 (t1 pT) ?_
 refine Tri.block ?_
 refine Tri.sub (Sub.toVec (l := [.s (⟨#[]⟩ : ByteArray)]) 112 .str ([(⟨#[]⟩ : ByteArray)]) (by kernel_rfl) (by kernel_rfl)) ?_
 refine Tri.count 160 ((FwcText p0 p1 p2).size) (FwcNamesl0 p0 p1 p2) ([(⟨#[]⟩ : ByteArray)]) (fun k0 z0 => (1 ≤ z0.length ∧ z0.length ≤ k0 + 1 ∧ ∀ j, (z0.getD j (⟨#[]⟩ : ByteArray)).size ≤ k0)) (fun k0 z0 => ([(5, .sc (.i .i64 ((k0 : Nat) : Int))), (4, .sc (.sl 112 0 z0.length 1 none)), (3, .sc (.s (FwcText p0 p1 p2))), (0, .sc (.p 0 0))], [(112, .vec .str z0), (0, .cells [.ro .u8 p0, .i .i64 (FwcText_1 p0 p1 p2), .b (FwcText_2 p0 p1 p2)])])) names_0 (Sub.of_eq (by kernel_rfl)) ?_
 intro k0 z0 hk0 hz0 hJ0
 refine Tri.seq ?_
 refine sq [] none [15, 5, 4, 3, 0] [112, 0] ([(15, .sc (.b (decide ((((k0 : Nat) : Int) : Int) < (((FwcText p0 p1 p2).size : Nat) : Int))))), (5, .sc (.i .i64 ((k0 : Nat) : Int))), (4, .sc (.sl 112 0 z0.length 1 none)), (3, .sc (.s (FwcText p0 p1 p2))), (0, .sc (.p 0 0))], [(112, .vec .str z0), (0, .cells [.ro .u8 p0, .i .i64 (FwcText_1 p0 p1 p2), .b (FwcText_2 p0 p1 p2)])]) 224 (t4 pT) ?_
 refine Tri.cond (x := (decide ((((k0 : Nat) : Int) : Int) < (((FwcText p0 p1 p2).size : Nat) : Int)))) (by kernel_rfl) (fun h2 => ?_) (fun h2 => ?_)
 have h2' := of_decide_eq_true h2
 refine Tri.skip ?_
 change Tri _ _ _ _ _ _
 refine Tri.seq ?_
 refine Tri.block ?_
 refine sq [] none [21, 5, 4, 3, 0] [112, 0] ([(21, .sc (.b (((byteAt (FwcText p0 p1 p2) ((k0 : Nat) : Int)) : Int) == 44))), (5, .sc (.i .i64 ((k0 : Nat) : Int))), (4, .sc (.sl 112 0 z0.length 1 none)), (3, .sc (.s (FwcText p0 p1 p2))), (0, .sc (.p 0 0))], [(112, .vec .str z0), (0, .cells [.ro .u8 p0, .i .i64 (FwcText_1 p0 p1 p2), .b (FwcText_2 p0 p1 p2)])]) 288 (t2 (pu (pl (show (0 : Int) ≤ ((k0 : Nat) : Int) ∧ ((k0 : Nat) : Int) < ((FwcText p0 p1 p2).size : Int) from by first | omega | decide | (have hq := hJ0.2.2 (z0.length - 1); have hr := extract_le' (FwcText p0 p1 p2) k0 (k0 + 1); omega))) (t1 pT))) ?_
 refine Tri.cond (x := (((byteAt (FwcText p0 p1 p2) ((k0 : Nat) : Int)) : Int) == 44)) (by kernel_rfl) (fun h3 => ?_) (fun h3 => ?_)
 have h3' := eq_true_i h3
 refine rq [] none [4, 5, 3, 0] [320, 0] ([(4, .sc (.sl 320 0 (z0.length + 1) 1 none)), (5, .sc (.i .i64 ((k0 : Nat) : Int))), (3, .sc (.s (FwcText p0 p1 p2))), (0, .sc (.p 0 0))], [(320, .vec .str (z0 ++ [(⟨#[]⟩ : ByteArray)])), (0, .cells [.ro .u8 p0, .i .i64 (FwcText_1 p0 p1 p2), .b (FwcText_2 p0 p1 p2)])]) 352 (t1 (pu (pa (pa (pa (pl (show 0 < 1 from by first | omega | decide | (have hq := hJ0.2.2 (z0.length - 1); have hr := extract_le' (FwcText p0 p1 p2) k0 (k0 + 1); omega))) (lr (1 = 1))) pT) (pa (pl (show 1 * 1 ≤ 16777216 from by first | omega | decide | (have hq := hJ0.2.2 (z0.length - 1); have hr := extract_le' (FwcText p0 p1 p2) k0 (k0 + 1); omega))) (lr (1 = 1)))) (pu (pa (pa (pa (pa (pl (show 0 + 1 ≤ 1 from by first | omega | decide | (have hq := hJ0.2.2 (z0.length - 1); have hr := extract_le' (FwcText p0 p1 p2) k0 (k0 + 1); omega))) (lr (1 = 1))) (pa (pl (show 0 < 1 from by first | omega | decide | (have hq := hJ0.2.2 (z0.length - 1); have hr := extract_le' (FwcText p0 p1 p2) k0 (k0 + 1); omega))) (pa (pl (show (z0.length + 1) * 16 ≤ 140737488355328 from by first | omega | decide | (have hq := hJ0.2.2 (z0.length - 1); have hr := extract_le' (FwcText p0 p1 p2) k0 (k0 + 1); omega))) (pl (show z0.length + 1 ≤ 140737488355328 from by first | omega | decide | (have hq := hJ0.2.2 (z0.length - 1); have hr := extract_le' (FwcText p0 p1 p2) k0 (k0 + 1); omega)))))) (pl (show 1 = 1 * 1 from by first | omega | decide | (have hq := hJ0.2.2 (z0.length - 1); have hr := extract_le' (FwcText p0 p1 p2) k0 (k0 + 1); omega)))) (pa (lr (1 = 1)) (pl (show 0 + z0.length * 1 = z0.length from by first | omega | decide | (have hq := hJ0.2.2 (z0.length - 1); have hr := extract_le' (FwcText p0 p1 p2) k0 (k0 + 1); omega))))) (t1 pT)))) ?_
 change Tri _ _ _ _ _ _
 refine rq [(17, qi ((k0 + 1 : Nat) : Int))] none [5, 4, 3, 0] [320, 0] ([(5, .sc (.i .i64 ((k0 + 1 : Nat) : Int))), (4, .sc (.sl 320 0 (z0.length + 1) 1 none)), (3, .sc (.s (FwcText p0 p1 p2))), (0, .sc (.p 0 0))], [(320, .vec .str (z0 ++ [(⟨#[]⟩ : ByteArray)])), (0, .cells [.ro .u8 p0, .i .i64 (FwcText_1 p0 p1 p2), .b (FwcText_2 p0 p1 p2)])]) 400 (t1 (pv pT (pl (show (iAdd .i64 ((k0 : Nat) : Int) 1) = ((k0 + 1 : Nat) : Int) from iAdd_nat (a := k0) (b := 1) (by omega))) (t1 pT))) ?_
 repeat (refine blkP_normal ?_)
 refine countP_normal (by omega) (by unfold FwcNamesl0; exact names_1 hJ0 (extract_le' _ _ _) (by omega)) ?_
 exact sn [(320, 112), (0, 0)] [5, 4, 3, 0] ([(5, .sc (.i .i64 ((k0 + 1 : Nat) : Int))), (4, .sc (.sl 112 0 (z0.length + 1) 1 none)), (3, .sc (.s (FwcText p0 p1 p2))), (0, .sc (.p 0 0))], [(112, .vec .str (z0 ++ [(⟨#[]⟩ : ByteArray)])), (0, .cells [.ro .u8 p0, .i .i64 (FwcText_1 p0 p1 p2), .b (FwcText_2 p0 p1 p2)])]) (by simp only [FwcNamesl0, h1, h2, h3, sel_true, sel_false, List.length_append, List.length_set, List.length_cons, List.length_nil, Nat.zero_add, Nat.reduceAdd])
 have h3' := eq_false_i h3
 refine rq [(28, qi ((z0.length - 1 : Nat) : Int)), (34, qi ((k0 + 1 : Nat) : Int))] (some [0, 0, 2, 6, 15, 31, 0, 0, 0, 256, 960, 2047, 4095, 8191]) [5, 4, 3, 0] [112, 0] ([(5, .sc (.i .i64 ((k0 : Nat) : Int))), (4, .sc (.sl 112 0 z0.length 1 none)), (3, .sc (.s (FwcText p0 p1 p2))), (0, .sc (.p 0 0))], [(112, .vec .str (z0.set (z0.length - 1) (z0.getD (z0.length - 1) (⟨#[]⟩ : ByteArray) ++ ((FwcText p0 p1 p2).extract k0 (k0 + 1))))), (0, .cells [.ro .u8 p0, .i .i64 (FwcText_1 p0 p1 p2), .b (FwcText_2 p0 p1 p2)])]) 512 (t3 (pv pT (pl (show (iSub .i64 ((z0.length : Nat) : Int) 1) = ((z0.length - 1 : Nat) : Int) from iSub_nat (a := z0.length) (b := 1) (by omega) (by omega))) (pu (pl (show (0 : Int) ≤ ((z0.length - 1 : Nat) : Int) ∧ ((z0.length - 1 : Nat) : Int) < ((z0.length : Nat) : Int) from by first | omega | decide | (have hq := hJ0.2.2 (z0.length - 1); have hr := extract_le' (FwcText p0 p1 p2) k0 (k0 + 1); omega))) (pu (pl (show z0.length - 1 < z0.length from by first | omega | decide | (have hq := hJ0.2.2 (z0.length - 1); have hr := extract_le' (FwcText p0 p1 p2) k0 (k0 + 1); omega))) (t3 (pv pT (pl (show (iAdd .i64 ((k0 : Nat) : Int) 1) = ((k0 + 1 : Nat) : Int) from iAdd_nat (a := k0) (b := 1) (by omega))) (pu (pl (show (0 : Int) ≤ ((k0 : Nat) : Int) ∧ (((k0 : Nat) : Int) : Int) ≤ ((k0 + 1 : Nat) : Int) ∧ ((k0 + 1 : Nat) : Int) ≤ ((FwcText p0 p1 p2).size : Int) from by first | omega | decide | (have hq := hJ0.2.2 (z0.length - 1); have hr := extract_le' (FwcText p0 p1 p2) k0 (k0 + 1); omega))) (pu (pl (show (z0.getD (z0.length - 1) (⟨#[]⟩ : ByteArray)).size + ((FwcText p0 p1 p2).extract k0 (k0 + 1)).size ≤ 9223372036854775807 from by first | omega | decide | (have hq := hJ0.2.2 (z0.length - 1); have hr := extract_le' (FwcText p0 p1 p2) k0 (k0 + 1); omega))) (pu (pl (show (0 : Int) ≤ ((z0.length - 1 : Nat) : Int) ∧ ((z0.length - 1 : Nat) : Int) < ((z0.length : Nat) : Int) from by first | omega | decide | (have hq := hJ0.2.2 (z0.length - 1); have hr := extract_le' (FwcText p0 p1 p2) k0 (k0 + 1); omega))) (pu (pa (pl (show z0.length - 1 < z0.length from by first | omega | decide | (have hq := hJ0.2.2 (z0.length - 1); have hr := extract_le' (FwcText p0 p1 p2) k0 (k0 + 1); omega))) (lr (1 = 1))) pT)))))))))) ?_
 change Tri _ _ _ _ _ _
 refine rq [(17, qi ((k0 + 1 : Nat) : Int))] none [5, 4, 3, 0] [112, 0] ([(5, .sc (.i .i64 ((k0 + 1 : Nat) : Int))), (4, .sc (.sl 112 0 z0.length 1 none)), (3, .sc (.s (FwcText p0 p1 p2))), (0, .sc (.p 0 0))], [(112, .vec .str (z0.set (z0.length - 1) (z0.getD (z0.length - 1) (⟨#[]⟩ : ByteArray) ++ ((FwcText p0 p1 p2).extract k0 (k0 + 1))))), (0, .cells [.ro .u8 p0, .i .i64 (FwcText_1 p0 p1 p2), .b (FwcText_2 p0 p1 p2)])]) 560 (t1 (pv pT (pl (show (iAdd .i64 ((k0 : Nat) : Int) 1) = ((k0 + 1 : Nat) : Int) from iAdd_nat (a := k0) (b := 1) (by omega))) (t1 pT))) ?_
 repeat (refine blkP_normal ?_)
 refine countP_normal (by omega) (by unfold FwcNamesl0; exact names_1 hJ0 (extract_le' _ _ _) (by omega)) ?_
 exact sn [(112, 112), (0, 0)] [5, 4, 3, 0] ([(5, .sc (.i .i64 ((k0 + 1 : Nat) : Int))), (4, .sc (.sl 112 0 z0.length 1 none)), (3, .sc (.s (FwcText p0 p1 p2))), (0, .sc (.p 0 0))], [(112, .vec .str (z0.set (z0.length - 1) (z0.getD (z0.length - 1) (⟨#[]⟩ : ByteArray) ++ ((FwcText p0 p1 p2).extract k0 (k0 + 1))))), (0, .cells [.ro .u8 p0, .i .i64 (FwcText_1 p0 p1 p2), .b (FwcText_2 p0 p1 p2)])]) (by simp only [FwcNamesl0, h1, h2, h3, sel_true, sel_false, List.length_append, List.length_set, List.length_cons, List.length_nil, Nat.zero_add, Nat.reduceAdd])
 have h2' := of_decide_eq_false h2
 refine Tri.exit ?_
 have hend0 : k0 = ((FwcText p0 p1 p2).size) := by (have := of_decide_eq_false h2; omega)
 subst hend0; subst hz0
 change Tri _ _ _ _ _ _
 refine Tri.seq ?_
 refine sq [] none [6, 4, 0] [112, 0] ([(6, .sc (.i .i64 0)), (4, .sc (.sl 112 0 ((itr (FwcNamesl0 p0 p1 p2) ((FwcText p0 p1 p2).size) ([(⟨#[]⟩ : ByteArray)])).length) 1 none)), (0, .sc (.p 0 0))], [(112, .vec .str (itr (FwcNamesl0 p0 p1 p2) ((FwcText p0 p1 p2).size) ([(⟨#[]⟩ : ByteArray)]))), (0, .cells [.ro .u8 p0, .i .i64 (FwcText_1 p0 p1 p2), .b (FwcText_2 p0 p1 p2)])]) 240 (t1 pT) ?_
 refine Tri.block ?_
 refine Tri.count 240 ((itr (FwcNamesl0 p0 p1 p2) ((FwcText p0 p1 p2).size) ([(⟨#[]⟩ : ByteArray)])).length) (FwcNamesl1) (()) (fun k1 z1 => (∀ j, j < k1 → (FwcNamess1 p0 p1 p2) j = false)) (fun k1 z1 => ([(6, .sc (.i .i64 ((k1 : Nat) : Int))), (4, .sc (.sl 112 0 ((itr (FwcNamesl0 p0 p1 p2) ((FwcText p0 p1 p2).size) ([(⟨#[]⟩ : ByteArray)])).length) 1 none)), (0, .sc (.p 0 0))], [(112, .vec .str (itr (FwcNamesl0 p0 p1 p2) ((FwcText p0 p1 p2).size) ([(⟨#[]⟩ : ByteArray)]))), (0, .cells [.ro .u8 p0, .i .i64 (FwcText_1 p0 p1 p2), .b (FwcText_2 p0 p1 p2)])])) (fun j hj => absurd hj (Nat.not_lt_zero j)) (Sub.of_eq (by kernel_rfl)) ?_
 intro k1 z1 hk1 hz1 hJ1
 refine Tri.seq ?_
 refine sq [] none [41, 6, 4, 0] [112, 0] ([(41, .sc (.b (decide ((((k1 : Nat) : Int) : Int) < (((itr (FwcNamesl0 p0 p1 p2) ((FwcText p0 p1 p2).size) ([(⟨#[]⟩ : ByteArray)])).length : Nat) : Int))))), (6, .sc (.i .i64 ((k1 : Nat) : Int))), (4, .sc (.sl 112 0 ((itr (FwcNamesl0 p0 p1 p2) ((FwcText p0 p1 p2).size) ([(⟨#[]⟩ : ByteArray)])).length) 1 none)), (0, .sc (.p 0 0))], [(112, .vec .str (itr (FwcNamesl0 p0 p1 p2) ((FwcText p0 p1 p2).size) ([(⟨#[]⟩ : ByteArray)]))), (0, .cells [.ro .u8 p0, .i .i64 (FwcText_1 p0 p1 p2), .b (FwcText_2 p0 p1 p2)])]) 304 (t4 pT) ?_
 refine Tri.cond (x := (decide ((((k1 : Nat) : Int) : Int) < (((itr (FwcNamesl0 p0 p1 p2) ((FwcText p0 p1 p2).size) ([(⟨#[]⟩ : ByteArray)])).length : Nat) : Int)))) (by kernel_rfl) (fun h4 => ?_) (fun h4 => ?_)
 have h4' := of_decide_eq_true h4
 refine Tri.skip ?_
 change Tri _ _ _ _ _ _
 refine Tri.seq ?_
 refine Tri.block ?_
 refine sq [] none [48, 6, 4, 0] [112, 0] ([(48, .sc (.b (strEq ((itr (FwcNamesl0 p0 p1 p2) ((FwcText p0 p1 p2).size) ([(⟨#[]⟩ : ByteArray)])).getD k1 (⟨#[]⟩ : ByteArray)) (⟨#[]⟩ : ByteArray)))), (6, .sc (.i .i64 ((k1 : Nat) : Int))), (4, .sc (.sl 112 0 ((itr (FwcNamesl0 p0 p1 p2) ((FwcText p0 p1 p2).size) ([(⟨#[]⟩ : ByteArray)])).length) 1 none)), (0, .sc (.p 0 0))], [(112, .vec .str (itr (FwcNamesl0 p0 p1 p2) ((FwcText p0 p1 p2).size) ([(⟨#[]⟩ : ByteArray)]))), (0, .cells [.ro .u8 p0, .i .i64 (FwcText_1 p0 p1 p2), .b (FwcText_2 p0 p1 p2)])]) 384 (t2 (pu (pl (show (0 : Int) ≤ ((k1 : Nat) : Int) ∧ ((k1 : Nat) : Int) < (((itr (FwcNamesl0 p0 p1 p2) ((FwcText p0 p1 p2).size) ([(⟨#[]⟩ : ByteArray)])).length : Nat) : Int) from by first | omega | decide | (have hq := hJ0.2.2 (z0.length - 1); have hr := extract_le' (FwcText p0 p1 p2) k0 (k0 + 1); omega))) (pu (pl (show k1 < (itr (FwcNamesl0 p0 p1 p2) ((FwcText p0 p1 p2).size) ([(⟨#[]⟩ : ByteArray)])).length from by first | omega | decide | (have hq := hJ0.2.2 (z0.length - 1); have hr := extract_le' (FwcText p0 p1 p2) k0 (k0 + 1); omega))) (t1 pT)))) ?_
 refine Tri.cond (x := (strEq ((itr (FwcNamesl0 p0 p1 p2) ((FwcText p0 p1 p2).size) ([(⟨#[]⟩ : ByteArray)])).getD k1 (⟨#[]⟩ : ByteArray)) (⟨#[]⟩ : ByteArray))) (by kernel_rfl) (fun h5 => ?_) (fun h5 => ?_)
 refine sq [] none [] [0] ([], [(0, .cells [.ro .u8 p0, .i .i64 (FwcText_1 p0 p1 p2), .b true])]) 448 (t3 (pu (pa (pl (show 2 < 3 from by first | omega | decide | (have hq := hJ0.2.2 (z0.length - 1); have hr := extract_le' (FwcText p0 p1 p2) k0 (k0 + 1); omega))) (lr (1 = 1))) pT)) ?_
 refine sq [] none [2] [0] ([(2, .sc (.nils))], [(0, .cells [.ro .u8 p0, .i .i64 (FwcText_1 p0 p1 p2), .b true])]) 464 (t1 pT) ?_
 refine Tri.sub (Sub.nilRos 2 (by kernel_rfl)) ?_
 refine Tri.ret ?_
 subst hz1
 have hf1 : fstB (FwcNamess1 p0 p1 p2) ((itr (FwcNamesl0 p0 p1 p2) ((FwcText p0 p1 p2).size) ([(⟨#[]⟩ : ByteArray)])).length) = k1 := fst_found (by omega) hJ1 (by simp only [FwcNamess1, h1, h4, h5, sel_true, sel_false])
 have hb1 : Nat.blt k1 ((itr (FwcNamesl0 p0 p1 p2) ((FwcText p0 p1 p2).size) ([(⟨#[]⟩ : ByteArray)])).length) = true := blt_true (by omega)
 have hq1 : Nat.blt (fstB (FwcNamess1 p0 p1 p2) ((itr (FwcNamesl0 p0 p1 p2) ((FwcText p0 p1 p2).size) ([(⟨#[]⟩ : ByteArray)])).length)) ((itr (FwcNamesl0 p0 p1 p2) ((FwcText p0 p1 p2).size) ([(⟨#[]⟩ : ByteArray)])).length) = true := by rw [hf1]; exact hb1
 refine rt ?_
 refine endP.conv (r' := ⟨.sc (.ros []), [some (.cells [.ro .u8 p0, .i .i64 (FwcText_1 p0 p1 p2), .b true])]⟩) (by simp only [FwcNames, FwcNames_1, FwcNames_2, h1, hq1, hf1, hb1, sel_true, sel_false]) ?_
 exact er [(0, 0)] pz
 refine Tri.skip ?_
 change Tri _ _ _ _ _ _
 refine rq [(43, qi ((k1 + 1 : Nat) : Int))] none [6, 4, 0] [112, 0] ([(6, .sc (.i .i64 ((k1 + 1 : Nat) : Int))), (4, .sc (.sl 112 0 ((itr (FwcNamesl0 p0 p1 p2) ((FwcText p0 p1 p2).size) ([(⟨#[]⟩ : ByteArray)])).length) 1 none)), (0, .sc (.p 0 0))], [(112, .vec .str (itr (FwcNamesl0 p0 p1 p2) ((FwcText p0 p1 p2).size) ([(⟨#[]⟩ : ByteArray)]))), (0, .cells [.ro .u8 p0, .i .i64 (FwcText_1 p0 p1 p2), .b (FwcText_2 p0 p1 p2)])]) 432 (t1 (pv pT (pl (show (iAdd .i64 ((k1 : Nat) : Int) 1) = ((k1 + 1 : Nat) : Int) from iAdd_nat (a := k1) (b := 1) (by omega))) (t1 pT))) ?_
 repeat (refine blkP_normal ?_)
 refine countP_normal (by omega) (below_succ hJ1 (by subst hz1; simp only [FwcNamess1, h1, h4, h5, sel_true, sel_false])) ?_
 exact sn [(112, 112), (0, 0)] [6, 4, 0] ([(6, .sc (.i .i64 ((k1 + 1 : Nat) : Int))), (4, .sc (.sl 112 0 ((itr (FwcNamesl0 p0 p1 p2) ((FwcText p0 p1 p2).size) ([(⟨#[]⟩ : ByteArray)])).length) 1 none)), (0, .sc (.p 0 0))], [(112, .vec .str (itr (FwcNamesl0 p0 p1 p2) ((FwcText p0 p1 p2).size) ([(⟨#[]⟩ : ByteArray)]))), (0, .cells [.ro .u8 p0, .i .i64 (FwcText_1 p0 p1 p2), .b (FwcText_2 p0 p1 p2)])]) (by simp only [FwcNamesl1, h1, h4, h5, sel_true, sel_false, List.length_append, List.length_set, List.length_cons, List.length_nil, Nat.zero_add, Nat.reduceAdd])
 have h4' := of_decide_eq_false h4
 refine Tri.exit ?_
 have hend1 : k1 = ((itr (FwcNamesl0 p0 p1 p2) ((FwcText p0 p1 p2).size) ([(⟨#[]⟩ : ByteArray)])).length) := by (have := of_decide_eq_false h4; omega)
 subst hend1; subst hz1
 have hf1 : fstB (FwcNamess1 p0 p1 p2) ((itr (FwcNamesl0 p0 p1 p2) ((FwcText p0 p1 p2).size) ([(⟨#[]⟩ : ByteArray)])).length) = ((itr (FwcNamesl0 p0 p1 p2) ((FwcText p0 p1 p2).size) ([(⟨#[]⟩ : ByteArray)])).length) := fst_none hJ1
 have hb1 : Nat.blt ((itr (FwcNamesl0 p0 p1 p2) ((FwcText p0 p1 p2).size) ([(⟨#[]⟩ : ByteArray)])).length) ((itr (FwcNamesl0 p0 p1 p2) ((FwcText p0 p1 p2).size) ([(⟨#[]⟩ : ByteArray)])).length) = false := blt_self _
 have hq1 : Nat.blt (fstB (FwcNamess1 p0 p1 p2) ((itr (FwcNamesl0 p0 p1 p2) ((FwcText p0 p1 p2).size) ([(⟨#[]⟩ : ByteArray)])).length)) ((itr (FwcNamesl0 p0 p1 p2) ((FwcText p0 p1 p2).size) ([(⟨#[]⟩ : ByteArray)])).length) = false := by rw [hf1]; exact hb1
 change Tri _ _ _ _ _ _
 refine sq [] none [2] [112, 0] ([(2, .sc (.sl 112 0 ((itr (FwcNamesl0 p0 p1 p2) ((FwcText p0 p1 p2).size) ([(⟨#[]⟩ : ByteArray)])).length) 1 none))], [(112, .vec .str (itr (FwcNamesl0 p0 p1 p2) ((FwcText p0 p1 p2).size) ([(⟨#[]⟩ : ByteArray)]))), (0, .cells [.ro .u8 p0, .i .i64 (FwcText_1 p0 p1 p2), .b (FwcText_2 p0 p1 p2)])]) 336 (t2 pT) ?_
 refine Tri.sub (Sub.still (s' := ([(2, .sc (.ros (partV (itr (FwcNamesl0 p0 p1 p2) ((FwcText p0 p1 p2).size) ([(⟨#[]⟩ : ByteArray)])) 0 ((itr (FwcNamesl0 p0 p1 p2) ((FwcText p0 p1 p2).size) ([(⟨#[]⟩ : ByteArray)])).length))))], [(0, .cells [.ro .u8 p0, .i .i64 (FwcText_1 p0 p1 p2), .b (FwcText_2 p0 p1 p2)])])) 112 (.vec .str (itr (FwcNamesl0 p0 p1 p2) ((FwcText p0 p1 p2).size) ([(⟨#[]⟩ : ByteArray)]))) (by kernel_rfl) (show 0 + ((itr (FwcNamesl0 p0 p1 p2) ((FwcText p0 p1 p2).size) ([(⟨#[]⟩ : ByteArray)])).length) ≤ (itr (FwcNamesl0 p0 p1 p2) ((FwcText p0 p1 p2).size) ([(⟨#[]⟩ : ByteArray)])).length from by first | omega | (rw [adr_eq]; omega) | exact iAnd_nn _ _ | exact iSub_nn _ _ | exact part1_le (by omega) (by first | omega | (simp only [List.length_append]; omega)) | decide) (by kernel_rfl)) ?_
 refine Tri.ret ?_
 refine rt ?_
 refine endP.conv (r' := ⟨.sc (.ros (partV (itr (FwcNamesl0 p0 p1 p2) ((FwcText p0 p1 p2).size) ([(⟨#[]⟩ : ByteArray)])) 0 ((itr (FwcNamesl0 p0 p1 p2) ((FwcText p0 p1 p2).size) ([(⟨#[]⟩ : ByteArray)])).length))), [some (.cells [.ro .u8 p0, .i .i64 (FwcText_1 p0 p1 p2), .b (FwcText_2 p0 p1 p2)])]⟩) (by simp only [FwcNames, FwcNames_1, FwcNames_2, h1, hq1, hf1, hb1, sel_true, sel_false]) ?_
 exact er [(0, 0)] pz
noncomputable def FwrU32 (p0 : Int) : List Int :=
  [(IntKind.wrap .u8 (iQuo .i64 p0 16777216)), (IntKind.wrap .u8 (iQuo .i64 p0 65536)), (IntKind.wrap .u8 (iQuo .i64 p0 256)), (IntKind.wrap .u8 p0)]
noncomputable def SwrU32 : List AV → List Blk → Option (Prop × Ret)
  | [.sc (.i .i64 p0)], [] => some (True, ⟨.sc (.sl 0 0 4 1 none), [some (.ints .u8 4 (FwrU32 p0))]⟩)
  | _, _ => none
noncomputable def BwrU32 : Bs := { P := Go.Proofs.Tryd.prog, G := gD, tab := tabOf [], n := 15 }
theorem BwrU32.ok : BwrU32.Ok := ⟨tabOk (P := Go.Proofs.Tryd.prog) (G := gD) (l := []) True.intro, mixed⟩
theorem KwrU32 : Known Go.Proofs.Tryd.prog gD 71 ⟨0, 1, SwrU32⟩ := by
 refine Known.walk (B := BwrU32) (fn := Go.Proofs.Tryd.f71) BwrU32.ok (by kernel_rfl) rfl (by kernel_rfl) (by kernel_rfl) (by decide) (by decide) ?_
 intro E args ks C r h hC hlen
 simp only at h
 unfold SwrU32 at h
 split at h
 rotate_left
 cases h
 rename_i p0
 cases h
 simp only [lens] at hlen
 refine ⟨show 1 ≤ 15 from by decide, ?_⟩
 refine Tri.sub (Sub.of_eq (show _ = ([(0, .sc (.i .i64 p0))], []) from rfl)) ?_
 refine sq [] none [0] [] ([(0, .sc (.i .i64 p0))], []) 32 (t1 pT) ?_
 refine sq [] none [2] [208] ([(2, .sc (.sl 208 0 4 1 none))], [(208, .ints .u8 4 [(IntKind.wrap .u8 (iQuo .i64 p0 16777216)), (IntKind.wrap .u8 (iQuo .i64 p0 65536)), (IntKind.wrap .u8 (iQuo .i64 p0 256)), (IntKind.wrap .u8 p0)])]) 240 (t1 (pu (lo (16777216 ≠ (0 : Int))) (t2 (pu (lo (65536 ≠ (0 : Int))) (t2 (pu (lo (256 ≠ (0 : Int))) (t3 (pu (pa (pa (pa (lo (0 < 4)) (lr (1 = 1))) (pa (pa (lo (1 < 4)) (lr (1 = 1))) (pa (pa (lo (2 < 4)) (lr (1 = 1))) (pa (pa (lo (3 < 4)) (lr (1 = 1))) pT)))) (pa (lo (4 * 1 ≤ 16777216)) (lr (1 = 1)))) (t1 pT))))))))) ?_
 refine Tri.ret ?_
 refine rt ?_
 exact er [(208, 0)] pz
noncomputable def FwrText (p0 : ByteArray) : List Int :=
  (FwrU32 ((p0.size : Nat) : Int)) ++ (bytesI p0)
noncomputable def SwrText : List AV → List Blk → Option (Prop × Ret)
  | [.sc (.s p0)], [] => some ((p0.size ≤ 1000000000), ⟨.sc (.sl 0 0 (4 + p0.size) 1 none), [some (.ints .u8 (4 + p0.size) (FwrText p0))]⟩)
  | _, _ => none
noncomputable def BwrText : Bs := { P := Go.Proofs.Tryd.prog, G := gD, tab := tabOf [⟨71, 64, [.val], [], [], ⟨0, 1, SwrU32⟩, false⟩], n := 8 }
theorem BwrText.ok : BwrText.Ok := ⟨tabOk (P := Go.Proofs.Tryd.prog) (G := gD) (l := [⟨71, 64, [.val], [], [], ⟨0, 1, SwrU32⟩, false⟩]) (And.intro KwrU32 True.intro), mixed⟩
theorem KwrText : Known Go.Proofs.Tryd.prog gD 56 ⟨0, 1, SwrText⟩ := by
 refine Known.walk (B := BwrText) (fn := Go.Proofs.Tryd.f56) BwrText.ok (by kernel_rfl) rfl (by kernel_rfl) (by kernel_rfl) (by decide) (by decide) ?_
 intro E args ks C r h hC hlen
 simp only at h
 unfold SwrText at h
 split at h
 rotate_left
 cases h
 rename_i p0
 cases h
 simp only [lens] at hlen
 refine ⟨show 1 ≤ 8 from by decide, ?_⟩
 refine Tri.sub (Sub.of_eq (show _ = ([(0, .sc (.s p0))], []) from rfl)) ?_
 refine sq [] none [0] [] ([(0, .sc (.s p0))], []) 32 (t1 pT) ?_
 refine sq [] none [2] [96] ([(2, .sc (.sl 96 0 (4 + p0.size) 1 none))], [(96, .ints .u8 (4 + p0.size) ((FwrU32 ((p0.size : Nat) : Int)) ++ (bytesI p0)))]) 128 (t2 (pu pz (t1 (pu (pa (pa (pa (pa pT (lr (1 = 1))) (pa (lo (0 < 1)) (pa (lo ((4 + p0.size) * 1 ≤ 140737488355328)) (lo (4 + p0.size ≤ 140737488355328))))) (lo (p0.size = p0.size * 1))) (pa (lr (1 = 1)) (lo (0 + 4 * 1 = 4)))) (t1 pT))))) ?_
 refine Tri.ret ?_
 refine rt ?_
 exact er [(96, 0)] pz
theorem len_FwrText (s : ByteArray) : (FwrText s).length = 4 + s.size := by
  unfold FwrText
  rw [List.length_append, bytesI_length]
  rfl
noncomputable def FwrIntl0 (k0 : Nat) (z0 : Unit) : Unit :=
  ()
noncomputable def FwrInts0 (p0 : List Int) (k0 : Nat) : Bool :=
  (sel ((p0.getD k0 0 : Int) == 0) false true)
noncomputable def FwrInt (p0 : List Int) : List Int :=
  (sel (Nat.blt (fstB (FwrInts0 p0) p0.length) p0.length) (sel (!(strEq (bytesOf ((p0.drop (fstB (FwrInts0 p0) p0.length)).take (p0.length - (fstB (FwrInts0 p0) p0.length)))) (⟨#[]⟩ : ByteArray))) (FwrText (sel (decide (((byteAt (bytesOf ((p0.drop (fstB (FwrInts0 p0) p0.length)).take (p0.length - (fstB (FwrInts0 p0) p0.length)))) 0) : Int) ≥ 128)) ((⟨#[0]⟩ : ByteArray) ++ (bytesOf ((p0.drop (fstB (FwrInts0 p0) p0.length)).take (p0.length - (fstB (FwrInts0 p0) p0.length))))) (bytesOf ((p0.drop (fstB (FwrInts0 p0) p0.length)).take (p0.length - (fstB (FwrInts0 p0) p0.length)))))) (FwrText (bytesOf ((p0.drop (fstB (FwrInts0 p0) p0.length)).take (p0.length - (fstB (FwrInts0 p0) p0.length)))))) (sel (!(strEq (bytesOf ((p0.drop p0.length).take (p0.length - p0.length))) (⟨#[]⟩ : ByteArray))) (FwrText (sel (decide (((byteAt (bytesOf ((p0.drop p0.length).take (p0.length - p0.length))) 0) : Int) ≥ 128)) ((⟨#[0]⟩ : ByteArray) ++ (bytesOf ((p0.drop p0.length).take (p0.length - p0.length)))) (bytesOf ((p0.drop p0.length).take (p0.length - p0.length))))) (FwrText (bytesOf ((p0.drop p0.length).take (p0.length - p0.length))))))
noncomputable def FwrIntn0 (p0 : List Int) : Nat :=
  (sel (Nat.blt (fstB (FwrInts0 p0) p0.length) p0.length) (sel (!(strEq (bytesOf ((p0.drop (fstB (FwrInts0 p0) p0.length)).take (p0.length - (fstB (FwrInts0 p0) p0.length)))) (⟨#[]⟩ : ByteArray))) (4 + (sel (decide (((byteAt (bytesOf ((p0.drop (fstB (FwrInts0 p0) p0.length)).take (p0.length - (fstB (FwrInts0 p0) p0.length)))) 0) : Int) ≥ 128)) ((⟨#[0]⟩ : ByteArray) ++ (bytesOf ((p0.drop (fstB (FwrInts0 p0) p0.length)).take (p0.length - (fstB (FwrInts0 p0) p0.length))))) (bytesOf ((p0.drop (fstB (FwrInts0 p0) p0.length)).take (p0.length - (fstB (FwrInts0 p0) p0.length))))).size) (4 + (bytesOf ((p0.drop (fstB (FwrInts0 p0) p0.length)).take (p0.length - (fstB (FwrInts0 p0) p0.length)))).size)) (sel (!(strEq (bytesOf ((p0.drop p0.length).take (p0.length - p0.length))) (⟨#[]⟩ : ByteArray))) (4 + (sel (decide (((byteAt (bytesOf ((p0.drop p0.length).take (p0.length - p0.length))) 0) : Int) ≥ 128)) ((⟨#[0]⟩ : ByteArray) ++ (bytesOf ((p0.drop p0.length).take (p0.length - p0.length)))) (bytesOf ((p0.drop p0.length).take (p0.length - p0.length)))).size) (4 + (bytesOf ((p0.drop p0.length).take (p0.length - p0.length))).size)))
noncomputable def SwrInt : List AV → List Blk → Option (Prop × Ret)
  | [.sc (.ro .u8 p0)], [] => some ((p0.length ≤ 900000000), ⟨.sc (.sl 0 0 (FwrIntn0 p0) 1 none), [some (.ints .u8 (FwrIntn0 p0) (FwrInt p0))]⟩)
  | _, _ => none
noncomputable def BwrInt : Bs := { P := Go.Proofs.Tryd.prog, G := gD, tab := tabOf [⟨56, 432, [.val], [], [], ⟨0, 1, SwrText⟩, false⟩, ⟨56, 480, [.val], [], [], ⟨0, 1, SwrText⟩, false⟩], n := 33 }
theorem BwrInt.ok : BwrInt.Ok := ⟨tabOk (P := Go.Proofs.Tryd.prog) (G := gD) (l := [⟨56, 432, [.val], [], [], ⟨0, 1, SwrText⟩, false⟩, ⟨56, 480, [.val], [], [], ⟨0, 1, SwrText⟩, false⟩]) (And.intro KwrText (And.intro KwrText True.intro)), mixed⟩
theorem KwrInt : Known Go.Proofs.Tryd.prog gD 63 ⟨0, 1, SwrInt⟩ := by
 refine Known.walk (B := BwrInt) (fn := Go.Proofs.Tryd.f63) BwrInt.ok (by kernel_rfl) rfl (by kernel_rfl) (by kernel_rfl) (by decide) (by decide) ?_
 intro E args ks C r h hC hlen
 simp only at h
 unfold SwrInt at h
 split at h
 rotate_left
 cases h
 rename_i p0
 cases h
 simp only [lens] at hlen
 refine ⟨show 1 ≤ 33 from by decide, ?_⟩
 refine Tri.sub (Sub.of_eq (show _ = ([(0, .sc (.ro .u8 p0))], []) from rfl)) ?_
 refine sq [] none [0] [] ([(0, .sc (.ro .u8 p0))], []) 32 (t1 pT) ?_
 refine sq [] none [3, 0] [] ([(3, .sc (.i .i64 0)), (0, .sc (.ro .u8 p0))], []) 48 (t1 pT) ?_
 refine Tri.seq ?_
 refine Tri.block ?_
 refine Tri.count 48 p0.length (FwrIntl0) (()) (fun k0 z0 => (∀ j, j < k0 → (FwrInts0 p0) j = false)) (fun k0 z0 => ([(3, .sc (.i .i64 ((k0 : Nat) : Int))), (0, .sc (.ro .u8 p0))], [])) (fun j hj => absurd hj (Nat.not_lt_zero j)) (Sub.of_eq (by kernel_rfl)) ?_
 intro k0 z0 hk0 hz0 hJ0
 refine Tri.seq ?_
 refine Tri.split (decide ((((k0 : Nat) : Int) : Int) < ((p0.length : Nat) : Int))) (fun h1 => ?_) (fun h1 => ?_)
 have h1' := of_decide_eq_true h1
 refine sq [(9, qb true)] none [15, 3, 0] [] ([(15, .sc (.b ((p0.getD k0 0 : Int) == 0))), (3, .sc (.i .i64 ((k0 : Nat) : Int))), (0, .sc (.ro .u8 p0))], []) 224 (t4 (pg h1 (t2 (pu (pl (show (0 : Int) ≤ ((k0 : Nat) : Int) ∧ ((k0 : Nat) : Int) < (p0.length : Int) from by first | omega | decide | (simp only [size_bytesOf, List.length_take, List.length_drop, ByteArray.size_append]; omega) | exact ⟨by decide, by have := strEq_nz (by assumption); omega⟩ | exact size_sel (by rw [ByteArray.size_append, size_bytesOf, List.length_take, List.length_drop]; show 1 + _ ≤ _; omega) (by rw [size_bytesOf, List.length_take, List.length_drop]; omega) | (simp only [size_bytesOf, List.length_take, List.length_drop]; show 1 + _ ≤ _; omega))) (pu (pl (show k0 < p0.length from by first | omega | decide | (simp only [size_bytesOf, List.length_take, List.length_drop, ByteArray.size_append]; omega) | exact ⟨by decide, by have := strEq_nz (by assumption); omega⟩ | exact size_sel (by rw [ByteArray.size_append, size_bytesOf, List.length_take, List.length_drop]; show 1 + _ ≤ _; omega) (by rw [size_bytesOf, List.length_take, List.length_drop]; omega) | (simp only [size_bytesOf, List.length_take, List.length_drop]; show 1 + _ ≤ _; omega))) (t2 pT)))))) ?_
 refine Tri.cond (x := ((p0.getD k0 0 : Int) == 0)) (by kernel_rfl) (fun h2 => ?_) (fun h2 => ?_)
 have h2' := eq_true_i h2
 refine Tri.skip ?_
 change Tri _ _ _ _ _ _
 refine Tri.block ?_
 refine rq [(17, qi ((k0 + 1 : Nat) : Int))] none [3, 0] [] ([(3, .sc (.i .i64 ((k0 + 1 : Nat) : Int))), (0, .sc (.ro .u8 p0))], []) 272 (t1 (pv pT (pl (show (iAdd .i64 ((k0 : Nat) : Int) 1) = ((k0 + 1 : Nat) : Int) from iAdd_nat (a := k0) (b := 1) (by omega))) (t1 pT))) ?_
 repeat (refine blkP_normal ?_)
 refine countP_normal (by omega) (below_succ hJ0 (by subst hz0; simp only [FwrInts0, h1, h2, sel_true, sel_false])) ?_
 exact sp [] [3, 0]
 have h2' := eq_false_i h2
 refine Tri.exit ?_
 subst hz0
 have hf0 : fstB (FwrInts0 p0) p0.length = k0 := fst_found (by omega) hJ0 (by simp only [FwrInts0, h1, h2, sel_true, sel_false])
 have hb0 : Nat.blt k0 p0.length = true := blt_true (by omega)
 have hq0 : Nat.blt (fstB (FwrInts0 p0) p0.length) p0.length = true := by rw [hf0]; exact hb0
 change Tri _ _ _ _ _ _
 refine sq [] none [4] [] ([(4, .sc (.s (bytesOf ((p0.drop k0).take (p0.length - k0)))))], []) 304 (t2 (pu (pl (show (0 : Int) ≤ ((k0 : Nat) : Int) ∧ (((k0 : Nat) : Int) : Int) ≤ ((p0.length : Nat) : Int) ∧ ((p0.length : Nat) : Int) ≤ (p0.length : Int) from by first | omega | decide | (simp only [size_bytesOf, List.length_take, List.length_drop, ByteArray.size_append]; omega) | exact ⟨by decide, by have := strEq_nz (by assumption); omega⟩ | exact size_sel (by rw [ByteArray.size_append, size_bytesOf, List.length_take, List.length_drop]; show 1 + _ ≤ _; omega) (by rw [size_bytesOf, List.length_take, List.length_drop]; omega) | (simp only [size_bytesOf, List.length_take, List.length_drop]; show 1 + _ ≤ _; omega))) (t2 pT))) ?_
 refine Tri.seq ?_
 refine Tri.split (!(strEq (bytesOf ((p0.drop k0).take (p0.length - k0))) (⟨#[]⟩ : ByteArray))) (fun h3 => ?_) (fun h3 => ?_)
 refine sq [(24, qb true)] none [28, 4] [] ([(28, .sc (.b (decide (((byteAt (bytesOf ((p0.drop k0).take (p0.length - k0))) 0) : Int) ≥ 128)))), (4, .sc (.s (bytesOf ((p0.drop k0).take (p0.length - k0)))))], []) 416 (t2 (pg h3 (t1 (pu (pl (show (0 : Int) ≤ 0 ∧ 0 < ((bytesOf ((p0.drop k0).take (p0.length - k0))).size : Int) from by first | omega | decide | (simp only [size_bytesOf, List.length_take, List.length_drop, ByteArray.size_append]; omega) | exact ⟨by decide, by have := strEq_nz (by assumption); omega⟩ | exact size_sel (by rw [ByteArray.size_append, size_bytesOf, List.length_take, List.length_drop]; show 1 + _ ≤ _; omega) (by rw [size_bytesOf, List.length_take, List.length_drop]; omega) | (simp only [size_bytesOf, List.length_take, List.length_drop]; show 1 + _ ≤ _; omega))) (t2 pT))))) ?_
 refine Tri.join (x := (decide (((byteAt (bytesOf ((p0.drop k0).take (p0.length - k0))) 0) : Int) ≥ 128))) (fun bb => ([(4, .sc (.s (sel bb ((⟨#[0]⟩ : ByteArray) ++ (bytesOf ((p0.drop k0).take (p0.length - k0)))) (bytesOf ((p0.drop k0).take (p0.length - k0))))))], [])) 464 (by kernel_rfl) (fun h4 => ?_) (fun h4 => ?_) ?_
 have h4' := of_decide_eq_true h4
 refine rq [] none [4] [] ([(4, .sc (.s ((⟨#[0]⟩ : ByteArray) ++ (bytesOf ((p0.drop k0).take (p0.length - k0))))))], []) 464 (t1 (pu (pl (show (⟨#[0]⟩ : ByteArray).size + (bytesOf ((p0.drop k0).take (p0.length - k0))).size ≤ 9223372036854775807 from by first | omega | decide | (simp only [size_bytesOf, List.length_take, List.length_drop, ByteArray.size_append]; omega) | exact ⟨by decide, by have := strEq_nz (by assumption); omega⟩ | exact size_sel (by rw [ByteArray.size_append, size_bytesOf, List.length_take, List.length_drop]; show 1 + _ ≤ _; omega) (by rw [size_bytesOf, List.length_take, List.length_drop]; omega) | (simp only [size_bytesOf, List.length_take, List.length_drop]; show 1 + _ ≤ _; omega))) (t1 pT))) ?_
 exact sn [] [4] ([(4, .sc (.s ((⟨#[0]⟩ : ByteArray) ++ (bytesOf ((p0.drop k0).take (p0.length - k0))))))], [])
 have h4' := of_decide_eq_false h4
 refine Tri.skip ?_
 exact sn [] [4] ([(4, .sc (.s (bytesOf ((p0.drop k0).take (p0.length - k0)))))], [])
 change Tri _ _ _ _ _ _
 refine sq [] none [2] [480] ([(2, .sc (.sl 480 0 (4 + (sel (decide (((byteAt (bytesOf ((p0.drop k0).take (p0.length - k0))) 0) : Int) ≥ 128)) ((⟨#[0]⟩ : ByteArray) ++ (bytesOf ((p0.drop k0).take (p0.length - k0)))) (bytesOf ((p0.drop k0).take (p0.length - k0)))).size) 1 none))], [(480, .ints .u8 (4 + (sel (decide (((byteAt (bytesOf ((p0.drop k0).take (p0.length - k0))) 0) : Int) ≥ 128)) ((⟨#[0]⟩ : ByteArray) ++ (bytesOf ((p0.drop k0).take (p0.length - k0)))) (bytesOf ((p0.drop k0).take (p0.length - k0)))).size) (FwrText (sel (decide (((byteAt (bytesOf ((p0.drop k0).take (p0.length - k0))) 0) : Int) ≥ 128)) ((⟨#[0]⟩ : ByteArray) ++ (bytesOf ((p0.drop k0).take (p0.length - k0)))) (bytesOf ((p0.drop k0).take (p0.length - k0))))))]) 512 (t1 (pu (pa pT (pl (show (sel (decide (((byteAt (bytesOf ((p0.drop k0).take (p0.length - k0))) 0) : Int) ≥ 128)) ((⟨#[0]⟩ : ByteArray) ++ (bytesOf ((p0.drop k0).take (p0.length - k0)))) (bytesOf ((p0.drop k0).take (p0.length - k0)))).size ≤ 1000000000 from by first | omega | decide | (simp only [size_bytesOf, List.length_take, List.length_drop, ByteArray.size_append]; omega) | exact ⟨by decide, by have := strEq_nz (by assumption); omega⟩ | exact size_sel (by rw [ByteArray.size_append, size_bytesOf, List.length_take, List.length_drop]; show 1 + _ ≤ _; omega) (by rw [size_bytesOf, List.length_take, List.length_drop]; omega) | (simp only [size_bytesOf, List.length_take, List.length_drop]; show 1 + _ ≤ _; omega)))) (t1 pT))) ?_
 refine Tri.ret ?_
 refine rt ?_
 refine endP.conv (r' := ⟨.sc (.sl 0 0 (4 + (sel (decide (((byteAt (bytesOf ((p0.drop k0).take (p0.length - k0))) 0) : Int) ≥ 128)) ((⟨#[0]⟩ : ByteArray) ++ (bytesOf ((p0.drop k0).take (p0.length - k0)))) (bytesOf ((p0.drop k0).take (p0.length - k0)))).size) 1 none), [some (.ints .u8 (4 + (sel (decide (((byteAt (bytesOf ((p0.drop k0).take (p0.length - k0))) 0) : Int) ≥ 128)) ((⟨#[0]⟩ : ByteArray) ++ (bytesOf ((p0.drop k0).take (p0.length - k0)))) (bytesOf ((p0.drop k0).take (p0.length - k0)))).size) (FwrText (sel (decide (((byteAt (bytesOf ((p0.drop k0).take (p0.length - k0))) 0) : Int) ≥ 128)) ((⟨#[0]⟩ : ByteArray) ++ (bytesOf ((p0.drop k0).take (p0.length - k0)))) (bytesOf ((p0.drop k0).take (p0.length - k0))))))]⟩) (by simp only [FwrInt, FwrIntn0, hq0, hf0, hb0, h3, sel_true, sel_false]) ?_
 exact er [(480, 0)] pz
 refine sq [(24, qb false)] none [28, 4] [] ([(28, .sc (.b false)), (4, .sc (.s (bytesOf ((p0.drop k0).take (p0.length - k0)))))], []) 416 (t2 (pg h3 (t4 pT))) ?_
 refine Tri.cond_false (by kernel_rfl) ?_
 refine Tri.skip ?_
 change Tri _ _ _ _ _ _
 refine sq [] none [2] [432] ([(2, .sc (.sl 432 0 (4 + (bytesOf ((p0.drop k0).take (p0.length - k0))).size) 1 none))], [(432, .ints .u8 (4 + (bytesOf ((p0.drop k0).take (p0.length - k0))).size) (FwrText (bytesOf ((p0.drop k0).take (p0.length - k0)))))]) 464 (t1 (pu (pa pT (pl (show (bytesOf ((p0.drop k0).take (p0.length - k0))).size ≤ 1000000000 from by first | omega | decide | (simp only [size_bytesOf, List.length_take, List.length_drop, ByteArray.size_append]; omega) | exact ⟨by decide, by have := strEq_nz (by assumption); omega⟩ | exact size_sel (by rw [ByteArray.size_append, size_bytesOf, List.length_take, List.length_drop]; show 1 + _ ≤ _; omega) (by rw [size_bytesOf, List.length_take, List.length_drop]; omega) | (simp only [size_bytesOf, List.length_take, List.length_drop]; show 1 + _ ≤ _; omega)))) (t1 pT))) ?_
 refine Tri.ret ?_
 refine rt ?_
 refine endP.conv (r' := ⟨.sc (.sl 0 0 (4 + (bytesOf ((p0.drop k0).take (p0.length - k0))).size) 1 none), [some (.ints .u8 (4 + (bytesOf ((p0.drop k0).take (p0.length - k0))).size) (FwrText (bytesOf ((p0.drop k0).take (p0.length - k0)))))]⟩) (by simp only [FwrInt, FwrIntn0, hq0, hf0, hb0, h3, sel_true, sel_false]) ?_
 exact er [(432, 0)] pz
 have h1' := of_decide_eq_false h1
 refine sq [(9, qb false)] none [15, 3, 0] [] ([(15, .sc (.b false)), (3, .sc (.i .i64 ((k0 : Nat) : Int))), (0, .sc (.ro .u8 p0))], []) 224 (t4 (pg h1 (t6 pT))) ?_
 refine Tri.cond_false (by kernel_rfl) ?_
 refine Tri.exit ?_
 have hend0 : k0 = p0.length := by (have := of_decide_eq_false h1; omega)
 subst hend0; subst hz0
 have hf0 : fstB (FwrInts0 p0) p0.length = p0.length := fst_none hJ0
 have hb0 : Nat.blt p0.length p0.length = false := blt_self _
 have hq0 : Nat.blt (fstB (FwrInts0 p0) p0.length) p0.length = false := by rw [hf0]; exact hb0
 change Tri _ _ _ _ _ _
 refine sq [] none [4] [] ([(4, .sc (.s (bytesOf ((p0.drop p0.length).take (p0.length - p0.length)))))], []) 304 (t2 (pu (pl (show (0 : Int) ≤ ((p0.length : Nat) : Int) ∧ (((p0.length : Nat) : Int) : Int) ≤ ((p0.length : Nat) : Int) ∧ ((p0.length : Nat) : Int) ≤ (p0.length : Int) from by first | omega | decide | (simp only [size_bytesOf, List.length_take, List.length_drop, ByteArray.size_append]; omega) | exact ⟨by decide, by have := strEq_nz (by assumption); omega⟩ | exact size_sel (by rw [ByteArray.size_append, size_bytesOf, List.length_take, List.length_drop]; show 1 + _ ≤ _; omega) (by rw [size_bytesOf, List.length_take, List.length_drop]; omega) | (simp only [size_bytesOf, List.length_take, List.length_drop]; show 1 + _ ≤ _; omega))) (t2 pT))) ?_
 refine Tri.seq ?_
 refine Tri.split (!(strEq (bytesOf ((p0.drop p0.length).take (p0.length - p0.length))) (⟨#[]⟩ : ByteArray))) (fun h5 => ?_) (fun h5 => ?_)
 refine sq [(24, qb true)] none [28, 4] [] ([(28, .sc (.b (decide (((byteAt (bytesOf ((p0.drop p0.length).take (p0.length - p0.length))) 0) : Int) ≥ 128)))), (4, .sc (.s (bytesOf ((p0.drop p0.length).take (p0.length - p0.length)))))], []) 416 (t2 (pg h5 (t1 (pu (pl (show (0 : Int) ≤ 0 ∧ 0 < ((bytesOf ((p0.drop p0.length).take (p0.length - p0.length))).size : Int) from by first | omega | decide | (simp only [size_bytesOf, List.length_take, List.length_drop, ByteArray.size_append]; omega) | exact ⟨by decide, by have := strEq_nz (by assumption); omega⟩ | exact size_sel (by rw [ByteArray.size_append, size_bytesOf, List.length_take, List.length_drop]; show 1 + _ ≤ _; omega) (by rw [size_bytesOf, List.length_take, List.length_drop]; omega) | (simp only [size_bytesOf, List.length_take, List.length_drop]; show 1 + _ ≤ _; omega))) (t2 pT))))) ?_
 refine Tri.join (x := (decide (((byteAt (bytesOf ((p0.drop p0.length).take (p0.length - p0.length))) 0) : Int) ≥ 128))) (fun bb => ([(4, .sc (.s (sel bb ((⟨#[0]⟩ : ByteArray) ++ (bytesOf ((p0.drop p0.length).take (p0.length - p0.length)))) (bytesOf ((p0.drop p0.length).take (p0.length - p0.length))))))], [])) 464 (by kernel_rfl) (fun h6 => ?_) (fun h6 => ?_) ?_
 have h6' := of_decide_eq_true h6
 refine rq [] none [4] [] ([(4, .sc (.s ((⟨#[0]⟩ : ByteArray) ++ (bytesOf ((p0.drop p0.length).take (p0.length - p0.length))))))], []) 464 (t1 (pu (pl (show (⟨#[0]⟩ : ByteArray).size + (bytesOf ((p0.drop p0.length).take (p0.length - p0.length))).size ≤ 9223372036854775807 from by first | omega | decide | (simp only [size_bytesOf, List.length_take, List.length_drop, ByteArray.size_append]; omega) | exact ⟨by decide, by have := strEq_nz (by assumption); omega⟩ | exact size_sel (by rw [ByteArray.size_append, size_bytesOf, List.length_take, List.length_drop]; show 1 + _ ≤ _; omega) (by rw [size_bytesOf, List.length_take, List.length_drop]; omega) | (simp only [size_bytesOf, List.length_take, List.length_drop]; show 1 + _ ≤ _; omega))) (t1 pT))) ?_
 exact sn [] [4] ([(4, .sc (.s ((⟨#[0]⟩ : ByteArray) ++ (bytesOf ((p0.drop p0.length).take (p0.length - p0.length))))))], [])
 have h6' := of_decide_eq_false h6
 refine Tri.skip ?_
 exact sn [] [4] ([(4, .sc (.s (bytesOf ((p0.drop p0.length).take (p0.length - p0.length)))))], [])
 change Tri _ _ _ _ _ _
 refine sq [] none [2] [480] ([(2, .sc (.sl 480 0 (4 + (sel (decide (((byteAt (bytesOf ((p0.drop p0.length).take (p0.length - p0.length))) 0) : Int) ≥ 128)) ((⟨#[0]⟩ : ByteArray) ++ (bytesOf ((p0.drop p0.length).take (p0.length - p0.length)))) (bytesOf ((p0.drop p0.length).take (p0.length - p0.length)))).size) 1 none))], [(480, .ints .u8 (4 + (sel (decide (((byteAt (bytesOf ((p0.drop p0.length).take (p0.length - p0.length))) 0) : Int) ≥ 128)) ((⟨#[0]⟩ : ByteArray) ++ (bytesOf ((p0.drop p0.length).take (p0.length - p0.length)))) (bytesOf ((p0.drop p0.length).take (p0.length - p0.length)))).size) (FwrText (sel (decide (((byteAt (bytesOf ((p0.drop p0.length).take (p0.length - p0.length))) 0) : Int) ≥ 128)) ((⟨#[0]⟩ : ByteArray) ++ (bytesOf ((p0.drop p0.length).take (p0.length - p0.length)))) (bytesOf ((p0.drop p0.length).take (p0.length - p0.length))))))]) 512 (t1 (pu (pa pT (pl (show (sel (decide (((byteAt (bytesOf ((p0.drop p0.length).take (p0.length - p0.length))) 0) : Int) ≥ 128)) ((⟨#[0]⟩ : ByteArray) ++ (bytesOf ((p0.drop p0.length).take (p0.length - p0.length)))) (bytesOf ((p0.drop p0.length).take (p0.length - p0.length)))).size ≤ 1000000000 from by first | omega | decide | (simp only [size_bytesOf, List.length_take, List.length_drop, ByteArray.size_append]; omega) | exact ⟨by decide, by have := strEq_nz (by assumption); omega⟩ | exact size_sel (by rw [ByteArray.size_append, size_bytesOf, List.length_take, List.length_drop]; show 1 + _ ≤ _; omega) (by rw [size_bytesOf, List.length_take, List.length_drop]; omega) | (simp only [size_bytesOf, List.length_take, List.length_drop]; show 1 + _ ≤ _; omega)))) (t1 pT))) ?_
 refine Tri.ret ?_
 refine rt ?_
 refine endP.conv (r' := ⟨.sc (.sl 0 0 (4 + (sel (decide (((byteAt (bytesOf ((p0.drop p0.length).take (p0.length - p0.length))) 0) : Int) ≥ 128)) ((⟨#[0]⟩ : ByteArray) ++ (bytesOf ((p0.drop p0.length).take (p0.length - p0.length)))) (bytesOf ((p0.drop p0.length).take (p0.length - p0.length)))).size) 1 none), [some (.ints .u8 (4 + (sel (decide (((byteAt (bytesOf ((p0.drop p0.length).take (p0.length - p0.length))) 0) : Int) ≥ 128)) ((⟨#[0]⟩ : ByteArray) ++ (bytesOf ((p0.drop p0.length).take (p0.length - p0.length)))) (bytesOf ((p0.drop p0.length).take (p0.length - p0.length)))).size) (FwrText (sel (decide (((byteAt (bytesOf ((p0.drop p0.length).take (p0.length - p0.length))) 0) : Int) ≥ 128)) ((⟨#[0]⟩ : ByteArray) ++ (bytesOf ((p0.drop p0.length).take (p0.length - p0.length)))) (bytesOf ((p0.drop p0.length).take (p0.length - p0.length))))))]⟩) (by simp only [FwrInt, FwrIntn0, hq0, hf0, hb0, h5, sel_true, sel_false]) ?_
 exact er [(480, 0)] pz
 refine sq [(24, qb false)] none [28, 4] [] ([(28, .sc (.b false)), (4, .sc (.s (bytesOf ((p0.drop p0.length).take (p0.length - p0.length)))))], []) 416 (t2 (pg h5 (t4 pT))) ?_
 refine Tri.cond_false (by kernel_rfl) ?_
 refine Tri.skip ?_
 change Tri _ _ _ _ _ _
 refine sq [] none [2] [432] ([(2, .sc (.sl 432 0 (4 + (bytesOf ((p0.drop p0.length).take (p0.length - p0.length))).size) 1 none))], [(432, .ints .u8 (4 + (bytesOf ((p0.drop p0.length).take (p0.length - p0.length))).size) (FwrText (bytesOf ((p0.drop p0.length).take (p0.length - p0.length)))))]) 464 (t1 (pu (pa pT (pl (show (bytesOf ((p0.drop p0.length).take (p0.length - p0.length))).size ≤ 1000000000 from by first | omega | decide | (simp only [size_bytesOf, List.length_take, List.length_drop, ByteArray.size_append]; omega) | exact ⟨by decide, by have := strEq_nz (by assumption); omega⟩ | exact size_sel (by rw [ByteArray.size_append, size_bytesOf, List.length_take, List.length_drop]; show 1 + _ ≤ _; omega) (by rw [size_bytesOf, List.length_take, List.length_drop]; omega) | (simp only [size_bytesOf, List.length_take, List.length_drop]; show 1 + _ ≤ _; omega)))) (t1 pT))) ?_
 refine Tri.ret ?_
 refine rt ?_
 refine endP.conv (r' := ⟨.sc (.sl 0 0 (4 + (bytesOf ((p0.drop p0.length).take (p0.length - p0.length))).size) 1 none), [some (.ints .u8 (4 + (bytesOf ((p0.drop p0.length).take (p0.length - p0.length))).size) (FwrText (bytesOf ((p0.drop p0.length).take (p0.length - p0.length)))))]⟩) (by simp only [FwrInt, FwrIntn0, hq0, hf0, hb0, h5, sel_true, sel_false]) ?_
 exact er [(432, 0)] pz
theorem le_FwrInt (p : List Int) : (FwrInt p).length ≤ p.length + 5 ∧ FwrIntn0 p ≤ p.length + 5 := by
  have s0 : ∀ (b : Bool) (x y : Nat), x ≤ p.length + 5 → y ≤ p.length + 5 → sel b x y ≤ p.length + 5 := by
    intro b x y hx hy
    cases b
    · rw [sel_false]; exact hy
    · rw [sel_true]; exact hx
  have t0 : ∀ (b : Bool) (u : ByteArray), u.size ≤ p.length → 4 + (sel b ((⟨#[0]⟩ : ByteArray) ++ u) u).size ≤ p.length + 5 := by
    intro b u hu
    have : (sel b ((⟨#[0]⟩ : ByteArray) ++ u) u).size ≤ u.size + 1 := size_sel (by rw [ByteArray.size_append]; show 1 + _ ≤ _; omega) (by omega)
    omega
  have d0 : ∀ k, (bytesOf ((p.drop k).take (p.length - k))).size ≤ p.length := fun k => by rw [size_bytesOf, List.length_take, List.length_drop]; omega
  unfold FwrInt FwrIntn0
  have d1 := d0 (fstB (FwrInts0 p) p.length)
  have d2 := d0 p.length
  exact ⟨len_sel (len_sel (by rw [len_FwrText]; exact t0 _ _ d1) (by rw [len_FwrText]; omega)) (len_sel (by rw [len_FwrText]; exact t0 _ _ d2) (by rw [len_FwrText]; omega)),
    s0 _ _ _ (s0 _ _ _ (t0 _ _ d1) (by omega)) (s0 _ _ _ (t0 _ _ d2) (by omega))⟩
theorem sum_step : ∀ (p : List ByteArray) (k : Nat), k < p.length → (sumB (p.take k) + (p.getD k (⟨#[]⟩ : ByteArray)).size = sumB (p.take (k + 1)) ∧ sumB (p.take (k + 1)) ≤ sumB p)
  | [], k, h => absurd h (Nat.not_lt_zero k)
  | x :: p, 0, _ => ⟨by simp [sumB], by simp [sumB]⟩
  | x :: p, k + 1, h => by
    obtain ⟨h1, h2⟩ := sum_step p k (by simpa using h)
    refine ⟨?_, ?_⟩
    · simp only [List.take_succ_cons, sumB, List.getD_cons_succ]; omega
    · simp only [List.take_succ_cons, sumB] at h2 ⊢; omega
theorem size_sel2 {b : Bool} {x y : ByteArray} {n : Nat} (hx : x.size ≤ n) (hy : y.size ≤ n) : (sel b x y).size ≤ n := by
  cases b
  · rw [sel_false]; exact hy
  · rw [sel_true]; exact hx
noncomputable def FwrNamesl0 (p0 : List ByteArray) (k0 : Nat) (z0 : ByteArray) : ByteArray :=
  ((sel (decide ((((k0 : Nat) : Int) : Int) > 0)) (z0 ++ (⟨#[44]⟩ : ByteArray)) z0) ++ p0.getD k0 ⟨#[]⟩)
noncomputable def FwrNames (p0 : List ByteArray) : List Int :=
  (FwrText (itr (FwrNamesl0 p0) p0.length (⟨#[]⟩ : ByteArray)))
noncomputable def FwrNamesn0 (p0 : List ByteArray) : Nat :=
  4 + (itr (FwrNamesl0 p0) p0.length (⟨#[]⟩ : ByteArray)).size
noncomputable def SwrNames : List AV → List Blk → Option (Prop × Ret)
  | [.sc (.ros p0)], [] => some ((sumB p0 ≤ 500000000 ∧ p0.length ≤ 500000000), ⟨.sc (.sl 0 0 (FwrNamesn0 p0) 1 none), [some (.ints .u8 (FwrNamesn0 p0) (FwrNames p0))]⟩)
  | _, _ => none
noncomputable def BwrNames : Bs := { P := Go.Proofs.Tryd.prog, G := gD, tab := tabOf [⟨56, 144, [.val], [], [], ⟨0, 1, SwrText⟩, false⟩], n := 23 }
theorem BwrNames.ok : BwrNames.Ok := ⟨tabOk (P := Go.Proofs.Tryd.prog) (G := gD) (l := [⟨56, 144, [.val], [], [], ⟨0, 1, SwrText⟩, false⟩]) (And.intro KwrText True.intro), mixed⟩
theorem KwrNames : Known Go.Proofs.Tryd.prog gD 37 ⟨0, 1, SwrNames⟩ := by
 refine Known.walk (B := BwrNames) (fn := Go.Proofs.Tryd.f37) BwrNames.ok (by kernel_rfl) rfl (by kernel_rfl) (by kernel_rfl) (by decide) (by decide) ?_
 intro E args ks C r h hC hlen
 simp only at h
 unfold SwrNames at h
 split at h
 rotate_left
 cases h
 rename_i p0
 cases h
 simp only [lens] at hlen
 refine ⟨show 1 ≤ 23 from by decide, ?_⟩
 refine Tri.sub (Sub.of_eq (show _ = ([(0, .sc (.ros p0))], []) from rfl)) ?_
 refine sq [] none [0] [] ([(0, .sc (.ros p0))], []) 32 (t1 pT) ?_
 refine sq [] none [3, 0] [] ([(3, .sc (.s (⟨#[]⟩ : ByteArray))), (0, .sc (.ros p0))], []) 48 (t1 pT) ?_
 refine Tri.seq ?_
 refine sq [] none [4, 3, 0] [] ([(4, .sc (.i .i64 0)), (3, .sc (.s (⟨#[]⟩ : ByteArray))), (0, .sc (.ros p0))], []) 64 (t1 pT) ?_
 refine Tri.block ?_
 refine Tri.count 64 p0.length (FwrNamesl0 p0) (⟨#[]⟩ : ByteArray) (fun k0 z0 => z0.size ≤ sumB (p0.take k0) + k0) (fun k0 z0 => ([(4, .sc (.i .i64 ((k0 : Nat) : Int))), (3, .sc (.s z0)), (0, .sc (.ros p0))], [])) (Nat.zero_le _) (Sub.of_eq (by kernel_rfl)) ?_
 intro k0 z0 hk0 hz0 hJ0
 refine Tri.seq ?_
 refine sq [] none [8, 4, 3, 0] [] ([(8, .sc (.b (decide ((((k0 : Nat) : Int) : Int) < ((p0.length : Nat) : Int))))), (4, .sc (.i .i64 ((k0 : Nat) : Int))), (3, .sc (.s z0)), (0, .sc (.ros p0))], []) 128 (t4 pT) ?_
 refine Tri.cond (x := (decide ((((k0 : Nat) : Int) : Int) < ((p0.length : Nat) : Int)))) (by kernel_rfl) (fun h1 => ?_) (fun h1 => ?_)
 have h1' := of_decide_eq_true h1
 refine Tri.skip ?_
 change Tri _ _ _ _ _ _
 refine Tri.seq ?_
 refine Tri.block ?_
 refine Tri.seq ?_
 refine sq [] none [12, 4, 3, 0] [] ([(12, .sc (.b (decide ((((k0 : Nat) : Int) : Int) > 0)))), (4, .sc (.i .i64 ((k0 : Nat) : Int))), (3, .sc (.s z0)), (0, .sc (.ros p0))], []) 160 (t2 pT) ?_
 refine Tri.join (x := (decide ((((k0 : Nat) : Int) : Int) > 0))) (fun bb => ([(3, .sc (.s (sel bb (z0 ++ (⟨#[44]⟩ : ByteArray)) z0))), (4, .sc (.i .i64 ((k0 : Nat) : Int))), (0, .sc (.ros p0))], [])) 208 (by kernel_rfl) (fun h2 => ?_) (fun h2 => ?_) ?_
 have h2' := of_decide_eq_true h2
 refine rq [] none [3, 4, 0] [] ([(3, .sc (.s (z0 ++ (⟨#[44]⟩ : ByteArray)))), (4, .sc (.i .i64 ((k0 : Nat) : Int))), (0, .sc (.ros p0))], []) 208 (t1 (pu (pl (show z0.size + (⟨#[44]⟩ : ByteArray).size ≤ 9223372036854775807 from by first | omega | decide | (have hq := sum_step p0 k0 (by omega); have hz : (sel (decide (((k0 : Nat) : Int) > 0)) (z0 ++ (⟨#[44]⟩ : ByteArray)) z0).size ≤ sumB (p0.take k0) + k0 + 1 := size_sel2 (by rw [ByteArray.size_append]; show _ + 1 ≤ _; omega) (by omega); first | omega | (show _ + 1 ≤ _; omega)) | (have hq := sum_step p0 k0 (by omega); show _ + 1 ≤ _; omega) | (rw [List.take_length] at hJ0; omega))) (t1 pT))) ?_
 exact sn [] [3, 4, 0] ([(3, .sc (.s (z0 ++ (⟨#[44]⟩ : ByteArray)))), (4, .sc (.i .i64 ((k0 : Nat) : Int))), (0, .sc (.ros p0))], [])
 have h2' := of_decide_eq_false h2
 refine Tri.skip ?_
 exact sn [] [3, 4, 0] ([(3, .sc (.s z0)), (4, .sc (.i .i64 ((k0 : Nat) : Int))), (0, .sc (.ros p0))], [])
 change Tri _ _ _ _ _ _
 refine rq [] none [3, 4, 0] [] ([(3, .sc (.s ((sel (decide ((((k0 : Nat) : Int) : Int) > 0)) (z0 ++ (⟨#[44]⟩ : ByteArray)) z0) ++ p0.getD k0 ⟨#[]⟩))), (4, .sc (.i .i64 ((k0 : Nat) : Int))), (0, .sc (.ros p0))], []) 320 (t3 (pu (pl (show (0 : Int) ≤ ((k0 : Nat) : Int) ∧ ((k0 : Nat) : Int) < (p0.length : Int) from by first | omega | decide | (have hq := sum_step p0 k0 (by omega); have hz : (sel (decide (((k0 : Nat) : Int) > 0)) (z0 ++ (⟨#[44]⟩ : ByteArray)) z0).size ≤ sumB (p0.take k0) + k0 + 1 := size_sel2 (by rw [ByteArray.size_append]; show _ + 1 ≤ _; omega) (by omega); first | omega | (show _ + 1 ≤ _; omega)) | (have hq := sum_step p0 k0 (by omega); show _ + 1 ≤ _; omega) | (rw [List.take_length] at hJ0; omega))) (t1 (pu (pl (show (sel (decide ((((k0 : Nat) : Int) : Int) > 0)) (z0 ++ (⟨#[44]⟩ : ByteArray)) z0).size + (p0.getD k0 ⟨#[]⟩).size ≤ 9223372036854775807 from by first | omega | decide | (have hq := sum_step p0 k0 (by omega); have hz : (sel (decide (((k0 : Nat) : Int) > 0)) (z0 ++ (⟨#[44]⟩ : ByteArray)) z0).size ≤ sumB (p0.take k0) + k0 + 1 := size_sel2 (by rw [ByteArray.size_append]; show _ + 1 ≤ _; omega) (by omega); first | omega | (show _ + 1 ≤ _; omega)) | (have hq := sum_step p0 k0 (by omega); show _ + 1 ≤ _; omega) | (rw [List.take_length] at hJ0; omega))) (t1 pT))))) ?_
 change Tri _ _ _ _ _ _
 refine rq [(10, qi ((k0 + 1 : Nat) : Int))] none [4, 3, 0] [] ([(4, .sc (.i .i64 ((k0 + 1 : Nat) : Int))), (3, .sc (.s ((sel (decide ((((k0 : Nat) : Int) : Int) > 0)) (z0 ++ (⟨#[44]⟩ : ByteArray)) z0) ++ p0.getD k0 ⟨#[]⟩))), (0, .sc (.ros p0))], []) 368 (t1 (pv pT (pl (show (iAdd .i64 ((k0 : Nat) : Int) 1) = ((k0 + 1 : Nat) : Int) from iAdd_nat (a := k0) (b := 1) (by omega))) (t1 pT))) ?_
 repeat (refine blkP_normal ?_)
 refine countP_normal (by omega) (by have hq := (sum_step p0 k0 (by omega)).1; unfold FwrNamesl0; rw [ByteArray.size_append]; have hz : (sel (decide (((k0 : Nat) : Int) > 0)) (z0 ++ (⟨#[44]⟩ : ByteArray)) z0).size ≤ sumB (p0.take k0) + k0 + 1 := size_sel2 (by rw [ByteArray.size_append]; show _ + 1 ≤ _; omega) (by omega); omega) ?_
 exact sp [] [4, 3, 0]
 have h1' := of_decide_eq_false h1
 refine Tri.exit ?_
 have hend0 : k0 = p0.length := by (have := of_decide_eq_false h1; omega)
 subst hend0; subst hz0
 change Tri _ _ _ _ _ _
 refine sq [] none [2] [144] ([(2, .sc (.sl 144 0 (4 + (itr (FwrNamesl0 p0) p0.length (⟨#[]⟩ : ByteArray)).size) 1 none))], [(144, .ints .u8 (4 + (itr (FwrNamesl0 p0) p0.length (⟨#[]⟩ : ByteArray)).size) (FwrText (itr (FwrNamesl0 p0) p0.length (⟨#[]⟩ : ByteArray))))]) 176 (t1 (pu (pa pT (pl (show (itr (FwrNamesl0 p0) p0.length (⟨#[]⟩ : ByteArray)).size ≤ 1000000000 from by first | omega | decide | (have hq := sum_step p0 k0 (by omega); have hz : (sel (decide (((k0 : Nat) : Int) > 0)) (z0 ++ (⟨#[44]⟩ : ByteArray)) z0).size ≤ sumB (p0.take k0) + k0 + 1 := size_sel2 (by rw [ByteArray.size_append]; show _ + 1 ≤ _; omega) (by omega); first | omega | (show _ + 1 ≤ _; omega)) | (have hq := sum_step p0 k0 (by omega); show _ + 1 ≤ _; omega) | (rw [List.take_length] at hJ0; omega)))) (t1 pT))) ?_
 refine Tri.ret ?_
 refine rt ?_
 exact er [(144, 0)] pz
theorem flat_step {α : Type} : ∀ (p : List (List α)) (k : Nat), k < p.length → ((p.take k).flatten.length + (p.getD k []).length ≤ p.flatten.length ∧ (p.take (k + 1)).flatten = (p.take k).flatten ++ p.getD k [])
  | [], k, h => absurd h (Nat.not_lt_zero k)
  | x :: p, 0, _ => ⟨by simp, by simp⟩
  | x :: p, k + 1, h => by
    obtain ⟨h1, h2⟩ := flat_step p k (by simpa using h)
    refine ⟨?_, ?_⟩
    · simp only [List.take_succ_cons, List.flatten_cons, List.length_append, List.getD_cons_succ]; omega
    · rw [List.take_succ_cons, List.take_succ_cons, List.flatten_cons, List.flatten_cons, h2, List.getD_cons_succ, List.append_assoc]
noncomputable def FwrJoinl0 (p0 : List (List Int)) (k0 : Nat) (z0 : List Int) : List Int :=
  z0 ++ (p0.getD k0 [])
noncomputable def FwrJoin (p0 : List (List Int)) : List Int :=
  (itr (FwrJoinl0 p0) p0.length ([] : List Int))
noncomputable def FwrJoinn0 (p0 : List (List Int)) : Nat :=
  (itr (FwrJoinl0 p0) p0.length ([] : List Int)).length
noncomputable def SwrJoin : List AV → List Blk → Option (Prop × Ret)
  | [.sc (.rob p0)], [] => some ((p0.flatten.length ≤ 1000000000 ∧ p0.length ≤ 1000000000), ⟨.sc (.sl 0 0 (FwrJoinn0 p0) 1 none), [some (.ints .u8 (FwrJoinn0 p0) (FwrJoin p0))]⟩)
  | _, _ => none
noncomputable def BwrJoin : Bs := { P := Go.Proofs.Tryd.prog, G := gD, tab := tabOf [], n := 18 }
theorem BwrJoin.ok : BwrJoin.Ok := ⟨tabOk (P := Go.Proofs.Tryd.prog) (G := gD) (l := []) True.intro, mixed⟩
theorem KwrJoin : Known Go.Proofs.Tryd.prog gD 65 ⟨0, 1, SwrJoin⟩ := by
 refine Known.walk (B := BwrJoin) (fn := Go.Proofs.Tryd.f65) BwrJoin.ok (by kernel_rfl) rfl (by kernel_rfl) (by kernel_rfl) (by decide) (by decide) ?_
 intro E args ks C r h hC hlen
 simp only at h
 unfold SwrJoin at h
 split at h
 rotate_left
 cases h
 rename_i p0
 cases h
 simp only [lens] at hlen
 refine ⟨show 1 ≤ 18 from by decide, ?_⟩
 refine Tri.sub (Sub.of_eq (show _ = ([(0, .sc (.rob p0))], []) from rfl)) ?_
 refine sq [] none [0] [] ([(0, .sc (.rob p0))], []) 32 (t1 pT) ?_
 refine sq [] none [3, 0] [] ([(3, .sc (.nils)), (0, .sc (.rob p0))], []) 48 (t1 pT) ?_
 refine Tri.seq ?_
 refine sq [] none [4, 3, 0] [] ([(4, .sc (.i .i64 0)), (3, .sc (.nils)), (0, .sc (.rob p0))], []) 64 (t1 pT) ?_
 refine Tri.block ?_
 refine Tri.sub (Sub.openNil (U := 64) (U' := 80) 3 64 1 .u8 none (.inl rfl) (by decide) (by decide) (by kernel_rfl) (by kernel_rfl)) ?_
 refine Tri.count 80 p0.length (FwrJoinl0 p0) ([] : List Int) (fun k0 z0 => z0 = (p0.take k0).flatten) (fun k0 z0 => ([(3, .sc (.sl 64 0 z0.length 1 none)), (4, .sc (.i .i64 ((k0 : Nat) : Int))), (0, .sc (.rob p0))], [(64, .ints .u8 z0.length z0)])) rfl (Sub.of_eq (by kernel_rfl)) ?_
 intro k0 z0 hk0 hz0 hJ0
 refine Tri.seq ?_
 refine sq [] none [8, 3, 4, 0] [64] ([(8, .sc (.b (decide ((((k0 : Nat) : Int) : Int) < ((p0.length : Nat) : Int))))), (3, .sc (.sl 64 0 z0.length 1 none)), (4, .sc (.i .i64 ((k0 : Nat) : Int))), (0, .sc (.rob p0))], [(64, .ints .u8 z0.length z0)]) 144 (t4 pT) ?_
 refine Tri.cond (x := (decide ((((k0 : Nat) : Int) : Int) < ((p0.length : Nat) : Int)))) (by kernel_rfl) (fun h1 => ?_) (fun h1 => ?_)
 have h1' := of_decide_eq_true h1
 refine Tri.skip ?_
 change Tri _ _ _ _ _ _
 refine Tri.seq ?_
 refine Tri.block ?_
 refine rq [] none [3, 4, 0] [224] ([(3, .sc (.sl 224 0 (z0.length + ((p0.getD k0 []).length)) 1 none)), (4, .sc (.i .i64 ((k0 : Nat) : Int))), (0, .sc (.rob p0))], [(224, .ints .u8 (z0.length + ((p0.getD k0 []).length)) (z0 ++ (p0.getD k0 [])))]) 256 (t3 (pu (pl (show (0 : Int) ≤ ((k0 : Nat) : Int) ∧ ((k0 : Nat) : Int) < (p0.length : Int) from by first | omega | decide | (have hq := (flat_step p0 k0 (by omega)).1; rw [hJ0]; omega))) (t1 (pu (pa (pa (pa (pa pT (lr (1 = 1))) (pa (pl (show 0 < 1 from by first | omega | decide | (have hq := (flat_step p0 k0 (by omega)).1; rw [hJ0]; omega))) (pa (pl (show (z0.length + ((p0.getD k0 []).length)) * 1 ≤ 140737488355328 from by first | omega | decide | (have hq := (flat_step p0 k0 (by omega)).1; rw [hJ0]; omega))) (pl (show z0.length + ((p0.getD k0 []).length) ≤ 140737488355328 from by first | omega | decide | (have hq := (flat_step p0 k0 (by omega)).1; rw [hJ0]; omega)))))) (pl (show (p0.getD k0 []).length = ((p0.getD k0 []).length) * 1 from by first | omega | decide | (have hq := (flat_step p0 k0 (by omega)).1; rw [hJ0]; omega)))) (pa (lr (1 = 1)) (pl (show 0 + z0.length * 1 = z0.length from by first | omega | decide | (have hq := (flat_step p0 k0 (by omega)).1; rw [hJ0]; omega))))) (t1 pT))))) ?_
 change Tri _ _ _ _ _ _
 refine rq [(10, qi ((k0 + 1 : Nat) : Int))] none [4, 3, 0] [224] ([(4, .sc (.i .i64 ((k0 + 1 : Nat) : Int))), (3, .sc (.sl 224 0 (z0.length + ((p0.getD k0 []).length)) 1 none)), (0, .sc (.rob p0))], [(224, .ints .u8 (z0.length + ((p0.getD k0 []).length)) (z0 ++ (p0.getD k0 [])))]) 304 (t1 (pv pT (pl (show (iAdd .i64 ((k0 : Nat) : Int) 1) = ((k0 + 1 : Nat) : Int) from iAdd_nat (a := k0) (b := 1) (by omega))) (t1 pT))) ?_
 repeat (refine blkP_normal ?_)
 refine countP_normal (by omega) (by unfold FwrJoinl0; rw [hJ0, (flat_step p0 k0 (by omega)).2]) ?_
 exact sn [(224, 64)] [3, 4, 0] ([(3, .sc (.sl 64 0 (z0.length + ((p0.getD k0 []).length)) 1 none)), (4, .sc (.i .i64 ((k0 + 1 : Nat) : Int))), (0, .sc (.rob p0))], [(64, .ints .u8 (z0.length + ((p0.getD k0 []).length)) (z0 ++ (p0.getD k0 [])))]) (by simp only [FwrJoinl0, h1, sel_true, sel_false, List.length_append, List.length_set, List.length_cons, List.length_nil, Nat.zero_add, Nat.reduceAdd])
 have h1' := of_decide_eq_false h1
 refine Tri.exit ?_
 have hend0 : k0 = p0.length := by (have := of_decide_eq_false h1; omega)
 subst hend0; subst hz0
 change Tri _ _ _ _ _ _
 refine sq [] none [2] [64] ([(2, .sc (.sl 64 0 ((itr (FwrJoinl0 p0) p0.length ([] : List Int)).length) 1 none))], [(64, .ints .u8 ((itr (FwrJoinl0 p0) p0.length ([] : List Int)).length) (itr (FwrJoinl0 p0) p0.length ([] : List Int)))]) 176 (t2 pT) ?_
 refine Tri.ret ?_
 refine rt ?_
 exact er [(64, 0)] pz
noncomputable def FwwU32 (p0 : Nat) (p2 : List Int) (p3 : Int) : List Int :=
  p2 ++ [(IntKind.wrap .u8 (iShr .u32 p3 24)), (IntKind.wrap .u8 (iShr .u32 p3 16)), (IntKind.wrap .u8 (iShr .u32 p3 8)), (IntKind.wrap .u8 p3)]
noncomputable def SwwU32 : List AV → List Blk → Option (Prop × Ret)
  | [.sc (.sl 0 0 p0 1 none), .sc (.i .u32 p3)], [.ints .u8 p1 p2] => some (((p0 = p1) ∧ (p0 ≤ 1000000000)), ⟨.sc (.sl 1 0 (p0 + 4) 1 none), [none, some (.ints .u8 (p0 + 4) (FwwU32 p0 p2 p3))]⟩)
  | _, _ => none
noncomputable def BwwU32 : Bs := { P := Go.Proofs.Tryd.prog, G := gD, tab := tabOf [], n := 19 }
theorem BwwU32.ok : BwwU32.Ok := ⟨tabOk (P := Go.Proofs.Tryd.prog) (G := gD) (l := []) True.intro, mixed⟩
theorem KwwU32 : Known Go.Proofs.Tryd.prog gD 34 ⟨1, 1, SwwU32⟩ := by
 refine Known.walk (B := BwwU32) (fn := Go.Proofs.Tryd.f34) BwwU32.ok (by kernel_rfl) rfl (by kernel_rfl) (by kernel_rfl) (by decide) (by decide) ?_
 intro E args ks C r h hC hlen
 simp only at h
 unfold SwwU32 at h
 split at h
 rotate_left
 cases h
 rename_i p0 p3 p1 p2
 cases h
 simp only [lens] at hlen
 obtain ⟨hEp1, hC⟩ := hC
 subst hEp1
 refine ⟨show 2 ≤ 19 from by decide, ?_⟩
 refine Tri.sub (Sub.of_eq (show _ = ([(0, .sc (.sl 0 0 p0 1 none)), (1, .sc (.i .u32 p3))], [(0, .ints .u8 p0 p2)]) from rfl)) ?_
 refine sq [] none [0, 1] [0] ([(0, .sc (.sl 0 0 p0 1 none)), (1, .sc (.i .u32 p3))], [(0, .ints .u8 p0 p2)]) 32 (t1 pT) ?_
 refine sq [] none [4] [240] ([(4, .sc (.sl 240 0 (p0 + 4) 1 none))], [(240, .ints .u8 (p0 + 4) (p2 ++ [(IntKind.wrap .u8 (iShr .u32 p3 24)), (IntKind.wrap .u8 (iShr .u32 p3 16)), (IntKind.wrap .u8 (iShr .u32 p3 8)), (IntKind.wrap .u8 p3)]))]) 272 (t2 (pu (lo ((0 : Int) ≤ 24)) (t2 (pu (lo ((0 : Int) ≤ 16)) (t2 (pu (lo ((0 : Int) ≤ 8)) (t3 (pu (pa (pa (pa (lo (0 < 4)) (lr (1 = 1))) (pa (pa (lo (1 < 4)) (lr (1 = 1))) (pa (pa (lo (2 < 4)) (lr (1 = 1))) (pa (pa (lo (3 < 4)) (lr (1 = 1))) pT)))) (pa (lo (4 * 1 ≤ 16777216)) (lr (1 = 1)))) (pu (pa (pa (pa (pa (lo (0 + 4 ≤ 4)) (lr (1 = 1))) (pa (lo (0 < 1)) (pa (lo ((p0 + 4) * 1 ≤ 140737488355328)) (lo (p0 + 4 ≤ 140737488355328))))) (lo (4 = 4 * 1))) (pa (lr (1 = 1)) (lo (0 + p0 * 1 = p0)))) (t1 pT)))))))))) ?_
 refine Tri.ret ?_
 refine rt ?_
 exact er [(240, 1)] pz
noncomputable def FwwU32n (p3 : Int) : List Int :=
  [(IntKind.wrap .u8 (iShr .u32 p3 24)), (IntKind.wrap .u8 (iShr .u32 p3 16)), (IntKind.wrap .u8 (iShr .u32 p3 8)), (IntKind.wrap .u8 p3)]
noncomputable def SwwU32n : List AV → List Blk → Option (Prop × Ret)
  | [.sc (.nils), .sc (.i .u32 p3)], [] => some (True, ⟨.sc (.sl 0 0 4 1 none), [some (.ints .u8 4 (FwwU32n p3))]⟩)
  | _, _ => none
noncomputable def BwwU32n : Bs := { P := Go.Proofs.Tryd.prog, G := gD, tab := tabOf [], n := 19 }
theorem BwwU32n.ok : BwwU32n.Ok := ⟨tabOk (P := Go.Proofs.Tryd.prog) (G := gD) (l := []) True.intro, mixed⟩
theorem KwwU32n : Known Go.Proofs.Tryd.prog gD 34 ⟨0, 1, SwwU32n⟩ := by
 refine Known.walk (B := BwwU32n) (fn := Go.Proofs.Tryd.f34) BwwU32n.ok (by kernel_rfl) rfl (by kernel_rfl) (by kernel_rfl) (by decide) (by decide) ?_
 intro E args ks C r h hC hlen
 simp only at h
 unfold SwwU32n at h
 split at h
 rotate_left
 cases h
 rename_i p3
 cases h
 simp only [lens] at hlen
 refine ⟨show 2 ≤ 19 from by decide, ?_⟩
 refine Tri.sub (Sub.of_eq (show _ = ([(0, .sc (.nils)), (1, .sc (.i .u32 p3))], []) from rfl)) ?_
 refine sq [] none [0, 1] [] ([(0, .sc (.nils)), (1, .sc (.i .u32 p3))], []) 32 (t1 pT) ?_
 refine sq [] none [4] [240] ([(4, .sc (.sl 240 0 4 1 none))], [(240, .ints .u8 4 [(IntKind.wrap .u8 (iShr .u32 p3 24)), (IntKind.wrap .u8 (iShr .u32 p3 16)), (IntKind.wrap .u8 (iShr .u32 p3 8)), (IntKind.wrap .u8 p3)])]) 272 (t2 (pu (lo ((0 : Int) ≤ 24)) (t2 (pu (lo ((0 : Int) ≤ 16)) (t2 (pu (lo ((0 : Int) ≤ 8)) (t3 (pu (pa (pa (pa (lo (0 < 4)) (lr (1 = 1))) (pa (pa (lo (1 < 4)) (lr (1 = 1))) (pa (pa (lo (2 < 4)) (lr (1 = 1))) (pa (pa (lo (3 < 4)) (lr (1 = 1))) pT)))) (pa (lo (4 * 1 ≤ 16777216)) (lr (1 = 1)))) (pu (pa (pa (pa (lo (0 + 4 ≤ 4)) (lr (1 = 1))) (pa (lo (0 < 1)) (pa (lo (4 * 1 ≤ 140737488355328)) (lo (4 ≤ 140737488355328))))) (lo (4 = 4 * 1))) (t1 pT)))))))))) ?_
 refine Tri.ret ?_
 refine rt ?_
 exact er [(240, 0)] pz
noncomputable def FwwText (p0 : Nat) (p2 : List Int) (p3 : ByteArray) : List Int :=
  (FwwU32 p0 p2 (IntKind.wrap .u32 ((p3.size : Nat) : Int))) ++ (bytesI p3)
noncomputable def SwwText : List AV → List Blk → Option (Prop × Ret)
  | [.sc (.sl 0 0 p0 1 none), .sc (.s p3)], [.ints .u8 p1 p2] => some (((p0 = p1) ∧ (p0 ≤ 1000000000 ∧ p3.size ≤ 1000000000)), ⟨.sc (.sl 1 0 ((p0 + 4) + p3.size) 1 none), [none, some (.ints .u8 ((p0 + 4) + p3.size) (FwwText p0 p2 p3))]⟩)
  | _, _ => none
noncomputable def BwwText : Bs := { P := Go.Proofs.Tryd.prog, G := gD, tab := tabOf [⟨34, 96, [.io, .val], [], [0], ⟨1, 1, SwwU32⟩, false⟩], n := 12 }
theorem BwwText.ok : BwwText.Ok := ⟨tabOk (P := Go.Proofs.Tryd.prog) (G := gD) (l := [⟨34, 96, [.io, .val], [], [0], ⟨1, 1, SwwU32⟩, false⟩]) (And.intro KwwU32 True.intro), mixed⟩
theorem KwwText : Known Go.Proofs.Tryd.prog gD 55 ⟨1, 1, SwwText⟩ := by
 refine Known.walk (B := BwwText) (fn := Go.Proofs.Tryd.f55) BwwText.ok (by kernel_rfl) rfl (by kernel_rfl) (by kernel_rfl) (by decide) (by decide) ?_
 intro E args ks C r h hC hlen
 simp only at h
 unfold SwwText at h
 split at h
 rotate_left
 cases h
 rename_i p0 p3 p1 p2
 cases h
 simp only [lens] at hlen
 obtain ⟨hEp1, hC⟩ := hC
 subst hEp1
 refine ⟨show 2 ≤ 12 from by decide, ?_⟩
 refine Tri.sub (Sub.of_eq (show _ = ([(0, .sc (.sl 0 0 p0 1 none)), (1, .sc (.s p3))], [(0, .ints .u8 p0 p2)]) from rfl)) ?_
 refine sq [] none [0, 1] [0] ([(0, .sc (.sl 0 0 p0 1 none)), (1, .sc (.s p3))], [(0, .ints .u8 p0 p2)]) 32 (t1 pT) ?_
 refine sq [] none [4] [128] ([(4, .sc (.sl 128 0 ((p0 + 4) + p3.size) 1 none))], [(128, .ints .u8 ((p0 + 4) + p3.size) ((FwwU32 p0 p2 (IntKind.wrap .u32 ((p3.size : Nat) : Int))) ++ (bytesI p3)))]) 160 (t4 (pu (pa pT (pa (lr (p0 = p0)) (lo (p0 ≤ 1000000000)))) (t1 (pu (pa (pa (pa (pa pT (lr (1 = 1))) (pa (lo (0 < 1)) (pa (lo (((p0 + 4) + p3.size) * 1 ≤ 140737488355328)) (lo ((p0 + 4) + p3.size ≤ 140737488355328))))) (lo (p3.size = p3.size * 1))) (pa (lr (1 = 1)) (lo (0 + (p0 + 4) * 1 = p0 + 4)))) (t1 pT))))) ?_
 refine Tri.ret ?_
 refine rt ?_
 exact er [(128, 1)] pz
noncomputable def FwwTextn (p3 : ByteArray) : List Int :=
  (FwwU32n (IntKind.wrap .u32 ((p3.size : Nat) : Int))) ++ (bytesI p3)
noncomputable def SwwTextn : List AV → List Blk → Option (Prop × Ret)
  | [.sc (.nils), .sc (.s p3)], [] => some ((p3.size ≤ 1000000000), ⟨.sc (.sl 0 0 (4 + p3.size) 1 none), [some (.ints .u8 (4 + p3.size) (FwwTextn p3))]⟩)
  | _, _ => none
noncomputable def BwwTextn : Bs := { P := Go.Proofs.Tryd.prog, G := gD, tab := tabOf [⟨34, 96, [.val, .val], [], [], ⟨0, 1, SwwU32n⟩, false⟩], n := 12 }
theorem BwwTextn.ok : BwwTextn.Ok := ⟨tabOk (P := Go.Proofs.Tryd.prog) (G := gD) (l := [⟨34, 96, [.val, .val], [], [], ⟨0, 1, SwwU32n⟩, false⟩]) (And.intro KwwU32n True.intro), mixed⟩
theorem KwwTextn : Known Go.Proofs.Tryd.prog gD 55 ⟨0, 1, SwwTextn⟩ := by
 refine Known.walk (B := BwwTextn) (fn := Go.Proofs.Tryd.f55) BwwTextn.ok (by kernel_rfl) rfl (by kernel_rfl) (by kernel_rfl) (by decide) (by decide) ?_
 intro E args ks C r h hC hlen
 simp only at h
 unfold SwwTextn at h
 split at h
 rotate_left
 cases h
 rename_i p3
 cases h
 simp only [lens] at hlen
 refine ⟨show 2 ≤ 12 from by decide, ?_⟩
 refine Tri.sub (Sub.of_eq (show _ = ([(0, .sc (.nils)), (1, .sc (.s p3))], []) from rfl)) ?_
 refine sq [] none [0, 1] [] ([(0, .sc (.nils)), (1, .sc (.s p3))], []) 32 (t1 pT) ?_
 refine sq [] none [4] [128] ([(4, .sc (.sl 128 0 (4 + p3.size) 1 none))], [(128, .ints .u8 (4 + p3.size) ((FwwU32n (IntKind.wrap .u32 ((p3.size : Nat) : Int))) ++ (bytesI p3)))]) 160 (t4 (pu pz (t1 (pu (pa (pa (pa (pa pT (lr (1 = 1))) (pa (lo (0 < 1)) (pa (lo ((4 + p3.size) * 1 ≤ 140737488355328)) (lo (4 + p3.size ≤ 140737488355328))))) (lo (p3.size = p3.size * 1))) (pa (lr (1 = 1)) (lo (0 + 4 * 1 = 4)))) (t1 pT))))) ?_
 refine Tri.ret ?_
 refine rt ?_
 exact er [(128, 0)] pz
noncomputable def BwwTextz : Bs := { P := Go.Proofs.Tryd.prog, G := gD, tab := tabOf [⟨34, 96, [.io, .val], [], [0], ⟨1, 1, SwwU32⟩, false⟩], n := 12 }
theorem BwwTextz.ok : BwwTextz.Ok := ⟨tabOk (P := Go.Proofs.Tryd.prog) (G := gD) (l := [⟨34, 96, [.io, .val], [], [0], ⟨1, 1, SwwU32⟩, false⟩]) (And.intro KwwU32 True.intro), mixed⟩
noncomputable def FwwNames (p0 : Nat) (p2 : List Int) (p3 : List ByteArray) : List Int :=
  (FwwText p0 p2 (joinB p3 (⟨#[44]⟩ : ByteArray)))
noncomputable def FwwNamesn0 (p0 : Nat) (p2 : List Int) (p3 : List ByteArray) : Nat :=
  (p0 + 4) + (joinB p3 (⟨#[44]⟩ : ByteArray)).size
noncomputable def SwwNames : List AV → List Blk → Option (Prop × Ret)
  | [.sc (.sl 0 0 p0 1 none), .sc (.ros p3)], [.ints .u8 p1 p2] => some (((p0 = p1) ∧ (p0 ≤ 1000000000 ∧ p3.length ≤ 1000000000 ∧ (joinB p3 (⟨#[44]⟩ : ByteArray)).size ≤ 1000000000)), ⟨.sc (.sl 1 0 (FwwNamesn0 p0 p2 p3) 1 none), [none, some (.ints .u8 (FwwNamesn0 p0 p2 p3) (FwwNames p0 p2 p3))]⟩)
  | _, _ => none
noncomputable def BwwNames : Bs := { P := Go.Proofs.Tryd.prog, G := gD, tab := tabOf [⟨55, 80, [.io, .val], [], [0], ⟨1, 1, SwwText⟩, false⟩, ⟨66, 64, [.ros, .val], [], [], ⟨0, 0, specJoin⟩, false⟩], n := 9 }
theorem BwwNames.ok : BwwNames.Ok := ⟨tabOk (P := Go.Proofs.Tryd.prog) (G := gD) (l := [⟨55, 80, [.io, .val], [], [0], ⟨1, 1, SwwText⟩, false⟩, ⟨66, 64, [.ros, .val], [], [], ⟨0, 0, specJoin⟩, false⟩]) (And.intro KwwText (And.intro Kjoin True.intro)), mixed⟩
theorem KwwNames : Known Go.Proofs.Tryd.prog gD 33 ⟨1, 1, SwwNames⟩ := by
 refine Known.walk (B := BwwNames) (fn := Go.Proofs.Tryd.f33) BwwNames.ok (by kernel_rfl) rfl (by kernel_rfl) (by kernel_rfl) (by decide) (by decide) ?_
 intro E args ks C r h hC hlen
 simp only at h
 unfold SwwNames at h
 split at h
 rotate_left
 cases h
 rename_i p0 p3 p1 p2
 cases h
 simp only [lens] at hlen
 obtain ⟨hEp1, hC⟩ := hC
 subst hEp1
 refine ⟨show 2 ≤ 9 from by decide, ?_⟩
 refine Tri.sub (Sub.of_eq (show _ = ([(0, .sc (.sl 0 0 p0 1 none)), (1, .sc (.ros p3))], [(0, .ints .u8 p0 p2)]) from rfl)) ?_
 refine sq [] none [0, 1] [0] ([(0, .sc (.sl 0 0 p0 1 none)), (1, .sc (.ros p3))], [(0, .ints .u8 p0 p2)]) 32 (t1 pT) ?_
 refine sq [] none [4] [80] ([(4, .sc (.sl 80 0 ((p0 + 4) + (joinB p3 (⟨#[44]⟩ : ByteArray)).size) 1 none))], [(80, .ints .u8 ((p0 + 4) + (joinB p3 (⟨#[44]⟩ : ByteArray)).size) (FwwText p0 p2 (joinB p3 (⟨#[44]⟩ : ByteArray))))]) 112 (t2 (pu (pa pT (lo (p3.length ≤ 1000000000 ∧ (joinB p3 (⟨#[44]⟩ : ByteArray)).size ≤ 1000000000))) (pu (pa pT (pa (lr (p0 = p0)) (lo (p0 ≤ 1000000000 ∧ (joinB p3 (⟨#[44]⟩ : ByteArray)).size ≤ 1000000000)))) (t1 pT)))) ?_
 refine Tri.ret ?_
 refine rt ?_
 exact er [(80, 1)] pz
noncomputable def FwwIntl0 (k0 : Nat) (z0 : List Int) : List Int :=
  (z0.drop 1).take (z0.length - 1)
noncomputable def FwwInts0 (p3 : List Int) (k0 : Nat) : Bool :=
  (sel (((itr (FwwIntl0) k0 p3).getD 0 0 : Int) == 0) false true)
noncomputable def FwwInt (p0 : Nat) (p2 : List Int) (p3 : List Int) : List Int :=
  (sel (Nat.blt (fstB (FwwInts0 p3) p3.length) p3.length) (sel (decide (((((itr (FwwIntl0) (fstB (FwwInts0 p3) p3.length) p3).length : Nat) : Int) : Int) > 0)) (sel (decide (((itr (FwwIntl0) (fstB (FwwInts0 p3) p3.length) p3).getD 0 0 : Int) ≥ 128)) (((FwwU32 p0 p2 (IntKind.wrap .u32 ((((itr (FwwIntl0) (fstB (FwwInts0 p3) p3.length) p3).length) + 1 : Nat) : Int))) ++ [0]) ++ (itr (FwwIntl0) (fstB (FwwInts0 p3) p3.length) p3)) ((FwwU32 p0 p2 (IntKind.wrap .u32 (((itr (FwwIntl0) (fstB (FwwInts0 p3) p3.length) p3).length : Nat) : Int))) ++ (itr (FwwIntl0) (fstB (FwwInts0 p3) p3.length) p3))) ((FwwU32 p0 p2 (IntKind.wrap .u32 (((itr (FwwIntl0) (fstB (FwwInts0 p3) p3.length) p3).length : Nat) : Int))) ++ (itr (FwwIntl0) (fstB (FwwInts0 p3) p3.length) p3))) (sel (decide (((((itr (FwwIntl0) p3.length p3).length : Nat) : Int) : Int) > 0)) (sel (decide (((itr (FwwIntl0) p3.length p3).getD 0 0 : Int) ≥ 128)) (((FwwU32 p0 p2 (IntKind.wrap .u32 ((((itr (FwwIntl0) p3.length p3).length) + 1 : Nat) : Int))) ++ [0]) ++ (itr (FwwIntl0) p3.length p3)) ((FwwU32 p0 p2 (IntKind.wrap .u32 (((itr (FwwIntl0) p3.length p3).length : Nat) : Int))) ++ (itr (FwwIntl0) p3.length p3))) ((FwwU32 p0 p2 (IntKind.wrap .u32 (((itr (FwwIntl0) p3.length p3).length : Nat) : Int))) ++ (itr (FwwIntl0) p3.length p3))))
noncomputable def FwwIntn0 (p0 : Nat) (p2 : List Int) (p3 : List Int) : Nat :=
  (sel (Nat.blt (fstB (FwwInts0 p3) p3.length) p3.length) (sel (decide (((((itr (FwwIntl0) (fstB (FwwInts0 p3) p3.length) p3).length : Nat) : Int) : Int) > 0)) (sel (decide (((itr (FwwIntl0) (fstB (FwwInts0 p3) p3.length) p3).getD 0 0 : Int) ≥ 128)) (((p0 + 4) + 1) + ((itr (FwwIntl0) (fstB (FwwInts0 p3) p3.length) p3).length)) ((p0 + 4) + ((itr (FwwIntl0) (fstB (FwwInts0 p3) p3.length) p3).length))) ((p0 + 4) + ((itr (FwwIntl0) (fstB (FwwInts0 p3) p3.length) p3).length))) (sel (decide (((((itr (FwwIntl0) p3.length p3).length : Nat) : Int) : Int) > 0)) (sel (decide (((itr (FwwIntl0) p3.length p3).getD 0 0 : Int) ≥ 128)) (((p0 + 4) + 1) + ((itr (FwwIntl0) p3.length p3).length)) ((p0 + 4) + ((itr (FwwIntl0) p3.length p3).length))) ((p0 + 4) + ((itr (FwwIntl0) p3.length p3).length))))
noncomputable def SwwInt : List AV → List Blk → Option (Prop × Ret)
  | [.sc (.sl 0 0 p0 1 none), .sc (.ro .u8 p3)], [.ints .u8 p1 p2] => some (((p0 = p1) ∧ (p0 ≤ 1000000000 ∧ p3.length ≤ 1000000000)), ⟨.sc (.sl 1 0 (FwwIntn0 p0 p2 p3) 1 none), [none, some (.ints .u8 (FwwIntn0 p0 p2 p3) (FwwInt p0 p2 p3))]⟩)
  | _, _ => none
noncomputable def BwwInt : Bs := { P := Go.Proofs.Tryd.prog, G := gD, tab := tabOf [⟨34, 384, [.io, .val], [], [0], ⟨1, 1, SwwU32⟩, false⟩, ⟨34, 400, [.io, .val], [], [0], ⟨1, 1, SwwU32⟩, false⟩], n := 42 }
theorem BwwInt.ok : BwwInt.Ok := ⟨tabOk (P := Go.Proofs.Tryd.prog) (G := gD) (l := [⟨34, 384, [.io, .val], [], [0], ⟨1, 1, SwwU32⟩, false⟩, ⟨34, 400, [.io, .val], [], [0], ⟨1, 1, SwwU32⟩, false⟩]) (And.intro KwwU32 (And.intro KwwU32 True.intro)), mixed⟩
theorem KwwInt : Known Go.Proofs.Tryd.prog gD 61 ⟨1, 1, SwwInt⟩ := by
 refine Known.walk (B := BwwInt) (fn := Go.Proofs.Tryd.f61) BwwInt.ok (by kernel_rfl) rfl (by kernel_rfl) (by kernel_rfl) (by decide) (by decide) ?_
 intro E args ks C r h hC hlen
 simp only at h
 unfold SwwInt at h
 split at h
 rotate_left
 cases h
 rename_i p0 p3 p1 p2
 cases h
 simp only [lens] at hlen
 obtain ⟨hEp1, hC⟩ := hC
 subst hEp1
 refine ⟨show 2 ≤ 42 from by decide, ?_⟩
 refine Tri.sub (Sub.of_eq (show _ = ([(0, .sc (.sl 0 0 p0 1 none)), (1, .sc (.ro .u8 p3))], [(0, .ints .u8 p0 p2)]) from rfl)) ?_
 refine sq [] none [0, 1] [0] ([(0, .sc (.sl 0 0 p0 1 none)), (1, .sc (.ro .u8 p3))], [(0, .ints .u8 p0 p2)]) 32 (t1 pT) ?_
 refine Tri.seq ?_
 refine Tri.block ?_
 refine Tri.count 32 p3.length (FwwIntl0) p3 (fun k0 z0 => z0.length = p3.length - k0 ∧ (∀ j, j < k0 → (FwwInts0 p3) j = false)) (fun k0 z0 => ([(0, .sc (.sl 0 0 p0 1 none)), (1, .sc (.ro .u8 z0))], [(0, .ints .u8 p0 p2)])) (⟨(by omega), (fun j hj => absurd hj (Nat.not_lt_zero j))⟩) (Sub.of_eq (by kernel_rfl)) ?_
 intro k0 z0 hk0 hz0 hJ0
 refine Tri.seq ?_
 refine Tri.split (decide ((((z0.length : Nat) : Int) : Int) > 0)) (fun h1 => ?_) (fun h1 => ?_)
 have h1' := of_decide_eq_true h1
 refine sq [(8, qb true)] none [13, 0, 1] [0] ([(13, .sc (.b ((z0.getD 0 0 : Int) == 0))), (0, .sc (.sl 0 0 p0 1 none)), (1, .sc (.ro .u8 z0))], [(0, .ints .u8 p0 p2)]) 176 (t3 (pg h1 (t1 (pu (lo ((0 : Int) ≤ 0 ∧ 0 < (z0.length : Int))) (pu (lo (0 < z0.length)) (t2 pT)))))) ?_
 refine Tri.cond (x := ((z0.getD 0 0 : Int) == 0)) (by kernel_rfl) (fun h2 => ?_) (fun h2 => ?_)
 have h2' := eq_true_i h2
 refine Tri.skip ?_
 change Tri _ _ _ _ _ _
 refine Tri.block ?_
 refine rq [] none [1, 0] [0] ([(1, .sc (.ro .u8 ((z0.drop 1).take (z0.length - 1)))), (0, .sc (.sl 0 0 p0 1 none))], [(0, .ints .u8 p0 p2)]) 224 (t1 (pu (lo ((0 : Int) ≤ 1 ∧ (1 : Int) ≤ ((z0.length : Nat) : Int) ∧ ((z0.length : Nat) : Int) ≤ (z0.length : Int))) (t1 pT))) ?_
 repeat (refine blkP_normal ?_)
 refine countP_normal (by have := of_decide_eq_true h1; omega) (⟨(show ((z0.drop 1).take (z0.length - 1)).length = p3.length - (k0 + 1) by simp only [List.length_take, List.length_drop]; omega), (below_succ hJ0.2 (by subst hz0; simp only [FwwInts0, h1, h2, sel_true, sel_false]))⟩) ?_
 exact sp [(0, 0)] [0, 1]
 have h2' := eq_false_i h2
 refine Tri.exit ?_
 subst hz0
 have hf0 : fstB (FwwInts0 p3) p3.length = k0 := fst_found (by omega) hJ0.2 (by simp only [FwwInts0, h1, h2, sel_true, sel_false])
 have hb0 : Nat.blt k0 p3.length = true := blt_true (by omega)
 have hq0 : Nat.blt (fstB (FwwInts0 p3) p3.length) p3.length = true := by rw [hf0]; exact hb0
 change Tri _ _ _ _ _ _
 refine Tri.seq ?_
 refine Tri.split (decide (((((itr (FwwIntl0) k0 p3).length : Nat) : Int) : Int) > 0)) (fun h3 => ?_) (fun h3 => ?_)
 have h3' := of_decide_eq_true h3
 refine sq [(19, qb true)] none [24, 0, 1] [0] ([(24, .sc (.b (decide (((itr (FwwIntl0) k0 p3).getD 0 0 : Int) ≥ 128)))), (0, .sc (.sl 0 0 p0 1 none)), (1, .sc (.ro .u8 (itr (FwwIntl0) k0 p3)))], [(0, .ints .u8 p0 p2)]) 320 (t3 (pg h3 (t1 (pu (lo ((0 : Int) ≤ 0 ∧ 0 < ((itr (FwwIntl0) k0 p3).length : Int))) (pu (lo (0 < (itr (FwwIntl0) k0 p3).length)) (t2 pT)))))) ?_
 refine Tri.cond (x := (decide (((itr (FwwIntl0) k0 p3).getD 0 0 : Int) ≥ 128))) (by kernel_rfl) (fun h4 => ?_) (fun h4 => ?_)
 have h4' := of_decide_eq_true h4
 refine sq [(28, qi ((((itr (FwwIntl0) k0 p3).length) + 1 : Nat) : Int))] none [4] [464] ([(4, .sc (.sl 464 0 (((p0 + 4) + 1) + ((itr (FwwIntl0) k0 p3).length)) 1 none))], [(464, .ints .u8 (((p0 + 4) + 1) + ((itr (FwwIntl0) k0 p3).length)) (((FwwU32 p0 p2 (IntKind.wrap .u32 ((((itr (FwwIntl0) k0 p3).length) + 1 : Nat) : Int))) ++ [0]) ++ (itr (FwwIntl0) k0 p3)))]) 496 (t3 (pv pT (pl (show (iAdd .i64 (((itr (FwwIntl0) k0 p3).length : Nat) : Int) 1) = ((((itr (FwwIntl0) k0 p3).length) + 1 : Nat) : Int) from iAdd_nat (a := (itr (FwwIntl0) k0 p3).length) (b := 1) (by omega))) (t1 (pu (pa pT (pa (lr (p0 = p0)) (lo (p0 ≤ 1000000000)))) (pu (pa (pa (pa (lo (0 < 1)) (lr (1 = 1))) pT) (pa (lo (1 * 1 ≤ 16777216)) (lr (1 = 1)))) (pu (pa (pa (pa (pa (lo (0 + 1 ≤ 1)) (lr (1 = 1))) (pa (lo (0 < 1)) (pa (lo (((p0 + 4) + 1) * 1 ≤ 140737488355328)) (lo ((p0 + 4) + 1 ≤ 140737488355328))))) (lo (1 = 1 * 1))) (pa (lr (1 = 1)) (lo (0 + (p0 + 4) * 1 = p0 + 4)))) (t1 (pu (pa (pa (pa (pa pT (lr (1 = 1))) (pa (lo (0 < 1)) (pa (lo ((((p0 + 4) + 1) + ((itr (FwwIntl0) k0 p3).length)) * 1 ≤ 140737488355328)) (lo (((p0 + 4) + 1) + ((itr (FwwIntl0) k0 p3).length) ≤ 140737488355328))))) (lo ((itr (FwwIntl0) k0 p3).length = ((itr (FwwIntl0) k0 p3).length) * 1))) (pa (lr (1 = 1)) (lo (0 + ((p0 + 4) + 1) * 1 = (p0 + 4) + 1)))) (t1 pT))))))))) ?_
 refine Tri.ret ?_
 refine rt ?_
 refine endP.conv (r' := ⟨.sc (.sl 1 0 (((p0 + 4) + 1) + ((itr (FwwIntl0) k0 p3).length)) 1 none), [none, some (.ints .u8 (((p0 + 4) + 1) + ((itr (FwwIntl0) k0 p3).length)) (((FwwU32 p0 p2 (IntKind.wrap .u32 ((((itr (FwwIntl0) k0 p3).length) + 1 : Nat) : Int))) ++ [0]) ++ (itr (FwwIntl0) k0 p3)))]⟩) (by simp only [FwwInt, FwwIntn0, hq0, hf0, hb0, h3, h4, sel_true, sel_false]) ?_
 exact er [(464, 1)] pz
 have h4' := of_decide_eq_false h4
 refine Tri.skip ?_
 change Tri _ _ _ _ _ _
 refine sq [] none [4] [416] ([(4, .sc (.sl 416 0 ((p0 + 4) + ((itr (FwwIntl0) k0 p3).length)) 1 none))], [(416, .ints .u8 ((p0 + 4) + ((itr (FwwIntl0) k0 p3).length)) ((FwwU32 p0 p2 (IntKind.wrap .u32 (((itr (FwwIntl0) k0 p3).length : Nat) : Int))) ++ (itr (FwwIntl0) k0 p3)))]) 448 (t4 (pu (pa pT (pa (lr (p0 = p0)) (lo (p0 ≤ 1000000000)))) (t1 (pu (pa (pa (pa (pa pT (lr (1 = 1))) (pa (lo (0 < 1)) (pa (lo (((p0 + 4) + ((itr (FwwIntl0) k0 p3).length)) * 1 ≤ 140737488355328)) (lo ((p0 + 4) + ((itr (FwwIntl0) k0 p3).length) ≤ 140737488355328))))) (lo ((itr (FwwIntl0) k0 p3).length = ((itr (FwwIntl0) k0 p3).length) * 1))) (pa (lr (1 = 1)) (lo (0 + (p0 + 4) * 1 = p0 + 4)))) (t1 pT))))) ?_
 refine Tri.ret ?_
 refine rt ?_
 refine endP.conv (r' := ⟨.sc (.sl 1 0 ((p0 + 4) + ((itr (FwwIntl0) k0 p3).length)) 1 none), [none, some (.ints .u8 ((p0 + 4) + ((itr (FwwIntl0) k0 p3).length)) ((FwwU32 p0 p2 (IntKind.wrap .u32 (((itr (FwwIntl0) k0 p3).length : Nat) : Int))) ++ (itr (FwwIntl0) k0 p3)))]⟩) (by simp only [FwwInt, FwwIntn0, hq0, hf0, hb0, h3, h4, sel_true, sel_false]) ?_
 exact er [(416, 1)] pz
 have h3' := of_decide_eq_false h3
 refine sq [(19, qb false)] none [24, 0, 1] [0] ([(24, .sc (.b false)), (0, .sc (.sl 0 0 p0 1 none)), (1, .sc (.ro .u8 (itr (FwwIntl0) k0 p3)))], [(0, .ints .u8 p0 p2)]) 320 (t3 (pg h3 (t5 pT))) ?_
 refine Tri.cond_false (by kernel_rfl) ?_
 refine Tri.skip ?_
 change Tri _ _ _ _ _ _
 refine sq [] none [4] [416] ([(4, .sc (.sl 416 0 ((p0 + 4) + ((itr (FwwIntl0) k0 p3).length)) 1 none))], [(416, .ints .u8 ((p0 + 4) + ((itr (FwwIntl0) k0 p3).length)) ((FwwU32 p0 p2 (IntKind.wrap .u32 (((itr (FwwIntl0) k0 p3).length : Nat) : Int))) ++ (itr (FwwIntl0) k0 p3)))]) 448 (t4 (pu (pa pT (pa (lr (p0 = p0)) (lo (p0 ≤ 1000000000)))) (t1 (pu (pa (pa (pa (pa pT (lr (1 = 1))) (pa (lo (0 < 1)) (pa (lo (((p0 + 4) + ((itr (FwwIntl0) k0 p3).length)) * 1 ≤ 140737488355328)) (lo ((p0 + 4) + ((itr (FwwIntl0) k0 p3).length) ≤ 140737488355328))))) (lo ((itr (FwwIntl0) k0 p3).length = ((itr (FwwIntl0) k0 p3).length) * 1))) (pa (lr (1 = 1)) (lo (0 + (p0 + 4) * 1 = p0 + 4)))) (t1 pT))))) ?_
 refine Tri.ret ?_
 refine rt ?_
 refine endP.conv (r' := ⟨.sc (.sl 1 0 ((p0 + 4) + ((itr (FwwIntl0) k0 p3).length)) 1 none), [none, some (.ints .u8 ((p0 + 4) + ((itr (FwwIntl0) k0 p3).length)) ((FwwU32 p0 p2 (IntKind.wrap .u32 (((itr (FwwIntl0) k0 p3).length : Nat) : Int))) ++ (itr (FwwIntl0) k0 p3)))]⟩) (by simp only [FwwInt, FwwIntn0, hq0, hf0, hb0, h3, sel_true, sel_false]) ?_
 exact er [(416, 1)] pz
 have h1' := of_decide_eq_false h1
 refine sq [(8, qb false)] none [13, 0, 1] [0] ([(13, .sc (.b false)), (0, .sc (.sl 0 0 p0 1 none)), (1, .sc (.ro .u8 z0))], [(0, .ints .u8 p0 p2)]) 176 (t3 (pg h1 (t5 pT))) ?_
 refine Tri.cond_false (by kernel_rfl) ?_
 refine Tri.exit ?_
 have hend0 : k0 = p3.length := by (have := of_decide_eq_false h1; omega)
 subst hend0; subst hz0
 have hf0 : fstB (FwwInts0 p3) p3.length = p3.length := fst_none hJ0.2
 have hb0 : Nat.blt p3.length p3.length = false := blt_self _
 have hq0 : Nat.blt (fstB (FwwInts0 p3) p3.length) p3.length = false := by rw [hf0]; exact hb0
 change Tri _ _ _ _ _ _
 refine Tri.seq ?_
 refine Tri.split (decide (((((itr (FwwIntl0) p3.length p3).length : Nat) : Int) : Int) > 0)) (fun h5 => ?_) (fun h5 => ?_)
 have h5' := of_decide_eq_true h5
 refine sq [(19, qb true)] none [24, 0, 1] [0] ([(24, .sc (.b (decide (((itr (FwwIntl0) p3.length p3).getD 0 0 : Int) ≥ 128)))), (0, .sc (.sl 0 0 p0 1 none)), (1, .sc (.ro .u8 (itr (FwwIntl0) p3.length p3)))], [(0, .ints .u8 p0 p2)]) 320 (t3 (pg h5 (t1 (pu (lo ((0 : Int) ≤ 0 ∧ 0 < ((itr (FwwIntl0) p3.length p3).length : Int))) (pu (lo (0 < (itr (FwwIntl0) p3.length p3).length)) (t2 pT)))))) ?_
 refine Tri.cond (x := (decide (((itr (FwwIntl0) p3.length p3).getD 0 0 : Int) ≥ 128))) (by kernel_rfl) (fun h6 => ?_) (fun h6 => ?_)
 have h6' := of_decide_eq_true h6
 refine sq [(28, qi ((((itr (FwwIntl0) p3.length p3).length) + 1 : Nat) : Int))] none [4] [464] ([(4, .sc (.sl 464 0 (((p0 + 4) + 1) + ((itr (FwwIntl0) p3.length p3).length)) 1 none))], [(464, .ints .u8 (((p0 + 4) + 1) + ((itr (FwwIntl0) p3.length p3).length)) (((FwwU32 p0 p2 (IntKind.wrap .u32 ((((itr (FwwIntl0) p3.length p3).length) + 1 : Nat) : Int))) ++ [0]) ++ (itr (FwwIntl0) p3.length p3)))]) 496 (t3 (pv pT (pl (show (iAdd .i64 (((itr (FwwIntl0) p3.length p3).length : Nat) : Int) 1) = ((((itr (FwwIntl0) p3.length p3).length) + 1 : Nat) : Int) from iAdd_nat (a := (itr (FwwIntl0) p3.length p3).length) (b := 1) (by omega))) (t1 (pu (pa pT (pa (lr (p0 = p0)) (lo (p0 ≤ 1000000000)))) (pu (pa (pa (pa (lo (0 < 1)) (lr (1 = 1))) pT) (pa (lo (1 * 1 ≤ 16777216)) (lr (1 = 1)))) (pu (pa (pa (pa (pa (lo (0 + 1 ≤ 1)) (lr (1 = 1))) (pa (lo (0 < 1)) (pa (lo (((p0 + 4) + 1) * 1 ≤ 140737488355328)) (lo ((p0 + 4) + 1 ≤ 140737488355328))))) (lo (1 = 1 * 1))) (pa (lr (1 = 1)) (lo (0 + (p0 + 4) * 1 = p0 + 4)))) (t1 (pu (pa (pa (pa (pa pT (lr (1 = 1))) (pa (lo (0 < 1)) (pa (lo ((((p0 + 4) + 1) + ((itr (FwwIntl0) p3.length p3).length)) * 1 ≤ 140737488355328)) (lo (((p0 + 4) + 1) + ((itr (FwwIntl0) p3.length p3).length) ≤ 140737488355328))))) (lo ((itr (FwwIntl0) p3.length p3).length = ((itr (FwwIntl0) p3.length p3).length) * 1))) (pa (lr (1 = 1)) (lo (0 + ((p0 + 4) + 1) * 1 = (p0 + 4) + 1)))) (t1 pT))))))))) ?_
 refine Tri.ret ?_
 refine rt ?_
 refine endP.conv (r' := ⟨.sc (.sl 1 0 (((p0 + 4) + 1) + ((itr (FwwIntl0) p3.length p3).length)) 1 none), [none, some (.ints .u8 (((p0 + 4) + 1) + ((itr (FwwIntl0) p3.length p3).length)) (((FwwU32 p0 p2 (IntKind.wrap .u32 ((((itr (FwwIntl0) p3.length p3).length) + 1 : Nat) : Int))) ++ [0]) ++ (itr (FwwIntl0) p3.length p3)))]⟩) (by simp only [FwwInt, FwwIntn0, hq0, hf0, hb0, h5, h6, sel_true, sel_false]) ?_
 exact er [(464, 1)] pz
 have h6' := of_decide_eq_false h6
 refine Tri.skip ?_
 change Tri _ _ _ _ _ _
 refine sq [] none [4] [416] ([(4, .sc (.sl 416 0 ((p0 + 4) + ((itr (FwwIntl0) p3.length p3).length)) 1 none))], [(416, .ints .u8 ((p0 + 4) + ((itr (FwwIntl0) p3.length p3).length)) ((FwwU32 p0 p2 (IntKind.wrap .u32 (((itr (FwwIntl0) p3.length p3).length : Nat) : Int))) ++ (itr (FwwIntl0) p3.length p3)))]) 448 (t4 (pu (pa pT (pa (lr (p0 = p0)) (lo (p0 ≤ 1000000000)))) (t1 (pu (pa (pa (pa (pa pT (lr (1 = 1))) (pa (lo (0 < 1)) (pa (lo (((p0 + 4) + ((itr (FwwIntl0) p3.length p3).length)) * 1 ≤ 140737488355328)) (lo ((p0 + 4) + ((itr (FwwIntl0) p3.length p3).length) ≤ 140737488355328))))) (lo ((itr (FwwIntl0) p3.length p3).length = ((itr (FwwIntl0) p3.length p3).length) * 1))) (pa (lr (1 = 1)) (lo (0 + (p0 + 4) * 1 = p0 + 4)))) (t1 pT))))) ?_
 refine Tri.ret ?_
 refine rt ?_
 refine endP.conv (r' := ⟨.sc (.sl 1 0 ((p0 + 4) + ((itr (FwwIntl0) p3.length p3).length)) 1 none), [none, some (.ints .u8 ((p0 + 4) + ((itr (FwwIntl0) p3.length p3).length)) ((FwwU32 p0 p2 (IntKind.wrap .u32 (((itr (FwwIntl0) p3.length p3).length : Nat) : Int))) ++ (itr (FwwIntl0) p3.length p3)))]⟩) (by simp only [FwwInt, FwwIntn0, hq0, hf0, hb0, h5, h6, sel_true, sel_false]) ?_
 exact er [(416, 1)] pz
 have h5' := of_decide_eq_false h5
 refine sq [(19, qb false)] none [24, 0, 1] [0] ([(24, .sc (.b false)), (0, .sc (.sl 0 0 p0 1 none)), (1, .sc (.ro .u8 (itr (FwwIntl0) p3.length p3)))], [(0, .ints .u8 p0 p2)]) 320 (t3 (pg h5 (t5 pT))) ?_
 refine Tri.cond_false (by kernel_rfl) ?_
 refine Tri.skip ?_
 change Tri _ _ _ _ _ _
 refine sq [] none [4] [416] ([(4, .sc (.sl 416 0 ((p0 + 4) + ((itr (FwwIntl0) p3.length p3).length)) 1 none))], [(416, .ints .u8 ((p0 + 4) + ((itr (FwwIntl0) p3.length p3).length)) ((FwwU32 p0 p2 (IntKind.wrap .u32 (((itr (FwwIntl0) p3.length p3).length : Nat) : Int))) ++ (itr (FwwIntl0) p3.length p3)))]) 448 (t4 (pu (pa pT (pa (lr (p0 = p0)) (lo (p0 ≤ 1000000000)))) (t1 (pu (pa (pa (pa (pa pT (lr (1 = 1))) (pa (lo (0 < 1)) (pa (lo (((p0 + 4) + ((itr (FwwIntl0) p3.length p3).length)) * 1 ≤ 140737488355328)) (lo ((p0 + 4) + ((itr (FwwIntl0) p3.length p3).length) ≤ 140737488355328))))) (lo ((itr (FwwIntl0) p3.length p3).length = ((itr (FwwIntl0) p3.length p3).length) * 1))) (pa (lr (1 = 1)) (lo (0 + (p0 + 4) * 1 = p0 + 4)))) (t1 pT))))) ?_
 refine Tri.ret ?_
 refine rt ?_
 refine endP.conv (r' := ⟨.sc (.sl 1 0 ((p0 + 4) + ((itr (FwwIntl0) p3.length p3).length)) 1 none), [none, some (.ints .u8 ((p0 + 4) + ((itr (FwwIntl0) p3.length p3).length)) ((FwwU32 p0 p2 (IntKind.wrap .u32 (((itr (FwwIntl0) p3.length p3).length : Nat) : Int))) ++ (itr (FwwIntl0) p3.length p3)))]⟩) (by simp only [FwwInt, FwwIntn0, hq0, hf0, hb0, h5, sel_true, sel_false]) ?_
 exact er [(416, 1)] pz
theorem le_FwwInt (k : Nat) (xs p3 : List Int) : FwwIntn0 k xs p3 ≤ k + p3.length + 5 := by
  have h0 : ∀ k, (itr FwwIntl0 k p3).length ≤ p3.length := by
    intro k
    induction k with
    | zero => rw [itr_zero]; exact Nat.le_refl _
    | succ k ih => rw [itr_succ]; show ((((itr FwwIntl0 k p3).drop 1).take ((itr FwwIntl0 k p3).length - 1)).length ≤ _); simp only [List.length_take, List.length_drop]; omega
  have s0 : ∀ (b : Bool) (x y : Nat), x ≤ k + p3.length + 5 → y ≤ k + p3.length + 5 → sel b x y ≤ k + p3.length + 5 := by
    intro b x y hx hy
    cases b
    · rw [sel_false]; exact hy
    · rw [sel_true]; exact hx
  have h1 := h0 (fstB (FwwInts0 p3) p3.length)
  have h2 := h0 p3.length
  unfold FwwIntn0
  repeat first | omega | apply s0
noncomputable def BwwIntz : Bs := { P := Go.Proofs.Tryd.prog, G := gD, tab := tabOf [⟨34, 384, [.io, .val], [], [0], ⟨1, 1, SwwU32⟩, false⟩, ⟨34, 400, [.io, .val], [], [0], ⟨1, 1, SwwU32⟩, false⟩], n := 42 }
theorem BwwIntz.ok : BwwIntz.Ok := ⟨tabOk (P := Go.Proofs.Tryd.prog) (G := gD) (l := [⟨34, 384, [.io, .val], [], [0], ⟨1, 1, SwwU32⟩, false⟩, ⟨34, 400, [.io, .val], [], [0], ⟨1, 1, SwwU32⟩, false⟩]) (And.intro KwwU32 (And.intro KwwU32 True.intro)), mixed⟩
noncomputable def FwwIntnl0 (k0 : Nat) (z0 : List Int) : List Int :=
  (z0.drop 1).take (z0.length - 1)
noncomputable def FwwIntns0 (p3 : List Int) (k0 : Nat) : Bool :=
  (sel (((itr (FwwIntnl0) k0 p3).getD 0 0 : Int) == 0) false true)
noncomputable def FwwIntn (p3 : List Int) : List Int :=
  (sel (Nat.blt (fstB (FwwIntns0 p3) p3.length) p3.length) (sel (decide (((((itr (FwwIntnl0) (fstB (FwwIntns0 p3) p3.length) p3).length : Nat) : Int) : Int) > 0)) (sel (decide (((itr (FwwIntnl0) (fstB (FwwIntns0 p3) p3.length) p3).getD 0 0 : Int) ≥ 128)) (((FwwU32n (IntKind.wrap .u32 ((((itr (FwwIntnl0) (fstB (FwwIntns0 p3) p3.length) p3).length) + 1 : Nat) : Int))) ++ [0]) ++ (itr (FwwIntnl0) (fstB (FwwIntns0 p3) p3.length) p3)) ((FwwU32n (IntKind.wrap .u32 (((itr (FwwIntnl0) (fstB (FwwIntns0 p3) p3.length) p3).length : Nat) : Int))) ++ (itr (FwwIntnl0) (fstB (FwwIntns0 p3) p3.length) p3))) ((FwwU32n (IntKind.wrap .u32 (((itr (FwwIntnl0) (fstB (FwwIntns0 p3) p3.length) p3).length : Nat) : Int))) ++ (itr (FwwIntnl0) (fstB (FwwIntns0 p3) p3.length) p3))) (sel (decide (((((itr (FwwIntnl0) p3.length p3).length : Nat) : Int) : Int) > 0)) (sel (decide (((itr (FwwIntnl0) p3.length p3).getD 0 0 : Int) ≥ 128)) (((FwwU32n (IntKind.wrap .u32 ((((itr (FwwIntnl0) p3.length p3).length) + 1 : Nat) : Int))) ++ [0]) ++ (itr (FwwIntnl0) p3.length p3)) ((FwwU32n (IntKind.wrap .u32 (((itr (FwwIntnl0) p3.length p3).length : Nat) : Int))) ++ (itr (FwwIntnl0) p3.length p3))) ((FwwU32n (IntKind.wrap .u32 (((itr (FwwIntnl0) p3.length p3).length : Nat) : Int))) ++ (itr (FwwIntnl0) p3.length p3))))
noncomputable def FwwIntnn0 (p3 : List Int) : Nat :=
  (sel (Nat.blt (fstB (FwwIntns0 p3) p3.length) p3.length) (sel (decide (((((itr (FwwIntnl0) (fstB (FwwIntns0 p3) p3.length) p3).length : Nat) : Int) : Int) > 0)) (sel (decide (((itr (FwwIntnl0) (fstB (FwwIntns0 p3) p3.length) p3).getD 0 0 : Int) ≥ 128)) (5 + ((itr (FwwIntnl0) (fstB (FwwIntns0 p3) p3.length) p3).length)) (4 + ((itr (FwwIntnl0) (fstB (FwwIntns0 p3) p3.length) p3).length))) (4 + ((itr (FwwIntnl0) (fstB (FwwIntns0 p3) p3.length) p3).length))) (sel (decide (((((itr (FwwIntnl0) p3.length p3).length : Nat) : Int) : Int) > 0)) (sel (decide (((itr (FwwIntnl0) p3.length p3).getD 0 0 : Int) ≥ 128)) (5 + ((itr (FwwIntnl0) p3.length p3).length)) (4 + ((itr (FwwIntnl0) p3.length p3).length))) (4 + ((itr (FwwIntnl0) p3.length p3).length))))
noncomputable def SwwIntn : List AV → List Blk → Option (Prop × Ret)
  | [.sc (.nils), .sc (.ro .u8 p3)], [] => some ((p3.length ≤ 1000000000), ⟨.sc (.sl 0 0 (FwwIntnn0 p3) 1 none), [some (.ints .u8 (FwwIntnn0 p3) (FwwIntn p3))]⟩)
  | _, _ => none
noncomputable def BwwIntn : Bs := { P := Go.Proofs.Tryd.prog, G := gD, tab := tabOf [⟨34, 384, [.val, .val], [], [], ⟨0, 1, SwwU32n⟩, false⟩, ⟨34, 400, [.val, .val], [], [], ⟨0, 1, SwwU32n⟩, false⟩], n := 42 }
theorem BwwIntn.ok : BwwIntn.Ok := ⟨tabOk (P := Go.Proofs.Tryd.prog) (G := gD) (l := [⟨34, 384, [.val, .val], [], [], ⟨0, 1, SwwU32n⟩, false⟩, ⟨34, 400, [.val, .val], [], [], ⟨0, 1, SwwU32n⟩, false⟩]) (And.intro KwwU32n (And.intro KwwU32n True.intro)), mixed⟩
theorem KwwIntn : Known Go.Proofs.Tryd.prog gD 61 ⟨0, 1, SwwIntn⟩ := by
 refine Known.walk (B := BwwIntn) (fn := Go.Proofs.Tryd.f61) BwwIntn.ok (by kernel_rfl) rfl (by kernel_rfl) (by kernel_rfl) (by decide) (by decide) ?_
 intro E args ks C r h hC hlen
 simp only at h
 unfold SwwIntn at h
 split at h
 rotate_left
 cases h
 rename_i p3
 cases h
 simp only [lens] at hlen
 refine ⟨show 2 ≤ 42 from by decide, ?_⟩
 refine Tri.sub (Sub.of_eq (show _ = ([(0, .sc (.nils)), (1, .sc (.ro .u8 p3))], []) from rfl)) ?_
 refine sq [] none [0, 1] [] ([(0, .sc (.nils)), (1, .sc (.ro .u8 p3))], []) 32 (t1 pT) ?_
 refine Tri.seq ?_
 refine Tri.block ?_
 refine Tri.count 32 p3.length (FwwIntnl0) p3 (fun k0 z0 => z0.length = p3.length - k0 ∧ (∀ j, j < k0 → (FwwIntns0 p3) j = false)) (fun k0 z0 => ([(0, .sc (.nils)), (1, .sc (.ro .u8 z0))], [])) (⟨(by omega), (fun j hj => absurd hj (Nat.not_lt_zero j))⟩) (Sub.of_eq (by kernel_rfl)) ?_
 intro k0 z0 hk0 hz0 hJ0
 refine Tri.seq ?_
 refine Tri.split (decide ((((z0.length : Nat) : Int) : Int) > 0)) (fun h1 => ?_) (fun h1 => ?_)
 have h1' := of_decide_eq_true h1
 refine sq [(8, qb true)] none [13, 0, 1] [] ([(13, .sc (.b ((z0.getD 0 0 : Int) == 0))), (0, .sc (.nils)), (1, .sc (.ro .u8 z0))], []) 176 (t3 (pg h1 (t1 (pu (lo ((0 : Int) ≤ 0 ∧ 0 < (z0.length : Int))) (pu (lo (0 < z0.length)) (t2 pT)))))) ?_
 refine Tri.cond (x := ((z0.getD 0 0 : Int) == 0)) (by kernel_rfl) (fun h2 => ?_) (fun h2 => ?_)
 have h2' := eq_true_i h2
 refine Tri.skip ?_
 change Tri _ _ _ _ _ _
 refine Tri.block ?_
 refine rq [] none [1, 0] [] ([(1, .sc (.ro .u8 ((z0.drop 1).take (z0.length - 1)))), (0, .sc (.nils))], []) 224 (t1 (pu (lo ((0 : Int) ≤ 1 ∧ (1 : Int) ≤ ((z0.length : Nat) : Int) ∧ ((z0.length : Nat) : Int) ≤ (z0.length : Int))) (t1 pT))) ?_
 repeat (refine blkP_normal ?_)
 refine countP_normal (by have := of_decide_eq_true h1; omega) (⟨(show ((z0.drop 1).take (z0.length - 1)).length = p3.length - (k0 + 1) by simp only [List.length_take, List.length_drop]; omega), (below_succ hJ0.2 (by subst hz0; simp only [FwwIntns0, h1, h2, sel_true, sel_false]))⟩) ?_
 exact sp [] [0, 1]
 have h2' := eq_false_i h2
 refine Tri.exit ?_
 subst hz0
 have hf0 : fstB (FwwIntns0 p3) p3.length = k0 := fst_found (by omega) hJ0.2 (by simp only [FwwIntns0, h1, h2, sel_true, sel_false])
 have hb0 : Nat.blt k0 p3.length = true := blt_true (by omega)
 have hq0 : Nat.blt (fstB (FwwIntns0 p3) p3.length) p3.length = true := by rw [hf0]; exact hb0
 change Tri _ _ _ _ _ _
 refine Tri.seq ?_
 refine Tri.split (decide (((((itr (FwwIntnl0) k0 p3).length : Nat) : Int) : Int) > 0)) (fun h3 => ?_) (fun h3 => ?_)
 have h3' := of_decide_eq_true h3
 refine sq [(19, qb true)] none [24, 0, 1] [] ([(24, .sc (.b (decide (((itr (FwwIntnl0) k0 p3).getD 0 0 : Int) ≥ 128)))), (0, .sc (.nils)), (1, .sc (.ro .u8 (itr (FwwIntnl0) k0 p3)))], []) 320 (t3 (pg h3 (t1 (pu (lo ((0 : Int) ≤ 0 ∧ 0 < ((itr (FwwIntnl0) k0 p3).length : Int))) (pu (lo (0 < (itr (FwwIntnl0) k0 p3).length)) (t2 pT)))))) ?_
 refine Tri.cond (x := (decide (((itr (FwwIntnl0) k0 p3).getD 0 0 : Int) ≥ 128))) (by kernel_rfl) (fun h4 => ?_) (fun h4 => ?_)
 have h4' := of_decide_eq_true h4
 refine sq [(28, qi ((((itr (FwwIntnl0) k0 p3).length) + 1 : Nat) : Int))] none [4] [464] ([(4, .sc (.sl 464 0 (5 + ((itr (FwwIntnl0) k0 p3).length)) 1 none))], [(464, .ints .u8 (5 + ((itr (FwwIntnl0) k0 p3).length)) (((FwwU32n (IntKind.wrap .u32 ((((itr (FwwIntnl0) k0 p3).length) + 1 : Nat) : Int))) ++ [0]) ++ (itr (FwwIntnl0) k0 p3)))]) 496 (t3 (pv pT (pl (show (iAdd .i64 (((itr (FwwIntnl0) k0 p3).length : Nat) : Int) 1) = ((((itr (FwwIntnl0) k0 p3).length) + 1 : Nat) : Int) from iAdd_nat (a := (itr (FwwIntnl0) k0 p3).length) (b := 1) (by omega))) (t1 (pu pz (pu (pa (pa (pa (lo (0 < 1)) (lr (1 = 1))) pT) (pa (lo (1 * 1 ≤ 16777216)) (lr (1 = 1)))) (pu (pa (pa (pa (pa (lo (0 + 1 ≤ 1)) (lr (1 = 1))) (pa (lo (0 < 1)) (pa (lo (5 * 1 ≤ 140737488355328)) (lo (5 ≤ 140737488355328))))) (lo (1 = 1 * 1))) (pa (lr (1 = 1)) (lo (0 + 4 * 1 = 4)))) (t1 (pu (pa (pa (pa (pa pT (lr (1 = 1))) (pa (lo (0 < 1)) (pa (lo ((5 + ((itr (FwwIntnl0) k0 p3).length)) * 1 ≤ 140737488355328)) (lo (5 + ((itr (FwwIntnl0) k0 p3).length) ≤ 140737488355328))))) (lo ((itr (FwwIntnl0) k0 p3).length = ((itr (FwwIntnl0) k0 p3).length) * 1))) (pa (lr (1 = 1)) (lo (0 + 5 * 1 = 5)))) (t1 pT))))))))) ?_
 refine Tri.ret ?_
 refine rt ?_
 refine endP.conv (r' := ⟨.sc (.sl 0 0 (5 + ((itr (FwwIntnl0) k0 p3).length)) 1 none), [some (.ints .u8 (5 + ((itr (FwwIntnl0) k0 p3).length)) (((FwwU32n (IntKind.wrap .u32 ((((itr (FwwIntnl0) k0 p3).length) + 1 : Nat) : Int))) ++ [0]) ++ (itr (FwwIntnl0) k0 p3)))]⟩) (by simp only [FwwIntn, FwwIntnn0, hq0, hf0, hb0, h3, h4, sel_true, sel_false]) ?_
 exact er [(464, 0)] pz
 have h4' := of_decide_eq_false h4
 refine Tri.skip ?_
 change Tri _ _ _ _ _ _
 refine sq [] none [4] [416] ([(4, .sc (.sl 416 0 (4 + ((itr (FwwIntnl0) k0 p3).length)) 1 none))], [(416, .ints .u8 (4 + ((itr (FwwIntnl0) k0 p3).length)) ((FwwU32n (IntKind.wrap .u32 (((itr (FwwIntnl0) k0 p3).length : Nat) : Int))) ++ (itr (FwwIntnl0) k0 p3)))]) 448 (t4 (pu pz (t1 (pu (pa (pa (pa (pa pT (lr (1 = 1))) (pa (lo (0 < 1)) (pa (lo ((4 + ((itr (FwwIntnl0) k0 p3).length)) * 1 ≤ 140737488355328)) (lo (4 + ((itr (FwwIntnl0) k0 p3).length) ≤ 140737488355328))))) (lo ((itr (FwwIntnl0) k0 p3).length = ((itr (FwwIntnl0) k0 p3).length) * 1))) (pa (lr (1 = 1)) (lo (0 + 4 * 1 = 4)))) (t1 pT))))) ?_
 refine Tri.ret ?_
 refine rt ?_
 refine endP.conv (r' := ⟨.sc (.sl 0 0 (4 + ((itr (FwwIntnl0) k0 p3).length)) 1 none), [some (.ints .u8 (4 + ((itr (FwwIntnl0) k0 p3).length)) ((FwwU32n (IntKind.wrap .u32 (((itr (FwwIntnl0) k0 p3).length : Nat) : Int))) ++ (itr (FwwIntnl0) k0 p3)))]⟩) (by simp only [FwwIntn, FwwIntnn0, hq0, hf0, hb0, h3, h4, sel_true, sel_false]) ?_
 exact er [(416, 0)] pz
 have h3' := of_decide_eq_false h3
 refine sq [(19, qb false)] none [24, 0, 1] [] ([(24, .sc (.b false)), (0, .sc (.nils)), (1, .sc (.ro .u8 (itr (FwwIntnl0) k0 p3)))], []) 320 (t3 (pg h3 (t5 pT))) ?_
 refine Tri.cond_false (by kernel_rfl) ?_
 refine Tri.skip ?_
 change Tri _ _ _ _ _ _
 refine sq [] none [4] [416] ([(4, .sc (.sl 416 0 (4 + ((itr (FwwIntnl0) k0 p3).length)) 1 none))], [(416, .ints .u8 (4 + ((itr (FwwIntnl0) k0 p3).length)) ((FwwU32n (IntKind.wrap .u32 (((itr (FwwIntnl0) k0 p3).length : Nat) : Int))) ++ (itr (FwwIntnl0) k0 p3)))]) 448 (t4 (pu pz (t1 (pu (pa (pa (pa (pa pT (lr (1 = 1))) (pa (lo (0 < 1)) (pa (lo ((4 + ((itr (FwwIntnl0) k0 p3).length)) * 1 ≤ 140737488355328)) (lo (4 + ((itr (FwwIntnl0) k0 p3).length) ≤ 140737488355328))))) (lo ((itr (FwwIntnl0) k0 p3).length = ((itr (FwwIntnl0) k0 p3).length) * 1))) (pa (lr (1 = 1)) (lo (0 + 4 * 1 = 4)))) (t1 pT))))) ?_
 refine Tri.ret ?_
 refine rt ?_
 refine endP.conv (r' := ⟨.sc (.sl 0 0 (4 + ((itr (FwwIntnl0) k0 p3).length)) 1 none), [some (.ints .u8 (4 + ((itr (FwwIntnl0) k0 p3).length)) ((FwwU32n (IntKind.wrap .u32 (((itr (FwwIntnl0) k0 p3).length : Nat) : Int))) ++ (itr (FwwIntnl0) k0 p3)))]⟩) (by simp only [FwwIntn, FwwIntnn0, hq0, hf0, hb0, h3, sel_true, sel_false]) ?_
 exact er [(416, 0)] pz
 have h1' := of_decide_eq_false h1
 refine sq [(8, qb false)] none [13, 0, 1] [] ([(13, .sc (.b false)), (0, .sc (.nils)), (1, .sc (.ro .u8 z0))], []) 176 (t3 (pg h1 (t5 pT))) ?_
 refine Tri.cond_false (by kernel_rfl) ?_
 refine Tri.exit ?_
 have hend0 : k0 = p3.length := by (have := of_decide_eq_false h1; omega)
 subst hend0; subst hz0
 have hf0 : fstB (FwwIntns0 p3) p3.length = p3.length := fst_none hJ0.2
 have hb0 : Nat.blt p3.length p3.length = false := blt_self _
 have hq0 : Nat.blt (fstB (FwwIntns0 p3) p3.length) p3.length = false := by rw [hf0]; exact hb0
 change Tri _ _ _ _ _ _
 refine Tri.seq ?_
 refine Tri.split (decide (((((itr (FwwIntnl0) p3.length p3).length : Nat) : Int) : Int) > 0)) (fun h5 => ?_) (fun h5 => ?_)
 have h5' := of_decide_eq_true h5
 refine sq [(19, qb true)] none [24, 0, 1] [] ([(24, .sc (.b (decide (((itr (FwwIntnl0) p3.length p3).getD 0 0 : Int) ≥ 128)))), (0, .sc (.nils)), (1, .sc (.ro .u8 (itr (FwwIntnl0) p3.length p3)))], []) 320 (t3 (pg h5 (t1 (pu (lo ((0 : Int) ≤ 0 ∧ 0 < ((itr (FwwIntnl0) p3.length p3).length : Int))) (pu (lo (0 < (itr (FwwIntnl0) p3.length p3).length)) (t2 pT)))))) ?_
 refine Tri.cond (x := (decide (((itr (FwwIntnl0) p3.length p3).getD 0 0 : Int) ≥ 128))) (by kernel_rfl) (fun h6 => ?_) (fun h6 => ?_)
 have h6' := of_decide_eq_true h6
 refine sq [(28, qi ((((itr (FwwIntnl0) p3.length p3).length) + 1 : Nat) : Int))] none [4] [464] ([(4, .sc (.sl 464 0 (5 + ((itr (FwwIntnl0) p3.length p3).length)) 1 none))], [(464, .ints .u8 (5 + ((itr (FwwIntnl0) p3.length p3).length)) (((FwwU32n (IntKind.wrap .u32 ((((itr (FwwIntnl0) p3.length p3).length) + 1 : Nat) : Int))) ++ [0]) ++ (itr (FwwIntnl0) p3.length p3)))]) 496 (t3 (pv pT (pl (show (iAdd .i64 (((itr (FwwIntnl0) p3.length p3).length : Nat) : Int) 1) = ((((itr (FwwIntnl0) p3.length p3).length) + 1 : Nat) : Int) from iAdd_nat (a := (itr (FwwIntnl0) p3.length p3).length) (b := 1) (by omega))) (t1 (pu pz (pu (pa (pa (pa (lo (0 < 1)) (lr (1 = 1))) pT) (pa (lo (1 * 1 ≤ 16777216)) (lr (1 = 1)))) (pu (pa (pa (pa (pa (lo (0 + 1 ≤ 1)) (lr (1 = 1))) (pa (lo (0 < 1)) (pa (lo (5 * 1 ≤ 140737488355328)) (lo (5 ≤ 140737488355328))))) (lo (1 = 1 * 1))) (pa (lr (1 = 1)) (lo (0 + 4 * 1 = 4)))) (t1 (pu (pa (pa (pa (pa pT (lr (1 = 1))) (pa (lo (0 < 1)) (pa (lo ((5 + ((itr (FwwIntnl0) p3.length p3).length)) * 1 ≤ 140737488355328)) (lo (5 + ((itr (FwwIntnl0) p3.length p3).length) ≤ 140737488355328))))) (lo ((itr (FwwIntnl0) p3.length p3).length = ((itr (FwwIntnl0) p3.length p3).length) * 1))) (pa (lr (1 = 1)) (lo (0 + 5 * 1 = 5)))) (t1 pT))))))))) ?_
 refine Tri.ret ?_
 refine rt ?_
 refine endP.conv (r' := ⟨.sc (.sl 0 0 (5 + ((itr (FwwIntnl0) p3.length p3).length)) 1 none), [some (.ints .u8 (5 + ((itr (FwwIntnl0) p3.length p3).length)) (((FwwU32n (IntKind.wrap .u32 ((((itr (FwwIntnl0) p3.length p3).length) + 1 : Nat) : Int))) ++ [0]) ++ (itr (FwwIntnl0) p3.length p3)))]⟩) (by simp only [FwwIntn, FwwIntnn0, hq0, hf0, hb0, h5, h6, sel_true, sel_false]) ?_
 exact er [(464, 0)] pz
 have h6' := of_decide_eq_false h6
 refine Tri.skip ?_
 change Tri _ _ _ _ _ _
 refine sq [] none [4] [416] ([(4, .sc (.sl 416 0 (4 + ((itr (FwwIntnl0) p3.length p3).length)) 1 none))], [(416, .ints .u8 (4 + ((itr (FwwIntnl0) p3.length p3).length)) ((FwwU32n (IntKind.wrap .u32 (((itr (FwwIntnl0) p3.length p3).length : Nat) : Int))) ++ (itr (FwwIntnl0) p3.length p3)))]) 448 (t4 (pu pz (t1 (pu (pa (pa (pa (pa pT (lr (1 = 1))) (pa (lo (0 < 1)) (pa (lo ((4 + ((itr (FwwIntnl0) p3.length p3).length)) * 1 ≤ 140737488355328)) (lo (4 + ((itr (FwwIntnl0) p3.length p3).length) ≤ 140737488355328))))) (lo ((itr (FwwIntnl0) p3.length p3).length = ((itr (FwwIntnl0) p3.length p3).length) * 1))) (pa (lr (1 = 1)) (lo (0 + 4 * 1 = 4)))) (t1 pT))))) ?_
 refine Tri.ret ?_
 refine rt ?_
 refine endP.conv (r' := ⟨.sc (.sl 0 0 (4 + ((itr (FwwIntnl0) p3.length p3).length)) 1 none), [some (.ints .u8 (4 + ((itr (FwwIntnl0) p3.length p3).length)) ((FwwU32n (IntKind.wrap .u32 (((itr (FwwIntnl0) p3.length p3).length : Nat) : Int))) ++ (itr (FwwIntnl0) p3.length p3)))]⟩) (by simp only [FwwIntn, FwwIntnn0, hq0, hf0, hb0, h5, h6, sel_true, sel_false]) ?_
 exact er [(416, 0)] pz
 have h5' := of_decide_eq_false h5
 refine sq [(19, qb false)] none [24, 0, 1] [] ([(24, .sc (.b false)), (0, .sc (.nils)), (1, .sc (.ro .u8 (itr (FwwIntnl0) p3.length p3)))], []) 320 (t3 (pg h5 (t5 pT))) ?_
 refine Tri.cond_false (by kernel_rfl) ?_
 refine Tri.skip ?_
 change Tri _ _ _ _ _ _
 refine sq [] none [4] [416] ([(4, .sc (.sl 416 0 (4 + ((itr (FwwIntnl0) p3.length p3).length)) 1 none))], [(416, .ints .u8 (4 + ((itr (FwwIntnl0) p3.length p3).length)) ((FwwU32n (IntKind.wrap .u32 (((itr (FwwIntnl0) p3.length p3).length : Nat) : Int))) ++ (itr (FwwIntnl0) p3.length p3)))]) 448 (t4 (pu pz (t1 (pu (pa (pa (pa (pa pT (lr (1 = 1))) (pa (lo (0 < 1)) (pa (lo ((4 + ((itr (FwwIntnl0) p3.length p3).length)) * 1 ≤ 140737488355328)) (lo (4 + ((itr (FwwIntnl0) p3.length p3).length) ≤ 140737488355328))))) (lo ((itr (FwwIntnl0) p3.length p3).length = ((itr (FwwIntnl0) p3.length p3).length) * 1))) (pa (lr (1 = 1)) (lo (0 + 4 * 1 = 4)))) (t1 pT))))) ?_
 refine Tri.ret ?_
 refine rt ?_
 refine endP.conv (r' := ⟨.sc (.sl 0 0 (4 + ((itr (FwwIntnl0) p3.length p3).length)) 1 none), [some (.ints .u8 (4 + ((itr (FwwIntnl0) p3.length p3).length)) ((FwwU32n (IntKind.wrap .u32 (((itr (FwwIntnl0) p3.length p3).length : Nat) : Int))) ++ (itr (FwwIntnl0) p3.length p3)))]⟩) (by simp only [FwwIntn, FwwIntnn0, hq0, hf0, hb0, h5, sel_true, sel_false]) ?_
 exact er [(416, 0)] pz
theorem le_FwwIntn (p3 : List Int) : FwwIntnn0 p3 ≤ p3.length + 5 := by
  have h0 : ∀ k, (itr FwwIntnl0 k p3).length ≤ p3.length := by
    intro k
    induction k with
    | zero => rw [itr_zero]; exact Nat.le_refl _
    | succ k ih => rw [itr_succ]; show ((((itr FwwIntnl0 k p3).drop 1).take ((itr FwwIntnl0 k p3).length - 1)).length ≤ _); simp only [List.length_take, List.length_drop]; omega
  have s0 : ∀ (b : Bool) (x y : Nat), x ≤ p3.length + 5 → y ≤ p3.length + 5 → sel b x y ≤ p3.length + 5 := by
    intro b x y hx hy
    cases b
    · rw [sel_false]; exact hy
    · rw [sel_true]; exact hx
  have h1 := h0 (fstB (FwwIntns0 p3) p3.length)
  have h2 := h0 p3.length
  unfold FwwIntnn0
  repeat first | omega | apply s0
noncomputable def BwwIntnz : Bs := { P := Go.Proofs.Tryd.prog, G := gD, tab := tabOf [⟨34, 384, [.val, .val], [], [], ⟨0, 1, SwwU32n⟩, false⟩, ⟨34, 400, [.val, .val], [], [], ⟨0, 1, SwwU32n⟩, false⟩], n := 42 }
theorem BwwIntnz.ok : BwwIntnz.Ok := ⟨tabOk (P := Go.Proofs.Tryd.prog) (G := gD) (l := [⟨34, 384, [.val, .val], [], [], ⟨0, 1, SwwU32n⟩, false⟩, ⟨34, 400, [.val, .val], [], [], ⟨0, 1, SwwU32n⟩, false⟩]) (And.intro KwwU32n (And.intro KwwU32n True.intro)), mixed⟩
noncomputable def FwwFlag (p0 : Nat) (p2 : List Int) (p3 : Bool) : List Int :=
  (sel p3 (p2 ++ [1]) (p2 ++ [0]))
noncomputable def SwwFlag : List AV → List Blk → Option (Prop × Ret)
  | [.sc (.sl 0 0 p0 1 none), .sc (.b p3)], [.ints .u8 p1 p2] => some (((p0 = p1) ∧ (p0 ≤ 1000000000)), ⟨.sc (.sl 1 0 (p0 + 1) 1 none), [none, some (.ints .u8 (p0 + 1) (FwwFlag p0 p2 p3))]⟩)
  | _, _ => none
noncomputable def BwwFlag : Bs := { P := Go.Proofs.Tryd.prog, G := gD, tab := tabOf [], n := 12 }
theorem BwwFlag.ok : BwwFlag.Ok := ⟨tabOk (P := Go.Proofs.Tryd.prog) (G := gD) (l := []) True.intro, mixed⟩
theorem KwwFlag : Known Go.Proofs.Tryd.prog gD 35 ⟨1, 1, SwwFlag⟩ := by
 refine Known.walk (B := BwwFlag) (fn := Go.Proofs.Tryd.f35) BwwFlag.ok (by kernel_rfl) rfl (by kernel_rfl) (by kernel_rfl) (by decide) (by decide) ?_
 intro E args ks C r h hC hlen
 simp only at h
 unfold SwwFlag at h
 split at h
 rotate_left
 cases h
 rename_i p0 p3 p1 p2
 cases h
 simp only [lens] at hlen
 obtain ⟨hEp1, hC⟩ := hC
 subst hEp1
 refine ⟨show 2 ≤ 12 from by decide, ?_⟩
 refine Tri.sub (Sub.of_eq (show _ = ([(0, .sc (.sl 0 0 p0 1 none)), (1, .sc (.b p3))], [(0, .ints .u8 p0 p2)]) from rfl)) ?_
 refine sq [] none [0, 1] [0] ([(0, .sc (.sl 0 0 p0 1 none)), (1, .sc (.b p3))], [(0, .ints .u8 p0 p2)]) 32 (t1 pT) ?_
 refine Tri.seq ?_
 refine sq [] none [5, 0] [0] ([(5, .sc (.b p3)), (0, .sc (.sl 0 0 p0 1 none))], [(0, .ints .u8 p0 p2)]) 48 (t1 pT) ?_
 refine Tri.cond (x := p3) (by kernel_rfl) (fun h1 => ?_) (fun h1 => ?_)
 refine sq [] none [4] [80] ([(4, .sc (.sl 80 0 (p0 + 1) 1 none))], [(80, .ints .u8 (p0 + 1) (p2 ++ [1]))]) 112 (t1 (pu (pa (pa (pa (lo (0 < 1)) (lr (1 = 1))) pT) (pa (lo (1 * 1 ≤ 16777216)) (lr (1 = 1)))) (pu (pa (pa (pa (pa (lo (0 + 1 ≤ 1)) (lr (1 = 1))) (pa (lo (0 < 1)) (pa (lo ((p0 + 1) * 1 ≤ 140737488355328)) (lo (p0 + 1 ≤ 140737488355328))))) (lo (1 = 1 * 1))) (pa (lr (1 = 1)) (lo (0 + p0 * 1 = p0)))) (t1 pT)))) ?_
 refine Tri.ret ?_
 refine rt ?_
 refine endP.conv (r' := ⟨.sc (.sl 1 0 (p0 + 1) 1 none), [none, some (.ints .u8 (p0 + 1) (p2 ++ [1]))]⟩) (by simp only [FwwFlag, h1, sel_true, sel_false]) ?_
 exact er [(80, 1)] pz
 refine Tri.skip ?_
 change Tri _ _ _ _ _ _
 refine sq [] none [4] [80] ([(4, .sc (.sl 80 0 (p0 + 1) 1 none))], [(80, .ints .u8 (p0 + 1) (p2 ++ [0]))]) 112 (t1 (pu (pa (pa (pa (lo (0 < 1)) (lr (1 = 1))) pT) (pa (lo (1 * 1 ≤ 16777216)) (lr (1 = 1)))) (pu (pa (pa (pa (pa (lo (0 + 1 ≤ 1)) (lr (1 = 1))) (pa (lo (0 < 1)) (pa (lo ((p0 + 1) * 1 ≤ 140737488355328)) (lo (p0 + 1 ≤ 140737488355328))))) (lo (1 = 1 * 1))) (pa (lr (1 = 1)) (lo (0 + p0 * 1 = p0)))) (t1 pT)))) ?_
 refine Tri.ret ?_
 refine rt ?_
 refine endP.conv (r' := ⟨.sc (.sl 1 0 (p0 + 1) 1 none), [none, some (.ints .u8 (p0 + 1) (p2 ++ [0]))]⟩) (by simp only [FwwFlag, h1, sel_true, sel_false]) ?_
 exact er [(80, 1)] pz
end Go.Vm
set_option linter.unusedVariables false
set_option linter.unusedSimpArgs false
set_option maxRecDepth 4000
set_option maxHeartbeats 2000000
namespace Go.Vm
open Go
noncomputable def FkOwn : List (List ByteArray) :=
  [[(⟨#[99, 117, 114, 118, 101, 50, 53, 53, 49, 57, 45, 115, 104, 97, 50, 53, 54]⟩ : ByteArray)], [(⟨#[115, 115, 104, 45, 101, 100, 50, 53, 53, 49, 57]⟩ : ByteArray)], [(⟨#[97, 101, 115, 49, 50, 56, 45, 99, 116, 114]⟩ : ByteArray)], [(⟨#[97, 101, 115, 49, 50, 56, 45, 99, 116, 114]⟩ : ByteArray)], [(⟨#[104, 109, 97, 99, 45, 115, 104, 97, 50, 45, 50, 53, 54]⟩ : ByteArray)], [(⟨#[104, 109, 97, 99, 45, 115, 104, 97, 50, 45, 50, 53, 54]⟩ : ByteArray)], [(⟨#[110, 111, 110, 101]⟩ : ByteArray)], [(⟨#[110, 111, 110, 101]⟩ : ByteArray)]]
noncomputable def SkOwn : List AV → List Blk → Option (Prop × Ret)
  | [], [] => some (True, ⟨.arr .tab (FkOwn), []⟩)
  | _, _ => none
noncomputable def BkOwn : Bs := { P := Go.Proofs.Tryd.prog, G := gD, tab := tabOf [], n := 10 }
theorem BkOwn.ok : BkOwn.Ok := ⟨tabOk (P := Go.Proofs.Tryd.prog) (G := gD) (l := []) True.intro, mixed⟩
theorem KkOwn : Known Go.Proofs.Tryd.prog gD 18 ⟨0, 0, SkOwn⟩ := by
 refine Known.walk (B := BkOwn) (fn := Go.Proofs.Tryd.f18) BkOwn.ok (by kernel_rfl) rfl (by kernel_rfl) (by kernel_rfl) (by decide) (by decide) ?_
 intro E args ks C r h hC hlen
 simp only at h
 unfold SkOwn at h
 split at h
 rotate_left
 cases h
 skip
 cases h
 simp only [lens] at hlen
 refine ⟨show 0 ≤ 10 from by decide, ?_⟩
 refine Tri.sub (Sub.of_eq (show _ = ([], []) from rfl)) ?_
 refine sq [] none [0] [16] ([(0, .sc (.p 16 0))], [(16, .cells [.nils, .nils, .nils, .nils, .nils, .nils, .nils, .nils])]) 32 (t1 pT) ?_
 refine sq [] none [0] [16, 144, 128, 112, 96, 80, 64, 48, 32] ([(0, .sc (.p 16 0))], [(16, .cells [.sl 32 0 1 1 none, .sl 48 0 1 1 none, .sl 64 0 1 1 none, .sl 80 0 1 1 none, .sl 96 0 1 1 none, .sl 112 0 1 1 none, .sl 128 0 1 1 none, .sl 144 0 1 1 none]), (144, .cells [.s (⟨#[110, 111, 110, 101]⟩ : ByteArray)]), (128, .cells [.s (⟨#[110, 111, 110, 101]⟩ : ByteArray)]), (112, .cells [.s (⟨#[104, 109, 97, 99, 45, 115, 104, 97, 50, 45, 50, 53, 54]⟩ : ByteArray)]), (96, .cells [.s (⟨#[104, 109, 97, 99, 45, 115, 104, 97, 50, 45, 50, 53, 54]⟩ : ByteArray)]), (80, .cells [.s (⟨#[97, 101, 115, 49, 50, 56, 45, 99, 116, 114]⟩ : ByteArray)]), (64, .cells [.s (⟨#[97, 101, 115, 49, 50, 56, 45, 99, 116, 114]⟩ : ByteArray)]), (48, .cells [.s (⟨#[115, 115, 104, 45, 101, 100, 50, 53, 53, 49, 57]⟩ : ByteArray)]), (32, .cells [.s (⟨#[99, 117, 114, 118, 101, 50, 53, 53, 49, 57, 45, 115, 104, 97, 50, 53, 54]⟩ : ByteArray)])]) 192 (pu (pa (pa (pa (lo (0 < 1)) (lr (1 = 1))) pT) (pa (lo (1 * 1 ≤ 16777216)) (lr (1 = 1)))) (pu (pa (pa (pa (lo (0 < 1)) (lr (1 = 1))) pT) (pa (lo (1 * 1 ≤ 16777216)) (lr (1 = 1)))) (pu (pa (pa (pa (lo (0 < 1)) (lr (1 = 1))) pT) (pa (lo (1 * 1 ≤ 16777216)) (lr (1 = 1)))) (pu (pa (pa (pa (lo (0 < 1)) (lr (1 = 1))) pT) (pa (lo (1 * 1 ≤ 16777216)) (lr (1 = 1)))) (pu (pa (pa (pa (lo (0 < 1)) (lr (1 = 1))) pT) (pa (lo (1 * 1 ≤ 16777216)) (lr (1 = 1)))) (pu (pa (pa (pa (lo (0 < 1)) (lr (1 = 1))) pT) (pa (lo (1 * 1 ≤ 16777216)) (lr (1 = 1)))) (pu (pa (pa (pa (lo (0 < 1)) (lr (1 = 1))) pT) (pa (lo (1 * 1 ≤ 16777216)) (lr (1 = 1)))) (pu (pa (pa (pa (lo (0 < 1)) (lr (1 = 1))) pT) (pa (lo (1 * 1 ≤ 16777216)) (lr (1 = 1)))) (pu (pa (pa (lo (0 < 8)) (lr (1 = 1))) (pa (pa (lo (1 < 8)) (lr (1 = 1))) (pa (pa (lo (2 < 8)) (lr (1 = 1))) (pa (pa (lo (3 < 8)) (lr (1 = 1))) (pa (pa (lo (4 < 8)) (lr (1 = 1))) (pa (pa (lo (5 < 8)) (lr (1 = 1))) (pa (pa (lo (6 < 8)) (lr (1 = 1))) (pa (pa (lo (7 < 8)) (lr (1 = 1))) pT)))))))) (pu (pa (lo (0 + 8 ≤ 8)) (lr (8 = 8))) pT)))))))))) ?_
 refine Tri.sub (Sub.toVec (l := [.s (⟨#[99, 117, 114, 118, 101, 50, 53, 53, 49, 57, 45, 115, 104, 97, 50, 53, 54]⟩ : ByteArray)]) 32 .str ([(⟨#[99, 117, 114, 118, 101, 50, 53, 53, 49, 57, 45, 115, 104, 97, 50, 53, 54]⟩ : ByteArray)]) (by kernel_rfl) (by kernel_rfl)) ?_
 refine Tri.sub (Sub.still (s' := ([(0, .sc (.p 16 0))], [(16, .cells [.ros ([(⟨#[99, 117, 114, 118, 101, 50, 53, 53, 49, 57, 45, 115, 104, 97, 50, 53, 54]⟩ : ByteArray)]), .sl 48 0 1 1 none, .sl 64 0 1 1 none, .sl 80 0 1 1 none, .sl 96 0 1 1 none, .sl 112 0 1 1 none, .sl 128 0 1 1 none, .sl 144 0 1 1 none]), (144, .cells [.s (⟨#[110, 111, 110, 101]⟩ : ByteArray)]), (128, .cells [.s (⟨#[110, 111, 110, 101]⟩ : ByteArray)]), (112, .cells [.s (⟨#[104, 109, 97, 99, 45, 115, 104, 97, 50, 45, 50, 53, 54]⟩ : ByteArray)]), (96, .cells [.s (⟨#[104, 109, 97, 99, 45, 115, 104, 97, 50, 45, 50, 53, 54]⟩ : ByteArray)]), (80, .cells [.s (⟨#[97, 101, 115, 49, 50, 56, 45, 99, 116, 114]⟩ : ByteArray)]), (64, .cells [.s (⟨#[97, 101, 115, 49, 50, 56, 45, 99, 116, 114]⟩ : ByteArray)]), (48, .cells [.s (⟨#[115, 115, 104, 45, 101, 100, 50, 53, 53, 49, 57]⟩ : ByteArray)])])) 32 (.vec .str ([(⟨#[99, 117, 114, 118, 101, 50, 53, 53, 49, 57, 45, 115, 104, 97, 50, 53, 54]⟩ : ByteArray)])) (by kernel_rfl) (show 0 + 1 ≤ ([(⟨#[99, 117, 114, 118, 101, 50, 53, 53, 49, 57, 45, 115, 104, 97, 50, 53, 54]⟩ : ByteArray)]).length from by first | omega | (rw [adr_eq]; omega) | exact iAnd_nn _ _ | exact iSub_nn _ _ | exact part1_le (by omega) (by first | omega | (simp only [List.length_append]; omega)) | decide) (by kernel_rfl)) ?_
 refine Tri.sub (Sub.toVec (l := [.s (⟨#[115, 115, 104, 45, 101, 100, 50, 53, 53, 49, 57]⟩ : ByteArray)]) 48 .str ([(⟨#[115, 115, 104, 45, 101, 100, 50, 53, 53, 49, 57]⟩ : ByteArray)]) (by kernel_rfl) (by kernel_rfl)) ?_
 refine Tri.sub (Sub.still (s' := ([(0, .sc (.p 16 0))], [(16, .cells [.ros ([(⟨#[99, 117, 114, 118, 101, 50, 53, 53, 49, 57, 45, 115, 104, 97, 50, 53, 54]⟩ : ByteArray)]), .ros ([(⟨#[115, 115, 104, 45, 101, 100, 50, 53, 53, 49, 57]⟩ : ByteArray)]), .sl 64 0 1 1 none, .sl 80 0 1 1 none, .sl 96 0 1 1 none, .sl 112 0 1 1 none, .sl 128 0 1 1 none, .sl 144 0 1 1 none]), (144, .cells [.s (⟨#[110, 111, 110, 101]⟩ : ByteArray)]), (128, .cells [.s (⟨#[110, 111, 110, 101]⟩ : ByteArray)]), (112, .cells [.s (⟨#[104, 109, 97, 99, 45, 115, 104, 97, 50, 45, 50, 53, 54]⟩ : ByteArray)]), (96, .cells [.s (⟨#[104, 109, 97, 99, 45, 115, 104, 97, 50, 45, 50, 53, 54]⟩ : ByteArray)]), (80, .cells [.s (⟨#[97, 101, 115, 49, 50, 56, 45, 99, 116, 114]⟩ : ByteArray)]), (64, .cells [.s (⟨#[97, 101, 115, 49, 50, 56, 45, 99, 116, 114]⟩ : ByteArray)])])) 48 (.vec .str ([(⟨#[115, 115, 104, 45, 101, 100, 50, 53, 53, 49, 57]⟩ : ByteArray)])) (by kernel_rfl) (show 0 + 1 ≤ ([(⟨#[115, 115, 104, 45, 101, 100, 50, 53, 53, 49, 57]⟩ : ByteArray)]).length from by first | omega | (rw [adr_eq]; omega) | exact iAnd_nn _ _ | exact iSub_nn _ _ | exact part1_le (by omega) (by first | omega | (simp only [List.length_append]; omega)) | decide) (by kernel_rfl)) ?_
 refine Tri.sub (Sub.toVec (l := [.s (⟨#[97, 101, 115, 49, 50, 56, 45, 99, 116, 114]⟩ : ByteArray)]) 64 .str ([(⟨#[97, 101, 115, 49, 50, 56, 45, 99, 116, 114]⟩ : ByteArray)]) (by kernel_rfl) (by kernel_rfl)) ?_
 refine Tri.sub (Sub.still (s' := ([(0, .sc (.p 16 0))], [(16, .cells [.ros ([(⟨#[99, 117, 114, 118, 101, 50, 53, 53, 49, 57, 45, 115, 104, 97, 50, 53, 54]⟩ : ByteArray)]), .ros ([(⟨#[115, 115, 104, 45, 101, 100, 50, 53, 53, 49, 57]⟩ : ByteArray)]), .ros ([(⟨#[97, 101, 115, 49, 50, 56, 45, 99, 116, 114]⟩ : ByteArray)]), .sl 80 0 1 1 none, .sl 96 0 1 1 none, .sl 112 0 1 1 none, .sl 128 0 1 1 none, .sl 144 0 1 1 none]), (144, .cells [.s (⟨#[110, 111, 110, 101]⟩ : ByteArray)]), (128, .cells [.s (⟨#[110, 111, 110, 101]⟩ : ByteArray)]), (112, .cells [.s (⟨#[104, 109, 97, 99, 45, 115, 104, 97, 50, 45, 50, 53, 54]⟩ : ByteArray)]), (96, .cells [.s (⟨#[104, 109, 97, 99, 45, 115, 104, 97, 50, 45, 50, 53, 54]⟩ : ByteArray)]), (80, .cells [.s (⟨#[97, 101, 115, 49, 50, 56, 45, 99, 116, 114]⟩ : ByteArray)])])) 64 (.vec .str ([(⟨#[97, 101, 115, 49, 50, 56, 45, 99, 116, 114]⟩ : ByteArray)])) (by kernel_rfl) (show 0 + 1 ≤ ([(⟨#[97, 101, 115, 49, 50, 56, 45, 99, 116, 114]⟩ : ByteArray)]).length from by first | omega | (rw [adr_eq]; omega) | exact iAnd_nn _ _ | exact iSub_nn _ _ | exact part1_le (by omega) (by first | omega | (simp only [List.length_append]; omega)) | decide) (by kernel_rfl)) ?_
 refine Tri.sub (Sub.toVec (l := [.s (⟨#[97, 101, 115, 49, 50, 56, 45, 99, 116, 114]⟩ : ByteArray)]) 80 .str ([(⟨#[97, 101, 115, 49, 50, 56, 45, 99, 116, 114]⟩ : ByteArray)]) (by kernel_rfl) (by kernel_rfl)) ?_
 refine Tri.sub (Sub.still (s' := ([(0, .sc (.p 16 0))], [(16, .cells [.ros ([(⟨#[99, 117, 114, 118, 101, 50, 53, 53, 49, 57, 45, 115, 104, 97, 50, 53, 54]⟩ : ByteArray)]), .ros ([(⟨#[115, 115, 104, 45, 101, 100, 50, 53, 53, 49, 57]⟩ : ByteArray)]), .ros ([(⟨#[97, 101, 115, 49, 50, 56, 45, 99, 116, 114]⟩ : ByteArray)]), .ros ([(⟨#[97, 101, 115, 49, 50, 56, 45, 99, 116, 114]⟩ : ByteArray)]), .sl 96 0 1 1 none, .sl 112 0 1 1 none, .sl 128 0 1 1 none, .sl 144 0 1 1 none]), (144, .cells [.s (⟨#[110, 111, 110, 101]⟩ : ByteArray)]), (128, .cells [.s (⟨#[110, 111, 110, 101]⟩ : ByteArray)]), (112, .cells [.s (⟨#[104, 109, 97, 99, 45, 115, 104, 97, 50, 45, 50, 53, 54]⟩ : ByteArray)]), (96, .cells [.s (⟨#[104, 109, 97, 99, 45, 115, 104, 97, 50, 45, 50, 53, 54]⟩ : ByteArray)])])) 80 (.vec .str ([(⟨#[97, 101, 115, 49, 50, 56, 45, 99, 116, 114]⟩ : ByteArray)])) (by kernel_rfl) (show 0 + 1 ≤ ([(⟨#[97, 101, 115, 49, 50, 56, 45, 99, 116, 114]⟩ : ByteArray)]).length from by first | omega | (rw [adr_eq]; omega) | exact iAnd_nn _ _ | exact iSub_nn _ _ | exact part1_le (by omega) (by first | omega | (simp only [List.length_append]; omega)) | decide) (by kernel_rfl)) ?_
 refine Tri.sub (Sub.toVec (l := [.s (⟨#[104, 109, 97, 99, 45, 115, 104, 97, 50, 45, 50, 53, 54]⟩ : ByteArray)]) 96 .str ([(⟨#[104, 109, 97, 99, 45, 115, 104, 97, 50, 45, 50, 53, 54]⟩ : ByteArray)]) (by kernel_rfl) (by kernel_rfl)) ?_
 refine Tri.sub (Sub.still (s' := ([(0, .sc (.p 16 0))], [(16, .cells [.ros ([(⟨#[99, 117, 114, 118, 101, 50, 53, 53, 49, 57, 45, 115, 104, 97, 50, 53, 54]⟩ : ByteArray)]), .ros ([(⟨#[115, 115, 104, 45, 101, 100, 50, 53, 53, 49, 57]⟩ : ByteArray)]), .ros ([(⟨#[97, 101, 115, 49, 50, 56, 45, 99, 116, 114]⟩ : ByteArray)]), .ros ([(⟨#[97, 101, 115, 49, 50, 56, 45, 99, 116, 114]⟩ : ByteArray)]), .ros ([(⟨#[104, 109, 97, 99, 45, 115, 104, 97, 50, 45, 50, 53, 54]⟩ : ByteArray)]), .sl 112 0 1 1 none, .sl 128 0 1 1 none, .sl 144 0 1 1 none]), (144, .cells [.s (⟨#[110, 111, 110, 101]⟩ : ByteArray)]), (128, .cells [.s (⟨#[110, 111, 110, 101]⟩ : ByteArray)]), (112, .cells [.s (⟨#[104, 109, 97, 99, 45, 115, 104, 97, 50, 45, 50, 53, 54]⟩ : ByteArray)])])) 96 (.vec .str ([(⟨#[104, 109, 97, 99, 45, 115, 104, 97, 50, 45, 50, 53, 54]⟩ : ByteArray)])) (by kernel_rfl) (show 0 + 1 ≤ ([(⟨#[104, 109, 97, 99, 45, 115, 104, 97, 50, 45, 50, 53, 54]⟩ : ByteArray)]).length from by first | omega | (rw [adr_eq]; omega) | exact iAnd_nn _ _ | exact iSub_nn _ _ | exact part1_le (by omega) (by first | omega | (simp only [List.length_append]; omega)) | decide) (by kernel_rfl)) ?_
 refine Tri.sub (Sub.toVec (l := [.s (⟨#[104, 109, 97, 99, 45, 115, 104, 97, 50, 45, 50, 53, 54]⟩ : ByteArray)]) 112 .str ([(⟨#[104, 109, 97, 99, 45, 115, 104, 97, 50, 45, 50, 53, 54]⟩ : ByteArray)]) (by kernel_rfl) (by kernel_rfl)) ?_
 refine Tri.sub (Sub.still (s' := ([(0, .sc (.p 16 0))], [(16, .cells [.ros ([(⟨#[99, 117, 114, 118, 101, 50, 53, 53, 49, 57, 45, 115, 104, 97, 50, 53, 54]⟩ : ByteArray)]), .ros ([(⟨#[115, 115, 104, 45, 101, 100, 50, 53, 53, 49, 57]⟩ : ByteArray)]), .ros ([(⟨#[97, 101, 115, 49, 50, 56, 45, 99, 116, 114]⟩ : ByteArray)]), .ros ([(⟨#[97, 101, 115, 49, 50, 56, 45, 99, 116, 114]⟩ : ByteArray)]), .ros ([(⟨#[104, 109, 97, 99, 45, 115, 104, 97, 50, 45, 50, 53, 54]⟩ : ByteArray)]), .ros ([(⟨#[104, 109, 97, 99, 45, 115, 104, 97, 50, 45, 50, 53, 54]⟩ : ByteArray)]), .sl 128 0 1 1 none, .sl 144 0 1 1 none]), (144, .cells [.s (⟨#[110, 111, 110, 101]⟩ : ByteArray)]), (128, .cells [.s (⟨#[110, 111, 110, 101]⟩ : ByteArray)])])) 112 (.vec .str ([(⟨#[104, 109, 97, 99, 45, 115, 104, 97, 50, 45, 50, 53, 54]⟩ : ByteArray)])) (by kernel_rfl) (show 0 + 1 ≤ ([(⟨#[104, 109, 97, 99, 45, 115, 104, 97, 50, 45, 50, 53, 54]⟩ : ByteArray)]).length from by first | omega | (rw [adr_eq]; omega) | exact iAnd_nn _ _ | exact iSub_nn _ _ | exact part1_le (by omega) (by first | omega | (simp only [List.length_append]; omega)) | decide) (by kernel_rfl)) ?_
 refine Tri.sub (Sub.toVec (l := [.s (⟨#[110, 111, 110, 101]⟩ : ByteArray)]) 128 .str ([(⟨#[110, 111, 110, 101]⟩ : ByteArray)]) (by kernel_rfl) (by kernel_rfl)) ?_
 refine Tri.sub (Sub.still (s' := ([(0, .sc (.p 16 0))], [(16, .cells [.ros ([(⟨#[99, 117, 114, 118, 101, 50, 53, 53, 49, 57, 45, 115, 104, 97, 50, 53, 54]⟩ : ByteArray)]), .ros ([(⟨#[115, 115, 104, 45, 101, 100, 50, 53, 53, 49, 57]⟩ : ByteArray)]), .ros ([(⟨#[97, 101, 115, 49, 50, 56, 45, 99, 116, 114]⟩ : ByteArray)]), .ros ([(⟨#[97, 101, 115, 49, 50, 56, 45, 99, 116, 114]⟩ : ByteArray)]), .ros ([(⟨#[104, 109, 97, 99, 45, 115, 104, 97, 50, 45, 50, 53, 54]⟩ : ByteArray)]), .ros ([(⟨#[104, 109, 97, 99, 45, 115, 104, 97, 50, 45, 50, 53, 54]⟩ : ByteArray)]), .ros ([(⟨#[110, 111, 110, 101]⟩ : ByteArray)]), .sl 144 0 1 1 none]), (144, .cells [.s (⟨#[110, 111, 110, 101]⟩ : ByteArray)])])) 128 (.vec .str ([(⟨#[110, 111, 110, 101]⟩ : ByteArray)])) (by kernel_rfl) (show 0 + 1 ≤ ([(⟨#[110, 111, 110, 101]⟩ : ByteArray)]).length from by first | omega | (rw [adr_eq]; omega) | exact iAnd_nn _ _ | exact iSub_nn _ _ | exact part1_le (by omega) (by first | omega | (simp only [List.length_append]; omega)) | decide) (by kernel_rfl)) ?_
 refine Tri.sub (Sub.toVec (l := [.s (⟨#[110, 111, 110, 101]⟩ : ByteArray)]) 144 .str ([(⟨#[110, 111, 110, 101]⟩ : ByteArray)]) (by kernel_rfl) (by kernel_rfl)) ?_
 refine Tri.sub (Sub.still (s' := ([(0, .sc (.p 16 0))], [(16, .cells [.ros ([(⟨#[99, 117, 114, 118, 101, 50, 53, 53, 49, 57, 45, 115, 104, 97, 50, 53, 54]⟩ : ByteArray)]), .ros ([(⟨#[115, 115, 104, 45, 101, 100, 50, 53, 53, 49, 57]⟩ : ByteArray)]), .ros ([(⟨#[97, 101, 115, 49, 50, 56, 45, 99, 116, 114]⟩ : ByteArray)]), .ros ([(⟨#[97, 101, 115, 49, 50, 56, 45, 99, 116, 114]⟩ : ByteArray)]), .ros ([(⟨#[104, 109, 97, 99, 45, 115, 104, 97, 50, 45, 50, 53, 54]⟩ : ByteArray)]), .ros ([(⟨#[104, 109, 97, 99, 45, 115, 104, 97, 50, 45, 50, 53, 54]⟩ : ByteArray)]), .ros ([(⟨#[110, 111, 110, 101]⟩ : ByteArray)]), .ros ([(⟨#[110, 111, 110, 101]⟩ : ByteArray)])])])) 144 (.vec .str ([(⟨#[110, 111, 110, 101]⟩ : ByteArray)])) (by kernel_rfl) (show 0 + 1 ≤ ([(⟨#[110, 111, 110, 101]⟩ : ByteArray)]).length from by first | omega | (rw [adr_eq]; omega) | exact iAnd_nn _ _ | exact iSub_nn _ _ | exact part1_le (by omega) (by first | omega | (simp only [List.length_append]; omega)) | decide) (by kernel_rfl)) ?_
 refine Tri.sub (Sub.toVec (l := [.ros ([(⟨#[99, 117, 114, 118, 101, 50, 53, 53, 49, 57, 45, 115, 104, 97, 50, 53, 54]⟩ : ByteArray)]), .ros ([(⟨#[115, 115, 104, 45, 101, 100, 50, 53, 53, 49, 57]⟩ : ByteArray)]), .ros ([(⟨#[97, 101, 115, 49, 50, 56, 45, 99, 116, 114]⟩ : ByteArray)]), .ros ([(⟨#[97, 101, 115, 49, 50, 56, 45, 99, 116, 114]⟩ : ByteArray)]), .ros ([(⟨#[104, 109, 97, 99, 45, 115, 104, 97, 50, 45, 50, 53, 54]⟩ : ByteArray)]), .ros ([(⟨#[104, 109, 97, 99, 45, 115, 104, 97, 50, 45, 50, 53, 54]⟩ : ByteArray)]), .ros ([(⟨#[110, 111, 110, 101]⟩ : ByteArray)]), .ros ([(⟨#[110, 111, 110, 101]⟩ : ByteArray)])]) 16 .tab ([[(⟨#[99, 117, 114, 118, 101, 50, 53, 53, 49, 57, 45, 115, 104, 97, 50, 53, 54]⟩ : ByteArray)], [(⟨#[115, 115, 104, 45, 101, 100, 50, 53, 53, 49, 57]⟩ : ByteArray)], [(⟨#[97, 101, 115, 49, 50, 56, 45, 99, 116, 114]⟩ : ByteArray)], [(⟨#[97, 101, 115, 49, 50, 56, 45, 99, 116, 114]⟩ : ByteArray)], [(⟨#[104, 109, 97, 99, 45, 115, 104, 97, 50, 45, 50, 53, 54]⟩ : ByteArray)], [(⟨#[104, 109, 97, 99, 45, 115, 104, 97, 50, 45, 50, 53, 54]⟩ : ByteArray)], [(⟨#[110, 111, 110, 101]⟩ : ByteArray)], [(⟨#[110, 111, 110, 101]⟩ : ByteArray)]]) (by kernel_rfl) (by kernel_rfl)) ?_
 refine Tri.ret ?_
 refine rt ?_
 exact er [] (pa (lo (8 = ([[(⟨#[99, 117, 114, 118, 101, 50, 53, 53, 49, 57, 45, 115, 104, 97, 50, 53, 54]⟩ : ByteArray)], [(⟨#[115, 115, 104, 45, 101, 100, 50, 53, 53, 49, 57]⟩ : ByteArray)], [(⟨#[97, 101, 115, 49, 50, 56, 45, 99, 116, 114]⟩ : ByteArray)], [(⟨#[97, 101, 115, 49, 50, 56, 45, 99, 116, 114]⟩ : ByteArray)], [(⟨#[104, 109, 97, 99, 45, 115, 104, 97, 50, 45, 50, 53, 54]⟩ : ByteArray)], [(⟨#[104, 109, 97, 99, 45, 115, 104, 97, 50, 45, 50, 53, 54]⟩ : ByteArray)], [(⟨#[110, 111, 110, 101]⟩ : ByteArray)], [(⟨#[110, 111, 110, 101]⟩ : ByteArray)]]).length)) pT)
theorem own_at {k : Nat} (h : k < 8) : (0 : Int) ≤ 0 ∧ (0 : Int) < ((FkOwn.getD k []).length : Int) := (by decide : ∀ k < 8, (0 : Int) ≤ 0 ∧ (0 : Int) < ((FkOwn.getD k []).length : Int)) k h
theorem own_8 : FkOwn.length = 8 := by decide
def rows8 (p : List (List ByteArray)) : Prop := p.length = 8 ∧ ∀ k, (p.getD k []).length ≤ 1000000000
noncomputable def FkrOwn : List (List ByteArray) :=
  [[(⟨#[99, 117, 114, 118, 101, 50, 53, 53, 49, 57, 45, 115, 104, 97, 50, 53, 54]⟩ : ByteArray)], [(⟨#[115, 115, 104, 45, 101, 100, 50, 53, 53, 49, 57]⟩ : ByteArray)], [(⟨#[97, 101, 115, 49, 50, 56, 45, 99, 116, 114]⟩ : ByteArray)], [(⟨#[97, 101, 115, 49, 50, 56, 45, 99, 116, 114]⟩ : ByteArray)], [(⟨#[104, 109, 97, 99, 45, 115, 104, 97, 50, 45, 50, 53, 54]⟩ : ByteArray)], [(⟨#[104, 109, 97, 99, 45, 115, 104, 97, 50, 45, 50, 53, 54]⟩ : ByteArray)], [(⟨#[110, 111, 110, 101]⟩ : ByteArray)], [(⟨#[110, 111, 110, 101]⟩ : ByteArray)]]
noncomputable def SkrOwn : List AV → List Blk → Option (Prop × Ret)
  | [], [] => some (True, ⟨.arr .tab (FkrOwn), []⟩)
  | _, _ => none
noncomputable def BkrOwn : Bs := { P := Go.Proofs.Tryd.prog, G := gD, tab := tabOf [], n := 10 }
theorem BkrOwn.ok : BkrOwn.Ok := ⟨tabOk (P := Go.Proofs.Tryd.prog) (G := gD) (l := []) True.intro, mixed⟩
theorem KkrOwn : Known Go.Proofs.Tryd.prog gD 53 ⟨0, 0, SkrOwn⟩ := by
 refine Known.walk (B := BkrOwn) (fn := Go.Proofs.Tryd.f53) BkrOwn.ok (by kernel_rfl) rfl (by kernel_rfl) (by kernel_rfl) (by decide) (by decide) ?_
 intro E args ks C r h hC hlen
 simp only at h
 unfold SkrOwn at h
 split at h
 rotate_left
 cases h
 skip
 cases h
 simp only [lens] at hlen
 refine ⟨show 0 ≤ 10 from by decide, ?_⟩
 refine Tri.sub (Sub.of_eq (show _ = ([], []) from rfl)) ?_
 refine sq [] none [0] [16] ([(0, .sc (.p 16 0))], [(16, .cells [.nils, .nils, .nils, .nils, .nils, .nils, .nils, .nils])]) 32 (t1 pT) ?_
 refine sq [] none [0] [16, 144, 128, 112, 96, 80, 64, 48, 32] ([(0, .sc (.p 16 0))], [(16, .cells [.sl 32 0 1 1 none, .sl 48 0 1 1 none, .sl 64 0 1 1 none, .sl 80 0 1 1 none, .sl 96 0 1 1 none, .sl 112 0 1 1 none, .sl 128 0 1 1 none, .sl 144 0 1 1 none]), (144, .cells [.s (⟨#[110, 111, 110, 101]⟩ : ByteArray)]), (128, .cells [.s (⟨#[110, 111, 110, 101]⟩ : ByteArray)]), (112, .cells [.s (⟨#[104, 109, 97, 99, 45, 115, 104, 97, 50, 45, 50, 53, 54]⟩ : ByteArray)]), (96, .cells [.s (⟨#[104, 109, 97, 99, 45, 115, 104, 97, 50, 45, 50, 53, 54]⟩ : ByteArray)]), (80, .cells [.s (⟨#[97, 101, 115, 49, 50, 56, 45, 99, 116, 114]⟩ : ByteArray)]), (64, .cells [.s (⟨#[97, 101, 115, 49, 50, 56, 45, 99, 116, 114]⟩ : ByteArray)]), (48, .cells [.s (⟨#[115, 115, 104, 45, 101, 100, 50, 53, 53, 49, 57]⟩ : ByteArray)]), (32, .cells [.s (⟨#[99, 117, 114, 118, 101, 50, 53, 53, 49, 57, 45, 115, 104, 97, 50, 53, 54]⟩ : ByteArray)])]) 192 (pu (pa (pa (pa (lo (0 < 1)) (lr (1 = 1))) pT) (pa (lo (1 * 1 ≤ 16777216)) (lr (1 = 1)))) (pu (pa (pa (pa (lo (0 < 1)) (lr (1 = 1))) pT) (pa (lo (1 * 1 ≤ 16777216)) (lr (1 = 1)))) (pu (pa (pa (pa (lo (0 < 1)) (lr (1 = 1))) pT) (pa (lo (1 * 1 ≤ 16777216)) (lr (1 = 1)))) (pu (pa (pa (pa (lo (0 < 1)) (lr (1 = 1))) pT) (pa (lo (1 * 1 ≤ 16777216)) (lr (1 = 1)))) (pu (pa (pa (pa (lo (0 < 1)) (lr (1 = 1))) pT) (pa (lo (1 * 1 ≤ 16777216)) (lr (1 = 1)))) (pu (pa (pa (pa (lo (0 < 1)) (lr (1 = 1))) pT) (pa (lo (1 * 1 ≤ 16777216)) (lr (1 = 1)))) (pu (pa (pa (pa (lo (0 < 1)) (lr (1 = 1))) pT) (pa (lo (1 * 1 ≤ 16777216)) (lr (1 = 1)))) (pu (pa (pa (pa (lo (0 < 1)) (lr (1 = 1))) pT) (pa (lo (1 * 1 ≤ 16777216)) (lr (1 = 1)))) (pu (pa (pa (lo (0 < 8)) (lr (1 = 1))) (pa (pa (lo (1 < 8)) (lr (1 = 1))) (pa (pa (lo (2 < 8)) (lr (1 = 1))) (pa (pa (lo (3 < 8)) (lr (1 = 1))) (pa (pa (lo (4 < 8)) (lr (1 = 1))) (pa (pa (lo (5 < 8)) (lr (1 = 1))) (pa (pa (lo (6 < 8)) (lr (1 = 1))) (pa (pa (lo (7 < 8)) (lr (1 = 1))) pT)))))))) (pu (pa (lo (0 + 8 ≤ 8)) (lr (8 = 8))) pT)))))))))) ?_
 refine Tri.sub (Sub.toVec (l := [.s (⟨#[99, 117, 114, 118, 101, 50, 53, 53, 49, 57, 45, 115, 104, 97, 50, 53, 54]⟩ : ByteArray)]) 32 .str ([(⟨#[99, 117, 114, 118, 101, 50, 53, 53, 49, 57, 45, 115, 104, 97, 50, 53, 54]⟩ : ByteArray)]) (by kernel_rfl) (by kernel_rfl)) ?_
 refine Tri.sub (Sub.still (s' := ([(0, .sc (.p 16 0))], [(16, .cells [.ros ([(⟨#[99, 117, 114, 118, 101, 50, 53, 53, 49, 57, 45, 115, 104, 97, 50, 53, 54]⟩ : ByteArray)]), .sl 48 0 1 1 none, .sl 64 0 1 1 none, .sl 80 0 1 1 none, .sl 96 0 1 1 none, .sl 112 0 1 1 none, .sl 128 0 1 1 none, .sl 144 0 1 1 none]), (144, .cells [.s (⟨#[110, 111, 110, 101]⟩ : ByteArray)]), (128, .cells [.s (⟨#[110, 111, 110, 101]⟩ : ByteArray)]), (112, .cells [.s (⟨#[104, 109, 97, 99, 45, 115, 104, 97, 50, 45, 50, 53, 54]⟩ : ByteArray)]), (96, .cells [.s (⟨#[104, 109, 97, 99, 45, 115, 104, 97, 50, 45, 50, 53, 54]⟩ : ByteArray)]), (80, .cells [.s (⟨#[97, 101, 115, 49, 50, 56, 45, 99, 116, 114]⟩ : ByteArray)]), (64, .cells [.s (⟨#[97, 101, 115, 49, 50, 56, 45, 99, 116, 114]⟩ : ByteArray)]), (48, .cells [.s (⟨#[115, 115, 104, 45, 101, 100, 50, 53, 53, 49, 57]⟩ : ByteArray)])])) 32 (.vec .str ([(⟨#[99, 117, 114, 118, 101, 50, 53, 53, 49, 57, 45, 115, 104, 97, 50, 53, 54]⟩ : ByteArray)])) (by kernel_rfl) (show 0 + 1 ≤ ([(⟨#[99, 117, 114, 118, 101, 50, 53, 53, 49, 57, 45, 115, 104, 97, 50, 53, 54]⟩ : ByteArray)]).length from by first | omega | (rw [adr_eq]; omega) | exact iAnd_nn _ _ | exact iSub_nn _ _ | exact part1_le (by omega) (by first | omega | (simp only [List.length_append]; omega)) | decide) (by kernel_rfl)) ?_
 refine Tri.sub (Sub.toVec (l := [.s (⟨#[115, 115, 104, 45, 101, 100, 50, 53, 53, 49, 57]⟩ : ByteArray)]) 48 .str ([(⟨#[115, 115, 104, 45, 101, 100, 50, 53, 53, 49, 57]⟩ : ByteArray)]) (by kernel_rfl) (by kernel_rfl)) ?_
 refine Tri.sub (Sub.still (s' := ([(0, .sc (.p 16 0))], [(16, .cells [.ros ([(⟨#[99, 117, 114, 118, 101, 50, 53, 53, 49, 57, 45, 115, 104, 97, 50, 53, 54]⟩ : ByteArray)]), .ros ([(⟨#[115, 115, 104, 45, 101, 100, 50, 53, 53, 49, 57]⟩ : ByteArray)]), .sl 64 0 1 1 none, .sl 80 0 1 1 none, .sl 96 0 1 1 none, .sl 112 0 1 1 none, .sl 128 0 1 1 none, .sl 144 0 1 1 none]), (144, .cells [.s (⟨#[110, 111, 110, 101]⟩ : ByteArray)]), (128, .cells [.s (⟨#[110, 111, 110, 101]⟩ : ByteArray)]), (112, .cells [.s (⟨#[104, 109, 97, 99, 45, 115, 104, 97, 50, 45, 50, 53, 54]⟩ : ByteArray)]), (96, .cells [.s (⟨#[104, 109, 97, 99, 45, 115, 104, 97, 50, 45, 50, 53, 54]⟩ : ByteArray)]), (80, .cells [.s (⟨#[97, 101, 115, 49, 50, 56, 45, 99, 116, 114]⟩ : ByteArray)]), (64, .cells [.s (⟨#[97, 101, 115, 49, 50, 56, 45, 99, 116, 114]⟩ : ByteArray)])])) 48 (.vec .str ([(⟨#[115, 115, 104, 45, 101, 100, 50, 53, 53, 49, 57]⟩ : ByteArray)])) (by kernel_rfl) (show 0 + 1 ≤ ([(⟨#[115, 115, 104, 45, 101, 100, 50, 53, 53, 49, 57]⟩ : ByteArray)]).length from by first | omega | (rw [adr_eq]; omega) | exact iAnd_nn _ _ | exact iSub_nn _ _ | exact part1_le (by omega) (by first | omega | (simp only [List.length_append]; omega)) | decide) (by kernel_rfl)) ?_
 refine Tri.sub (Sub.toVec (l := [.s (⟨#[97, 101, 115, 49, 50, 56, 45, 99, 116, 114]⟩ : ByteArray)]) 64 .str ([(⟨#[97, 101, 115, 49, 50, 56, 45, 99, 116, 114]⟩ : ByteArray)]) (by kernel_rfl) (by kernel_rfl)) ?_
 refine Tri.sub (Sub.still (s' := ([(0, .sc (.p 16 0))], [(16, .cells [.ros ([(⟨#[99, 117, 114, 118, 101, 50, 53, 53, 49, 57, 45, 115, 104, 97, 50, 53, 54]⟩ : ByteArray)]), .ros ([(⟨#[115, 115, 104, 45, 101, 100, 50, 53, 53, 49, 57]⟩ : ByteArray)]), .ros ([(⟨#[97, 101, 115, 49, 50, 56, 45, 99, 116, 114]⟩ : ByteArray)]), .sl 80 0 1 1 none, .sl 96 0 1 1 none, .sl 112 0 1 1 none, .sl 128 0 1 1 none, .sl 144 0 1 1 none]), (144, .cells [.s (⟨#[110, 111, 110, 101]⟩ : ByteArray)]), (128, .cells [.s (⟨#[110, 111, 110, 101]⟩ : ByteArray)]), (112, .cells [.s (⟨#[104, 109, 97, 99, 45, 115, 104, 97, 50, 45, 50, 53, 54]⟩ : ByteArray)]), (96, .cells [.s (⟨#[104, 109, 97, 99, 45, 115, 104, 97, 50, 45, 50, 53, 54]⟩ : ByteArray)]), (80, .cells [.s (⟨#[97, 101, 115, 49, 50, 56, 45, 99, 116, 114]⟩ : ByteArray)])])) 64 (.vec .str ([(⟨#[97, 101, 115, 49, 50, 56, 45, 99, 116, 114]⟩ : ByteArray)])) (by kernel_rfl) (show 0 + 1 ≤ ([(⟨#[97, 101, 115, 49, 50, 56, 45, 99, 116, 114]⟩ : ByteArray)]).length from by first | omega | (rw [adr_eq]; omega) | exact iAnd_nn _ _ | exact iSub_nn _ _ | exact part1_le (by omega) (by first | omega | (simp only [List.length_append]; omega)) | decide) (by kernel_rfl)) ?_
 refine Tri.sub (Sub.toVec (l := [.s (⟨#[97, 101, 115, 49, 50, 56, 45, 99, 116, 114]⟩ : ByteArray)]) 80 .str ([(⟨#[97, 101, 115, 49, 50, 56, 45, 99, 116, 114]⟩ : ByteArray)]) (by kernel_rfl) (by kernel_rfl)) ?_
 refine Tri.sub (Sub.still (s' := ([(0, .sc (.p 16 0))], [(16, .cells [.ros ([(⟨#[99, 117, 114, 118, 101, 50, 53, 53, 49, 57, 45, 115, 104, 97, 50, 53, 54]⟩ : ByteArray)]), .ros ([(⟨#[115, 115, 104, 45, 101, 100, 50, 53, 53, 49, 57]⟩ : ByteArray)]), .ros ([(⟨#[97, 101, 115, 49, 50, 56, 45, 99, 116, 114]⟩ : ByteArray)]), .ros ([(⟨#[97, 101, 115, 49, 50, 56, 45, 99, 116, 114]⟩ : ByteArray)]), .sl 96 0 1 1 none, .sl 112 0 1 1 none, .sl 128 0 1 1 none, .sl 144 0 1 1 none]), (144, .cells [.s (⟨#[110, 111, 110, 101]⟩ : ByteArray)]), (128, .cells [.s (⟨#[110, 111, 110, 101]⟩ : ByteArray)]), (112, .cells [.s (⟨#[104, 109, 97, 99, 45, 115, 104, 97, 50, 45, 50, 53, 54]⟩ : ByteArray)]), (96, .cells [.s (⟨#[104, 109, 97, 99, 45, 115, 104, 97, 50, 45, 50, 53, 54]⟩ : ByteArray)])])) 80 (.vec .str ([(⟨#[97, 101, 115, 49, 50, 56, 45, 99, 116, 114]⟩ : ByteArray)])) (by kernel_rfl) (show 0 + 1 ≤ ([(⟨#[97, 101, 115, 49, 50, 56, 45, 99, 116, 114]⟩ : ByteArray)]).length from by first | omega | (rw [adr_eq]; omega) | exact iAnd_nn _ _ | exact iSub_nn _ _ | exact part1_le (by omega) (by first | omega | (simp only [List.length_append]; omega)) | decide) (by kernel_rfl)) ?_
 refine Tri.sub (Sub.toVec (l := [.s (⟨#[104, 109, 97, 99, 45, 115, 104, 97, 50, 45, 50, 53, 54]⟩ : ByteArray)]) 96 .str ([(⟨#[104, 109, 97, 99, 45, 115, 104, 97, 50, 45, 50, 53, 54]⟩ : ByteArray)]) (by kernel_rfl) (by kernel_rfl)) ?_
 refine Tri.sub (Sub.still (s' := ([(0, .sc (.p 16 0))], [(16, .cells [.ros ([(⟨#[99, 117, 114, 118, 101, 50, 53, 53, 49, 57, 45, 115, 104, 97, 50, 53, 54]⟩ : ByteArray)]), .ros ([(⟨#[115, 115, 104, 45, 101, 100, 50, 53, 53, 49, 57]⟩ : ByteArray)]), .ros ([(⟨#[97, 101, 115, 49, 50, 56, 45, 99, 116, 114]⟩ : ByteArray)]), .ros ([(⟨#[97, 101, 115, 49, 50, 56, 45, 99, 116, 114]⟩ : ByteArray)]), .ros ([(⟨#[104, 109, 97, 99, 45, 115, 104, 97, 50, 45, 50, 53, 54]⟩ : ByteArray)]), .sl 112 0 1 1 none, .sl 128 0 1 1 none, .sl 144 0 1 1 none]), (144, .cells [.s (⟨#[110, 111, 110, 101]⟩ : ByteArray)]), (128, .cells [.s (⟨#[110, 111, 110, 101]⟩ : ByteArray)]), (112, .cells [.s (⟨#[104, 109, 97, 99, 45, 115, 104, 97, 50, 45, 50, 53, 54]⟩ : ByteArray)])])) 96 (.vec .str ([(⟨#[104, 109, 97, 99, 45, 115, 104, 97, 50, 45, 50, 53, 54]⟩ : ByteArray)])) (by kernel_rfl) (show 0 + 1 ≤ ([(⟨#[104, 109, 97, 99, 45, 115, 104, 97, 50, 45, 50, 53, 54]⟩ : ByteArray)]).length from by first | omega | (rw [adr_eq]; omega) | exact iAnd_nn _ _ | exact iSub_nn _ _ | exact part1_le (by omega) (by first | omega | (simp only [List.length_append]; omega)) | decide) (by kernel_rfl)) ?_
 refine Tri.sub (Sub.toVec (l := [.s (⟨#[104, 109, 97, 99, 45, 115, 104, 97, 50, 45, 50, 53, 54]⟩ : ByteArray)]) 112 .str ([(⟨#[104, 109, 97, 99, 45, 115, 104, 97, 50, 45, 50, 53, 54]⟩ : ByteArray)]) (by kernel_rfl) (by kernel_rfl)) ?_
 refine Tri.sub (Sub.still (s' := ([(0, .sc (.p 16 0))], [(16, .cells [.ros ([(⟨#[99, 117, 114, 118, 101, 50, 53, 53, 49, 57, 45, 115, 104, 97, 50, 53, 54]⟩ : ByteArray)]), .ros ([(⟨#[115, 115, 104, 45, 101, 100, 50, 53, 53, 49, 57]⟩ : ByteArray)]), .ros ([(⟨#[97, 101, 115, 49, 50, 56, 45, 99, 116, 114]⟩ : ByteArray)]), .ros ([(⟨#[97, 101, 115, 49, 50, 56, 45, 99, 116, 114]⟩ : ByteArray)]), .ros ([(⟨#[104, 109, 97, 99, 45, 115, 104, 97, 50, 45, 50, 53, 54]⟩ : ByteArray)]), .ros ([(⟨#[104, 109, 97, 99, 45, 115, 104, 97, 50, 45, 50, 53, 54]⟩ : ByteArray)]), .sl 128 0 1 1 none, .sl 144 0 1 1 none]), (144, .cells [.s (⟨#[110, 111, 110, 101]⟩ : ByteArray)]), (128, .cells [.s (⟨#[110, 111, 110, 101]⟩ : ByteArray)])])) 112 (.vec .str ([(⟨#[104, 109, 97, 99, 45, 115, 104, 97, 50, 45, 50, 53, 54]⟩ : ByteArray)])) (by kernel_rfl) (show 0 + 1 ≤ ([(⟨#[104, 109, 97, 99, 45, 115, 104, 97, 50, 45, 50, 53, 54]⟩ : ByteArray)]).length from by first | omega | (rw [adr_eq]; omega) | exact iAnd_nn _ _ | exact iSub_nn _ _ | exact part1_le (by omega) (by first | omega | (simp only [List.length_append]; omega)) | decide) (by kernel_rfl)) ?_
 refine Tri.sub (Sub.toVec (l := [.s (⟨#[110, 111, 110, 101]⟩ : ByteArray)]) 128 .str ([(⟨#[110, 111, 110, 101]⟩ : ByteArray)]) (by kernel_rfl) (by kernel_rfl)) ?_
 refine Tri.sub (Sub.still (s' := ([(0, .sc (.p 16 0))], [(16, .cells [.ros ([(⟨#[99, 117, 114, 118, 101, 50, 53, 53, 49, 57, 45, 115, 104, 97, 50, 53, 54]⟩ : ByteArray)]), .ros ([(⟨#[115, 115, 104, 45, 101, 100, 50, 53, 53, 49, 57]⟩ : ByteArray)]), .ros ([(⟨#[97, 101, 115, 49, 50, 56, 45, 99, 116, 114]⟩ : ByteArray)]), .ros ([(⟨#[97, 101, 115, 49, 50, 56, 45, 99, 116, 114]⟩ : ByteArray)]), .ros ([(⟨#[104, 109, 97, 99, 45, 115, 104, 97, 50, 45, 50, 53, 54]⟩ : ByteArray)]), .ros ([(⟨#[104, 109, 97, 99, 45, 115, 104, 97, 50, 45, 50, 53, 54]⟩ : ByteArray)]), .ros ([(⟨#[110, 111, 110, 101]⟩ : ByteArray)]), .sl 144 0 1 1 none]), (144, .cells [.s (⟨#[110, 111, 110, 101]⟩ : ByteArray)])])) 128 (.vec .str ([(⟨#[110, 111, 110, 101]⟩ : ByteArray)])) (by kernel_rfl) (show 0 + 1 ≤ ([(⟨#[110, 111, 110, 101]⟩ : ByteArray)]).length from by first | omega | (rw [adr_eq]; omega) | exact iAnd_nn _ _ | exact iSub_nn _ _ | exact part1_le (by omega) (by first | omega | (simp only [List.length_append]; omega)) | decide) (by kernel_rfl)) ?_
 refine Tri.sub (Sub.toVec (l := [.s (⟨#[110, 111, 110, 101]⟩ : ByteArray)]) 144 .str ([(⟨#[110, 111, 110, 101]⟩ : ByteArray)]) (by kernel_rfl) (by kernel_rfl)) ?_
 refine Tri.sub (Sub.still (s' := ([(0, .sc (.p 16 0))], [(16, .cells [.ros ([(⟨#[99, 117, 114, 118, 101, 50, 53, 53, 49, 57, 45, 115, 104, 97, 50, 53, 54]⟩ : ByteArray)]), .ros ([(⟨#[115, 115, 104, 45, 101, 100, 50, 53, 53, 49, 57]⟩ : ByteArray)]), .ros ([(⟨#[97, 101, 115, 49, 50, 56, 45, 99, 116, 114]⟩ : ByteArray)]), .ros ([(⟨#[97, 101, 115, 49, 50, 56, 45, 99, 116, 114]⟩ : ByteArray)]), .ros ([(⟨#[104, 109, 97, 99, 45, 115, 104, 97, 50, 45, 50, 53, 54]⟩ : ByteArray)]), .ros ([(⟨#[104, 109, 97, 99, 45, 115, 104, 97, 50, 45, 50, 53, 54]⟩ : ByteArray)]), .ros ([(⟨#[110, 111, 110, 101]⟩ : ByteArray)]), .ros ([(⟨#[110, 111, 110, 101]⟩ : ByteArray)])])])) 144 (.vec .str ([(⟨#[110, 111, 110, 101]⟩ : ByteArray)])) (by kernel_rfl) (show 0 + 1 ≤ ([(⟨#[110, 111, 110, 101]⟩ : ByteArray)]).length from by first | omega | (rw [adr_eq]; omega) | exact iAnd_nn _ _ | exact iSub_nn _ _ | exact part1_le (by omega) (by first | omega | (simp only [List.length_append]; omega)) | decide) (by kernel_rfl)) ?_
 refine Tri.sub (Sub.toVec (l := [.ros ([(⟨#[99, 117, 114, 118, 101, 50, 53, 53, 49, 57, 45, 115, 104, 97, 50, 53, 54]⟩ : ByteArray)]), .ros ([(⟨#[115, 115, 104, 45, 101, 100, 50, 53, 53, 49, 57]⟩ : ByteArray)]), .ros ([(⟨#[97, 101, 115, 49, 50, 56, 45, 99, 116, 114]⟩ : ByteArray)]), .ros ([(⟨#[97, 101, 115, 49, 50, 56, 45, 99, 116, 114]⟩ : ByteArray)]), .ros ([(⟨#[104, 109, 97, 99, 45, 115, 104, 97, 50, 45, 50, 53, 54]⟩ : ByteArray)]), .ros ([(⟨#[104, 109, 97, 99, 45, 115, 104, 97, 50, 45, 50, 53, 54]⟩ : ByteArray)]), .ros ([(⟨#[110, 111, 110, 101]⟩ : ByteArray)]), .ros ([(⟨#[110, 111, 110, 101]⟩ : ByteArray)])]) 16 .tab ([[(⟨#[99, 117, 114, 118, 101, 50, 53, 53, 49, 57, 45, 115, 104, 97, 50, 53, 54]⟩ : ByteArray)], [(⟨#[115, 115, 104, 45, 101, 100, 50, 53, 53, 49, 57]⟩ : ByteArray)], [(⟨#[97, 101, 115, 49, 50, 56, 45, 99, 116, 114]⟩ : ByteArray)], [(⟨#[97, 101, 115, 49, 50, 56, 45, 99, 116, 114]⟩ : ByteArray)], [(⟨#[104, 109, 97, 99, 45, 115, 104, 97, 50, 45, 50, 53, 54]⟩ : ByteArray)], [(⟨#[104, 109, 97, 99, 45, 115, 104, 97, 50, 45, 50, 53, 54]⟩ : ByteArray)], [(⟨#[110, 111, 110, 101]⟩ : ByteArray)], [(⟨#[110, 111, 110, 101]⟩ : ByteArray)]]) (by kernel_rfl) (by kernel_rfl)) ?_
 refine Tri.ret ?_
 refine rt ?_
 exact er [] (pa (lo (8 = ([[(⟨#[99, 117, 114, 118, 101, 50, 53, 53, 49, 57, 45, 115, 104, 97, 50, 53, 54]⟩ : ByteArray)], [(⟨#[115, 115, 104, 45, 101, 100, 50, 53, 53, 49, 57]⟩ : ByteArray)], [(⟨#[97, 101, 115, 49, 50, 56, 45, 99, 116, 114]⟩ : ByteArray)], [(⟨#[97, 101, 115, 49, 50, 56, 45, 99, 116, 114]⟩ : ByteArray)], [(⟨#[104, 109, 97, 99, 45, 115, 104, 97, 50, 45, 50, 53, 54]⟩ : ByteArray)], [(⟨#[104, 109, 97, 99, 45, 115, 104, 97, 50, 45, 50, 53, 54]⟩ : ByteArray)], [(⟨#[110, 111, 110, 101]⟩ : ByteArray)], [(⟨#[110, 111, 110, 101]⟩ : ByteArray)]]).length)) pT)
noncomputable def FkIdxl0 (k0 : Nat) (z0 : Unit) : Unit :=
  ()
noncomputable def FkIdxs0 (p0 : List ByteArray) (p1 : ByteArray) (k0 : Nat) : Bool :=
  (sel (strEq p1 (p0.getD k0 ⟨#[]⟩)) true false)
noncomputable def FkIdx (p0 : List ByteArray) (p1 : ByteArray) : Int :=
  (sel (Nat.blt (fstB (FkIdxs0 p0 p1) p0.length) p0.length) (((fstB (FkIdxs0 p0 p1) p0.length) : Nat) : Int) (-1))
noncomputable def SkIdx : List AV → List Blk → Option (Prop × Ret)
  | [.sc (.ros p0), .sc (.s p1)], [] => some ((p0.length ≤ 1000000000), ⟨.sc (.i .i64 (FkIdx p0 p1)), []⟩)
  | _, _ => none
noncomputable def BkIdx : Bs := { P := Go.Proofs.Tryd.prog, G := gD, tab := tabOf [], n := 19 }
theorem BkIdx.ok : BkIdx.Ok := ⟨tabOk (P := Go.Proofs.Tryd.prog) (G := gD) (l := []) True.intro, mixed⟩
theorem KkIdx : Known Go.Proofs.Tryd.prog gD 70 ⟨0, 0, SkIdx⟩ := by
 refine Known.walk (B := BkIdx) (fn := Go.Proofs.Tryd.f70) BkIdx.ok (by kernel_rfl) rfl (by kernel_rfl) (by kernel_rfl) (by decide) (by decide) ?_
 intro E args ks C r h hC hlen
 simp only at h
 unfold SkIdx at h
 split at h
 rotate_left
 cases h
 rename_i p0 p1
 cases h
 simp only [lens] at hlen
 refine ⟨show 2 ≤ 19 from by decide, ?_⟩
 refine Tri.sub (Sub.of_eq (show _ = ([(0, .sc (.ros p0)), (1, .sc (.s p1))], []) from rfl)) ?_
 refine sq [] none [0, 1] [] ([(0, .sc (.ros p0)), (1, .sc (.s p1))], []) 32 (t1 pT) ?_
 refine Tri.seq ?_
 refine sq [] none [8, 7, 0, 1] [] ([(8, .sc (.i .i64 0)), (7, .sc (.i .i64 ((p0.length : Nat) : Int))), (0, .sc (.ros p0)), (1, .sc (.s p1))], []) 80 (t3 pT) ?_
 refine Tri.block ?_
 refine Tri.count 80 p0.length (FkIdxl0) (()) (fun k0 z0 => (∀ j, j < k0 → (FkIdxs0 p0 p1) j = false)) (fun k0 z0 => ([(8, .sc (.i .i64 ((k0 : Nat) : Int))), (7, .sc (.i .i64 ((p0.length : Nat) : Int))), (0, .sc (.ros p0)), (1, .sc (.s p1))], [])) (fun j hj => absurd hj (Nat.not_lt_zero j)) (Sub.of_eq (by kernel_rfl)) ?_
 intro k0 z0 hk0 hz0 hJ0
 refine sq [] none [9, 8, 7, 0, 1] [] ([(9, .sc (.b (decide ((((k0 : Nat) : Int) : Int) < ((p0.length : Nat) : Int))))), (8, .sc (.i .i64 ((k0 : Nat) : Int))), (7, .sc (.i .i64 ((p0.length : Nat) : Int))), (0, .sc (.ros p0)), (1, .sc (.s p1))], []) 96 (t1 pT) ?_
 refine Tri.seq ?_
 refine Tri.cond (x := (decide ((((k0 : Nat) : Int) : Int) < ((p0.length : Nat) : Int)))) (by kernel_rfl) (fun h1 => ?_) (fun h1 => ?_)
 have h1' := of_decide_eq_true h1
 refine Tri.skip ?_
 change Tri _ _ _ _ _ _
 refine Tri.seq ?_
 refine Tri.block ?_
 refine sq [] none [5, 8, 7, 0, 1] [] ([(5, .sc (.i .i64 ((k0 : Nat) : Int))), (8, .sc (.i .i64 ((k0 : Nat) : Int))), (7, .sc (.i .i64 ((p0.length : Nat) : Int))), (0, .sc (.ros p0)), (1, .sc (.s p1))], []) 128 (t2 pT) ?_
 refine sq [] none [16, 5, 8, 7, 0, 1] [] ([(16, .sc (.b (strEq p1 (p0.getD k0 ⟨#[]⟩)))), (5, .sc (.i .i64 ((k0 : Nat) : Int))), (8, .sc (.i .i64 ((k0 : Nat) : Int))), (7, .sc (.i .i64 ((p0.length : Nat) : Int))), (0, .sc (.ros p0)), (1, .sc (.s p1))], []) 224 (t3 (pu (lo ((0 : Int) ≤ ((k0 : Nat) : Int) ∧ ((k0 : Nat) : Int) < (p0.length : Int))) (t2 pT))) ?_
 refine Tri.cond (x := (strEq p1 (p0.getD k0 ⟨#[]⟩))) (by kernel_rfl) (fun h2 => ?_) (fun h2 => ?_)
 refine sq [] none [4] [] ([(4, .sc (.i .i64 ((k0 : Nat) : Int)))], []) 256 (t2 pT) ?_
 refine Tri.ret ?_
 subst hz0
 have hf0 : fstB (FkIdxs0 p0 p1) p0.length = k0 := fst_found (by omega) hJ0 (by simp only [FkIdxs0, h1, h2, sel_true, sel_false])
 have hb0 : Nat.blt k0 p0.length = true := blt_true (by omega)
 have hq0 : Nat.blt (fstB (FkIdxs0 p0 p1) p0.length) p0.length = true := by rw [hf0]; exact hb0
 refine rt ?_
 refine endP.conv (r' := ⟨.sc (.i .i64 ((k0 : Nat) : Int)), []⟩) (by simp only [FkIdx, hq0, hf0, hb0, sel_true, sel_false]) ?_
 exact er [] pz
 refine Tri.skip ?_
 change Tri _ _ _ _ _ _
 refine rq [(18, qi ((k0 + 1 : Nat) : Int))] none [8, 7, 0, 1] [] ([(8, .sc (.i .i64 ((k0 + 1 : Nat) : Int))), (7, .sc (.i .i64 ((p0.length : Nat) : Int))), (0, .sc (.ros p0)), (1, .sc (.s p1))], []) 256 (pv pT (pl (show (iAdd .i64 ((k0 : Nat) : Int) 1) = ((k0 + 1 : Nat) : Int) from iAdd_nat (a := k0) (b := 1) (by omega))) (t1 pT)) ?_
 repeat (refine blkP_normal ?_)
 refine countP_normal (by omega) (below_succ hJ0 (by subst hz0; simp only [FkIdxs0, h1, h2, sel_true, sel_false])) ?_
 exact sp [] [8, 7, 0, 1]
 have h1' := of_decide_eq_false h1
 refine Tri.exit ?_
 have hend0 : k0 = p0.length := by (have := of_decide_eq_false h1; omega)
 subst hend0; subst hz0
 have hf0 : fstB (FkIdxs0 p0 p1) p0.length = p0.length := fst_none hJ0
 have hb0 : Nat.blt p0.length p0.length = false := blt_self _
 have hq0 : Nat.blt (fstB (FkIdxs0 p0 p1) p0.length) p0.length = false := by rw [hf0]; exact hb0
 change Tri _ _ _ _ _ _
 refine sq [] none [4] [] ([(4, .sc (.i .i64 (-1)))], []) 112 (t1 pT) ?_
 refine Tri.ret ?_
 refine rt ?_
 refine endP.conv (r' := ⟨.sc (.i .i64 (-1)), []⟩) (by simp only [FkIdx, hq0, hf0, hb0, sel_true, sel_false]) ?_
 exact er [] pz
noncomputable def FkCont (p0 : List ByteArray) (p1 : ByteArray) : Bool :=
  (decide (((FkIdx p0 p1) : Int) ≥ 0))
noncomputable def SkCont : List AV → List Blk → Option (Prop × Ret)
  | [.sc (.ros p0), .sc (.s p1)], [] => some ((p0.length ≤ 1000000000), ⟨.sc (.b (FkCont p0 p1)), []⟩)
  | _, _ => none
noncomputable def BkCont : Bs := { P := Go.Proofs.Tryd.prog, G := gD, tab := tabOf [⟨70, 64, [.ros, .val], [], [], ⟨0, 0, SkIdx⟩, false⟩], n := 9 }
theorem BkCont.ok : BkCont.Ok := ⟨tabOk (P := Go.Proofs.Tryd.prog) (G := gD) (l := [⟨70, 64, [.ros, .val], [], [], ⟨0, 0, SkIdx⟩, false⟩]) (And.intro KkIdx True.intro), mixed⟩
theorem KkCont : Known Go.Proofs.Tryd.prog gD 52 ⟨0, 0, SkCont⟩ := by
 refine Known.walk (B := BkCont) (fn := Go.Proofs.Tryd.f52) BkCont.ok (by kernel_rfl) rfl (by kernel_rfl) (by kernel_rfl) (by decide) (by decide) ?_
 intro E args ks C r h hC hlen
 simp only at h
 unfold SkCont at h
 split at h
 rotate_left
 cases h
 rename_i p0 p1
 cases h
 simp only [lens] at hlen
 refine ⟨show 2 ≤ 9 from by decide, ?_⟩
 refine Tri.sub (Sub.of_eq (show _ = ([(0, .sc (.ros p0)), (1, .sc (.s p1))], []) from rfl)) ?_
 refine sq [] none [0, 1] [] ([(0, .sc (.ros p0)), (1, .sc (.s p1))], []) 32 (t1 pT) ?_
 refine sq [] none [4] [] ([(4, .sc (.b (decide (((FkIdx p0 p1) : Int) ≥ 0))))], []) 112 (t2 (pu (pa pT (lo (p0.length ≤ 1000000000))) (t2 pT))) ?_
 refine Tri.ret ?_
 refine rt ?_
 exact er [] pz
noncomputable def Fkhasl0 (k0 : Nat) (z0 : Unit) : Unit :=
  ()
noncomputable def Fkhass0 (p0 : List ByteArray) (p1 : ByteArray) (k0 : Nat) : Bool :=
  (sel (strEq (p0.getD k0 ⟨#[]⟩) p1) true false)
noncomputable def Fkhas (p0 : List ByteArray) (p1 : ByteArray) : Bool :=
  (sel (Nat.blt (fstB (Fkhass0 p0 p1) p0.length) p0.length) true false)
noncomputable def Skhas : List AV → List Blk → Option (Prop × Ret)
  | [.sc (.ros p0), .sc (.s p1)], [] => some ((p0.length ≤ 1000000000), ⟨.sc (.b (Fkhas p0 p1)), []⟩)
  | _, _ => none
noncomputable def Bkhas : Bs := { P := Go.Proofs.Tryd.prog, G := gD, tab := tabOf [], n := 18 }
theorem Bkhas.ok : Bkhas.Ok := ⟨tabOk (P := Go.Proofs.Tryd.prog) (G := gD) (l := []) True.intro, mixed⟩
theorem Kkhas : Known Go.Proofs.Tryd.prog gD 54 ⟨0, 0, Skhas⟩ := by
 refine Known.walk (B := Bkhas) (fn := Go.Proofs.Tryd.f54) Bkhas.ok (by kernel_rfl) rfl (by kernel_rfl) (by kernel_rfl) (by decide) (by decide) ?_
 intro E args ks C r h hC hlen
 simp only at h
 unfold Skhas at h
 split at h
 rotate_left
 cases h
 rename_i p0 p1
 cases h
 simp only [lens] at hlen
 refine ⟨show 2 ≤ 18 from by decide, ?_⟩
 refine Tri.sub (Sub.of_eq (show _ = ([(0, .sc (.ros p0)), (1, .sc (.s p1))], []) from rfl)) ?_
 refine sq [] none [0, 1] [] ([(0, .sc (.ros p0)), (1, .sc (.s p1))], []) 32 (t1 pT) ?_
 refine Tri.seq ?_
 refine sq [] none [5, 0, 1] [] ([(5, .sc (.i .i64 0)), (0, .sc (.ros p0)), (1, .sc (.s p1))], []) 48 (t1 pT) ?_
 refine Tri.block ?_
 refine Tri.count 48 p0.length (Fkhasl0) (()) (fun k0 z0 => (∀ j, j < k0 → (Fkhass0 p0 p1) j = false)) (fun k0 z0 => ([(5, .sc (.i .i64 ((k0 : Nat) : Int))), (0, .sc (.ros p0)), (1, .sc (.s p1))], [])) (fun j hj => absurd hj (Nat.not_lt_zero j)) (Sub.of_eq (by kernel_rfl)) ?_
 intro k0 z0 hk0 hz0 hJ0
 refine Tri.seq ?_
 refine sq [] none [9, 5, 0, 1] [] ([(9, .sc (.b (decide ((((k0 : Nat) : Int) : Int) < ((p0.length : Nat) : Int))))), (5, .sc (.i .i64 ((k0 : Nat) : Int))), (0, .sc (.ros p0)), (1, .sc (.s p1))], []) 112 (t4 pT) ?_
 refine Tri.cond (x := (decide ((((k0 : Nat) : Int) : Int) < ((p0.length : Nat) : Int)))) (by kernel_rfl) (fun h1 => ?_) (fun h1 => ?_)
 have h1' := of_decide_eq_true h1
 refine Tri.skip ?_
 change Tri _ _ _ _ _ _
 refine Tri.seq ?_
 refine Tri.block ?_
 refine sq [] none [17, 5, 0, 1] [] ([(17, .sc (.b (strEq (p0.getD k0 ⟨#[]⟩) p1))), (5, .sc (.i .i64 ((k0 : Nat) : Int))), (0, .sc (.ros p0)), (1, .sc (.s p1))], []) 208 (t2 (pu (lo ((0 : Int) ≤ ((k0 : Nat) : Int) ∧ ((k0 : Nat) : Int) < (p0.length : Int))) (t3 pT))) ?_
 refine Tri.cond (x := (strEq (p0.getD k0 ⟨#[]⟩) p1)) (by kernel_rfl) (fun h2 => ?_) (fun h2 => ?_)
 refine sq [] none [4] [] ([(4, .sc (.b true))], []) 224 (t1 pT) ?_
 refine Tri.ret ?_
 subst hz0
 have hf0 : fstB (Fkhass0 p0 p1) p0.length = k0 := fst_found (by omega) hJ0 (by simp only [Fkhass0, h1, h2, sel_true, sel_false])
 have hb0 : Nat.blt k0 p0.length = true := blt_true (by omega)
 have hq0 : Nat.blt (fstB (Fkhass0 p0 p1) p0.length) p0.length = true := by rw [hf0]; exact hb0
 refine rt ?_
 refine endP.conv (r' := ⟨.sc (.b true), []⟩) (by simp only [Fkhas, hq0, hf0, hb0, sel_true, sel_false]) ?_
 exact er [] pz
 refine Tri.skip ?_
 change Tri _ _ _ _ _ _
 refine rq [(11, qi ((k0 + 1 : Nat) : Int))] none [5, 0, 1] [] ([(5, .sc (.i .i64 ((k0 + 1 : Nat) : Int))), (0, .sc (.ros p0)), (1, .sc (.s p1))], []) 256 (t1 (pv pT (pl (show (iAdd .i64 ((k0 : Nat) : Int) 1) = ((k0 + 1 : Nat) : Int) from iAdd_nat (a := k0) (b := 1) (by omega))) (t1 pT))) ?_
 repeat (refine blkP_normal ?_)
 refine countP_normal (by omega) (below_succ hJ0 (by subst hz0; simp only [Fkhass0, h1, h2, sel_true, sel_false])) ?_
 exact sp [] [5, 0, 1]
 have h1' := of_decide_eq_false h1
 refine Tri.exit ?_
 have hend0 : k0 = p0.length := by (have := of_decide_eq_false h1; omega)
 subst hend0; subst hz0
 have hf0 : fstB (Fkhass0 p0 p1) p0.length = p0.length := fst_none hJ0
 have hb0 : Nat.blt p0.length p0.length = false := blt_self _
 have hq0 : Nat.blt (fstB (Fkhass0 p0 p1) p0.length) p0.length = false := by rw [hf0]; exact hb0
 change Tri _ _ _ _ _ _
 refine sq [] none [4] [] ([(4, .sc (.b false))], []) 128 (t1 pT) ?_
 refine Tri.ret ?_
 refine rt ?_
 refine endP.conv (r' := ⟨.sc (.b false), []⟩) (by simp only [Fkhas, hq0, hf0, hb0, sel_true, sel_false]) ?_
 exact er [] pz
noncomputable def Fkclo (p0 : ByteArray) (p1 : List (List ByteArray)) (p2 : Int) : Bool :=
  (FkCont (p1.getD ((p2).toNat) []) p0)
noncomputable def Skclo : List AV → List Blk → Option (Prop × Ret)
  | [.sc (.s p0), .sc (.p 0 0), .sc (.p 1 0)], [.vec .tab p1, .ints .i64 1 [p2]] => some ((((0 : Int) ≤ p2 ∧ p2 < 8) ∧ rows8 p1), ⟨.sc (.b (Fkclo p0 p1 p2)), [some (.vec .tab p1), some (.ints .i64 1 [p2])]⟩)
  | _, _ => none
noncomputable def Bkclo : Bs := { P := Go.Proofs.Tryd.prog, G := gD, tab := tabOf [⟨52, 96, [.ros, .val], [], [], ⟨0, 0, SkCont⟩, false⟩], n := 10 }
theorem Bkclo.ok : Bkclo.Ok := ⟨tabOk (P := Go.Proofs.Tryd.prog) (G := gD) (l := [⟨52, 96, [.ros, .val], [], [], ⟨0, 0, SkCont⟩, false⟩]) (And.intro KkCont True.intro), mixed⟩
theorem Kkclo : Known Go.Proofs.Tryd.prog gD 51 ⟨2, 0, Skclo⟩ := by
 refine Known.walk (B := Bkclo) (fn := Go.Proofs.Tryd.f51) Bkclo.ok (by kernel_rfl) rfl (by kernel_rfl) (by kernel_rfl) (by decide) (by decide) ?_
 intro E args ks C r h hC hlen
 simp only at h
 unfold Skclo at h
 split at h
 rotate_left
 cases h
 rename_i p0 p1 p2
 cases h
 simp only [lens] at hlen
 have hr := hC.2.1
 have hs := hC.2.2 p2.toNat
 refine ⟨show 3 ≤ 10 from by decide, ?_⟩
 refine Tri.sub (Sub.of_eq (show _ = ([(0, .sc (.s p0)), (1, .sc (.p 0 0)), (2, .sc (.p 1 0))], [(0, .vec .tab p1), (1, .ints .i64 1 [p2])]) from rfl)) ?_
 refine sq [] none [0, 1, 2] [0, 1] ([(0, .sc (.s p0)), (1, .sc (.p 0 0)), (2, .sc (.p 1 0))], [(0, .vec .tab p1), (1, .ints .i64 1 [p2])]) 32 (t1 pT) ?_
 refine sq [] none [4] [0, 1] ([(4, .sc (.b (FkCont (p1.getD ((p2).toNat) []) p0)))], [(0, .vec .tab p1), (1, .ints .i64 1 [p2])]) 128 (pu (lo (0 < 1)) (pu (lo ((0 : Int) ≤ p2 ∧ p2 < ((8 : Nat) : Int))) (pu (lo ((p2).toNat < p1.length)) (t1 (pu (pa pT (lo ((p1.getD ((p2).toNat) []).length ≤ 1000000000))) (t1 pT)))))) ?_
 refine Tri.ret ?_
 refine rt ?_
 exact er [(0, 0), (1, 1)] pz
noncomputable def FkIdxFl0 (k0 : Nat) (z0 : Unit) : Unit :=
  ()
noncomputable def FkIdxFs0 (p0 : List ByteArray) (p1 : List (List ByteArray)) (p2 : Int) (k0 : Nat) : Bool :=
  (sel (Fkclo (p0.getD k0 ⟨#[]⟩) p1 p2) true false)
noncomputable def FkIdxF (p0 : List ByteArray) (p1 : List (List ByteArray)) (p2 : Int) : Int :=
  (sel (Nat.blt (fstB (FkIdxFs0 p0 p1 p2) p0.length) p0.length) (((fstB (FkIdxFs0 p0 p1 p2) p0.length) : Nat) : Int) (-1))
noncomputable def SkIdxF : List AV → List Blk → Option (Prop × Ret)
  | [.sc (.ros p0), .sc (.clo 51 0 1)], [.vec .tab p1, .ints .i64 1 [p2]] => some (((((0 : Int) ≤ p2 ∧ p2 < 8) ∧ rows8 p1) ∧ p0.length ≤ 1000000000), ⟨.sc (.i .i64 (FkIdxF p0 p1 p2)), [some (.vec .tab p1), some (.ints .i64 1 [p2])]⟩)
  | _, _ => none
noncomputable def BkIdxF : Bs := { P := Go.Proofs.Tryd.prog, G := gD, tab := tabOf [⟨51, 208, [.val, .io, .io], [], [0, 1], ⟨2, 0, Skclo⟩, false⟩], n := 19 }
theorem BkIdxF.ok : BkIdxF.Ok := ⟨tabOk (P := Go.Proofs.Tryd.prog) (G := gD) (l := [⟨51, 208, [.val, .io, .io], [], [0, 1], ⟨2, 0, Skclo⟩, false⟩]) (And.intro Kkclo True.intro), mixed⟩
theorem KkIdxF : Known Go.Proofs.Tryd.prog gD 50 ⟨2, 0, SkIdxF⟩ := by
 refine Known.walk (B := BkIdxF) (fn := Go.Proofs.Tryd.f50) BkIdxF.ok (by kernel_rfl) rfl (by kernel_rfl) (by kernel_rfl) (by decide) (by decide) ?_
 intro E args ks C r h hC hlen
 simp only at h
 unfold SkIdxF at h
 split at h
 rotate_left
 cases h
 rename_i p0 p1 p2
 cases h
 simp only [lens] at hlen
 have hr := hC.1.2.1
 have hs := hC.2
 refine ⟨show 2 ≤ 19 from by decide, ?_⟩
 refine Tri.sub (Sub.of_eq (show _ = ([(0, .sc (.ros p0)), (1, .sc (.clo 51 0 1))], [(0, .vec .tab p1), (1, .ints .i64 1 [p2])]) from rfl)) ?_
 refine sq [] none [0, 1] [0, 1] ([(0, .sc (.ros p0)), (1, .sc (.clo 51 0 1))], [(0, .vec .tab p1), (1, .ints .i64 1 [p2])]) 32 (t1 pT) ?_
 refine Tri.seq ?_
 refine sq [] none [8, 7, 0, 1] [0, 1] ([(8, .sc (.i .i64 0)), (7, .sc (.i .i64 ((p0.length : Nat) : Int))), (0, .sc (.ros p0)), (1, .sc (.clo 51 0 1))], [(0, .vec .tab p1), (1, .ints .i64 1 [p2])]) 80 (t3 pT) ?_
 refine Tri.block ?_
 refine Tri.count 80 p0.length (FkIdxFl0) (()) (fun k0 z0 => (∀ j, j < k0 → (FkIdxFs0 p0 p1 p2) j = false)) (fun k0 z0 => ([(8, .sc (.i .i64 ((k0 : Nat) : Int))), (7, .sc (.i .i64 ((p0.length : Nat) : Int))), (0, .sc (.ros p0)), (1, .sc (.clo 51 0 1))], [(0, .vec .tab p1), (1, .ints .i64 1 [p2])])) (fun j hj => absurd hj (Nat.not_lt_zero j)) (Sub.of_eq (by kernel_rfl)) ?_
 intro k0 z0 hk0 hz0 hJ0
 refine sq [] none [9, 8, 7, 0, 1] [0, 1] ([(9, .sc (.b (decide ((((k0 : Nat) : Int) : Int) < ((p0.length : Nat) : Int))))), (8, .sc (.i .i64 ((k0 : Nat) : Int))), (7, .sc (.i .i64 ((p0.length : Nat) : Int))), (0, .sc (.ros p0)), (1, .sc (.clo 51 0 1))], [(0, .vec .tab p1), (1, .ints .i64 1 [p2])]) 96 (t1 pT) ?_
 refine Tri.seq ?_
 refine Tri.cond (x := (decide ((((k0 : Nat) : Int) : Int) < ((p0.length : Nat) : Int)))) (by kernel_rfl) (fun h1 => ?_) (fun h1 => ?_)
 have h1' := of_decide_eq_true h1
 refine Tri.skip ?_
 change Tri _ _ _ _ _ _
 refine Tri.seq ?_
 refine Tri.block ?_
 refine sq [] none [5, 8, 7, 0, 1] [0, 1] ([(5, .sc (.i .i64 ((k0 : Nat) : Int))), (8, .sc (.i .i64 ((k0 : Nat) : Int))), (7, .sc (.i .i64 ((p0.length : Nat) : Int))), (0, .sc (.ros p0)), (1, .sc (.clo 51 0 1))], [(0, .vec .tab p1), (1, .ints .i64 1 [p2])]) 128 (t2 pT) ?_
 refine sq [] none [16, 5, 8, 7, 0, 1] [1, 0] ([(16, .sc (.b (Fkclo (p0.getD k0 ⟨#[]⟩) p1 p2))), (5, .sc (.i .i64 ((k0 : Nat) : Int))), (8, .sc (.i .i64 ((k0 : Nat) : Int))), (7, .sc (.i .i64 ((p0.length : Nat) : Int))), (0, .sc (.ros p0)), (1, .sc (.clo 51 0 1))], [(1, .ints .i64 1 [p2]), (0, .vec .tab p1)]) 224 (t3 (pu (lo ((0 : Int) ≤ ((k0 : Nat) : Int) ∧ ((k0 : Nat) : Int) < (p0.length : Int))) (t1 (pu (pa pT (pl (show ((0 : Int) ≤ p2 ∧ p2 < 8) ∧ rows8 p1 from by exact hC.1))) pT)))) ?_
 refine Tri.cond (x := (Fkclo (p0.getD k0 ⟨#[]⟩) p1 p2)) (by kernel_rfl) (fun h2 => ?_) (fun h2 => ?_)
 refine sq [] none [4] [1, 0] ([(4, .sc (.i .i64 ((k0 : Nat) : Int)))], [(1, .ints .i64 1 [p2]), (0, .vec .tab p1)]) 256 (t2 pT) ?_
 refine Tri.ret ?_
 subst hz0
 have hf0 : fstB (FkIdxFs0 p0 p1 p2) p0.length = k0 := fst_found (by omega) hJ0 (by simp only [FkIdxFs0, h1, h2, sel_true, sel_false])
 have hb0 : Nat.blt k0 p0.length = true := blt_true (by omega)
 have hq0 : Nat.blt (fstB (FkIdxFs0 p0 p1 p2) p0.length) p0.length = true := by rw [hf0]; exact hb0
 refine rt ?_
 refine endP.conv (r' := ⟨.sc (.i .i64 ((k0 : Nat) : Int)), [some (.vec .tab p1), some (.ints .i64 1 [p2])]⟩) (by simp only [FkIdxF, hq0, hf0, hb0, sel_true, sel_false]) ?_
 exact er [(0, 0), (1, 1)] pz
 refine Tri.skip ?_
 change Tri _ _ _ _ _ _
 refine rq [(18, qi ((k0 + 1 : Nat) : Int))] none [8, 7, 0, 1] [1, 0] ([(8, .sc (.i .i64 ((k0 + 1 : Nat) : Int))), (7, .sc (.i .i64 ((p0.length : Nat) : Int))), (0, .sc (.ros p0)), (1, .sc (.clo 51 0 1))], [(1, .ints .i64 1 [p2]), (0, .vec .tab p1)]) 256 (pv pT (pl (show (iAdd .i64 ((k0 : Nat) : Int) 1) = ((k0 + 1 : Nat) : Int) from iAdd_nat (a := k0) (b := 1) (by omega))) (t1 pT)) ?_
 repeat (refine blkP_normal ?_)
 refine countP_normal (by omega) (below_succ hJ0 (by subst hz0; simp only [FkIdxFs0, h1, h2, sel_true, sel_false])) ?_
 exact sp [(0, 0), (1, 1)] [8, 7, 0, 1]
 have h1' := of_decide_eq_false h1
 refine Tri.exit ?_
 have hend0 : k0 = p0.length := by (have := of_decide_eq_false h1; omega)
 subst hend0; subst hz0
 have hf0 : fstB (FkIdxFs0 p0 p1 p2) p0.length = p0.length := fst_none hJ0
 have hb0 : Nat.blt p0.length p0.length = false := blt_self _
 have hq0 : Nat.blt (fstB (FkIdxFs0 p0 p1 p2) p0.length) p0.length = false := by rw [hf0]; exact hb0
 change Tri _ _ _ _ _ _
 refine sq [] none [4] [0, 1] ([(4, .sc (.i .i64 (-1)))], [(0, .vec .tab p1), (1, .ints .i64 1 [p2])]) 112 (t1 pT) ?_
 refine Tri.ret ?_
 refine rt ?_
 refine endP.conv (r' := ⟨.sc (.i .i64 (-1)), [some (.vec .tab p1), some (.ints .i64 1 [p2])]⟩) (by simp only [FkIdxF, hq0, hf0, hb0, sel_true, sel_false]) ?_
 exact er [(0, 0), (1, 1)] pz
theorem idxF_in {p0 : List ByteArray} {p1 : List (List ByteArray)} {p2 : Int} (h : 0 ≤ FkIdxF p0 p1 p2) : 0 ≤ FkIdxF p0 p1 p2 ∧ FkIdxF p0 p1 p2 < p0.length := by
  refine ⟨h, ?_⟩
  unfold FkIdxF at h ⊢
  cases hb : Nat.blt (fstB (FkIdxFs0 p0 p1 p2) p0.length) p0.length
  · rw [hb, sel_false] at h; exact absurd h (by decide)
  · rw [sel_true]
    rw [Nat.blt_eq] at hb
    omega
noncomputable def FkAgreel0 (k0 : Nat) (z0 : Unit) : Unit :=
  ()
noncomputable def FkAgrees0 (p0 : List (List ByteArray)) (p1 : List (List ByteArray)) (k0 : Nat) : Bool :=
  (sel (decide (((FkIdxF (p0.getD k0 []) p1 ((k0 : Nat) : Int)) : Int) < 0)) true (sel (!(strEq ((p0.getD ((((k0 : Nat) : Int)).toNat) []).getD (((FkIdxF (p0.getD k0 []) p1 ((k0 : Nat) : Int))).toNat) ⟨#[]⟩) (((FkOwn).getD ((((k0 : Nat) : Int)).toNat) []).getD 0 ⟨#[]⟩))) true false))
noncomputable def FkAgree (p0 : List (List ByteArray)) (p1 : List (List ByteArray)) : Int :=
  (sel (Nat.blt (fstB (FkAgrees0 p0 p1) 8) 8) 7 0)
noncomputable def SkAgree : List AV → List Blk → Option (Prop × Ret)
  | [.arr .tab p0, .arr .tab p1], [] => some ((rows8 p0 ∧ rows8 p1), ⟨.sc (.i .i64 (FkAgree p0 p1)), []⟩)
  | _, _ => none
noncomputable def BkAgree : Bs := { P := Go.Proofs.Tryd.prog, G := gD, tab := tabOf [⟨18, 64, [], [], [], ⟨0, 0, SkOwn⟩, false⟩, ⟨50, 256, [.ros, .io], [], [32, 160], ⟨2, 0, SkIdxF⟩, false⟩], n := 34 }
theorem BkAgree.ok : BkAgree.Ok := ⟨tabOk (P := Go.Proofs.Tryd.prog) (G := gD) (l := [⟨18, 64, [], [], [], ⟨0, 0, SkOwn⟩, false⟩, ⟨50, 256, [.ros, .io], [], [32, 160], ⟨2, 0, SkIdxF⟩, false⟩]) (And.intro KkOwn (And.intro KkIdxF True.intro)), mixed⟩
theorem KkAgree : Known Go.Proofs.Tryd.prog gD 16 ⟨0, 0, SkAgree⟩ := by
 refine Known.walk (B := BkAgree) (fn := Go.Proofs.Tryd.f16) BkAgree.ok (by kernel_rfl) rfl (by kernel_rfl) (by kernel_rfl) (by decide) (by decide) ?_
 intro E args ks C r h hC hlen
 simp only at h
 unfold SkAgree at h
 split at h
 rotate_left
 cases h
 rename_i p0 p1
 cases h
 simp only [lens] at hlen
 have hr := hC.1.1
 have hr2 := hC.2.1
 have hr3 := own_8
 refine ⟨show 2 ≤ 34 from by decide, ?_⟩
 refine Tri.sub (Sub.of_eq (show _ = ([(0, .arr .tab p0), (1, .arr .tab p1)], []) from rfl)) ?_
 refine sq [] none [3, 2] [32, 16] ([(3, .sc (.p 32 0)), (2, .sc (.p 16 0))], [(32, .vec .tab p1), (16, .vec .tab p0)]) 64 (t3 pT) ?_
 refine sq [] none [5, 3, 2] [80, 32, 16] ([(5, .sc (.p 80 0)), (3, .sc (.p 32 0)), (2, .sc (.p 16 0))], [(80, .vec .tab (FkOwn)), (32, .vec .tab p1), (16, .vec .tab p0)]) 112 (pu pz (t1 (pu (pa (lo ((FkOwn).length = 8)) (lr (8 = 8))) pT))) ?_
 refine Tri.seq ?_
 refine sq [] none [9, 5, 3, 2] [80, 32, 16] ([(9, .sc (.i .i64 0)), (5, .sc (.p 80 0)), (3, .sc (.p 32 0)), (2, .sc (.p 16 0))], [(80, .vec .tab (FkOwn)), (32, .vec .tab p1), (16, .vec .tab p0)]) 128 (t1 pT) ?_
 refine Tri.block ?_
 refine Tri.count 128 8 (FkAgreel0) (()) (fun k0 z0 => (∀ j, j < k0 → (FkAgrees0 p0 p1) j = false)) (fun k0 z0 => ([(9, .sc (.i .i64 ((k0 : Nat) : Int))), (5, .sc (.p 80 0)), (3, .sc (.p 32 0)), (2, .sc (.p 16 0))], [(80, .vec .tab (FkOwn)), (32, .vec .tab p1), (16, .vec .tab p0)])) (fun j hj => absurd hj (Nat.not_lt_zero j)) (Sub.of_eq (by kernel_rfl)) ?_
 intro k0 z0 hk0 hz0 hJ0
 have hs := hC.1.2 k0
 refine sq [] none [10, 9, 5, 3, 2] [80, 32, 16] ([(10, .sc (.b (decide ((((k0 : Nat) : Int) : Int) < 8)))), (9, .sc (.i .i64 ((k0 : Nat) : Int))), (5, .sc (.p 80 0)), (3, .sc (.p 32 0)), (2, .sc (.p 16 0))], [(80, .vec .tab (FkOwn)), (32, .vec .tab p1), (16, .vec .tab p0)]) 144 (t1 pT) ?_
 refine Tri.seq ?_
 refine Tri.cond (x := (decide ((((k0 : Nat) : Int) : Int) < 8))) (by kernel_rfl) (fun h1 => ?_) (fun h1 => ?_)
 have h1' := of_decide_eq_true h1
 refine Tri.skip ?_
 change Tri _ _ _ _ _ _
 refine Tri.seq ?_
 refine Tri.block ?_
 refine sq [] none [6, 9, 5, 3, 2] [160, 80, 32, 16] ([(6, .sc (.p 160 0)), (9, .sc (.i .i64 ((k0 : Nat) : Int))), (5, .sc (.p 80 0)), (3, .sc (.p 32 0)), (2, .sc (.p 16 0))], [(160, .ints .i64 1 [((k0 : Nat) : Int)]), (80, .vec .tab (FkOwn)), (32, .vec .tab p1), (16, .vec .tab p0)]) 192 (t2 (pu (pa (lo (0 < 1)) (lr (1 = 1))) pT)) ?_
 refine sq [] none [7, 6, 9, 5, 3, 2] [160, 32, 80, 16] ([(7, .sc (.i .i64 (FkIdxF (p0.getD k0 []) p1 ((k0 : Nat) : Int)))), (6, .sc (.p 160 0)), (9, .sc (.i .i64 ((k0 : Nat) : Int))), (5, .sc (.p 80 0)), (3, .sc (.p 32 0)), (2, .sc (.p 16 0))], [(160, .ints .i64 1 [((k0 : Nat) : Int)]), (32, .vec .tab p1), (80, .vec .tab (FkOwn)), (16, .vec .tab p0)]) 288 (pu (lo (0 < 1)) (pu (lo ((0 : Int) ≤ ((k0 : Nat) : Int) ∧ ((k0 : Nat) : Int) < ((8 : Nat) : Int))) (pu (lo (k0 < p0.length)) (t1 (pu (pa pT (pl (show (((0 : Int) ≤ ((k0 : Nat) : Int) ∧ ((k0 : Nat) : Int) < 8) ∧ rows8 p1) ∧ (p0.getD k0 []).length ≤ 1000000000 from by exact ⟨⟨by omega, hC.2⟩, hs⟩))) (t1 pT)))))) ?_
 refine Tri.split (decide (((FkIdxF (p0.getD k0 []) p1 ((k0 : Nat) : Int)) : Int) < 0)) (fun h2 => ?_) (fun h2 => ?_)
 have h2' := of_decide_eq_true h2
 refine sq [(19, qb true)] (some [0, 1, 3, 7, 15, 31, 7, 127, 255, 7, 519, 1543, 3591, 7687, 16383, 32767]) [32, 9, 5, 3, 2] [32, 80, 16] ([(32, .sc (.b true)), (9, .sc (.i .i64 ((k0 : Nat) : Int))), (5, .sc (.p 80 0)), (3, .sc (.p 32 0)), (2, .sc (.p 16 0))], [(32, .vec .tab p1), (80, .vec .tab (FkOwn)), (16, .vec .tab p0)]) 544 (t2 (pg h2 (t4 (t9 pT)))) ?_
 refine Tri.cond_true (by kernel_rfl) ?_
 refine sq [] none [4] [] ([(4, .sc (.i .i64 7))], []) 560 (t1 pT) ?_
 refine Tri.ret ?_
 subst hz0
 have hf0 : fstB (FkAgrees0 p0 p1) 8 = k0 := fst_found (by omega) hJ0 (by simp only [FkAgrees0, h1, h2, sel_true, sel_false])
 have hb0 : Nat.blt k0 8 = true := blt_true (by omega)
 have hq0 : Nat.blt (fstB (FkAgrees0 p0 p1) 8) 8 = true := by rw [hf0]; exact hb0
 refine rt ?_
 refine endP.conv (r' := ⟨.sc (.i .i64 7), []⟩) (by simp only [FkAgree, hq0, hf0, hb0, sel_true, sel_false]) ?_
 exact er [] pz
 have h2' := of_decide_eq_false h2
 refine sq [(19, qb false)] (some [0, 1, 3, 7, 15, 31, 7, 127, 255, 7, 519, 1543, 3591, 7687, 16383, 32767]) [32, 9, 5, 3, 2] [32, 80, 16] ([(32, .sc (.b (!(strEq ((p0.getD ((((k0 : Nat) : Int)).toNat) []).getD (((FkIdxF (p0.getD k0 []) p1 ((k0 : Nat) : Int))).toNat) ⟨#[]⟩) (((FkOwn).getD ((((k0 : Nat) : Int)).toNat) []).getD 0 ⟨#[]⟩))))), (9, .sc (.i .i64 ((k0 : Nat) : Int))), (5, .sc (.p 80 0)), (3, .sc (.p 32 0)), (2, .sc (.p 16 0))], [(32, .vec .tab p1), (80, .vec .tab (FkOwn)), (16, .vec .tab p0)]) 544 (t2 (pg h2 (pu (lo (0 < 1)) (pu (lo ((0 : Int) ≤ ((k0 : Nat) : Int) ∧ ((k0 : Nat) : Int) < ((8 : Nat) : Int))) (pu (lo ((((k0 : Nat) : Int)).toNat < p0.length)) (t1 (pu (pl (show (0 : Int) ≤ (FkIdxF (p0.getD k0 []) p1 ((k0 : Nat) : Int)) ∧ (FkIdxF (p0.getD k0 []) p1 ((k0 : Nat) : Int)) < ((p0.getD ((((k0 : Nat) : Int)).toNat) []).length : Int) from by first | omega | decide | exact own_at (by omega) | exact idxF_in (by omega))) (t1 (pu (lo (0 < 1)) (pu (lo ((0 : Int) ≤ ((k0 : Nat) : Int) ∧ ((k0 : Nat) : Int) < ((8 : Nat) : Int))) (pu (lo ((((k0 : Nat) : Int)).toNat < (FkOwn).length)) (pu (pl (show (0 : Int) ≤ 0 ∧ 0 < (((FkOwn).getD ((((k0 : Nat) : Int)).toNat) []).length : Int) from by first | omega | decide | exact own_at (by omega) | exact idxF_in (by omega))) (t3 pT))))))))))))) ?_
 refine Tri.cond (x := (!(strEq ((p0.getD ((((k0 : Nat) : Int)).toNat) []).getD (((FkIdxF (p0.getD k0 []) p1 ((k0 : Nat) : Int))).toNat) ⟨#[]⟩) (((FkOwn).getD ((((k0 : Nat) : Int)).toNat) []).getD 0 ⟨#[]⟩)))) (by kernel_rfl) (fun h3 => ?_) (fun h3 => ?_)
 refine sq [] none [4] [] ([(4, .sc (.i .i64 7))], []) 560 (t1 pT) ?_
 refine Tri.ret ?_
 subst hz0
 have hf0 : fstB (FkAgrees0 p0 p1) 8 = k0 := fst_found (by omega) hJ0 (by simp only [FkAgrees0, h1, h2, h3, sel_true, sel_false])
 have hb0 : Nat.blt k0 8 = true := blt_true (by omega)
 have hq0 : Nat.blt (fstB (FkAgrees0 p0 p1) 8) 8 = true := by rw [hf0]; exact hb0
 refine rt ?_
 refine endP.conv (r' := ⟨.sc (.i .i64 7), []⟩) (by simp only [FkAgree, hq0, hf0, hb0, sel_true, sel_false]) ?_
 exact er [] pz
 refine Tri.skip ?_
 change Tri _ _ _ _ _ _
 refine rq [(33, qi ((k0 + 1 : Nat) : Int))] none [9, 5, 3, 2] [32, 80, 16] ([(9, .sc (.i .i64 ((k0 + 1 : Nat) : Int))), (5, .sc (.p 80 0)), (3, .sc (.p 32 0)), (2, .sc (.p 16 0))], [(32, .vec .tab p1), (80, .vec .tab (FkOwn)), (16, .vec .tab p0)]) 576 (pv pT (pl (show (iAdd .i64 ((k0 : Nat) : Int) 1) = ((k0 + 1 : Nat) : Int) from iAdd_nat (a := k0) (b := 1) (by omega))) (t1 pT)) ?_
 repeat (refine blkP_normal ?_)
 refine countP_normal (by omega) (below_succ hJ0 (by subst hz0; simp only [FkAgrees0, h1, h2, h3, sel_true, sel_false])) ?_
 exact sp [(80, 80), (32, 32), (16, 16)] [9, 5, 3, 2]
 have h1' := of_decide_eq_false h1
 refine Tri.exit ?_
 have hend0 : k0 = 8 := by (have := of_decide_eq_false h1; omega)
 subst hend0; subst hz0
 have hf0 : fstB (FkAgrees0 p0 p1) 8 = 8 := fst_none hJ0
 have hb0 : Nat.blt 8 8 = false := blt_self _
 have hq0 : Nat.blt (fstB (FkAgrees0 p0 p1) 8) 8 = false := by rw [hf0]; exact hb0
 change Tri _ _ _ _ _ _
 refine sq [] none [4] [] ([(4, .sc (.i .i64 0))], []) 160 (t1 pT) ?_
 refine Tri.ret ?_
 refine rt ?_
 refine endP.conv (r' := ⟨.sc (.i .i64 0), []⟩) (by simp only [FkAgree, hq0, hf0, hb0, sel_true, sel_false]) ?_
 exact er [] pz
noncomputable def BkrAgree : Bs := { P := Go.Proofs.Tryd.prog, G := gD, tab := tabOf [⟨53, 64, [], [], [], ⟨0, 0, SkrOwn⟩, false⟩, ⟨54, 544, [.ros, .val], [], [], ⟨0, 0, Skhas⟩, false⟩], n := 49 }
theorem BkrAgree.ok : BkrAgree.Ok := ⟨tabOk (P := Go.Proofs.Tryd.prog) (G := gD) (l := [⟨53, 64, [], [], [], ⟨0, 0, SkrOwn⟩, false⟩, ⟨54, 544, [.ros, .val], [], [], ⟨0, 0, Skhas⟩, false⟩]) (And.intro KkrOwn (And.intro Kkhas True.intro)), mixed⟩
end Go.Vm
set_option linter.unusedVariables false
set_option linter.unusedSimpArgs false
set_option maxRecDepth 4000
set_option maxHeartbeats 2000000
namespace Go.Vm
open Go
noncomputable def FkFromO (p0 : Nat) (p2 : List Int) : List Int :=
  part1 p2 p0 0 p0
noncomputable def SkFromO : List AV → List Blk → Option (Prop × Ret)
  | [.sc (.sl 0 0 p0 1 none)], [.ints .u8 p1 p2] => some (((p0 = p1) ∧ True), ⟨.sc (.p 1 0), [none, some (.cells [.ro .u8 (FkFromO p0 p2), .b false])]⟩)
  | _, _ => none
noncomputable def BkFromO : Bs := { P := Go.Proofs.Tryd.prog, G := gD, tab := tabOf [], n := 6 }
theorem BkFromO.ok : BkFromO.Ok := ⟨tabOk (P := Go.Proofs.Tryd.prog) (G := gD) (l := []) True.intro, mixed⟩
theorem KkFromO : Known Go.Proofs.Tryd.prog gD 38 ⟨1, 1, SkFromO⟩ := by
 refine Known.walk (B := BkFromO) (fn := Go.Proofs.Tryd.f38) BkFromO.ok (by kernel_rfl) rfl (by kernel_rfl) (by kernel_rfl) (by decide) (by decide) ?_
 intro E args ks C r h hC hlen
 simp only at h
 unfold SkFromO at h
 split at h
 rotate_left
 cases h
 rename_i p0 p1 p2
 cases h
 simp only [lens] at hlen
 obtain ⟨hEp1, hC⟩ := hC
 subst hEp1
 refine ⟨show 1 ≤ 6 from by decide, ?_⟩
 refine Tri.sub (Sub.of_eq (show _ = ([(0, .sc (.sl 0 0 p0 1 none))], [(0, .ints .u8 p0 p2)]) from rfl)) ?_
 refine Tri.sub (Sub.still (s' := ([(0, .sc (.ro .u8 (part1 p2 p0 0 p0)))], [])) 0 (.ints .u8 p0 p2) (by kernel_rfl) (show 0 + p0 ≤ p0 from by first | omega | (rw [adr_eq]; omega) | exact iAnd_nn _ _ | exact iSub_nn _ _ | exact part1_le (by omega) (by first | omega | (simp only [List.length_append]; omega)) | decide) (by kernel_rfl)) ?_
 refine sq [] none [0] [] ([(0, .sc (.ro .u8 (part1 p2 p0 0 p0)))], []) 32 (t1 pT) ?_
 refine sq [] none [2] [64] ([(2, .sc (.p 64 0))], [(64, .cells [.ro .u8 (part1 p2 p0 0 p0), .b false])]) 96 (t1 (pu (pa (pa (lo (0 < 2)) (lr (1 = 1))) pT) (t2 pT))) ?_
 refine Tri.ret ?_
 refine rt ?_
 exact er [(64, 1)] pz
noncomputable def Fkpre2 (p0 : ByteArray) (p1 : ByteArray) : Bool :=
  (sel (decide ((((p0.size : Nat) : Int) : Int) ≥ ((p1.size : Nat) : Int))) (strEq (p0.extract 0 p1.size) p1) false)
noncomputable def Skpre2 : List AV → List Blk → Option (Prop × Ret)
  | [.sc (.s p0), .sc (.s p1)], [] => some (True, ⟨.sc (.b (Fkpre2 p0 p1)), []⟩)
  | _, _ => none
noncomputable def Bkpre2 : Bs := { P := Go.Proofs.Tryd.prog, G := gD, tab := tabOf [], n := 18 }
theorem Bkpre2.ok : Bkpre2.Ok := ⟨tabOk (P := Go.Proofs.Tryd.prog) (G := gD) (l := []) True.intro, mixed⟩
theorem Kkpre2 : Known Go.Proofs.Tryd.prog gD 72 ⟨0, 0, Skpre2⟩ := by
 refine Known.walk (B := Bkpre2) (fn := Go.Proofs.Tryd.f72) Bkpre2.ok (by kernel_rfl) rfl (by kernel_rfl) (by kernel_rfl) (by decide) (by decide) ?_
 intro E args ks C r h hC hlen
 simp only at h
 unfold Skpre2 at h
 split at h
 rotate_left
 cases h
 rename_i p0 p1
 cases h
 simp only [lens] at hlen
 refine ⟨show 2 ≤ 18 from by decide, ?_⟩
 refine Tri.sub (Sub.of_eq (show _ = ([(0, .sc (.s p0)), (1, .sc (.s p1))], []) from rfl)) ?_
 refine sq [] none [0, 1] [] ([(0, .sc (.s p0)), (1, .sc (.s p1))], []) 32 (t1 pT) ?_
 refine Tri.split (decide ((((p0.size : Nat) : Int) : Int) ≥ ((p1.size : Nat) : Int))) (fun h1 => ?_) (fun h1 => ?_)
 have h1' := of_decide_eq_true h1
 refine sq [(10, qb true)] none [4] [] ([(4, .sc (.b (strEq (p0.extract 0 p1.size) p1)))], []) 256 (t5 (pg h1 (t3 (pu (lo ((0 : Int) ≤ 0 ∧ (0 : Int) ≤ ((p1.size : Nat) : Int) ∧ ((p1.size : Nat) : Int) ≤ (p0.size : Int))) (t4 pT))))) ?_
 refine Tri.ret ?_
 refine rt ?_
 refine endP.conv (r' := ⟨.sc (.b (strEq (p0.extract 0 p1.size) p1)), []⟩) (by simp only [Fkpre2, h1, sel_true, sel_false]) ?_
 exact er [] pz
 have h1' := of_decide_eq_false h1
 refine sq [(10, qb false)] none [4] [] ([(4, .sc (.b false))], []) 256 (t5 (pg h1 (t8 pT))) ?_
 refine Tri.ret ?_
 refine rt ?_
 refine endP.conv (r' := ⟨.sc (.b false), []⟩) (by simp only [Fkpre2, h1, sel_true, sel_false]) ?_
 exact er [] pz
noncomputable def Fkpre (p0 : ByteArray) (p1 : ByteArray) : Bool :=
  (Fkpre2 p0 p1)
noncomputable def Skpre : List AV → List Blk → Option (Prop × Ret)
  | [.sc (.s p0), .sc (.s p1)], [] => some (True, ⟨.sc (.b (Fkpre p0 p1)), []⟩)
  | _, _ => none
noncomputable def Bkpre : Bs := { P := Go.Proofs.Tryd.prog, G := gD, tab := tabOf [⟨72, 64, [.val, .val], [], [], ⟨0, 0, Skpre2⟩, false⟩], n := 8 }
theorem Bkpre.ok : Bkpre.Ok := ⟨tabOk (P := Go.Proofs.Tryd.prog) (G := gD) (l := [⟨72, 64, [.val, .val], [], [], ⟨0, 0, Skpre2⟩, false⟩]) (And.intro Kkpre2 True.intro), mixed⟩
theorem Kkpre : Known Go.Proofs.Tryd.prog gD 59 ⟨0, 0, Skpre⟩ := by
 refine Known.walk (B := Bkpre) (fn := Go.Proofs.Tryd.f59) Bkpre.ok (by kernel_rfl) rfl (by kernel_rfl) (by kernel_rfl) (by decide) (by decide) ?_
 intro E args ks C r h hC hlen
 simp only at h
 unfold Skpre at h
 split at h
 rotate_left
 cases h
 rename_i p0 p1
 cases h
 simp only [lens] at hlen
 refine ⟨show 2 ≤ 8 from by decide, ?_⟩
 refine Tri.sub (Sub.of_eq (show _ = ([(0, .sc (.s p0)), (1, .sc (.s p1))], []) from rfl)) ?_
 refine sq [] none [0, 1] [] ([(0, .sc (.s p0)), (1, .sc (.s p1))], []) 32 (t1 pT) ?_
 refine sq [] none [4] [] ([(4, .sc (.b (Fkpre2 p0 p1)))], []) 96 (t2 (pu pz (t1 pT))) ?_
 refine Tri.ret ?_
 refine rt ?_
 exact er [] pz
noncomputable def FkLinel0 (k0 : Nat) (z0 : Unit) : Unit :=
  ()
noncomputable def FkLines0 (p0 : ByteArray) (k0 : Nat) : Bool :=
  (sel (decide (((bytesI p0).getD k0 0 : Int) < 32)) true (sel (decide (((bytesI p0).getD k0 0 : Int) > 126)) true false))
noncomputable def FkLine (p0 : ByteArray) : ByteArray :=
  (sel (!(Fkpre p0 (⟨#[83, 83, 72, 45, 50, 46, 48, 45]⟩ : ByteArray))) (⟨#[]⟩ : ByteArray) (sel (decide ((((p0.size : Nat) : Int) : Int) > 100)) (⟨#[]⟩ : ByteArray) (sel (Nat.blt (fstB (FkLines0 p0) p0.size) p0.size) (⟨#[]⟩ : ByteArray) p0)))
noncomputable def SkLine : List AV → List Blk → Option (Prop × Ret)
  | [.sc (.s p0)], [] => some (True, ⟨.sc (.s (FkLine p0)), []⟩)
  | _, _ => none
noncomputable def BkLine : Bs := { P := Go.Proofs.Tryd.prog, G := gD, tab := tabOf [⟨59, 48, [.val, .val], [], [], ⟨0, 0, Skpre⟩, false⟩], n := 28 }
theorem BkLine.ok : BkLine.Ok := ⟨tabOk (P := Go.Proofs.Tryd.prog) (G := gD) (l := [⟨59, 48, [.val, .val], [], [], ⟨0, 0, Skpre⟩, false⟩]) (And.intro Kkpre True.intro), mixed⟩
theorem KkLine : Known Go.Proofs.Tryd.prog gD 25 ⟨0, 0, SkLine⟩ := by
 refine Known.walk (B := BkLine) (fn := Go.Proofs.Tryd.f25) BkLine.ok (by kernel_rfl) rfl (by kernel_rfl) (by kernel_rfl) (by decide) (by decide) ?_
 intro E args ks C r h hC hlen
 simp only at h
 unfold SkLine at h
 split at h
 rotate_left
 cases h
 rename_i p0
 cases h
 simp only [lens] at hlen
 refine ⟨show 1 ≤ 28 from by decide, ?_⟩
 refine Tri.sub (Sub.of_eq (show _ = ([(0, .sc (.s p0))], []) from rfl)) ?_
 refine sq [] none [0] [] ([(0, .sc (.s p0))], []) 32 (t1 pT) ?_
 refine Tri.seq ?_
 refine Tri.split (!(Fkpre p0 (⟨#[83, 83, 72, 45, 50, 46, 48, 45]⟩ : ByteArray))) (fun h1 => ?_) (fun h1 => ?_)
 refine sq [(8, qb true)] none [12, 0] [] ([(12, .sc (.b true)), (0, .sc (.s p0))], []) 160 (t1 (pu pz (t1 (pg h1 (t4 pT))))) ?_
 refine Tri.cond_true (by kernel_rfl) ?_
 refine sq [] none [2] [] ([(2, .sc (.s (⟨#[]⟩ : ByteArray)))], []) 176 (t1 pT) ?_
 refine Tri.ret ?_
 refine rt ?_
 refine endP.conv (r' := ⟨.sc (.s (⟨#[]⟩ : ByteArray)), []⟩) (by simp only [FkLine, h1, sel_true, sel_false]) ?_
 exact er [] pz
 refine sq [(8, qb false)] none [12, 0] [] ([(12, .sc (.b (decide ((((p0.size : Nat) : Int) : Int) > 100)))), (0, .sc (.s p0))], []) 160 (t1 (pu pz (t1 (pg h1 (t4 pT))))) ?_
 refine Tri.cond (x := (decide ((((p0.size : Nat) : Int) : Int) > 100))) (by kernel_rfl) (fun h2 => ?_) (fun h2 => ?_)
 have h2' := of_decide_eq_true h2
 refine sq [] none [2] [] ([(2, .sc (.s (⟨#[]⟩ : ByteArray)))], []) 176 (t1 pT) ?_
 refine Tri.ret ?_
 refine rt ?_
 refine endP.conv (r' := ⟨.sc (.s (⟨#[]⟩ : ByteArray)), []⟩) (by simp only [FkLine, h1, h2, sel_true, sel_false]) ?_
 exact er [] pz
 have h2' := of_decide_eq_false h2
 refine Tri.skip ?_
 change Tri _ _ _ _ _ _
 refine Tri.seq ?_
 refine sq [] none [16, 15, 14, 0] [176] ([(16, .sc (.i .i64 0)), (15, .sc (.i .i64 ((p0.size : Nat) : Int))), (14, .sc (.sl 176 0 p0.size 1 none)), (0, .sc (.s p0))], [(176, .ints .u8 p0.size (bytesI p0))]) 224 (t4 pT) ?_
 refine Tri.block ?_
 refine Tri.count 224 p0.size (FkLinel0) (()) (fun k0 z0 => (∀ j, j < k0 → (FkLines0 p0) j = false)) (fun k0 z0 => ([(16, .sc (.i .i64 ((k0 : Nat) : Int))), (15, .sc (.i .i64 ((p0.size : Nat) : Int))), (14, .sc (.sl 176 0 p0.size 1 none)), (0, .sc (.s p0))], [(176, .ints .u8 p0.size (bytesI p0))])) (fun j hj => absurd hj (Nat.not_lt_zero j)) (Sub.of_eq (by kernel_rfl)) ?_
 intro k0 z0 hk0 hz0 hJ0
 refine sq [] none [17, 16, 15, 14, 0] [176] ([(17, .sc (.b (decide ((((k0 : Nat) : Int) : Int) < ((p0.size : Nat) : Int))))), (16, .sc (.i .i64 ((k0 : Nat) : Int))), (15, .sc (.i .i64 ((p0.size : Nat) : Int))), (14, .sc (.sl 176 0 p0.size 1 none)), (0, .sc (.s p0))], [(176, .ints .u8 p0.size (bytesI p0))]) 240 (t1 pT) ?_
 refine Tri.seq ?_
 refine Tri.cond (x := (decide ((((k0 : Nat) : Int) : Int) < ((p0.size : Nat) : Int)))) (by kernel_rfl) (fun h3 => ?_) (fun h3 => ?_)
 have h3' := of_decide_eq_true h3
 refine Tri.skip ?_
 change Tri _ _ _ _ _ _
 refine Tri.seq ?_
 refine Tri.block ?_
 refine sq [] none [4, 16, 15, 14, 0] [176] ([(4, .sc (.i .u8 ((bytesI p0).getD k0 0))), (16, .sc (.i .i64 ((k0 : Nat) : Int))), (15, .sc (.i .i64 ((p0.size : Nat) : Int))), (14, .sc (.sl 176 0 p0.size 1 none)), (0, .sc (.s p0))], [(176, .ints .u8 p0.size (bytesI p0))]) 288 (pu (lo ((0 : Int) ≤ ((k0 : Nat) : Int) ∧ ((k0 : Nat) : Int) < ((p0.size : Nat) : Int))) (pu (lo (k0 < p0.size)) (t1 pT))) ?_
 refine Tri.split (decide (((bytesI p0).getD k0 0 : Int) < 32)) (fun h4 => ?_) (fun h4 => ?_)
 have h4' := of_decide_eq_true h4
 refine sq [(22, qb true)] none [25, 16, 15, 14, 0] [176] ([(25, .sc (.b true)), (16, .sc (.i .i64 ((k0 : Nat) : Int))), (15, .sc (.i .i64 ((p0.size : Nat) : Int))), (14, .sc (.sl 176 0 p0.size 1 none)), (0, .sc (.s p0))], [(176, .ints .u8 p0.size (bytesI p0))]) 384 (t2 (pg h4 (t3 pT))) ?_
 refine Tri.cond_true (by kernel_rfl) ?_
 refine sq [] none [2] [] ([(2, .sc (.s (⟨#[]⟩ : ByteArray)))], []) 400 (t1 pT) ?_
 refine Tri.ret ?_
 subst hz0
 have hf0 : fstB (FkLines0 p0) p0.size = k0 := fst_found (by omega) hJ0 (by simp only [FkLines0, h1, h2, h3, h4, sel_true, sel_false])
 have hb0 : Nat.blt k0 p0.size = true := blt_true (by omega)
 have hq0 : Nat.blt (fstB (FkLines0 p0) p0.size) p0.size = true := by rw [hf0]; exact hb0
 refine rt ?_
 refine endP.conv (r' := ⟨.sc (.s (⟨#[]⟩ : ByteArray)), []⟩) (by simp only [FkLine, h1, h2, hq0, hf0, hb0, sel_true, sel_false]) ?_
 exact er [] pz
 have h4' := of_decide_eq_false h4
 refine sq [(22, qb false)] none [25, 16, 15, 14, 0] [176] ([(25, .sc (.b (decide (((bytesI p0).getD k0 0 : Int) > 126)))), (16, .sc (.i .i64 ((k0 : Nat) : Int))), (15, .sc (.i .i64 ((p0.size : Nat) : Int))), (14, .sc (.sl 176 0 p0.size 1 none)), (0, .sc (.s p0))], [(176, .ints .u8 p0.size (bytesI p0))]) 384 (t2 (pg h4 (t3 pT))) ?_
 refine Tri.cond (x := (decide (((bytesI p0).getD k0 0 : Int) > 126))) (by kernel_rfl) (fun h5 => ?_) (fun h5 => ?_)
 have h5' := of_decide_eq_true h5
 refine sq [] none [2] [] ([(2, .sc (.s (⟨#[]⟩ : ByteArray)))], []) 400 (t1 pT) ?_
 refine Tri.ret ?_
 subst hz0
 have hf0 : fstB (FkLines0 p0) p0.size = k0 := fst_found (by omega) hJ0 (by simp only [FkLines0, h1, h2, h3, h4, h5, sel_true, sel_false])
 have hb0 : Nat.blt k0 p0.size = true := blt_true (by omega)
 have hq0 : Nat.blt (fstB (FkLines0 p0) p0.size) p0.size = true := by rw [hf0]; exact hb0
 refine rt ?_
 refine endP.conv (r' := ⟨.sc (.s (⟨#[]⟩ : ByteArray)), []⟩) (by simp only [FkLine, h1, h2, hq0, hf0, hb0, sel_true, sel_false]) ?_
 exact er [] pz
 have h5' := of_decide_eq_false h5
 refine Tri.skip ?_
 change Tri _ _ _ _ _ _
 refine rq [(26, qi ((k0 + 1 : Nat) : Int))] none [16, 15, 14, 0] [176] ([(16, .sc (.i .i64 ((k0 + 1 : Nat) : Int))), (15, .sc (.i .i64 ((p0.size : Nat) : Int))), (14, .sc (.sl 176 0 p0.size 1 none)), (0, .sc (.s p0))], [(176, .ints .u8 p0.size (bytesI p0))]) 416 (pv pT (pl (show (iAdd .i64 ((k0 : Nat) : Int) 1) = ((k0 + 1 : Nat) : Int) from iAdd_nat (a := k0) (b := 1) (by omega))) (t1 pT)) ?_
 repeat (refine blkP_normal ?_)
 refine countP_normal (by omega) (below_succ hJ0 (by subst hz0; simp only [FkLines0, h1, h2, h3, h4, h5, sel_true, sel_false])) ?_
 exact sp [(176, 176)] [16, 15, 14, 0]
 have h3' := of_decide_eq_false h3
 refine Tri.exit ?_
 have hend0 : k0 = p0.size := by (have := of_decide_eq_false h3; omega)
 subst hend0; subst hz0
 have hf0 : fstB (FkLines0 p0) p0.size = p0.size := fst_none hJ0
 have hb0 : Nat.blt p0.size p0.size = false := blt_self _
 have hq0 : Nat.blt (fstB (FkLines0 p0) p0.size) p0.size = false := by rw [hf0]; exact hb0
 change Tri _ _ _ _ _ _
 refine sq [] none [2] [] ([(2, .sc (.s p0))], []) 272 (t2 pT) ?_
 refine Tri.ret ?_
 refine rt ?_
 refine endP.conv (r' := ⟨.sc (.s p0), []⟩) (by simp only [FkLine, h1, h2, hq0, hf0, hb0, sel_true, sel_false]) ?_
 exact er [] pz
noncomputable def BkrLine : Bs := { P := Go.Proofs.Tryd.prog, G := gD, tab := tabOf [], n := 34 }
theorem BkrLine.ok : BkrLine.Ok := ⟨tabOk (P := Go.Proofs.Tryd.prog) (G := gD) (l := []) True.intro, mixed⟩
noncomputable def FkBlobv0 : List Int :=
  (FwwTextn (⟨#[115, 115, 104, 45, 101, 100, 50, 53, 53, 49, 57]⟩ : ByteArray))
noncomputable def FkBlobv1 (p0 : ByteArray) : List Int :=
  (FwwText (4 + (⟨#[115, 115, 104, 45, 101, 100, 50, 53, 53, 49, 57]⟩ : ByteArray).size) (FkBlobv0) p0)
noncomputable def FkBlob (p0 : ByteArray) : ByteArray :=
  (bytesOf (((FkBlobv1 p0).drop 0).take (((4 + (⟨#[115, 115, 104, 45, 101, 100, 50, 53, 53, 49, 57]⟩ : ByteArray).size) + 4) + p0.size)))
noncomputable def SkBlob : List AV → List Blk → Option (Prop × Ret)
  | [.sc (.s p0)], [] => some ((p0.size ≤ 1000000000), ⟨.sc (.s (FkBlob p0)), []⟩)
  | _, _ => none
noncomputable def BkBlob : Bs := { P := Go.Proofs.Tryd.prog, G := gD, tab := tabOf [⟨55, 32, [.val, .val], [], [], ⟨0, 1, SwwTextn⟩, false⟩, ⟨55, 64, [.io, .val], [], [32], ⟨1, 1, SwwText⟩, false⟩], n := 7 }
theorem BkBlob.ok : BkBlob.Ok := ⟨tabOk (P := Go.Proofs.Tryd.prog) (G := gD) (l := [⟨55, 32, [.val, .val], [], [], ⟨0, 1, SwwTextn⟩, false⟩, ⟨55, 64, [.io, .val], [], [32], ⟨1, 1, SwwText⟩, false⟩]) (And.intro KwwTextn (And.intro KwwText True.intro)), mixed⟩
theorem KkBlob : Known Go.Proofs.Tryd.prog gD 19 ⟨0, 0, SkBlob⟩ := by
 refine Known.walk (B := BkBlob) (fn := Go.Proofs.Tryd.f19) BkBlob.ok (by kernel_rfl) rfl (by kernel_rfl) (by kernel_rfl) (by decide) (by decide) ?_
 intro E args ks C r h hC hlen
 simp only at h
 unfold SkBlob at h
 split at h
 rotate_left
 cases h
 rename_i p0
 cases h
 simp only [lens] at hlen
 have sz : (⟨#[115, 115, 104, 45, 101, 100, 50, 53, 53, 49, 57]⟩ : ByteArray).size = 11 := rfl
 refine ⟨show 1 ≤ 7 from by decide, ?_⟩
 refine Tri.sub (Sub.of_eq (show _ = ([(0, .sc (.s p0))], []) from rfl)) ?_
 refine sq [] none [0] [] ([(0, .sc (.s p0))], []) 32 (t1 pT) ?_
 refine sq [] none [2] [] ([(2, .sc (.s (bytesOf (((FkBlobv1 p0).drop 0).take (((4 + (⟨#[115, 115, 104, 45, 101, 100, 50, 53, 53, 49, 57]⟩ : ByteArray).size) + 4) + p0.size)))))], []) 112 (pu (pa pT (lo ((⟨#[115, 115, 104, 45, 101, 100, 50, 53, 53, 49, 57]⟩ : ByteArray).size ≤ 1000000000))) (t1 (pu (pa pT (pa (lr ((4 + (⟨#[115, 115, 104, 45, 101, 100, 50, 53, 53, 49, 57]⟩ : ByteArray).size) = (4 + (⟨#[115, 115, 104, 45, 101, 100, 50, 53, 53, 49, 57]⟩ : ByteArray).size))) (lo ((4 + (⟨#[115, 115, 104, 45, 101, 100, 50, 53, 53, 49, 57]⟩ : ByteArray).size) ≤ 1000000000 ∧ p0.size ≤ 1000000000)))) (pu (lo (0 + (((4 + (⟨#[115, 115, 104, 45, 101, 100, 50, 53, 53, 49, 57]⟩ : ByteArray).size) + 4) + p0.size) ≤ ((4 + (⟨#[115, 115, 104, 45, 101, 100, 50, 53, 53, 49, 57]⟩ : ByteArray).size) + 4) + p0.size)) (t1 pT))))) ?_
 refine Tri.ret ?_
 refine rt ?_
 exact er [] pz
theorem blob_le (s : ByteArray) : (FkBlob s).size ≤ s.size + 19 := by
  have sz : (⟨#[115, 115, 104, 45, 101, 100, 50, 53, 53, 49, 57]⟩ : ByteArray).size = 11 := rfl
  unfold FkBlob
  rw [size_bytesOf, List.length_take, sz]
  omega
noncomputable def BkrBlob : Bs := { P := Go.Proofs.Tryd.prog, G := gD, tab := tabOf [⟨56, 32, [.val], [], [], ⟨0, 1, SwrText⟩, false⟩, ⟨56, 64, [.val], [], [], ⟨0, 1, SwrText⟩, false⟩], n := 8 }
theorem BkrBlob.ok : BkrBlob.Ok := ⟨tabOk (P := Go.Proofs.Tryd.prog) (G := gD) (l := [⟨56, 32, [.val], [], [], ⟨0, 1, SwrText⟩, false⟩, ⟨56, 64, [.val], [], [], ⟨0, 1, SwrText⟩, false⟩]) (And.intro KwrText (And.intro KwrText True.intro)), mixed⟩
noncomputable def BkSig : Bs := { P := Go.Proofs.Tryd.prog, G := gD, tab := tabOf [⟨55, 32, [.val, .val], [], [], ⟨0, 1, SwwTextn⟩, false⟩, ⟨55, 80, [.io, .val], [], [32], ⟨1, 1, SwwText⟩, false⟩], n := 8 }
theorem BkSig.ok : BkSig.Ok := ⟨tabOk (P := Go.Proofs.Tryd.prog) (G := gD) (l := [⟨55, 32, [.val, .val], [], [], ⟨0, 1, SwwTextn⟩, false⟩, ⟨55, 80, [.io, .val], [], [32], ⟨1, 1, SwwText⟩, false⟩]) (And.intro KwwTextn (And.intro KwwText True.intro)), mixed⟩
noncomputable def FkReadBlobv0 (p0 : ByteArray) : ByteArray :=
  (FwText (FwText_1 (FkFromO p0.size (bytesI p0)) false) (FwText_2 (FkFromO p0.size (bytesI p0)) false))
noncomputable def FkReadBlobv1 (p0 : ByteArray) : List Int :=
  (FwText_1 (FwText_1 (FkFromO p0.size (bytesI p0)) false) (FwText_2 (FkFromO p0.size (bytesI p0)) false))
noncomputable def FkReadBlobv2 (p0 : ByteArray) : Bool :=
  (FwText_2 (FwText_1 (FkFromO p0.size (bytesI p0)) false) (FwText_2 (FkFromO p0.size (bytesI p0)) false))
noncomputable def FkReadBlob (p0 : ByteArray) : ByteArray :=
  (sel (!(FwEnd (FkReadBlobv1 p0) (FkReadBlobv2 p0))) (⟨#[]⟩ : ByteArray) (sel (!(strEq (FwText (FkFromO p0.size (bytesI p0)) false) (⟨#[115, 115, 104, 45, 101, 100, 50, 53, 53, 49, 57]⟩ : ByteArray))) (⟨#[]⟩ : ByteArray) (sel (((((FkReadBlobv0 p0).size : Nat) : Int) : Int) != 32) (⟨#[]⟩ : ByteArray) (FkReadBlobv0 p0))))
noncomputable def SkReadBlob : List AV → List Blk → Option (Prop × Ret)
  | [.sc (.s p0)], [] => some ((p0.size ≤ 1000000000), ⟨.sc (.s (FkReadBlob p0)), []⟩)
  | _, _ => none
noncomputable def BkReadBlob : Bs := { P := Go.Proofs.Tryd.prog, G := gD, tab := tabOf [⟨38, 64, [.io], [], [48], ⟨1, 1, SkFromO⟩, false⟩, ⟨44, 208, [.io], [], [64], ⟨1, 0, SwEnd⟩, false⟩, ⟨57, 112, [.io], [], [64], ⟨1, 0, SwText⟩, false⟩, ⟨57, 144, [.io], [], [64], ⟨1, 0, SwText⟩, false⟩], n := 26 }
theorem BkReadBlob.ok : BkReadBlob.Ok := ⟨tabOk (P := Go.Proofs.Tryd.prog) (G := gD) (l := [⟨38, 64, [.io], [], [48], ⟨1, 1, SkFromO⟩, false⟩, ⟨44, 208, [.io], [], [64], ⟨1, 0, SwEnd⟩, false⟩, ⟨57, 112, [.io], [], [64], ⟨1, 0, SwText⟩, false⟩, ⟨57, 144, [.io], [], [64], ⟨1, 0, SwText⟩, false⟩]) (And.intro KkFromO (And.intro KwEnd (And.intro KwText (And.intro KwText True.intro)))), mixed⟩
theorem KkReadBlob : Known Go.Proofs.Tryd.prog gD 22 ⟨0, 0, SkReadBlob⟩ := by
 refine Known.walk (B := BkReadBlob) (fn := Go.Proofs.Tryd.f22) BkReadBlob.ok (by kernel_rfl) rfl (by kernel_rfl) (by kernel_rfl) (by decide) (by decide) ?_
 intro E args ks C r h hC hlen
 simp only at h
 unfold SkReadBlob at h
 split at h
 rotate_left
 cases h
 rename_i p0
 cases h
 simp only [lens] at hlen
 refine ⟨show 1 ≤ 26 from by decide, ?_⟩
 refine Tri.sub (Sub.of_eq (show _ = ([(0, .sc (.s p0))], []) from rfl)) ?_
 refine sq [] none [0] [] ([(0, .sc (.s p0))], []) 32 (t1 pT) ?_
 refine sq [] none [3] [64] ([(3, .sc (.p 64 0))], [(64, .cells [.ro .u8 (FkFromO p0.size (bytesI p0)), .b false])]) 96 (t2 (pu (pa pT (pa (lr (p0.size = p0.size)) pT)) (t1 pT))) ?_
 refine sq [] none [5, 4, 3] [64] ([(5, .sc (.s (FkReadBlobv0 p0))), (4, .sc (.s (FwText (FkFromO p0.size (bytesI p0)) false))), (3, .sc (.p 64 0))], [(64, .cells [.ro .u8 (FkReadBlobv1 p0), .b (FkReadBlobv2 p0)])]) 192 (t1 (pu pz (t1 (pu pz (t2 pT))))) ?_
 refine Tri.seq ?_
 refine Tri.split (!(FwEnd (FkReadBlobv1 p0) (FkReadBlobv2 p0))) (fun h1 => ?_) (fun h1 => ?_)
 refine sq [(16, qb true)] none [24, 5] [] ([(24, .sc (.b true)), (5, .sc (.s (FkReadBlobv0 p0)))], []) 384 (t1 (pu pz (t1 (pg h1 (t8 pT))))) ?_
 refine Tri.cond_true (by kernel_rfl) ?_
 refine sq [] none [2] [] ([(2, .sc (.s (⟨#[]⟩ : ByteArray)))], []) 400 (t1 pT) ?_
 refine Tri.ret ?_
 refine rt ?_
 refine endP.conv (r' := ⟨.sc (.s (⟨#[]⟩ : ByteArray)), []⟩) (by simp only [FkReadBlob, h1, sel_true, sel_false]) ?_
 exact er [] pz
 refine Tri.split (!(strEq (FwText (FkFromO p0.size (bytesI p0)) false) (⟨#[115, 115, 104, 45, 101, 100, 50, 53, 53, 49, 57]⟩ : ByteArray))) (fun h2 => ?_) (fun h2 => ?_)
 refine sq [(16, qb false), (20, qb true)] none [24, 5] [] ([(24, .sc (.b true)), (5, .sc (.s (FkReadBlobv0 p0)))], []) 384 (t1 (pu pz (t1 (pg h1 (t3 (pg h2 (t4 pT))))))) ?_
 refine Tri.cond_true (by kernel_rfl) ?_
 refine sq [] none [2] [] ([(2, .sc (.s (⟨#[]⟩ : ByteArray)))], []) 400 (t1 pT) ?_
 refine Tri.ret ?_
 refine rt ?_
 refine endP.conv (r' := ⟨.sc (.s (⟨#[]⟩ : ByteArray)), []⟩) (by simp only [FkReadBlob, h1, h2, sel_true, sel_false]) ?_
 exact er [] pz
 refine sq [(16, qb false), (20, qb false)] none [24, 5] [] ([(24, .sc (.b (((((FkReadBlobv0 p0).size : Nat) : Int) : Int) != 32))), (5, .sc (.s (FkReadBlobv0 p0)))], []) 384 (t1 (pu pz (t1 (pg h1 (t3 (pg h2 (t4 pT))))))) ?_
 refine Tri.cond (x := (((((FkReadBlobv0 p0).size : Nat) : Int) : Int) != 32)) (by kernel_rfl) (fun h3 => ?_) (fun h3 => ?_)
 have h3' := ne_true_i h3
 refine sq [] none [2] [] ([(2, .sc (.s (⟨#[]⟩ : ByteArray)))], []) 400 (t1 pT) ?_
 refine Tri.ret ?_
 refine rt ?_
 refine endP.conv (r' := ⟨.sc (.s (⟨#[]⟩ : ByteArray)), []⟩) (by simp only [FkReadBlob, h1, h2, h3, sel_true, sel_false]) ?_
 exact er [] pz
 have h3' := ne_false_i h3
 refine Tri.skip ?_
 change Tri _ _ _ _ _ _
 refine sq [] none [2] [] ([(2, .sc (.s (FkReadBlobv0 p0)))], []) 416 (t2 pT) ?_
 refine Tri.ret ?_
 refine rt ?_
 refine endP.conv (r' := ⟨.sc (.s (FkReadBlobv0 p0)), []⟩) (by simp only [FkReadBlob, h1, h2, h3, sel_true, sel_false]) ?_
 exact er [] pz
noncomputable def BkUnblob : Bs := { P := Go.Proofs.Tryd.prog, G := gD, tab := tabOf [⟨49, 224, [.io], [], [80], ⟨1, 0, SwcEnd⟩, false⟩, ⟨58, 128, [.io], [], [80], ⟨1, 0, SwcText⟩, false⟩, ⟨58, 176, [.io], [], [80], ⟨1, 0, SwcText⟩, false⟩], n := 30 }
theorem BkUnblob.ok : BkUnblob.Ok := ⟨tabOk (P := Go.Proofs.Tryd.prog) (G := gD) (l := [⟨49, 224, [.io], [], [80], ⟨1, 0, SwcEnd⟩, false⟩, ⟨58, 128, [.io], [], [80], ⟨1, 0, SwcText⟩, false⟩, ⟨58, 176, [.io], [], [80], ⟨1, 0, SwcText⟩, false⟩]) (And.intro KwcEnd (And.intro KwcText (And.intro KwcText True.intro))), mixed⟩
noncomputable def BkReadSig : Bs := { P := Go.Proofs.Tryd.prog, G := gD, tab := tabOf [⟨38, 64, [.io], [], [48], ⟨1, 1, SkFromO⟩, false⟩, ⟨44, 208, [.io], [], [64], ⟨1, 0, SwEnd⟩, false⟩, ⟨57, 112, [.io], [], [64], ⟨1, 0, SwText⟩, false⟩, ⟨57, 144, [.io], [], [64], ⟨1, 0, SwText⟩, false⟩], n := 27 }
theorem BkReadSig.ok : BkReadSig.Ok := ⟨tabOk (P := Go.Proofs.Tryd.prog) (G := gD) (l := [⟨38, 64, [.io], [], [48], ⟨1, 1, SkFromO⟩, false⟩, ⟨44, 208, [.io], [], [64], ⟨1, 0, SwEnd⟩, false⟩, ⟨57, 112, [.io], [], [64], ⟨1, 0, SwText⟩, false⟩, ⟨57, 144, [.io], [], [64], ⟨1, 0, SwText⟩, false⟩]) (And.intro KkFromO (And.intro KwEnd (And.intro KwText (And.intro KwText True.intro)))), mixed⟩
end Go.Vm
set_option linter.unusedVariables false
set_option linter.unusedSimpArgs false
set_option maxRecDepth 4000
set_option maxHeartbeats 2000000
namespace Go.Vm
open Go
def offer (p : List (List ByteArray)) : Prop := p.length = 8 ∧ ∀ k, (p.getD k []).length ≤ 1000 ∧ sumB (p.getD k []) ≤ 1000
theorem names_n {k n : Nat} {p : List ByteArray} {xs : List Int} {m : Nat} (h : p.length ≤ 1000 ∧ sumB p ≤ 1000) (hk : k ≤ m) (hm : m + 3000 ≤ n) : FwwNamesn0 k xs p ≤ n := by
  have h1 := joinB_size p (⟨#[44]⟩ : ByteArray)
  have h2 : (⟨#[44]⟩ : ByteArray).size = 1 := rfl
  rw [h2] at h1
  unfold FwwNamesn0
  omega
theorem names_j {p : List ByteArray} (h : p.length ≤ 1000 ∧ sumB p ≤ 1000) : p.length ≤ 1000000000 ∧ (joinB p (⟨#[44]⟩ : ByteArray)).size ≤ 1000000000 := by
  have h1 := joinB_size p (⟨#[44]⟩ : ByteArray)
  have h2 : (⟨#[44]⟩ : ByteArray).size = 1 := rfl
  rw [h2] at h1
  omega
theorem off_0 : ([] : List ByteArray).length ≤ 1000 ∧ sumB [] ≤ 1000 := by decide
noncomputable def FkInitl0 (p0 : List (List ByteArray)) (k0 : Nat) (z0 : Nat × List Int) : Nat × List Int :=
  ((FwwNamesn0 z0.1 z0.2 (p0.getD k0 [])), (FwwNames z0.1 z0.2 (p0.getD k0 [])))
noncomputable def FkIniti0 (p0 : List (List ByteArray)) (p1 : ByteArray) : Nat × List Int :=
  (itr (FkInitl0 p0) 8 (17, [20] ++ (part1 (F38 p1 0) 32 0 16)))
noncomputable def FkInitv0 (p0 : List (List ByteArray)) (p1 : ByteArray) : List Int :=
  (FwwNames ((FkIniti0 p0 p1).1) ((FkIniti0 p0 p1).2) ([] : List ByteArray))
noncomputable def FkInitv1 (p0 : List (List ByteArray)) (p1 : ByteArray) : List Int :=
  (FwwNames (FwwNamesn0 ((FkIniti0 p0 p1).1) ((FkIniti0 p0 p1).2) ([] : List ByteArray)) (FkInitv0 p0 p1) ([] : List ByteArray))
noncomputable def FkInitv2 (p0 : List (List ByteArray)) (p1 : ByteArray) : List Int :=
  (FwwFlag (FwwNamesn0 (FwwNamesn0 ((FkIniti0 p0 p1).1) ((FkIniti0 p0 p1).2) ([] : List ByteArray)) (FkInitv0 p0 p1) ([] : List ByteArray)) (FkInitv1 p0 p1) false)
noncomputable def FkInitv3 (p0 : List (List ByteArray)) (p1 : ByteArray) : List Int :=
  (FwwU32 ((FwwNamesn0 (FwwNamesn0 ((FkIniti0 p0 p1).1) ((FkIniti0 p0 p1).2) ([] : List ByteArray)) (FkInitv0 p0 p1) ([] : List ByteArray)) + 1) (FkInitv2 p0 p1) 0)
noncomputable def FkInit (p0 : List (List ByteArray)) (p1 : ByteArray) : List Int :=
  (FkInitv3 p0 p1)
noncomputable def FkInitn0 (p0 : List (List ByteArray)) (p1 : ByteArray) : Nat :=
  ((FwwNamesn0 (FwwNamesn0 ((FkIniti0 p0 p1).1) ((FkIniti0 p0 p1).2) ([] : List ByteArray)) (FkInitv0 p0 p1) ([] : List ByteArray)) + 1) + 4
noncomputable def SkInit : List AV → List Blk → Option (Prop × Ret)
  | [.arr .tab p0, .sc (.s p1)], [] => some ((offer p0 ∧ p1.size ≤ 1000), ⟨.sc (.sl 0 0 (FkInitn0 p0 p1) 1 none), [some (.ints .u8 (FkInitn0 p0 p1) (FkInit p0 p1))]⟩)
  | _, _ => none
noncomputable def BkInit : Bs := { P := Go.Proofs.Tryd.prog, G := gD, tab := tabOf [⟨32, 64, [.val, .val], [], [], ⟨0, 0, S38⟩, false⟩, ⟨33, 240, [.io, .ros], [], [144], ⟨1, 1, SwwNames⟩, false⟩, ⟨33, 256, [.io, .ros], [], [240], ⟨1, 1, SwwNames⟩, false⟩, ⟨33, 288, [.io, .ros], [], [144], ⟨1, 1, SwwNames⟩, false⟩, ⟨34, 320, [.io, .val], [], [304], ⟨1, 1, SwwU32⟩, false⟩, ⟨35, 304, [.io, .val], [], [256], ⟨1, 1, SwwFlag⟩, false⟩], n := 28 }
theorem BkInit.ok : BkInit.Ok := ⟨tabOk (P := Go.Proofs.Tryd.prog) (G := gD) (l := [⟨32, 64, [.val, .val], [], [], ⟨0, 0, S38⟩, false⟩, ⟨33, 240, [.io, .ros], [], [144], ⟨1, 1, SwwNames⟩, false⟩, ⟨33, 256, [.io, .ros], [], [240], ⟨1, 1, SwwNames⟩, false⟩, ⟨33, 288, [.io, .ros], [], [144], ⟨1, 1, SwwNames⟩, false⟩, ⟨34, 320, [.io, .val], [], [304], ⟨1, 1, SwwU32⟩, false⟩, ⟨35, 304, [.io, .val], [], [256], ⟨1, 1, SwwFlag⟩, false⟩]) (And.intro K38 (And.intro KwwNames (And.intro KwwNames (And.intro KwwNames (And.intro KwwU32 (And.intro KwwFlag True.intro)))))), mixed⟩
theorem KkInit : Known Go.Proofs.Tryd.prog gD 11 ⟨0, 1, SkInit⟩ := by
 refine Known.walk (B := BkInit) (fn := Go.Proofs.Tryd.f11) BkInit.ok (by kernel_rfl) rfl (by kernel_rfl) (by kernel_rfl) (by decide) (by decide) ?_
 intro E args ks C r h hC hlen
 simp only at h
 unfold SkInit at h
 split at h
 rotate_left
 cases h
 rename_i p0 p1
 cases h
 simp only [lens] at hlen
 have h8 := hC.1.1
 have hsz := hC.2
 have hj : (joinB [] (⟨#[44]⟩ : ByteArray)).size = 0 := rfl
 refine ⟨show 2 ≤ 28 from by decide, ?_⟩
 refine Tri.sub (Sub.of_eq (show _ = ([(0, .arr .tab p0), (1, .sc (.s p1))], []) from rfl)) ?_
 refine sq [] none [2, 1] [16] ([(2, .sc (.p 16 0)), (1, .sc (.s p1))], [(16, .vec .tab p0)]) 48 (t2 pT) ?_
 refine sq [] none [5, 2] [80, 16] ([(5, .sc (.p 80 0)), (2, .sc (.p 16 0))], [(80, .ints .u8 32 (F38 p1 0)), (16, .vec .tab p0)]) 112 (t1 (pu (pa pT (lo (p1.size ≤ 100000))) (t1 (pu (pa pT (lr (32 = 32))) pT)))) ?_
 refine Tri.len 80 rfl (fun hl1 => ?_)
 refine sq [] none [6, 2] [144, 16] ([(6, .sc (.sl 144 0 17 1 none)), (2, .sc (.p 16 0))], [(144, .ints .u8 17 ([20] ++ (part1 (F38 p1 0) 32 0 16))), (16, .vec .tab p0)]) 176 (pu (pa (pa (pa (lo (0 < 1)) (lr (1 = 1))) pT) (pa (lo (1 * 1 ≤ 16777216)) (lr (1 = 1)))) (pu (pa (lo ((0 : Int) ≤ 0 ∧ (0 : Int) ≤ 16 ∧ 16 ≤ ((32 : Nat) : Int))) (lo (32 ≤ 32))) (pu (pa (pa (pa (pa (lo (0 + 16 ≤ 32)) (lr (1 = 1))) (pa (lo (0 < 1)) (pa (lo (17 * 1 ≤ 140737488355328)) (lo (17 ≤ 140737488355328))))) (lo (16 = 16 * 1))) (pa (lr (1 = 1)) (lo (0 + 1 * 1 = 1)))) (t1 pT)))) ?_
 refine Tri.seq ?_
 refine Tri.len 144 rfl (fun hl2 => ?_)
 refine sq [] none [15, 14, 6] [144] ([(15, .sc (.i .i64 0)), (14, .arr .tab p0), (6, .sc (.sl 144 0 17 1 none))], [(144, .ints .u8 17 ([20] ++ (part1 (F38 p1 0) 32 0 16)))]) 208 (pu (lo (8 = p0.length)) (t1 pT)) ?_
 refine Tri.block ?_
 refine Tri.count 208 8 (FkInitl0 p0) (17, [20] ++ (part1 (F38 p1 0) 32 0 16)) (fun k0 z0 => z0.1 ≤ 17 + 3000 * k0) (fun k0 z0 => ([(15, .sc (.i .i64 ((k0 : Nat) : Int))), (14, .arr .tab p0), (6, .sc (.sl 144 0 z0.1 1 none))], [(144, .ints .u8 z0.1 z0.2)])) (by omega) (Sub.of_eq (by kernel_rfl)) ?_
 intro k0 z0 hk0 hz0 hJ0
 have hs := hC.1.2 k0
 refine sq [] none [16, 15, 14, 6] [144] ([(16, .sc (.b (decide ((((k0 : Nat) : Int) : Int) < 8)))), (15, .sc (.i .i64 ((k0 : Nat) : Int))), (14, .arr .tab p0), (6, .sc (.sl 144 0 z0.1 1 none))], [(144, .ints .u8 z0.1 z0.2)]) 224 (t1 pT) ?_
 refine Tri.seq ?_
 refine Tri.cond (x := (decide ((((k0 : Nat) : Int) : Int) < 8))) (by kernel_rfl) (fun h3 => ?_) (fun h3 => ?_)
 have h3' := of_decide_eq_true h3
 refine Tri.skip ?_
 change Tri _ _ _ _ _ _
 refine Tri.seq ?_
 refine Tri.block ?_
 refine sq [] none [8, 15, 14, 6] [144] ([(8, .sc (.ros (p0.getD k0 []))), (15, .sc (.i .i64 ((k0 : Nat) : Int))), (14, .arr .tab p0), (6, .sc (.sl 144 0 z0.1 1 none))], [(144, .ints .u8 z0.1 z0.2)]) 256 (pu (pa (lo ((0 : Int) ≤ ((k0 : Nat) : Int) ∧ ((k0 : Nat) : Int) < ((8 : Nat) : Int))) (lo (k0 < p0.length))) (t1 pT)) ?_
 refine rq [] none [6, 15, 14] [288] ([(6, .sc (.sl 288 0 (FwwNamesn0 z0.1 z0.2 (p0.getD k0 [])) 1 none)), (15, .sc (.i .i64 ((k0 : Nat) : Int))), (14, .arr .tab p0)], [(288, .ints .u8 (FwwNamesn0 z0.1 z0.2 (p0.getD k0 [])) (FwwNames z0.1 z0.2 (p0.getD k0 [])))]) 320 (t2 (pu (pa pT (pa (lr (z0.1 = z0.1)) (pl (show z0.1 ≤ 1000000000 ∧ (p0.getD k0 []).length ≤ 1000000000 ∧ (joinB (p0.getD k0 []) (⟨#[44]⟩ : ByteArray)).size ≤ 1000000000 from by first | omega | decide | (unfold FwwNamesn0; omega) | exact ⟨by omega, names_j hs⟩ | exact ⟨by first | omega | (unfold FwwNamesn0; omega), names_j off_0⟩)))) (t1 pT))) ?_
 change Tri _ _ _ _ _ _
 refine rq [(21, qi ((k0 + 1 : Nat) : Int))] none [15, 6, 14] [288] ([(15, .sc (.i .i64 ((k0 + 1 : Nat) : Int))), (6, .sc (.sl 288 0 (FwwNamesn0 z0.1 z0.2 (p0.getD k0 [])) 1 none)), (14, .arr .tab p0)], [(288, .ints .u8 (FwwNamesn0 z0.1 z0.2 (p0.getD k0 [])) (FwwNames z0.1 z0.2 (p0.getD k0 [])))]) 352 (pv pT (pl (show (iAdd .i64 ((k0 : Nat) : Int) 1) = ((k0 + 1 : Nat) : Int) from iAdd_nat (a := k0) (b := 1) (by omega))) (t1 pT)) ?_
 repeat (refine blkP_normal ?_)
 refine countP_normal (by omega) (names_n (xs := z0.2) hs hJ0 (by omega)) ?_
 exact sp [(288, 144)] [15, 14, 6]
 have h3' := of_decide_eq_false h3
 refine Tri.exit ?_
 have hend0 : k0 = 8 := by (have := of_decide_eq_false h3; omega)
 subst hend0; obtain rfl : z0 = (FkIniti0 p0 p1) := hz0
 change Tri _ _ _ _ _ _
 refine sq [] none [6] [256] ([(6, .sc (.sl 256 0 (FwwNamesn0 (FwwNamesn0 ((FkIniti0 p0 p1).1) ((FkIniti0 p0 p1).2) ([] : List ByteArray)) (FkInitv0 p0 p1) ([] : List ByteArray)) 1 none))], [(256, .ints .u8 (FwwNamesn0 (FwwNamesn0 ((FkIniti0 p0 p1).1) ((FkIniti0 p0 p1).2) ([] : List ByteArray)) (FkInitv0 p0 p1) ([] : List ByteArray)) (FkInitv1 p0 p1))]) 288 (t1 (pu (pa pT (pa (lr (((FkIniti0 p0 p1).1) = ((FkIniti0 p0 p1).1))) (pl (show ((FkIniti0 p0 p1).1) ≤ 1000000000 ∧ ([] : List ByteArray).length ≤ 1000000000 ∧ (joinB ([] : List ByteArray) (⟨#[44]⟩ : ByteArray)).size ≤ 1000000000 from by first | omega | decide | (unfold FwwNamesn0; omega) | exact ⟨by omega, names_j hs⟩ | exact ⟨by first | omega | (unfold FwwNamesn0; omega), names_j off_0⟩)))) (pu (pa pT (pa (lr ((FwwNamesn0 ((FkIniti0 p0 p1).1) ((FkIniti0 p0 p1).2) ([] : List ByteArray)) = (FwwNamesn0 ((FkIniti0 p0 p1).1) ((FkIniti0 p0 p1).2) ([] : List ByteArray)))) (pl (show (FwwNamesn0 ((FkIniti0 p0 p1).1) ((FkIniti0 p0 p1).2) ([] : List ByteArray)) ≤ 1000000000 ∧ ([] : List ByteArray).length ≤ 1000000000 ∧ (joinB ([] : List ByteArray) (⟨#[44]⟩ : ByteArray)).size ≤ 1000000000 from by first | omega | decide | (unfold FwwNamesn0; omega) | exact ⟨by omega, names_j hs⟩ | exact ⟨by first | omega | (unfold FwwNamesn0; omega), names_j off_0⟩)))) (t1 pT)))) ?_
 refine sq [] none [4] [320] ([(4, .sc (.sl 320 0 (((FwwNamesn0 (FwwNamesn0 ((FkIniti0 p0 p1).1) ((FkIniti0 p0 p1).2) ([] : List ByteArray)) (FkInitv0 p0 p1) ([] : List ByteArray)) + 1) + 4) 1 none))], [(320, .ints .u8 (((FwwNamesn0 (FwwNamesn0 ((FkIniti0 p0 p1).1) ((FkIniti0 p0 p1).2) ([] : List ByteArray)) (FkInitv0 p0 p1) ([] : List ByteArray)) + 1) + 4) (FkInitv3 p0 p1))]) 352 (t1 (pu (pa pT (pa (lr ((FwwNamesn0 (FwwNamesn0 ((FkIniti0 p0 p1).1) ((FkIniti0 p0 p1).2) ([] : List ByteArray)) (FkInitv0 p0 p1) ([] : List ByteArray)) = (FwwNamesn0 (FwwNamesn0 ((FkIniti0 p0 p1).1) ((FkIniti0 p0 p1).2) ([] : List ByteArray)) (FkInitv0 p0 p1) ([] : List ByteArray)))) (pl (show (FwwNamesn0 (FwwNamesn0 ((FkIniti0 p0 p1).1) ((FkIniti0 p0 p1).2) ([] : List ByteArray)) (FkInitv0 p0 p1) ([] : List ByteArray)) ≤ 1000000000 from by first | omega | decide | (unfold FwwNamesn0; omega) | exact ⟨by omega, names_j hs⟩ | exact ⟨by first | omega | (unfold FwwNamesn0; omega), names_j off_0⟩)))) (pu (pa pT (pa (lr (((FwwNamesn0 (FwwNamesn0 ((FkIniti0 p0 p1).1) ((FkIniti0 p0 p1).2) ([] : List ByteArray)) (FkInitv0 p0 p1) ([] : List ByteArray)) + 1) = ((FwwNamesn0 (FwwNamesn0 ((FkIniti0 p0 p1).1) ((FkIniti0 p0 p1).2) ([] : List ByteArray)) (FkInitv0 p0 p1) ([] : List ByteArray)) + 1))) (pl (show ((FwwNamesn0 (FwwNamesn0 ((FkIniti0 p0 p1).1) ((FkIniti0 p0 p1).2) ([] : List ByteArray)) (FkInitv0 p0 p1) ([] : List ByteArray)) + 1) ≤ 1000000000 from by first | omega | decide | (unfold FwwNamesn0; omega) | exact ⟨by omega, names_j hs⟩ | exact ⟨by first | omega | (unfold FwwNamesn0; omega), names_j off_0⟩)))) (t1 pT)))) ?_
 refine Tri.ret ?_
 refine rt ?_
 exact er [(320, 0)] pz
noncomputable def BkrInit : Bs := { P := Go.Proofs.Tryd.prog, G := gD, tab := tabOf [⟨36, 80, [.val, .val], [], [], ⟨0, 1, S39⟩, false⟩, ⟨37, 256, [.ros], [], [], ⟨0, 1, SwrNames⟩, false⟩], n := 24 }
theorem BkrInit.ok : BkrInit.Ok := ⟨tabOk (P := Go.Proofs.Tryd.prog) (G := gD) (l := [⟨36, 80, [.val, .val], [], [], ⟨0, 1, S39⟩, false⟩, ⟨37, 256, [.ros], [], [], ⟨0, 1, SwrNames⟩, false⟩]) (And.intro K39 (And.intro KwrNames True.intro)), mixed⟩
noncomputable def FkReadInitl0 (k0 : Nat) (z0 : List (List ByteArray) × List Int × Bool) : List (List ByteArray) × List Int × Bool :=
  (z0.1.set k0 (FwNames z0.2.1 z0.2.2), (FwNames_1 z0.2.1 z0.2.2), (FwNames_2 z0.2.1 z0.2.2))
noncomputable def FkReadIniti0 (p0 : List Int) : List (List ByteArray) × List Int × Bool :=
  (itr (FkReadInitl0) 8 (zt 8, (FwBytes_1 (FwByte_1 p0 false) (FwByte_2 p0 false) 16), (FwBytes_2 (FwByte_1 p0 false) (FwByte_2 p0 false) 16)))
noncomputable def FkReadInitv4 (p0 : List Int) : List Int :=
  (FwNames_1 (FwNames_1 ((FkReadIniti0 p0).2.1) ((FkReadIniti0 p0).2.2)) (FwNames_2 ((FkReadIniti0 p0).2.1) ((FkReadIniti0 p0).2.2)))
noncomputable def FkReadInitv5 (p0 : List Int) : Bool :=
  (FwNames_2 (FwNames_1 ((FkReadIniti0 p0).2.1) ((FkReadIniti0 p0).2.2)) (FwNames_2 ((FkReadIniti0 p0).2.1) ((FkReadIniti0 p0).2.2)))
noncomputable def FkReadInitv6 (p0 : List Int) : List Int :=
  (FwU32_1 (FwFlag_1 (FkReadInitv4 p0) (FkReadInitv5 p0)) (FwFlag_2 (FkReadInitv4 p0) (FkReadInitv5 p0)))
noncomputable def FkReadInitv7 (p0 : List Int) : Bool :=
  (FwU32_2 (FwFlag_1 (FkReadInitv4 p0) (FkReadInitv5 p0)) (FwFlag_2 (FkReadInitv4 p0) (FkReadInitv5 p0)))
noncomputable def FkReadInit (p0 : List Int) : List (List ByteArray) :=
  (sel (((FwByte p0 false) : Int) != 20) (zt 8) (sel (!(FwEnd (FkReadInitv6 p0) (FkReadInitv7 p0))) (zt 8) ((FkReadIniti0 p0).1)))
noncomputable def FkReadInit_1 (p0 : List Int) : Int :=
  (sel (((FwByte p0 false) : Int) != 20) 3 (sel (!(FwEnd (FkReadInitv6 p0) (FkReadInitv7 p0))) 3 0))
noncomputable def BkReadInit : Bs := { P := Go.Proofs.Tryd.prog, G := gD, tab := tabOf [⟨38, 80, [.ro .u8], [], [], ⟨0, 1, SwFrom⟩, false⟩, ⟨39, 128, [.io], [], [80], ⟨1, 0, SwByte⟩, false⟩, ⟨40, 176, [.io, .val], [], [80], ⟨1, 0, SwBytes⟩, false⟩, ⟨41, 240, [.io], [], [80], ⟨1, 0, SwNames⟩, false⟩, ⟨41, 272, [.io], [], [80], ⟨1, 0, SwNames⟩, false⟩, ⟨41, 288, [.io], [], [80], ⟨1, 0, SwNames⟩, false⟩, ⟨42, 304, [.io], [], [80], ⟨1, 0, SwFlag⟩, false⟩, ⟨43, 336, [.io], [], [80], ⟨1, 0, SwU32⟩, false⟩, ⟨44, 368, [.io], [], [80], ⟨1, 0, SwEnd⟩, false⟩], n := 36 }
theorem BkReadInit.ok : BkReadInit.Ok := ⟨tabOk (P := Go.Proofs.Tryd.prog) (G := gD) (l := [⟨38, 80, [.ro .u8], [], [], ⟨0, 1, SwFrom⟩, false⟩, ⟨39, 128, [.io], [], [80], ⟨1, 0, SwByte⟩, false⟩, ⟨40, 176, [.io, .val], [], [80], ⟨1, 0, SwBytes⟩, false⟩, ⟨41, 240, [.io], [], [80], ⟨1, 0, SwNames⟩, false⟩, ⟨41, 272, [.io], [], [80], ⟨1, 0, SwNames⟩, false⟩, ⟨41, 288, [.io], [], [80], ⟨1, 0, SwNames⟩, false⟩, ⟨42, 304, [.io], [], [80], ⟨1, 0, SwFlag⟩, false⟩, ⟨43, 336, [.io], [], [80], ⟨1, 0, SwU32⟩, false⟩, ⟨44, 368, [.io], [], [80], ⟨1, 0, SwEnd⟩, false⟩]) (And.intro KwFrom (And.intro KwByte (And.intro KwBytes (And.intro KwNames (And.intro KwNames (And.intro KwNames (And.intro KwFlag (And.intro KwU32 (And.intro KwEnd True.intro))))))))), mixed⟩
noncomputable def FkReadInitOv1 (p0 : Nat) (p2 : List Int) : List Int :=
  (FwBytes_1 (FwByte_1 (part1 p2 p0 0 p0) false) (FwByte_2 (part1 p2 p0 0 p0) false) 16)
noncomputable def FkReadInitOv2 (p0 : Nat) (p2 : List Int) : Bool :=
  (FwBytes_2 (FwByte_1 (part1 p2 p0 0 p0) false) (FwByte_2 (part1 p2 p0 0 p0) false) 16)
noncomputable def FkReadInitOl0 (k0 : Nat) (z0 : List (List ByteArray) × List Int × Bool) : List (List ByteArray) × List Int × Bool :=
  (z0.1.set k0 (FwNames z0.2.1 z0.2.2), (FwNames_1 z0.2.1 z0.2.2), (FwNames_2 z0.2.1 z0.2.2))
noncomputable def FkReadInitOi0 (p0 : Nat) (p2 : List Int) : List (List ByteArray) × List Int × Bool :=
  (itr (FkReadInitOl0) 8 (zt 8, (FkReadInitOv1 p0 p2), (FkReadInitOv2 p0 p2)))
noncomputable def FkReadInitOv4 (p0 : Nat) (p2 : List Int) : List Int :=
  (FwNames_1 (FwNames_1 ((FkReadInitOi0 p0 p2).2.1) ((FkReadInitOi0 p0 p2).2.2)) (FwNames_2 ((FkReadInitOi0 p0 p2).2.1) ((FkReadInitOi0 p0 p2).2.2)))
noncomputable def FkReadInitOv5 (p0 : Nat) (p2 : List Int) : Bool :=
  (FwNames_2 (FwNames_1 ((FkReadInitOi0 p0 p2).2.1) ((FkReadInitOi0 p0 p2).2.2)) (FwNames_2 ((FkReadInitOi0 p0 p2).2.1) ((FkReadInitOi0 p0 p2).2.2)))
noncomputable def FkReadInitOv6 (p0 : Nat) (p2 : List Int) : List Int :=
  (FwU32_1 (FwFlag_1 (FkReadInitOv4 p0 p2) (FkReadInitOv5 p0 p2)) (FwFlag_2 (FkReadInitOv4 p0 p2) (FkReadInitOv5 p0 p2)))
noncomputable def FkReadInitOv7 (p0 : Nat) (p2 : List Int) : Bool :=
  (FwU32_2 (FwFlag_1 (FkReadInitOv4 p0 p2) (FkReadInitOv5 p0 p2)) (FwFlag_2 (FkReadInitOv4 p0 p2) (FkReadInitOv5 p0 p2)))
noncomputable def FkReadInitO (p0 : Nat) (p2 : List Int) : List (List ByteArray) :=
  (sel (((FwByte (part1 p2 p0 0 p0) false) : Int) != 20) (zt 8) (sel (!(FwEnd (FkReadInitOv6 p0 p2) (FkReadInitOv7 p0 p2))) (zt 8) ((FkReadInitOi0 p0 p2).1)))
noncomputable def FkReadInitO_1 (p0 : Nat) (p2 : List Int) : Int :=
  (sel (((FwByte (part1 p2 p0 0 p0) false) : Int) != 20) 3 (sel (!(FwEnd (FkReadInitOv6 p0 p2) (FkReadInitOv7 p0 p2))) 3 0))
noncomputable def SkReadInitO : List AV → List Blk → Option (Prop × Ret)
  | [.sc (.sl 0 0 p0 1 none)], [.ints .u8 p1 p2] => some (((p0 = p1) ∧ (p0 ≤ 1000000000)), ⟨.tup [.arr .tab (FkReadInitO p0 p2), .sc (.i .i64 (FkReadInitO_1 p0 p2))], [none]⟩)
  | _, _ => none
noncomputable def BkReadInitO : Bs := { P := Go.Proofs.Tryd.prog, G := gD, tab := tabOf [⟨38, 80, [.ro .u8], [], [], ⟨0, 1, SwFrom⟩, false⟩, ⟨39, 128, [.io], [], [80], ⟨1, 0, SwByte⟩, false⟩, ⟨40, 176, [.io, .val], [], [80], ⟨1, 0, SwBytes⟩, false⟩, ⟨41, 240, [.io], [], [80], ⟨1, 0, SwNames⟩, false⟩, ⟨41, 272, [.io], [], [80], ⟨1, 0, SwNames⟩, false⟩, ⟨41, 288, [.io], [], [80], ⟨1, 0, SwNames⟩, false⟩, ⟨42, 304, [.io], [], [80], ⟨1, 0, SwFlag⟩, false⟩, ⟨43, 336, [.io], [], [80], ⟨1, 0, SwU32⟩, false⟩, ⟨44, 368, [.io], [], [80], ⟨1, 0, SwEnd⟩, false⟩], n := 36 }
theorem BkReadInitO.ok : BkReadInitO.Ok := ⟨tabOk (P := Go.Proofs.Tryd.prog) (G := gD) (l := [⟨38, 80, [.ro .u8], [], [], ⟨0, 1, SwFrom⟩, false⟩, ⟨39, 128, [.io], [], [80], ⟨1, 0, SwByte⟩, false⟩, ⟨40, 176, [.io, .val], [], [80], ⟨1, 0, SwBytes⟩, false⟩, ⟨41, 240, [.io], [], [80], ⟨1, 0, SwNames⟩, false⟩, ⟨41, 272, [.io], [], [80], ⟨1, 0, SwNames⟩, false⟩, ⟨41, 288, [.io], [], [80], ⟨1, 0, SwNames⟩, false⟩, ⟨42, 304, [.io], [], [80], ⟨1, 0, SwFlag⟩, false⟩, ⟨43, 336, [.io], [], [80], ⟨1, 0, SwU32⟩, false⟩, ⟨44, 368, [.io], [], [80], ⟨1, 0, SwEnd⟩, false⟩]) (And.intro KwFrom (And.intro KwByte (And.intro KwBytes (And.intro KwNames (And.intro KwNames (And.intro KwNames (And.intro KwFlag (And.intro KwU32 (And.intro KwEnd True.intro))))))))), mixed⟩
theorem KkReadInitO : Known Go.Proofs.Tryd.prog gD 13 ⟨1, 0, SkReadInitO⟩ := by
 refine Known.walk (B := BkReadInitO) (fn := Go.Proofs.Tryd.f13) BkReadInitO.ok (by kernel_rfl) rfl (by kernel_rfl) (by kernel_rfl) (by decide) (by decide) ?_
 intro E args ks C r h hC hlen
 simp only at h
 unfold SkReadInitO at h
 split at h
 rotate_left
 cases h
 rename_i p0 p1 p2
 cases h
 simp only [lens] at hlen
 obtain ⟨hEp1, hC⟩ := hC
 subst hEp1
 refine ⟨show 1 ≤ 36 from by decide, ?_⟩
 refine Tri.sub (Sub.of_eq (show _ = ([(0, .sc (.sl 0 0 p0 1 none))], [(0, .ints .u8 p0 p2)]) from rfl)) ?_
 refine Tri.sub (Sub.still (s' := ([(0, .sc (.ro .u8 (part1 p2 p0 0 p0)))], [])) 0 (.ints .u8 p0 p2) (by kernel_rfl) (show 0 + p0 ≤ p0 from by first | omega | (rw [adr_eq]; omega) | exact iAnd_nn _ _ | exact iSub_nn _ _ | exact part1_le (by omega) (by first | omega | (simp only [List.length_append]; omega)) | decide) (by kernel_rfl)) ?_
 refine sq [] none [2, 0] [16] ([(2, .sc (.p 16 0)), (0, .sc (.ro .u8 (part1 p2 p0 0 p0)))], [(16, .cells [.nils, .nils, .nils, .nils, .nils, .nils, .nils, .nils])]) 48 (t2 pT) ?_
 refine sq [] none [4, 2, 0] [48, 16] ([(4, .sc (.p 48 0)), (2, .sc (.p 16 0)), (0, .sc (.ro .u8 (part1 p2 p0 0 p0)))], [(48, .cells [.nils, .nils, .nils, .nils, .nils, .nils, .nils, .nils]), (16, .cells [.nils, .nils, .nils, .nils, .nils, .nils, .nils, .nils])]) 64 (t1 pT) ?_
 refine sq [] none [5, 4, 2] [80, 48, 16] ([(5, .sc (.p 80 0)), (4, .sc (.p 48 0)), (2, .sc (.p 16 0))], [(80, .cells [.ro .u8 (part1 p2 p0 0 p0), .b false]), (48, .cells [.nils, .nils, .nils, .nils, .nils, .nils, .nils, .nils]), (16, .cells [.nils, .nils, .nils, .nils, .nils, .nils, .nils, .nils])]) 112 (t1 (pu (pa pz pT) (t1 pT))) ?_
 refine Tri.seq ?_
 refine sq [] none [11, 5, 4, 2] [80, 48, 16] ([(11, .sc (.b (((FwByte (part1 p2 p0 0 p0) false) : Int) != 20))), (5, .sc (.p 80 0)), (4, .sc (.p 48 0)), (2, .sc (.p 16 0))], [(80, .cells [.ro .u8 (FwByte_1 (part1 p2 p0 0 p0) false), .b (FwByte_2 (part1 p2 p0 0 p0) false)]), (48, .cells [.nils, .nils, .nils, .nils, .nils, .nils, .nils, .nils]), (16, .cells [.nils, .nils, .nils, .nils, .nils, .nils, .nils, .nils])]) 160 (t1 (pu pz (t1 pT))) ?_
 refine Tri.cond (x := (((FwByte (part1 p2 p0 0 p0) false) : Int) != 20)) (by kernel_rfl) (fun h1 => ?_) (fun h1 => ?_)
 have h1' := ne_true_i h1
 refine sq [] none [3, 2] [16] ([(3, .sc (.i .i64 3)), (2, .sc (.p 16 0))], [(16, .cells [.nils, .nils, .nils, .nils, .nils, .nils, .nils, .nils])]) 208 (t1 (pu (pa (lo (0 + 8 ≤ 8)) (lr (8 = 8))) (t1 pT))) ?_
 refine Tri.sub (Sub.toVec (l := [.nils, .nils, .nils, .nils, .nils, .nils, .nils, .nils]) 16 .tab (zt 8) (by kernel_rfl) (by kernel_rfl)) ?_
 refine Tri.ret ?_
 refine rt ?_
 refine endP.conv (r' := ⟨.tup [.arr .tab (zt 8), .sc (.i .i64 3)], [none]⟩) (by simp only [FkReadInitO, FkReadInitO_1, h1, sel_true, sel_false]) ?_
 exact er [] (pa (lo (8 = (zt 8).length)) pz)
 have h1' := ne_false_i h1
 refine Tri.skip ?_
 change Tri _ _ _ _ _ _
 refine sq [] none [5, 4, 2] [80, 48, 16] ([(5, .sc (.p 80 0)), (4, .sc (.p 48 0)), (2, .sc (.p 16 0))], [(80, .cells [.ro .u8 (FkReadInitOv1 p0 p2), .b (FkReadInitOv2 p0 p2)]), (48, .cells [.nils, .nils, .nils, .nils, .nils, .nils, .nils, .nils]), (16, .cells [.nils, .nils, .nils, .nils, .nils, .nils, .nils, .nils])]) 192 (t1 (pu pz pT)) ?_
 refine Tri.seq ?_
 refine sq [] none [15, 5, 4, 2] [80, 48, 16] ([(15, .sc (.i .i64 0)), (5, .sc (.p 80 0)), (4, .sc (.p 48 0)), (2, .sc (.p 16 0))], [(80, .cells [.ro .u8 (FkReadInitOv1 p0 p2), .b (FkReadInitOv2 p0 p2)]), (48, .cells [.nils, .nils, .nils, .nils, .nils, .nils, .nils, .nils]), (16, .cells [.nils, .nils, .nils, .nils, .nils, .nils, .nils, .nils])]) 208 (t1 pT) ?_
 refine Tri.block ?_
 refine Tri.sub (Sub.toVec (l := [.nils, .nils, .nils, .nils, .nils, .nils, .nils, .nils]) 48 .tab (zt 8) (by kernel_rfl) (by kernel_rfl)) ?_
 refine Tri.count 208 8 (FkReadInitOl0) (zt 8, (FkReadInitOv1 p0 p2), (FkReadInitOv2 p0 p2)) (fun k0 z0 => z0.1.length = 8) (fun k0 z0 => ([(15, .sc (.i .i64 ((k0 : Nat) : Int))), (5, .sc (.p 80 0)), (4, .sc (.p 48 0)), (2, .sc (.p 16 0))], [(48, .vec .tab z0.1), (80, .cells [.ro .u8 z0.2.1, .b z0.2.2]), (16, .cells [.nils, .nils, .nils, .nils, .nils, .nils, .nils, .nils])])) rfl (Sub.of_eq (by kernel_rfl)) ?_
 intro k0 z0 hk0 hz0 hJ0
 refine sq [] none [16, 15, 5, 4, 2] [48, 80, 16] ([(16, .sc (.b (decide ((((k0 : Nat) : Int) : Int) < 8)))), (15, .sc (.i .i64 ((k0 : Nat) : Int))), (5, .sc (.p 80 0)), (4, .sc (.p 48 0)), (2, .sc (.p 16 0))], [(48, .vec .tab z0.1), (80, .cells [.ro .u8 z0.2.1, .b z0.2.2]), (16, .cells [.nils, .nils, .nils, .nils, .nils, .nils, .nils, .nils])]) 224 (t1 pT) ?_
 refine Tri.seq ?_
 refine Tri.cond (x := (decide ((((k0 : Nat) : Int) : Int) < 8))) (by kernel_rfl) (fun h2 => ?_) (fun h2 => ?_)
 have h2' := of_decide_eq_true h2
 refine Tri.skip ?_
 change Tri _ _ _ _ _ _
 refine Tri.seq ?_
 refine Tri.block ?_
 refine sq [] none [6, 15, 5, 4, 2] [48, 80, 16] ([(6, .sc (.i .i64 ((k0 : Nat) : Int))), (15, .sc (.i .i64 ((k0 : Nat) : Int))), (5, .sc (.p 80 0)), (4, .sc (.p 48 0)), (2, .sc (.p 16 0))], [(48, .vec .tab z0.1), (80, .cells [.ro .u8 z0.2.1, .b z0.2.2]), (16, .cells [.nils, .nils, .nils, .nils, .nils, .nils, .nils, .nils])]) 256 (t2 pT) ?_
 refine rq [] none [15, 5, 4, 2] [48, 80, 16] ([(15, .sc (.i .i64 ((k0 : Nat) : Int))), (5, .sc (.p 80 0)), (4, .sc (.p 48 0)), (2, .sc (.p 16 0))], [(48, .vec .tab (z0.1.set k0 (FwNames z0.2.1 z0.2.2))), (80, .cells [.ro .u8 (FwNames_1 z0.2.1 z0.2.2), .b (FwNames_2 z0.2.1 z0.2.2)]), (16, .cells [.nils, .nils, .nils, .nils, .nils, .nils, .nils, .nils])]) 336 (t2 (pu pz (pu (lo ((0 : Int) ≤ ((k0 : Nat) : Int) ∧ ((k0 : Nat) : Int) < ((8 : Nat) : Int))) (pu (pa (lo (k0 < z0.1.length)) (lr (1 = 1))) pT)))) ?_
 change Tri _ _ _ _ _ _
 refine rq [(22, qi ((k0 + 1 : Nat) : Int))] none [15, 5, 4, 2] [48, 80, 16] ([(15, .sc (.i .i64 ((k0 + 1 : Nat) : Int))), (5, .sc (.p 80 0)), (4, .sc (.p 48 0)), (2, .sc (.p 16 0))], [(48, .vec .tab (z0.1.set k0 (FwNames z0.2.1 z0.2.2))), (80, .cells [.ro .u8 (FwNames_1 z0.2.1 z0.2.2), .b (FwNames_2 z0.2.1 z0.2.2)]), (16, .cells [.nils, .nils, .nils, .nils, .nils, .nils, .nils, .nils])]) 368 (pv pT (pl (show (iAdd .i64 ((k0 : Nat) : Int) 1) = ((k0 + 1 : Nat) : Int) from iAdd_nat (a := k0) (b := 1) (by omega))) (t1 pT)) ?_
 repeat (refine blkP_normal ?_)
 refine countP_normal (by omega) (show (z0.1.set k0 _).length = 8 by rw [List.length_set]; exact hJ0) ?_
 exact sp [(48, 48), (80, 80), (16, 16)] [15, 5, 4, 2]
 have h2' := of_decide_eq_false h2
 refine Tri.exit ?_
 have hend0 : k0 = 8 := by (have := of_decide_eq_false h2; omega)
 subst hend0; obtain rfl : z0 = (FkReadInitOi0 p0 p2) := hz0
 change Tri _ _ _ _ _ _
 refine sq [] none [5, 4, 2] [80, 48, 16] ([(5, .sc (.p 80 0)), (4, .sc (.p 48 0)), (2, .sc (.p 16 0))], [(80, .cells [.ro .u8 (FwNames_1 ((FkReadInitOi0 p0 p2).2.1) ((FkReadInitOi0 p0 p2).2.2)), .b (FwNames_2 ((FkReadInitOi0 p0 p2).2.1) ((FkReadInitOi0 p0 p2).2.2))]), (48, .vec .tab ((FkReadInitOi0 p0 p2).1)), (16, .cells [.nils, .nils, .nils, .nils, .nils, .nils, .nils, .nils])]) 256 (t1 (pu pz pT)) ?_
 refine sq [] none [5, 4, 2] [80, 48, 16] ([(5, .sc (.p 80 0)), (4, .sc (.p 48 0)), (2, .sc (.p 16 0))], [(80, .cells [.ro .u8 (FkReadInitOv4 p0 p2), .b (FkReadInitOv5 p0 p2)]), (48, .vec .tab ((FkReadInitOi0 p0 p2).1)), (16, .cells [.nils, .nils, .nils, .nils, .nils, .nils, .nils, .nils])]) 288 (t1 (pu pz pT)) ?_
 refine sq [] none [5, 4, 2] [80, 48, 16] ([(5, .sc (.p 80 0)), (4, .sc (.p 48 0)), (2, .sc (.p 16 0))], [(80, .cells [.ro .u8 (FwFlag_1 (FkReadInitOv4 p0 p2) (FkReadInitOv5 p0 p2)), .b (FwFlag_2 (FkReadInitOv4 p0 p2) (FkReadInitOv5 p0 p2))]), (48, .vec .tab ((FkReadInitOi0 p0 p2).1)), (16, .cells [.nils, .nils, .nils, .nils, .nils, .nils, .nils, .nils])]) 320 (t1 (pu pz pT)) ?_
 refine sq [] none [5, 4, 2] [80, 48, 16] ([(5, .sc (.p 80 0)), (4, .sc (.p 48 0)), (2, .sc (.p 16 0))], [(80, .cells [.ro .u8 (FkReadInitOv6 p0 p2), .b (FkReadInitOv7 p0 p2)]), (48, .vec .tab ((FkReadInitOi0 p0 p2).1)), (16, .cells [.nils, .nils, .nils, .nils, .nils, .nils, .nils, .nils])]) 352 (t1 (pu pz pT)) ?_
 refine Tri.seq ?_
 refine sq [] none [33, 4, 2] [48, 16] ([(33, .sc (.b (!(FwEnd (FkReadInitOv6 p0 p2) (FkReadInitOv7 p0 p2))))), (4, .sc (.p 48 0)), (2, .sc (.p 16 0))], [(48, .vec .tab ((FkReadInitOi0 p0 p2).1)), (16, .cells [.nils, .nils, .nils, .nils, .nils, .nils, .nils, .nils])]) 400 (t1 (pu pz (t1 pT))) ?_
 refine Tri.cond (x := (!(FwEnd (FkReadInitOv6 p0 p2) (FkReadInitOv7 p0 p2)))) (by kernel_rfl) (fun h3 => ?_) (fun h3 => ?_)
 refine sq [] none [3, 2] [16] ([(3, .sc (.i .i64 3)), (2, .sc (.p 16 0))], [(16, .cells [.nils, .nils, .nils, .nils, .nils, .nils, .nils, .nils])]) 448 (t1 (pu (pa (lo (0 + 8 ≤ 8)) (lr (8 = 8))) (t1 pT))) ?_
 refine Tri.sub (Sub.toVec (l := [.nils, .nils, .nils, .nils, .nils, .nils, .nils, .nils]) 16 .tab (zt 8) (by kernel_rfl) (by kernel_rfl)) ?_
 refine Tri.ret ?_
 refine rt ?_
 refine endP.conv (r' := ⟨.tup [.arr .tab (zt 8), .sc (.i .i64 3)], [none]⟩) (by simp only [FkReadInitO, FkReadInitO_1, h1, h3, sel_true, sel_false]) ?_
 exact er [] (pa (lo (8 = (zt 8).length)) pz)
 refine Tri.skip ?_
 change Tri _ _ _ _ _ _
 refine sq [] none [3, 2] [16] ([(3, .sc (.i .i64 0)), (2, .sc (.p 16 0))], [(16, .vec .tab ((FkReadInitOi0 p0 p2).1))]) 448 (pu (lo (8 = ((FkReadInitOi0 p0 p2).1).length)) (pu (pa (lo (((FkReadInitOi0 p0 p2).1).length = 8)) (lr (8 = 8))) (t1 pT))) ?_
 refine Tri.ret ?_
 refine rt ?_
 refine endP.conv (r' := ⟨.tup [.arr .tab ((FkReadInitOi0 p0 p2).1), .sc (.i .i64 0)], [none]⟩) (by simp only [FkReadInitO, FkReadInitO_1, h1, h3, sel_true, sel_false]) ?_
 exact er [] (pa (lo (8 = ((FkReadInitOi0 p0 p2).1).length)) pz)
noncomputable def BkrReadInit : Bs := { P := Go.Proofs.Tryd.prog, G := gD, tab := tabOf [⟨45, 144, [.io], [], [96], ⟨1, 0, SwcByte⟩, false⟩, ⟨45, 336, [.io], [], [96], ⟨1, 0, SwcByte⟩, false⟩, ⟨46, 192, [.io, .val], [], [96], ⟨1, 0, SwcTake⟩, false⟩, ⟨47, 272, [.io], [], [96], ⟨1, 0, SwcNames⟩, false⟩, ⟨47, 288, [.io], [], [96], ⟨1, 0, SwcNames⟩, false⟩, ⟨47, 304, [.io], [], [96], ⟨1, 0, SwcNames⟩, false⟩, ⟨48, 368, [.io], [], [96], ⟨1, 0, SwcU32⟩, false⟩, ⟨49, 448, [.io], [], [96], ⟨1, 0, SwcEnd⟩, false⟩], n := 40 }
theorem BkrReadInit.ok : BkrReadInit.Ok := ⟨tabOk (P := Go.Proofs.Tryd.prog) (G := gD) (l := [⟨45, 144, [.io], [], [96], ⟨1, 0, SwcByte⟩, false⟩, ⟨45, 336, [.io], [], [96], ⟨1, 0, SwcByte⟩, false⟩, ⟨46, 192, [.io, .val], [], [96], ⟨1, 0, SwcTake⟩, false⟩, ⟨47, 272, [.io], [], [96], ⟨1, 0, SwcNames⟩, false⟩, ⟨47, 288, [.io], [], [96], ⟨1, 0, SwcNames⟩, false⟩, ⟨47, 304, [.io], [], [96], ⟨1, 0, SwcNames⟩, false⟩, ⟨48, 368, [.io], [], [96], ⟨1, 0, SwcU32⟩, false⟩, ⟨49, 448, [.io], [], [96], ⟨1, 0, SwcEnd⟩, false⟩]) (And.intro KwcByte (And.intro KwcByte (And.intro KwcTake (And.intro KwcNames (And.intro KwcNames (And.intro KwcNames (And.intro KwcU32 (And.intro KwcEnd True.intro)))))))), mixed⟩
end Go.Vm
set_option linter.unusedVariables false
set_option linter.unusedSimpArgs false
set_option maxRecDepth 4000
set_option maxHeartbeats 2000000
namespace Go.Vm
open Go
noncomputable def Bklists : Bs := { P := Go.Proofs.Tryd.prog, G := gD, tab := tabOf [⟨37, 176, [.ros], [], [], ⟨0, 1, SwrNames⟩, false⟩, ⟨37, 256, [.ros], [], [], ⟨0, 1, SwrNames⟩, false⟩], n := 21 }
theorem Bklists.ok : Bklists.Ok := ⟨tabOk (P := Go.Proofs.Tryd.prog) (G := gD) (l := [⟨37, 176, [.ros], [], [], ⟨0, 1, SwrNames⟩, false⟩, ⟨37, 256, [.ros], [], [], ⟨0, 1, SwrNames⟩, false⟩]) (And.intro KwrNames (And.intro KwrNames True.intro)), mixed⟩
noncomputable def Bklight : Bs := { P := Go.Proofs.Tryd.prog, G := gD, tab := tabOf [], n := 27 }
theorem Bklight.ok : Bklight.Ok := ⟨tabOk (P := Go.Proofs.Tryd.prog) (G := gD) (l := []) True.intro, mixed⟩
end Go.Vm
set_option linter.unusedVariables false
set_option linter.unusedSimpArgs false
set_option maxRecDepth 4000
set_option maxHeartbeats 2000000
namespace Go.Vm
open Go
def talkOk (a b : ByteArray) (c d : List Int) (e f g : ByteArray) (h : List Int) : Prop := a.size ≤ 2000 ∧ b.size ≤ 2000 ∧ c.length ≤ 2000 ∧ d.length ≤ 2000 ∧ e.size ≤ 2000 ∧ f.size ≤ 2000 ∧ g.size ≤ 2000 ∧ h.length ≤ 2000
theorem talk_at {a b c d e f g : ByteArray} {n : Nat} (q : a.size ≤ n ∧ b.size ≤ n ∧ c.size ≤ n ∧ d.size ≤ n ∧ e.size ≤ n ∧ f.size ≤ n ∧ g.size ≤ n) (k : Nat) : (([a, b, c, d, e, f, g] : List ByteArray).getD k ⟨#[]⟩).size ≤ n := by
  obtain ⟨q1, q2, q3, q4, q5, q6, q7⟩ := q
  match k with
  | 0 => exact q1
  | 1 => exact q2
  | 2 => exact q3
  | 3 => exact q4
  | 4 => exact q5
  | 5 => exact q6
  | 6 => exact q7
  | k + 7 => exact Nat.zero_le _
theorem len_selk {b : Bool} {x y : List Int} {m n : Nat} (h : x.length = m) (h' : y.length = n) : (sel b x y).length = sel b m n := by cases b <;> assumption
theorem len_FwwInt {k : Nat} {xs p3 : List Int} (h : xs.length = k) : (FwwInt k xs p3).length = FwwIntn0 k xs p3 := by
  have hu : ∀ v, (FwwU32 k xs v).length = k + 4 := fun v => by unfold FwwU32; rw [List.length_append, h]; rfl
  unfold FwwInt FwwIntn0
  repeat' first
    | apply len_selk
    | rw [hu]
    | (simp only [List.length_append, hu]; rfl)
    | (simp only [List.length_append, hu, List.length_cons, List.length_nil])
theorem len_FwwIntn {p3 : List Int} : (FwwIntn p3).length = FwwIntnn0 p3 := by
  have hu : ∀ v, (FwwU32n v).length = 4 := fun v => rfl
  unfold FwwIntn FwwIntnn0
  repeat' first
    | apply len_selk
    | rw [hu]
    | (simp only [List.length_append, hu]; rfl)
    | (simp only [List.length_append, hu, List.length_cons, List.length_nil])
noncomputable def FkHashv1 (p10 : ByteArray) (p11 : ByteArray) (p12 : List Int) (p13 : List Int) (p14 : ByteArray) (p15 : ByteArray) (p16 : ByteArray) (k0 : Nat) (z0 : Nat × List Int) : List Int :=
  (FwwText z0.1 z0.2 ([p10, p11, (bytesOf p12), (bytesOf p13), p14, p15, p16].getD k0 (⟨#[]⟩ : ByteArray)))
noncomputable def FkHashl0 (p10 : ByteArray) (p11 : ByteArray) (p12 : List Int) (p13 : List Int) (p14 : ByteArray) (p15 : ByteArray) (p16 : ByteArray) (k0 : Nat) (z0 : Nat × List Int) : Nat × List Int :=
  ((z0.1 + 4) + ([p10, p11, (bytesOf p12), (bytesOf p13), p14, p15, p16].getD k0 (⟨#[]⟩ : ByteArray)).size, (FkHashv1 p10 p11 p12 p13 p14 p15 p16 k0 z0))
noncomputable def FkHashi0 (p10 : ByteArray) (p11 : ByteArray) (p12 : List Int) (p13 : List Int) (p14 : ByteArray) (p15 : ByteArray) (p16 : ByteArray) : Nat × List Int :=
  (itr (FkHashl0 p10 p11 p12 p13 p14 p15 p16) 7 (0, ([] : List Int)))
noncomputable def FkHashv2 (p10 : ByteArray) (p11 : ByteArray) (p12 : List Int) (p13 : List Int) (p14 : ByteArray) (p15 : ByteArray) (p16 : ByteArray) (p17 : List Int) : List Int :=
  (FwwInt ((FkHashi0 p10 p11 p12 p13 p14 p15 p16).1) ((FkHashi0 p10 p11 p12 p13 p14 p15 p16).2) p17)
noncomputable def FkHashv3 (p10 : ByteArray) (p11 : ByteArray) (p12 : List Int) (p13 : List Int) (p14 : ByteArray) (p15 : ByteArray) (p16 : ByteArray) (p17 : List Int) : List Int :=
  (F34 (part1 (FkHashv2 p10 p11 p12 p13 p14 p15 p16 p17) (FwwIntn0 ((FkHashi0 p10 p11 p12 p13 p14 p15 p16).1) ((FkHashi0 p10 p11 p12 p13 p14 p15 p16).2) p17) 0 (FwwIntn0 ((FkHashi0 p10 p11 p12 p13 p14 p15 p16).1) ((FkHashi0 p10 p11 p12 p13 p14 p15 p16).2) p17)))
noncomputable def FkHash (p10 : ByteArray) (p11 : ByteArray) (p12 : List Int) (p13 : List Int) (p14 : ByteArray) (p15 : ByteArray) (p16 : ByteArray) (p17 : List Int) : List Int :=
  (FkHashv3 p10 p11 p12 p13 p14 p15 p16 p17)
noncomputable def SkHash : List AV → List Blk → Option (Prop × Ret)
  | [.agg [.s p10, .s p11, .ro .u8 p12, .ro .u8 p13, .s p14, .s p15, .s p16, .ro .u8 p17]], [] => some ((talkOk p10 p11 p12 p13 p14 p15 p16 p17), ⟨.sc (.sl 0 0 32 1 (some 32)), [some (.ints .u8 32 (FkHash p10 p11 p12 p13 p14 p15 p16 p17))]⟩)
  | _, _ => none
noncomputable def BkHash : Bs := { P := Go.Proofs.Tryd.prog, G := gD, tab := tabOf [⟨55, 576, [.io, .val], [], [464], ⟨1, 1, SwwText⟩, false⟩, ⟨60, 560, [.ro .u8], [544], [], ⟨0, 0, S34⟩, false⟩, ⟨61, 544, [.io, .ro .u8], [], [464], ⟨1, 1, SwwInt⟩, false⟩], n := 45 }
theorem BkHash.ok : BkHash.Ok := ⟨tabOk (P := Go.Proofs.Tryd.prog) (G := gD) (l := [⟨55, 576, [.io, .val], [], [464], ⟨1, 1, SwwText⟩, false⟩, ⟨60, 560, [.ro .u8], [544], [], ⟨0, 0, S34⟩, false⟩, ⟨61, 544, [.io, .ro .u8], [], [464], ⟨1, 1, SwwInt⟩, false⟩]) (And.intro KwwText (And.intro K34 (And.intro KwwInt True.intro))), mixed⟩
theorem KkHash : Known Go.Proofs.Tryd.prog gD 28 ⟨0, 1, SkHash⟩ := by
 refine Known.walk (B := BkHash) (fn := Go.Proofs.Tryd.f28) BkHash.ok (by kernel_rfl) rfl (by kernel_rfl) (by kernel_rfl) (by decide) (by decide) ?_
 intro E args ks C r h hC hlen
 simp only at h
 unfold SkHash at h
 split at h
 rotate_left
 cases h
 rename_i p10 p11 p12 p13 p14 p15 p16 p17
 cases h
 simp only [lens] at hlen
 obtain ⟨q1, q2, q3, q4, q5, q6, q7, q8⟩ := hC
 refine ⟨show 1 ≤ 45 from by decide, ?_⟩
 refine Tri.sub (Sub.of_eq (show _ = ([(0, .agg [.s p10, .s p11, .ro .u8 p12, .ro .u8 p13, .s p14, .s p15, .s p16, .ro .u8 p17])], []) from rfl)) ?_
 refine sq [] none [1] [16] ([(1, .sc (.p 16 0))], [(16, .cells [.s p10, .s p11, .ro .u8 p12, .ro .u8 p13, .s p14, .s p15, .s p16, .ro .u8 p17])]) 48 (t2 pT) ?_
 refine sq [] none [3, 1] [16] ([(3, .sc (.nils)), (1, .sc (.p 16 0))], [(16, .cells [.s p10, .s p11, .ro .u8 p12, .ro .u8 p13, .s p14, .s p15, .s p16, .ro .u8 p17])]) 64 (t1 pT) ?_
 refine Tri.seq ?_
 refine sq [] none [31, 30, 29, 3, 1] [416, 16] ([(31, .sc (.i .i64 0)), (30, .sc (.i .i64 7)), (29, .sc (.sl 416 0 7 1 none)), (3, .sc (.nils)), (1, .sc (.p 16 0))], [(416, .cells [.s p10, .s p11, .s (bytesOf p12), .s (bytesOf p13), .s p14, .s p15, .s p16]), (16, .cells [.s p10, .s p11, .ro .u8 p12, .ro .u8 p13, .s p14, .s p15, .s p16, .ro .u8 p17])]) 464 (t1 (pu (lo ((0 : Int) ≤ 0 ∧ 0 < ((2 : Nat) : Int))) (pu (lo (0 < 8)) (t1 (pu (lo ((0 : Int) ≤ 1 ∧ 1 < ((2 : Nat) : Int))) (pu (lo (1 < 8)) (t1 (pu (lo ((0 : Int) ≤ 0 ∧ 0 < ((2 : Nat) : Int))) (pu (lo (2 < 8)) (t2 (pu (lo ((0 : Int) ≤ 1 ∧ 1 < ((2 : Nat) : Int))) (pu (lo (3 < 8)) (t2 (pu (lo (4 < 8)) (t1 (pu (lo ((0 : Int) ≤ 0 ∧ 0 < ((2 : Nat) : Int))) (pu (lo (5 < 8)) (t1 (pu (lo ((0 : Int) ≤ 1 ∧ 1 < ((2 : Nat) : Int))) (pu (lo (6 < 8)) (pu (pa (pa (pa (lo (0 < 7)) (lr (1 = 1))) (pa (pa (lo (1 < 7)) (lr (1 = 1))) (pa (pa (lo (2 < 7)) (lr (1 = 1))) (pa (pa (lo (3 < 7)) (lr (1 = 1))) (pa (pa (lo (4 < 7)) (lr (1 = 1))) (pa (pa (lo (5 < 7)) (lr (1 = 1))) (pa (pa (lo (6 < 7)) (lr (1 = 1))) pT))))))) (pa (lo (7 * 1 ≤ 16777216)) (lr (1 = 1)))) (t2 pT)))))))))))))))))))))) ?_
 refine Tri.block ?_
 refine Tri.sub (Sub.toVec (l := [.s p10, .s p11, .s (bytesOf p12), .s (bytesOf p13), .s p14, .s p15, .s p16]) 416 .str [p10, p11, (bytesOf p12), (bytesOf p13), p14, p15, p16] (by kernel_rfl) (by kernel_rfl)) ?_
 refine Tri.sub (Sub.openNil (U := 464) (U' := 480) 3 464 1 .u8 none (.inl rfl) (by decide) (by decide) (by kernel_rfl) (by kernel_rfl)) ?_
 refine Tri.count 480 7 (FkHashl0 p10 p11 p12 p13 p14 p15 p16) (0, ([] : List Int)) (fun k0 z0 => z0.1 ≤ 2004 * k0) (fun k0 z0 => ([(3, .sc (.sl 464 0 z0.1 1 none)), (31, .sc (.i .i64 ((k0 : Nat) : Int))), (30, .sc (.i .i64 7)), (29, .sc (.sl 416 0 7 1 none)), (1, .sc (.p 16 0))], [(464, .ints .u8 z0.1 z0.2), (416, .vec .str [p10, p11, (bytesOf p12), (bytesOf p13), p14, p15, p16]), (16, .cells [.s p10, .s p11, .ro .u8 p12, .ro .u8 p13, .s p14, .s p15, .s p16, .ro .u8 p17])])) (by omega) (Sub.of_eq (by kernel_rfl)) ?_
 intro k0 z0 hk0 hz0 hJ0
 have hs := talk_at (a := p10) (b := p11) (c := bytesOf p12) (d := bytesOf p13) (e := p14) (f := p15) (g := p16) ⟨q1, q2, by rw [size_bytesOf]; exact q3, by rw [size_bytesOf]; exact q4, q5, q6, q7⟩ k0
 refine sq [] none [32, 3, 31, 30, 29, 1] [464, 416, 16] ([(32, .sc (.b (decide ((((k0 : Nat) : Int) : Int) < 7)))), (3, .sc (.sl 464 0 z0.1 1 none)), (31, .sc (.i .i64 ((k0 : Nat) : Int))), (30, .sc (.i .i64 7)), (29, .sc (.sl 416 0 7 1 none)), (1, .sc (.p 16 0))], [(464, .ints .u8 z0.1 z0.2), (416, .vec .str [p10, p11, (bytesOf p12), (bytesOf p13), p14, p15, p16]), (16, .cells [.s p10, .s p11, .ro .u8 p12, .ro .u8 p13, .s p14, .s p15, .s p16, .ro .u8 p17])]) 496 (t1 pT) ?_
 refine Tri.seq ?_
 refine Tri.cond (x := (decide ((((k0 : Nat) : Int) : Int) < 7))) (by kernel_rfl) (fun h1 => ?_) (fun h1 => ?_)
 have h1' := of_decide_eq_true h1
 refine Tri.skip ?_
 change Tri _ _ _ _ _ _
 refine Tri.seq ?_
 refine Tri.block ?_
 refine Tri.len 464 rfl (fun hl2 => ?_)
 refine sq [] none [5, 3, 31, 30, 29, 1] [464, 416, 16] ([(5, .sc (.s ([p10, p11, (bytesOf p12), (bytesOf p13), p14, p15, p16].getD k0 (⟨#[]⟩ : ByteArray)))), (3, .sc (.sl 464 0 z0.1 1 none)), (31, .sc (.i .i64 ((k0 : Nat) : Int))), (30, .sc (.i .i64 7)), (29, .sc (.sl 416 0 7 1 none)), (1, .sc (.p 16 0))], [(464, .ints .u8 z0.1 z0.2), (416, .vec .str [p10, p11, (bytesOf p12), (bytesOf p13), p14, p15, p16]), (16, .cells [.s p10, .s p11, .ro .u8 p12, .ro .u8 p13, .s p14, .s p15, .s p16, .ro .u8 p17])]) 544 (pu (lo ((0 : Int) ≤ ((k0 : Nat) : Int) ∧ ((k0 : Nat) : Int) < ((7 : Nat) : Int))) (pu (pl (show k0 < [p10, p11, (bytesOf p12), (bytesOf p13), p14, p15, p16].length from by first | omega | decide | (show _ < 7; omega) | exact ⟨by omega, by omega⟩ | exact part1_le (Nat.le_trans (le_FwwInt _ _ _) (by omega)) (Nat.le_trans (Nat.le_of_eq (len_FwwInt (by omega))) (Nat.le_trans (le_FwwInt _ _ _) (by omega))) | exact Nat.le_trans (le_FwwInt _ _ _) (by omega) | exact part1_le (by omega) (by rw [List.length_append]; have hp := part1_le (xs := FwrInt p17) (n := FwrIntn0 p17) (off := 0) (len := FwrIntn0 p17) (B := 3000) (by omega) (by omega); omega))) (t1 pT))) ?_
 refine rq [] none [3, 31, 30, 29, 1] [576, 416, 16] ([(3, .sc (.sl 576 0 ((z0.1 + 4) + ([p10, p11, (bytesOf p12), (bytesOf p13), p14, p15, p16].getD k0 (⟨#[]⟩ : ByteArray)).size) 1 none)), (31, .sc (.i .i64 ((k0 : Nat) : Int))), (30, .sc (.i .i64 7)), (29, .sc (.sl 416 0 7 1 none)), (1, .sc (.p 16 0))], [(576, .ints .u8 ((z0.1 + 4) + ([p10, p11, (bytesOf p12), (bytesOf p13), p14, p15, p16].getD k0 (⟨#[]⟩ : ByteArray)).size) (FkHashv1 p10 p11 p12 p13 p14 p15 p16 k0 z0)), (416, .vec .str [p10, p11, (bytesOf p12), (bytesOf p13), p14, p15, p16]), (16, .cells [.s p10, .s p11, .ro .u8 p12, .ro .u8 p13, .s p14, .s p15, .s p16, .ro .u8 p17])]) 608 (t2 (pu (pa pT (pa (lr (z0.1 = z0.1)) (lo (z0.1 ≤ 1000000000 ∧ ([p10, p11, (bytesOf p12), (bytesOf p13), p14, p15, p16].getD k0 (⟨#[]⟩ : ByteArray)).size ≤ 1000000000)))) (t1 pT))) ?_
 change Tri _ _ _ _ _ _
 refine rq [(38, qi ((k0 + 1 : Nat) : Int))] none [31, 3, 30, 29, 1] [576, 416, 16] ([(31, .sc (.i .i64 ((k0 + 1 : Nat) : Int))), (3, .sc (.sl 576 0 ((z0.1 + 4) + ([p10, p11, (bytesOf p12), (bytesOf p13), p14, p15, p16].getD k0 (⟨#[]⟩ : ByteArray)).size) 1 none)), (30, .sc (.i .i64 7)), (29, .sc (.sl 416 0 7 1 none)), (1, .sc (.p 16 0))], [(576, .ints .u8 ((z0.1 + 4) + ([p10, p11, (bytesOf p12), (bytesOf p13), p14, p15, p16].getD k0 (⟨#[]⟩ : ByteArray)).size) (FkHashv1 p10 p11 p12 p13 p14 p15 p16 k0 z0)), (416, .vec .str [p10, p11, (bytesOf p12), (bytesOf p13), p14, p15, p16]), (16, .cells [.s p10, .s p11, .ro .u8 p12, .ro .u8 p13, .s p14, .s p15, .s p16, .ro .u8 p17])]) 640 (pv pT (pl (show (iAdd .i64 ((k0 : Nat) : Int) 1) = ((k0 + 1 : Nat) : Int) from iAdd_nat (a := k0) (b := 1) (by omega))) (t1 pT)) ?_
 repeat (refine blkP_normal ?_)
 refine countP_normal (by omega) (show z0.1 + 4 + _ ≤ 2004 * (k0 + 1) by omega) ?_
 exact sp [(576, 464), (416, 416), (16, 16)] [3, 31, 30, 29, 1]
 have h1' := of_decide_eq_false h1
 refine Tri.exit ?_
 have hend0 : k0 = 7 := by (have := of_decide_eq_false h1; omega)
 subst hend0; obtain rfl : z0 = (FkHashi0 p10 p11 p12 p13 p14 p15 p16) := hz0
 change Tri _ _ _ _ _ _
 refine Tri.len 464 rfl (fun hl3 => ?_)
 refine sq [] none [6] [576] ([(6, .sc (.p 576 0))], [(576, .ints .u8 32 (FkHashv3 p10 p11 p12 p13 p14 p15 p16 p17))]) 608 (t2 (pu (lo (7 < 8)) (pu (pa pz (pa (lr (((FkHashi0 p10 p11 p12 p13 p14 p15 p16).1) = ((FkHashi0 p10 p11 p12 p13 p14 p15 p16).1))) (lo (((FkHashi0 p10 p11 p12 p13 p14 p15 p16).1) ≤ 1000000000 ∧ p17.length ≤ 1000000000)))) (pu (pa (pa (lo (0 + (FwwIntn0 ((FkHashi0 p10 p11 p12 p13 p14 p15 p16).1) ((FkHashi0 p10 p11 p12 p13 p14 p15 p16).2) p17) ≤ (FwwIntn0 ((FkHashi0 p10 p11 p12 p13 p14 p15 p16).1) ((FkHashi0 p10 p11 p12 p13 p14 p15 p16).2) p17))) pT) (pl (show (part1 (FkHashv2 p10 p11 p12 p13 p14 p15 p16 p17) (FwwIntn0 ((FkHashi0 p10 p11 p12 p13 p14 p15 p16).1) ((FkHashi0 p10 p11 p12 p13 p14 p15 p16).2) p17) 0 (FwwIntn0 ((FkHashi0 p10 p11 p12 p13 p14 p15 p16).1) ((FkHashi0 p10 p11 p12 p13 p14 p15 p16).2) p17)).length ≤ 100000000 from by first | omega | decide | (show _ < 7; omega) | exact ⟨by omega, by omega⟩ | exact part1_le (Nat.le_trans (le_FwwInt _ _ _) (by omega)) (Nat.le_trans (Nat.le_of_eq (len_FwwInt (by omega))) (Nat.le_trans (le_FwwInt _ _ _) (by omega))) | exact Nat.le_trans (le_FwwInt _ _ _) (by omega) | exact part1_le (by omega) (by rw [List.length_append]; have hp := part1_le (xs := FwrInt p17) (n := FwrIntn0 p17) (off := 0) (len := FwrIntn0 p17) (B := 3000) (by omega) (by omega); omega)))) (t1 (pu (pa pT (lr (32 = 32))) pT)))))) ?_
 refine sq [] none [2] [576] ([(2, .sc (.sl 576 0 32 1 (some 32)))], [(576, .ints .u8 32 (FkHashv3 p10 p11 p12 p13 p14 p15 p16 p17))]) 640 (pu (pa (lo ((0 : Int) ≤ 0 ∧ (0 : Int) ≤ 32 ∧ 32 ≤ ((32 : Nat) : Int))) (lo (32 ≤ 32))) (t1 pT)) ?_
 refine Tri.ret ?_
 refine rt ?_
 exact er [(576, 0)] pz
noncomputable def FkrHashv1 (p10 : ByteArray) (p11 : ByteArray) (p12 : List Int) (p13 : List Int) (p14 : ByteArray) (p15 : ByteArray) (p16 : ByteArray) (k0 : Nat) : List Int :=
  (FwrText ([p10, p11, (bytesOf p12), (bytesOf p13), p14, p15, p16].getD k0 (⟨#[]⟩ : ByteArray)))
noncomputable def FkrHashl0 (p10 : ByteArray) (p11 : ByteArray) (p12 : List Int) (p13 : List Int) (p14 : ByteArray) (p15 : ByteArray) (p16 : ByteArray) (k0 : Nat) (z0 : Nat × List Int) : Nat × List Int :=
  (z0.1 + (4 + ([p10, p11, (bytesOf p12), (bytesOf p13), p14, p15, p16].getD k0 (⟨#[]⟩ : ByteArray)).size), z0.2 ++ (part1 (FkrHashv1 p10 p11 p12 p13 p14 p15 p16 k0) (4 + ([p10, p11, (bytesOf p12), (bytesOf p13), p14, p15, p16].getD k0 (⟨#[]⟩ : ByteArray)).size) 0 (4 + ([p10, p11, (bytesOf p12), (bytesOf p13), p14, p15, p16].getD k0 (⟨#[]⟩ : ByteArray)).size)))
noncomputable def FkrHashi0 (p10 : ByteArray) (p11 : ByteArray) (p12 : List Int) (p13 : List Int) (p14 : ByteArray) (p15 : ByteArray) (p16 : ByteArray) : Nat × List Int :=
  (itr (FkrHashl0 p10 p11 p12 p13 p14 p15 p16) 7 (0, ([] : List Int)))
noncomputable def FkrHashv2 (p10 : ByteArray) (p11 : ByteArray) (p12 : List Int) (p13 : List Int) (p14 : ByteArray) (p15 : ByteArray) (p16 : ByteArray) (p17 : List Int) : List Int :=
  (F36w32 (part1 (((FkrHashi0 p10 p11 p12 p13 p14 p15 p16).2) ++ (part1 (FwrInt p17) (FwrIntn0 p17) 0 (FwrIntn0 p17))) (((FkrHashi0 p10 p11 p12 p13 p14 p15 p16).1) + (FwrIntn0 p17)) 0 (((FkrHashi0 p10 p11 p12 p13 p14 p15 p16).1) + (FwrIntn0 p17))))
noncomputable def FkrHash (p10 : ByteArray) (p11 : ByteArray) (p12 : List Int) (p13 : List Int) (p14 : ByteArray) (p15 : ByteArray) (p16 : ByteArray) (p17 : List Int) : List Int :=
  (FkrHashv2 p10 p11 p12 p13 p14 p15 p16 p17)
noncomputable def SkrHash : List AV → List Blk → Option (Prop × Ret)
  | [.agg [.s p10, .s p11, .ro .u8 p12, .ro .u8 p13, .s p14, .s p15, .s p16, .ro .u8 p17]], [] => some ((talkOk p10 p11 p12 p13 p14 p15 p16 p17), ⟨.sc (.sl 0 0 32 1 none), [some (.ints .u8 32 (FkrHash p10 p11 p12 p13 p14 p15 p16 p17))]⟩)
  | _, _ => none
noncomputable def BkrHash : Bs := { P := Go.Proofs.Tryd.prog, G := gD, tab := tabOf [⟨56, 624, [.val], [], [], ⟨0, 1, SwrText⟩, false⟩, ⟨62, 624, [.ro .u8, .val], [608], [], ⟨0, 1, S36w32⟩, false⟩, ⟨63, 592, [.ro .u8], [], [], ⟨0, 1, SwrInt⟩, false⟩], n := 48 }
theorem BkrHash.ok : BkrHash.Ok := ⟨tabOk (P := Go.Proofs.Tryd.prog) (G := gD) (l := [⟨56, 624, [.val], [], [], ⟨0, 1, SwrText⟩, false⟩, ⟨62, 624, [.ro .u8, .val], [608], [], ⟨0, 1, S36w32⟩, false⟩, ⟨63, 592, [.ro .u8], [], [], ⟨0, 1, SwrInt⟩, false⟩]) (And.intro KwrText (And.intro K36w32 (And.intro KwrInt True.intro))), mixed⟩
theorem KkrHash : Known Go.Proofs.Tryd.prog gD 29 ⟨0, 1, SkrHash⟩ := by
 refine Known.walk (B := BkrHash) (fn := Go.Proofs.Tryd.f29) BkrHash.ok (by kernel_rfl) rfl (by kernel_rfl) (by kernel_rfl) (by decide) (by decide) ?_
 intro E args ks C r h hC hlen
 simp only at h
 unfold SkrHash at h
 split at h
 rotate_left
 cases h
 rename_i p10 p11 p12 p13 p14 p15 p16 p17
 cases h
 simp only [lens] at hlen
 obtain ⟨q1, q2, q3, q4, q5, q6, q7, q8⟩ := hC
 have hri := le_FwrInt p17
 refine ⟨show 1 ≤ 48 from by decide, ?_⟩
 refine Tri.sub (Sub.of_eq (show _ = ([(0, .agg [.s p10, .s p11, .ro .u8 p12, .ro .u8 p13, .s p14, .s p15, .s p16, .ro .u8 p17])], []) from rfl)) ?_
 refine sq [] none [1] [16] ([(1, .sc (.p 16 0))], [(16, .cells [.s p10, .s p11, .ro .u8 p12, .ro .u8 p13, .s p14, .s p15, .s p16, .ro .u8 p17])]) 48 (t2 pT) ?_
 refine sq [] none [3, 1] [16] ([(3, .sc (.nils)), (1, .sc (.p 16 0))], [(16, .cells [.s p10, .s p11, .ro .u8 p12, .ro .u8 p13, .s p14, .s p15, .s p16, .ro .u8 p17])]) 64 (t1 pT) ?_
 refine sq [] none [4, 3, 1] [416, 16] ([(4, .sc (.sl 416 0 7 1 none)), (3, .sc (.nils)), (1, .sc (.p 16 0))], [(416, .cells [.s p10, .s p11, .s (bytesOf p12), .s (bytesOf p13), .s p14, .s p15, .s p16]), (16, .cells [.s p10, .s p11, .ro .u8 p12, .ro .u8 p13, .s p14, .s p15, .s p16, .ro .u8 p17])]) 448 (t1 (pu (lo ((0 : Int) ≤ 0 ∧ 0 < ((2 : Nat) : Int))) (pu (lo (0 < 8)) (t1 (pu (lo ((0 : Int) ≤ 1 ∧ 1 < ((2 : Nat) : Int))) (pu (lo (1 < 8)) (t1 (pu (lo ((0 : Int) ≤ 0 ∧ 0 < ((2 : Nat) : Int))) (pu (lo (2 < 8)) (t2 (pu (lo ((0 : Int) ≤ 1 ∧ 1 < ((2 : Nat) : Int))) (pu (lo (3 < 8)) (t2 (pu (lo (4 < 8)) (t1 (pu (lo ((0 : Int) ≤ 0 ∧ 0 < ((2 : Nat) : Int))) (pu (lo (5 < 8)) (t1 (pu (lo ((0 : Int) ≤ 1 ∧ 1 < ((2 : Nat) : Int))) (pu (lo (6 < 8)) (pu (pa (pa (pa (lo (0 < 7)) (lr (1 = 1))) (pa (pa (lo (1 < 7)) (lr (1 = 1))) (pa (pa (lo (2 < 7)) (lr (1 = 1))) (pa (pa (lo (3 < 7)) (lr (1 = 1))) (pa (pa (lo (4 < 7)) (lr (1 = 1))) (pa (pa (lo (5 < 7)) (lr (1 = 1))) (pa (pa (lo (6 < 7)) (lr (1 = 1))) pT))))))) (pa (lo (7 * 1 ≤ 16777216)) (lr (1 = 1)))) (t1 pT)))))))))))))))))))))) ?_
 refine Tri.seq ?_
 refine sq [] none [5, 4, 3, 1] [416, 16] ([(5, .sc (.i .i64 0)), (4, .sc (.sl 416 0 7 1 none)), (3, .sc (.nils)), (1, .sc (.p 16 0))], [(416, .cells [.s p10, .s p11, .s (bytesOf p12), .s (bytesOf p13), .s p14, .s p15, .s p16]), (16, .cells [.s p10, .s p11, .ro .u8 p12, .ro .u8 p13, .s p14, .s p15, .s p16, .ro .u8 p17])]) 464 (t1 pT) ?_
 refine Tri.block ?_
 refine Tri.sub (Sub.toVec (l := [.s p10, .s p11, .s (bytesOf p12), .s (bytesOf p13), .s p14, .s p15, .s p16]) 416 .str [p10, p11, (bytesOf p12), (bytesOf p13), p14, p15, p16] (by kernel_rfl) (by kernel_rfl)) ?_
 refine Tri.sub (Sub.openNil (U := 464) (U' := 480) 3 464 1 .u8 none (.inl rfl) (by decide) (by decide) (by kernel_rfl) (by kernel_rfl)) ?_
 refine Tri.count 480 7 (FkrHashl0 p10 p11 p12 p13 p14 p15 p16) (0, ([] : List Int)) (fun k0 z0 => z0.1 ≤ 2004 * k0) (fun k0 z0 => ([(3, .sc (.sl 464 0 z0.1 1 none)), (5, .sc (.i .i64 ((k0 : Nat) : Int))), (4, .sc (.sl 416 0 7 1 none)), (1, .sc (.p 16 0))], [(464, .ints .u8 z0.1 z0.2), (416, .vec .str [p10, p11, (bytesOf p12), (bytesOf p13), p14, p15, p16]), (16, .cells [.s p10, .s p11, .ro .u8 p12, .ro .u8 p13, .s p14, .s p15, .s p16, .ro .u8 p17])])) (by omega) (Sub.of_eq (by kernel_rfl)) ?_
 intro k0 z0 hk0 hz0 hJ0
 have hs := talk_at (a := p10) (b := p11) (c := bytesOf p12) (d := bytesOf p13) (e := p14) (f := p15) (g := p16) ⟨q1, q2, by rw [size_bytesOf]; exact q3, by rw [size_bytesOf]; exact q4, q5, q6, q7⟩ k0
 refine Tri.seq ?_
 refine sq [] none [32, 3, 5, 4, 1] [464, 416, 16] ([(32, .sc (.b (decide ((((k0 : Nat) : Int) : Int) < 7)))), (3, .sc (.sl 464 0 z0.1 1 none)), (5, .sc (.i .i64 ((k0 : Nat) : Int))), (4, .sc (.sl 416 0 7 1 none)), (1, .sc (.p 16 0))], [(464, .ints .u8 z0.1 z0.2), (416, .vec .str [p10, p11, (bytesOf p12), (bytesOf p13), p14, p15, p16]), (16, .cells [.s p10, .s p11, .ro .u8 p12, .ro .u8 p13, .s p14, .s p15, .s p16, .ro .u8 p17])]) 544 (t4 pT) ?_
 refine Tri.cond (x := (decide ((((k0 : Nat) : Int) : Int) < 7))) (by kernel_rfl) (fun h1 => ?_) (fun h1 => ?_)
 have h1' := of_decide_eq_true h1
 refine Tri.skip ?_
 change Tri _ _ _ _ _ _
 refine Tri.seq ?_
 refine Tri.block ?_
 refine Tri.len 464 rfl (fun hl2 => ?_)
 refine rq [] none [3, 5, 4, 1] [640, 416, 16] ([(3, .sc (.sl 640 0 (z0.1 + (4 + ([p10, p11, (bytesOf p12), (bytesOf p13), p14, p15, p16].getD k0 (⟨#[]⟩ : ByteArray)).size)) 1 none)), (5, .sc (.i .i64 ((k0 : Nat) : Int))), (4, .sc (.sl 416 0 7 1 none)), (1, .sc (.p 16 0))], [(640, .ints .u8 (z0.1 + (4 + ([p10, p11, (bytesOf p12), (bytesOf p13), p14, p15, p16].getD k0 (⟨#[]⟩ : ByteArray)).size)) (z0.2 ++ (part1 (FkrHashv1 p10 p11 p12 p13 p14 p15 p16 k0) (4 + ([p10, p11, (bytesOf p12), (bytesOf p13), p14, p15, p16].getD k0 (⟨#[]⟩ : ByteArray)).size) 0 (4 + ([p10, p11, (bytesOf p12), (bytesOf p13), p14, p15, p16].getD k0 (⟨#[]⟩ : ByteArray)).size)))), (416, .vec .str [p10, p11, (bytesOf p12), (bytesOf p13), p14, p15, p16]), (16, .cells [.s p10, .s p11, .ro .u8 p12, .ro .u8 p13, .s p14, .s p15, .s p16, .ro .u8 p17])]) 672 (t3 (pu (lo ((0 : Int) ≤ ((k0 : Nat) : Int) ∧ ((k0 : Nat) : Int) < ((7 : Nat) : Int))) (pu (pl (show k0 < [p10, p11, (bytesOf p12), (bytesOf p13), p14, p15, p16].length from by first | omega | decide | (show _ < 7; omega) | exact ⟨by omega, by omega⟩ | exact part1_le (Nat.le_trans (le_FwwInt _ _ _) (by omega)) (Nat.le_trans (Nat.le_of_eq (len_FwwInt (by omega))) (Nat.le_trans (le_FwwInt _ _ _) (by omega))) | exact Nat.le_trans (le_FwwInt _ _ _) (by omega) | exact part1_le (by omega) (by rw [List.length_append]; have hp := part1_le (xs := FwrInt p17) (n := FwrIntn0 p17) (off := 0) (len := FwrIntn0 p17) (B := 3000) (by omega) (by omega); omega))) (pu (pa pT (lo (([p10, p11, (bytesOf p12), (bytesOf p13), p14, p15, p16].getD k0 (⟨#[]⟩ : ByteArray)).size ≤ 1000000000))) (pu (pa (pa (pa (pa (lo (0 + (4 + ([p10, p11, (bytesOf p12), (bytesOf p13), p14, p15, p16].getD k0 (⟨#[]⟩ : ByteArray)).size) ≤ 4 + ([p10, p11, (bytesOf p12), (bytesOf p13), p14, p15, p16].getD k0 (⟨#[]⟩ : ByteArray)).size)) (lr (1 = 1))) (pa (lo (0 < 1)) (pa (lo ((z0.1 + (4 + ([p10, p11, (bytesOf p12), (bytesOf p13), p14, p15, p16].getD k0 (⟨#[]⟩ : ByteArray)).size)) * 1 ≤ 140737488355328)) (lo (z0.1 + (4 + ([p10, p11, (bytesOf p12), (bytesOf p13), p14, p15, p16].getD k0 (⟨#[]⟩ : ByteArray)).size) ≤ 140737488355328))))) (lo (4 + ([p10, p11, (bytesOf p12), (bytesOf p13), p14, p15, p16].getD k0 (⟨#[]⟩ : ByteArray)).size = (4 + ([p10, p11, (bytesOf p12), (bytesOf p13), p14, p15, p16].getD k0 (⟨#[]⟩ : ByteArray)).size) * 1))) (pa (lr (1 = 1)) (lo (0 + z0.1 * 1 = z0.1)))) (t1 pT)))))) ?_
 change Tri _ _ _ _ _ _
 refine Tri.len 640 rfl (fun hl3 => ?_)
 refine rq [(34, qi ((k0 + 1 : Nat) : Int))] none [5, 3, 4, 1] [640, 416, 16] ([(5, .sc (.i .i64 ((k0 + 1 : Nat) : Int))), (3, .sc (.sl 640 0 (z0.1 + (4 + ([p10, p11, (bytesOf p12), (bytesOf p13), p14, p15, p16].getD k0 (⟨#[]⟩ : ByteArray)).size)) 1 none)), (4, .sc (.sl 416 0 7 1 none)), (1, .sc (.p 16 0))], [(640, .ints .u8 (z0.1 + (4 + ([p10, p11, (bytesOf p12), (bytesOf p13), p14, p15, p16].getD k0 (⟨#[]⟩ : ByteArray)).size)) (z0.2 ++ (part1 (FkrHashv1 p10 p11 p12 p13 p14 p15 p16 k0) (4 + ([p10, p11, (bytesOf p12), (bytesOf p13), p14, p15, p16].getD k0 (⟨#[]⟩ : ByteArray)).size) 0 (4 + ([p10, p11, (bytesOf p12), (bytesOf p13), p14, p15, p16].getD k0 (⟨#[]⟩ : ByteArray)).size)))), (416, .vec .str [p10, p11, (bytesOf p12), (bytesOf p13), p14, p15, p16]), (16, .cells [.s p10, .s p11, .ro .u8 p12, .ro .u8 p13, .s p14, .s p15, .s p16, .ro .u8 p17])]) 720 (t1 (pv pT (pl (show (iAdd .i64 ((k0 : Nat) : Int) 1) = ((k0 + 1 : Nat) : Int) from iAdd_nat (a := k0) (b := 1) (by omega))) (t1 pT))) ?_
 repeat (refine blkP_normal ?_)
 refine countP_normal (by omega) (show z0.1 + (4 + _) ≤ 2004 * (k0 + 1) by omega) ?_
 exact sp [(640, 464), (416, 416), (16, 16)] [3, 5, 4, 1]
 have h1' := of_decide_eq_false h1
 refine Tri.exit ?_
 have hend0 : k0 = 7 := by (have := of_decide_eq_false h1; omega)
 subst hend0; obtain rfl : z0 = (FkrHashi0 p10 p11 p12 p13 p14 p15 p16) := hz0
 change Tri _ _ _ _ _ _
 refine Tri.len 464 rfl (fun hl4 => ?_)
 refine sq [] none [2] [624] ([(2, .sc (.sl 624 0 32 1 none))], [(624, .ints .u8 32 (FkrHashv2 p10 p11 p12 p13 p14 p15 p16 p17))]) 656 (t2 (pu (lo (7 < 8)) (pu (pa pz (lo (p17.length ≤ 900000000))) (pu (pa (pa (pa (pa (lo (0 + (FwrIntn0 p17) ≤ (FwrIntn0 p17))) (lr (1 = 1))) (pa (lo (0 < 1)) (pa (lo ((((FkrHashi0 p10 p11 p12 p13 p14 p15 p16).1) + (FwrIntn0 p17)) * 1 ≤ 140737488355328)) (lo (((FkrHashi0 p10 p11 p12 p13 p14 p15 p16).1) + (FwrIntn0 p17) ≤ 140737488355328))))) (lo ((FwrIntn0 p17) = (FwrIntn0 p17) * 1))) (pa (lr (1 = 1)) (lo (0 + ((FkrHashi0 p10 p11 p12 p13 p14 p15 p16).1) * 1 = (FkrHashi0 p10 p11 p12 p13 p14 p15 p16).1)))) (pu (pa (pa (lo (0 + (((FkrHashi0 p10 p11 p12 p13 p14 p15 p16).1) + (FwrIntn0 p17)) ≤ ((FkrHashi0 p10 p11 p12 p13 p14 p15 p16).1) + (FwrIntn0 p17))) pT) (pa (lr ((32 : Int) = (32 : Int))) (pl (show (part1 (((FkrHashi0 p10 p11 p12 p13 p14 p15 p16).2) ++ (part1 (FwrInt p17) (FwrIntn0 p17) 0 (FwrIntn0 p17))) (((FkrHashi0 p10 p11 p12 p13 p14 p15 p16).1) + (FwrIntn0 p17)) 0 (((FkrHashi0 p10 p11 p12 p13 p14 p15 p16).1) + (FwrIntn0 p17))).length ≤ 100000000 from by first | omega | decide | (show _ < 7; omega) | exact ⟨by omega, by omega⟩ | exact part1_le (Nat.le_trans (le_FwwInt _ _ _) (by omega)) (Nat.le_trans (Nat.le_of_eq (len_FwwInt (by omega))) (Nat.le_trans (le_FwwInt _ _ _) (by omega))) | exact Nat.le_trans (le_FwwInt _ _ _) (by omega) | exact part1_le (by omega) (by rw [List.length_append]; have hp := part1_le (xs := FwrInt p17) (n := FwrIntn0 p17) (off := 0) (len := FwrIntn0 p17) (B := 3000) (by omega) (by omega); omega))))) (t1 pT)))))) ?_
 refine Tri.ret ?_
 refine rt ?_
 exact er [(624, 0)] pz
noncomputable def Bkshort : Bs := { P := Go.Proofs.Tryd.prog, G := gD, tab := tabOf [], n := 37 }
theorem Bkshort.ok : Bkshort.Ok := ⟨tabOk (P := Go.Proofs.Tryd.prog) (G := gD) (l := []) True.intro, mixed⟩
end Go.Vm
