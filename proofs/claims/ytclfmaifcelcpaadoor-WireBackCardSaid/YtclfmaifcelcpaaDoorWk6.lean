/- What the functions compute, and that they do: walked by a printed text. -/
import Derived.Test.YtclfmaifcelcpaaDoorWk5
set_option linter.unusedVariables false
set_option linter.unusedSimpArgs false
set_option maxRecDepth 4000
namespace Go.Vm
open Go

noncomputable def FwWireBackl0 (p1 : List ByteArray) (k0 : Nat) (z0 : Int) : Int :=
  (iAdd .i64 z0 (((p1.getD k0 ⟨#[]⟩).size : Nat) : Int))

noncomputable def FwWireBacks0 (p1 : List ByteArray) (k0 : Nat) : Bool :=
  (sel (strEq (p1.getD k0 ⟨#[]⟩) (⟨#[]⟩ : ByteArray)) true (sel (hasB 44 (p1.getD k0 ⟨#[]⟩)) true false))

noncomputable def FwWireBackl1 (k1 : Nat) (z1 : Unit) : Unit :=
  ()

noncomputable def FwWireBacks1 (p2 : List Int) (k1 : Nat) : Bool :=
  (sel ((p2.getD k1 0 : Int) == 0) false true)

noncomputable def FwWireBack (p0 : ByteArray) (p1 : List ByteArray) (p2 : List Int) : Bool :=
  (sel (!(Fwfit)) false (sel (Nat.blt (fstB (FwWireBacks0 p1) p1.length) p1.length) true (sel (decide (((itr (FwWireBackl0 p1) p1.length ((p0.size + p2.length : Nat) : Int)) : Int) > 2000)) true (sel (decide ((((p1.length : Nat) : Int) : Int) > 100)) true (sel (Nat.blt (fstB (FwWireBacks1 p2) p2.length) p2.length) (sel (strEq (FwText (FwwIntz (FwwNamesn0 (4 + p0.size) (FwwTextn p0) p1) (FwwNames (4 + p0.size) (FwwTextn p0) p1) p2) false) p0) (sel (Fwtexts (FwNames (FwText_1 (FwwIntz (FwwNamesn0 (4 + p0.size) (FwwTextn p0) p1) (FwwNames (4 + p0.size) (FwwTextn p0) p1) p2) false) (FwText_2 (FwwIntz (FwwNamesn0 (4 + p0.size) (FwwTextn p0) p1) (FwwNames (4 + p0.size) (FwwTextn p0) p1) p2) false)) p1) (sel (strEq (bytesOf (FwInt (FwNames_1 (FwText_1 (FwwIntz (FwwNamesn0 (4 + p0.size) (FwwTextn p0) p1) (FwwNames (4 + p0.size) (FwwTextn p0) p1) p2) false) (FwText_2 (FwwIntz (FwwNamesn0 (4 + p0.size) (FwwTextn p0) p1) (FwwNames (4 + p0.size) (FwwTextn p0) p1) p2) false)) (FwNames_2 (FwText_1 (FwwIntz (FwwNamesn0 (4 + p0.size) (FwwTextn p0) p1) (FwwNames (4 + p0.size) (FwwTextn p0) p1) p2) false) (FwText_2 (FwwIntz (FwwNamesn0 (4 + p0.size) (FwwTextn p0) p1) (FwwNames (4 + p0.size) (FwwTextn p0) p1) p2) false)))) (bytesOf ((p2.drop (fstB (FwWireBacks1 p2) p2.length)).take (p2.length - (fstB (FwWireBacks1 p2) p2.length))))) (FwEnd (FwInt_1 (FwNames_1 (FwText_1 (FwwIntz (FwwNamesn0 (4 + p0.size) (FwwTextn p0) p1) (FwwNames (4 + p0.size) (FwwTextn p0) p1) p2) false) (FwText_2 (FwwIntz (FwwNamesn0 (4 + p0.size) (FwwTextn p0) p1) (FwwNames (4 + p0.size) (FwwTextn p0) p1) p2) false)) (FwNames_2 (FwText_1 (FwwIntz (FwwNamesn0 (4 + p0.size) (FwwTextn p0) p1) (FwwNames (4 + p0.size) (FwwTextn p0) p1) p2) false) (FwText_2 (FwwIntz (FwwNamesn0 (4 + p0.size) (FwwTextn p0) p1) (FwwNames (4 + p0.size) (FwwTextn p0) p1) p2) false))) (FwInt_2 (FwNames_1 (FwText_1 (FwwIntz (FwwNamesn0 (4 + p0.size) (FwwTextn p0) p1) (FwwNames (4 + p0.size) (FwwTextn p0) p1) p2) false) (FwText_2 (FwwIntz (FwwNamesn0 (4 + p0.size) (FwwTextn p0) p1) (FwwNames (4 + p0.size) (FwwTextn p0) p1) p2) false)) (FwNames_2 (FwText_1 (FwwIntz (FwwNamesn0 (4 + p0.size) (FwwTextn p0) p1) (FwwNames (4 + p0.size) (FwwTextn p0) p1) p2) false) (FwText_2 (FwwIntz (FwwNamesn0 (4 + p0.size) (FwwTextn p0) p1) (FwwNames (4 + p0.size) (FwwTextn p0) p1) p2) false)))) false) false) false) (sel (strEq (FwText (FwwIntz (FwwNamesn0 (4 + p0.size) (FwwTextn p0) p1) (FwwNames (4 + p0.size) (FwwTextn p0) p1) p2) false) p0) (sel (Fwtexts (FwNames (FwText_1 (FwwIntz (FwwNamesn0 (4 + p0.size) (FwwTextn p0) p1) (FwwNames (4 + p0.size) (FwwTextn p0) p1) p2) false) (FwText_2 (FwwIntz (FwwNamesn0 (4 + p0.size) (FwwTextn p0) p1) (FwwNames (4 + p0.size) (FwwTextn p0) p1) p2) false)) p1) (sel (strEq (bytesOf (FwInt (FwNames_1 (FwText_1 (FwwIntz (FwwNamesn0 (4 + p0.size) (FwwTextn p0) p1) (FwwNames (4 + p0.size) (FwwTextn p0) p1) p2) false) (FwText_2 (FwwIntz (FwwNamesn0 (4 + p0.size) (FwwTextn p0) p1) (FwwNames (4 + p0.size) (FwwTextn p0) p1) p2) false)) (FwNames_2 (FwText_1 (FwwIntz (FwwNamesn0 (4 + p0.size) (FwwTextn p0) p1) (FwwNames (4 + p0.size) (FwwTextn p0) p1) p2) false) (FwText_2 (FwwIntz (FwwNamesn0 (4 + p0.size) (FwwTextn p0) p1) (FwwNames (4 + p0.size) (FwwTextn p0) p1) p2) false)))) (bytesOf ((p2.drop p2.length).take (p2.length - p2.length)))) (FwEnd (FwInt_1 (FwNames_1 (FwText_1 (FwwIntz (FwwNamesn0 (4 + p0.size) (FwwTextn p0) p1) (FwwNames (4 + p0.size) (FwwTextn p0) p1) p2) false) (FwText_2 (FwwIntz (FwwNamesn0 (4 + p0.size) (FwwTextn p0) p1) (FwwNames (4 + p0.size) (FwwTextn p0) p1) p2) false)) (FwNames_2 (FwText_1 (FwwIntz (FwwNamesn0 (4 + p0.size) (FwwTextn p0) p1) (FwwNames (4 + p0.size) (FwwTextn p0) p1) p2) false) (FwText_2 (FwwIntz (FwwNamesn0 (4 + p0.size) (FwwTextn p0) p1) (FwwNames (4 + p0.size) (FwwTextn p0) p1) p2) false))) (FwInt_2 (FwNames_1 (FwText_1 (FwwIntz (FwwNamesn0 (4 + p0.size) (FwwTextn p0) p1) (FwwNames (4 + p0.size) (FwwTextn p0) p1) p2) false) (FwText_2 (FwwIntz (FwwNamesn0 (4 + p0.size) (FwwTextn p0) p1) (FwwNames (4 + p0.size) (FwwTextn p0) p1) p2) false)) (FwNames_2 (FwText_1 (FwwIntz (FwwNamesn0 (4 + p0.size) (FwwTextn p0) p1) (FwwNames (4 + p0.size) (FwwTextn p0) p1) p2) false) (FwText_2 (FwwIntz (FwwNamesn0 (4 + p0.size) (FwwTextn p0) p1) (FwwNames (4 + p0.size) (FwwTextn p0) p1) p2) false)))) false) false) false))))))

theorem back_sum {p0 : ByteArray} {p1 : List ByteArray} {p2 : List Int} (h : p0.size ≤ 140737488351232 ∧ (p1.length ≤ 140737488351232 ∧ ∀ y ∈ p1, y.size ≤ 140737488351232) ∧ p2.length ≤ 140737488351232) (hn : p1.length ≤ 100) :
    itr (FwWireBackl0 p1) p1.length ((p0.size + p2.length : Nat) : Int) = ((p0.size + p2.length + sumB p1 : Nat) : Int) := by
  obtain ⟨h0, ⟨_, h1⟩, h2⟩ := h
  have hb : ∀ L : List ByteArray, (∀ y ∈ L, y.size ≤ 140737488351232) → sumB L ≤ L.length * 140737488351232 := by
    intro L
    induction L with
    | nil => intro _; exact Nat.le_refl _
    | cons x r ih =>
      intro hL
      have := ih fun y hy => hL y (List.mem_cons_of_mem _ hy)
      have := hL x List.mem_cons_self
      rw [sumB, List.length_cons, Nat.add_mul]
      omega
  have key : ∀ k, k ≤ p1.length → itr (FwWireBackl0 p1) k ((p0.size + p2.length : Nat) : Int) = ((p0.size + p2.length + sumB (p1.take k) : Nat) : Int) := by
    intro k
    induction k with
    | zero => intro _; rw [itr_zero]; rfl
    | succ k ih =>
      intro hk
      have hk' : k < p1.length := hk
      rw [itr_succ, ih (by omega)]
      unfold FwWireBackl0
      have e : p1.getD k ⟨#[]⟩ = p1[k] := by rw [List.getD_eq_getElem?_getD, List.getElem?_eq_getElem hk']; rfl
      have hs := hb (p1.take k) fun y hy => h1 y (List.mem_of_mem_take hy)
      have hx := h1 _ (List.getElem_mem hk')
      rw [List.length_take] at hs
      rw [e, List.take_succ_eq_append_getElem hk', sumB_append, iAdd_nat (by omega)]
      show _ = ((p0.size + p2.length + (sumB (p1.take k) + (p1[k].size + 0)) : Nat) : Int)
      omega
  have := key p1.length (Nat.le_refl _)
  rw [List.take_length] at this
  exact this
theorem back_small {p0 : ByteArray} {p1 : List ByteArray} {p2 : List Int} (h : p0.size ≤ 140737488351232 ∧ (p1.length ≤ 140737488351232 ∧ ∀ y ∈ p1, y.size ≤ 140737488351232) ∧ p2.length ≤ 140737488351232) (hn : p1.length ≤ 100)
    (ht : itr (FwWireBackl0 p1) p1.length ((p0.size + p2.length : Nat) : Int) ≤ 2000) : p0.size ≤ 2000 ∧ p2.length ≤ 2000 ∧ sumB p1 ≤ 2000 ∧ (joinB p1 (⟨#[44]⟩ : ByteArray)).size ≤ 2100 := by
  rw [back_sum h hn] at ht
  have h1 := joinB_size p1 (⟨#[44]⟩ : ByteArray)
  have h2 : (⟨#[44]⟩ : ByteArray).size = 1 := rfl
  rw [h2] at h1
  omega

noncomputable def SwWireBack : List AV → List Blk → Option (Prop × Ret)
  | [.sc (.s p0), .sc (.ros p1), .sc (.ro .u8 p2)], [] => some ((p0.size ≤ 140737488351232 ∧ (p1.length ≤ 140737488351232 ∧ ∀ y ∈ p1, y.size ≤ 140737488351232) ∧ p2.length ≤ 140737488351232), ⟨.sc (.b (FwWireBack p0 p1 p2)), []⟩)
  | _, _ => none

noncomputable def BwWireBack : Bs := { P := Go.Proofs.Tryd.prog, G := noG, tab := tabOf [⟨11, 32, [], [], [], ⟨0, 0, Swfit⟩⟩, ⟨12, 432, [.ro .u8], [], [], ⟨0, 1, SwFrom⟩⟩, ⟨18, 672, [.io], [], [432], ⟨1, 0, SwText⟩⟩, ⟨20, 784, [.ros, .ros], [], [], ⟨0, 0, Swtexts⟩⟩, ⟨21, 752, [.io], [], [432], ⟨1, 0, SwNames⟩⟩, ⟨23, 848, [.io], [], [432], ⟨1, 0, SwInt⟩⟩, ⟨28, 1008, [.io], [], [432], ⟨1, 0, SwEnd⟩⟩, ⟨30, 416, [.io, .ro .u8], [], [384], ⟨1, 0, SwwIntz⟩⟩, ⟨31, 384, [.io, .ros], [], [352], ⟨1, 1, SwwNames⟩⟩, ⟨32, 352, [.val, .val], [], [], ⟨0, 1, SwwTextn⟩⟩], n := 93 }

theorem BwWireBack.ok : BwWireBack.Ok := ⟨tabOk (P := Go.Proofs.Tryd.prog) (G := noG) (l := [⟨11, 32, [], [], [], ⟨0, 0, Swfit⟩⟩, ⟨12, 432, [.ro .u8], [], [], ⟨0, 1, SwFrom⟩⟩, ⟨18, 672, [.io], [], [432], ⟨1, 0, SwText⟩⟩, ⟨20, 784, [.ros, .ros], [], [], ⟨0, 0, Swtexts⟩⟩, ⟨21, 752, [.io], [], [432], ⟨1, 0, SwNames⟩⟩, ⟨23, 848, [.io], [], [432], ⟨1, 0, SwInt⟩⟩, ⟨28, 1008, [.io], [], [432], ⟨1, 0, SwEnd⟩⟩, ⟨30, 416, [.io, .ro .u8], [], [384], ⟨1, 0, SwwIntz⟩⟩, ⟨31, 384, [.io, .ros], [], [352], ⟨1, 1, SwwNames⟩⟩, ⟨32, 352, [.val, .val], [], [], ⟨0, 1, SwwTextn⟩⟩]) (And.intro Kwfit (And.intro KwFrom (And.intro KwText (And.intro Kwtexts (And.intro KwNames (And.intro KwInt (And.intro KwEnd (And.intro KwwIntz (And.intro KwwNames (And.intro KwwTextn True.intro)))))))))), mixed⟩

theorem KwWireBack : Known Go.Proofs.Tryd.prog noG 5 ⟨0, 0, SwWireBack⟩ := by
  refine Known.walk (B := BwWireBack) (fn := Go.Proofs.Tryd.f5) BwWireBack.ok (by kernel_rfl) rfl (by kernel_rfl) (by kernel_rfl) (by decide) (by decide) ?_
  · intro E args ks C r h hC hlen
    simp only at h
    unfold SwWireBack at h
    split at h
    rotate_left
    · cases h
    rename_i p0 p1 p2
    cases h
    simp only [lens] at hlen
    refine ⟨show 3 ≤ 93 from by decide, ?_⟩
    refine Tri.sub (Sub.of_eq (show _ = ([(0, .sc (.s p0)), (1, .sc (.ros p1)), (2, .sc (.ro .u8 p2))], []) from rfl)) ?_
    refine Tri.seq_region [] none [0, 1, 2] [] ((True ∧ True) ∧ True)
        ([(0, .sc (.s p0)), (1, .sc (.ros p1)), (2, .sc (.ro .u8 p2))], [])
        32 (by kernel_rfl) rfl (by kernel_rfl) (⟨⟨trivial, trivial⟩, trivial⟩) ?_
    refine Tri.seq ?_
    refine Tri.seq_region [] none [14, 0, 1, 2] [] (((True ∧ True) ∧ True) ∧ ((True ∧ True) ∧ True))
        ([(14, .sc (.b (!(Fwfit)))), (0, .sc (.s p0)), (1, .sc (.ros p1)), (2, .sc (.ro .u8 p2))], [])
        64 (by kernel_rfl) rfl (by kernel_rfl) (⟨⟨⟨trivial, trivial⟩, trivial⟩, ⟨⟨trivial, trivial⟩, trivial⟩⟩) ?_
    refine Tri.cond (x := (!(Fwfit))) (by kernel_rfl) (fun h1 => ?_) (fun h1 => ?_)
    ·
      refine Tri.seq_region [] none [6] [] ((True ∧ True) ∧ True)
          ([(6, .sc (.b false))], [])
          80 (by kernel_rfl) rfl (by kernel_rfl) (⟨⟨trivial, trivial⟩, trivial⟩) ?_
      refine Tri.ret ?_
      repeat (first | refine thenP_ret ?_ | refine blkP_ret ?_ | refine countP_ret ?_ | refine joinP_ret ?_ | refine iterP_ret ?_)
      refine endP.conv (r' := ⟨.sc (.b false), []⟩) (by simp only [FwWireBack, h1, sel_true, sel_false]) ?_
      exact endP.ret [] (True ∧ True) (by kernel_rfl) (by kernel_rfl) ⟨trivial, trivial⟩
    ·
      refine Tri.skip ?_
      change Tri _ _ _ _ _ _
      refine Tri.seq_region [(19, qi ((p0.size + p2.length : Nat) : Int))] none [7, 0, 1, 2] [] ((True ∧ True) ∧ ((True ∧ True) ∧ ((True ∧ True) ∧ ((True ∧ True) ∧ ((True ∧ ((iAdd .i64 ((p0.size : Nat) : Int) ((p2.length : Nat) : Int)) = ((p0.size + p2.length : Nat) : Int))) ∧ ((True ∧ True) ∧ True))))))
          ([(7, .sc (.i .i64 ((p0.size + p2.length : Nat) : Int))), (0, .sc (.s p0)), (1, .sc (.ros p1)), (2, .sc (.ro .u8 p2))], [])
          160 (by kernel_rfl) rfl (by kernel_rfl) (⟨⟨trivial, trivial⟩, ⟨⟨trivial, trivial⟩, ⟨⟨trivial, trivial⟩, ⟨⟨trivial, trivial⟩, ⟨⟨trivial, (iAdd_nat (a := p0.size) (b := p2.length) (by omega))⟩, ⟨⟨trivial, trivial⟩, trivial⟩⟩⟩⟩⟩⟩) ?_
      refine Tri.seq ?_
      refine Tri.seq_region [] none [22, 21, 20, 7, 0, 1, 2] [] ((True ∧ True) ∧ ((True ∧ True) ∧ ((True ∧ True) ∧ True)))
          ([(22, .sc (.i .i64 0)), (21, .sc (.i .i64 ((p1.length : Nat) : Int))), (20, .sc (.ros p1)), (7, .sc (.i .i64 ((p0.size + p2.length : Nat) : Int))), (0, .sc (.s p0)), (1, .sc (.ros p1)), (2, .sc (.ro .u8 p2))], [])
          208 (by kernel_rfl) rfl (by kernel_rfl) (⟨⟨trivial, trivial⟩, ⟨⟨trivial, trivial⟩, ⟨⟨trivial, trivial⟩, trivial⟩⟩⟩) ?_
      refine Tri.block ?_
      refine Tri.count 208 p1.length (FwWireBackl0 p1) ((p0.size + p2.length : Nat) : Int) (fun k0 z0 => (∀ j, j < k0 → (FwWireBacks0 p1) j = false)) (fun k0 z0 => ([(22, .sc (.i .i64 ((k0 : Nat) : Int))), (21, .sc (.i .i64 ((p1.length : Nat) : Int))), (20, .sc (.ros p1)), (7, .sc (.i .i64 z0)), (0, .sc (.s p0)), (1, .sc (.ros p1)), (2, .sc (.ro .u8 p2))], [])) (fun j hj => absurd hj (Nat.not_lt_zero j)) (Sub.of_eq (by kernel_rfl)) ?_
      intro k0 z0 hk0 hz0 hJ0
      refine Tri.seq_region [] none [23, 22, 21, 20, 7, 0, 1, 2] [] ((True ∧ True) ∧ True)
          ([(23, .sc (.b (decide ((((k0 : Nat) : Int) : Int) < ((p1.length : Nat) : Int))))), (22, .sc (.i .i64 ((k0 : Nat) : Int))), (21, .sc (.i .i64 ((p1.length : Nat) : Int))), (20, .sc (.ros p1)), (7, .sc (.i .i64 z0)), (0, .sc (.s p0)), (1, .sc (.ros p1)), (2, .sc (.ro .u8 p2))], [])
          224 (by kernel_rfl) rfl (by kernel_rfl) (⟨⟨trivial, trivial⟩, trivial⟩) ?_
      refine Tri.seq ?_
      refine Tri.cond (x := (decide ((((k0 : Nat) : Int) : Int) < ((p1.length : Nat) : Int)))) (by kernel_rfl) (fun h2 => ?_) (fun h2 => ?_)
      ·
        have h2' := of_decide_eq_true h2
        refine Tri.skip ?_
        change Tri _ _ _ _ _ _
        refine Tri.seq ?_
        refine Tri.block ?_
        refine Tri.seq_region [] none [9, 22, 21, 20, 7, 0, 1, 2] [] ((((0 : Int) ≤ ((k0 : Nat) : Int) ∧ ((k0 : Nat) : Int) < (p1.length : Int)) ∧ True) ∧ ((True ∧ True) ∧ ((True ∧ True) ∧ True)))
            ([(9, .sc (.s (p1.getD k0 ⟨#[]⟩))), (22, .sc (.i .i64 ((k0 : Nat) : Int))), (21, .sc (.i .i64 ((p1.length : Nat) : Int))), (20, .sc (.ros p1)), (7, .sc (.i .i64 z0)), (0, .sc (.s p0)), (1, .sc (.ros p1)), (2, .sc (.ro .u8 p2))], [])
            272 (by kernel_rfl) rfl (by kernel_rfl) (⟨⟨(by first | omega | decide | (have hw := back_small hC (by omega) (by omega); first | omega | (unfold FwwNamesn0; omega) | exact ⟨by omega, by omega⟩ | exact ⟨by omega, by omega, by omega⟩ | (unfold FwwNamesn0; exact ⟨by omega, by omega⟩)) | exact Nat.le_trans (len_FwNames _ _) (by decide)), trivial⟩, ⟨⟨trivial, trivial⟩, ⟨⟨trivial, trivial⟩, trivial⟩⟩⟩) ?_
        refine Tri.seq ?_
        refine Tri.seq_region [] none [7, 9, 22, 21, 20, 0, 1, 2] [] ((True ∧ True) ∧ ((True ∧ True) ∧ ((True ∧ True) ∧ ((True ∧ True) ∧ ((True ∧ True) ∧ True)))))
            ([(7, .sc (.i .i64 (iAdd .i64 z0 (((p1.getD k0 ⟨#[]⟩).size : Nat) : Int)))), (9, .sc (.s (p1.getD k0 ⟨#[]⟩))), (22, .sc (.i .i64 ((k0 : Nat) : Int))), (21, .sc (.i .i64 ((p1.length : Nat) : Int))), (20, .sc (.ros p1)), (0, .sc (.s p0)), (1, .sc (.ros p1)), (2, .sc (.ro .u8 p2))], [])
            352 (by kernel_rfl) rfl (by kernel_rfl) (⟨⟨trivial, trivial⟩, ⟨⟨trivial, trivial⟩, ⟨⟨trivial, trivial⟩, ⟨⟨trivial, trivial⟩, ⟨⟨trivial, trivial⟩, trivial⟩⟩⟩⟩⟩) ?_
        refine Tri.seq_region [] none [31, 7, 9, 22, 21, 20, 0, 1, 2] [] ((True ∧ True) ∧ ((True ∧ True) ∧ True))
            ([(31, .sc (.b (strEq (p1.getD k0 ⟨#[]⟩) (⟨#[]⟩ : ByteArray)))), (7, .sc (.i .i64 (iAdd .i64 z0 (((p1.getD k0 ⟨#[]⟩).size : Nat) : Int)))), (9, .sc (.s (p1.getD k0 ⟨#[]⟩))), (22, .sc (.i .i64 ((k0 : Nat) : Int))), (21, .sc (.i .i64 ((p1.length : Nat) : Int))), (20, .sc (.ros p1)), (0, .sc (.s p0)), (1, .sc (.ros p1)), (2, .sc (.ro .u8 p2))], [])
            384 (by kernel_rfl) rfl (by kernel_rfl) (⟨⟨trivial, trivial⟩, ⟨⟨trivial, trivial⟩, trivial⟩⟩) ?_
        refine Tri.cond (x := (strEq (p1.getD k0 ⟨#[]⟩) (⟨#[]⟩ : ByteArray))) (by kernel_rfl) (fun h3 => ?_) (fun h3 => ?_)
        ·
          refine Tri.seq_region [] none [6] [] ((True ∧ True) ∧ True)
              ([(6, .sc (.b true))], [])
              400 (by kernel_rfl) rfl (by kernel_rfl) (⟨⟨trivial, trivial⟩, trivial⟩) ?_
          refine Tri.ret ?_
          subst hz0
          have hf0 : fstB (FwWireBacks0 p1) p1.length = k0 := fst_found (by omega) hJ0 (by simp only [FwWireBacks0, h1, h2, h3, sel_true, sel_false])
          have hb0 : Nat.blt k0 p1.length = true := blt_true (by omega)
          have hq0 : Nat.blt (fstB (FwWireBacks0 p1) p1.length) p1.length = true := by rw [hf0]; exact hb0
          repeat (first | refine thenP_ret ?_ | refine blkP_ret ?_ | refine countP_ret ?_ | refine joinP_ret ?_ | refine iterP_ret ?_)
          refine endP.conv (r' := ⟨.sc (.b true), []⟩) (by simp only [FwWireBack, h1, hq0, hf0, hb0, sel_true, sel_false]) ?_
          exact endP.ret [] (True ∧ True) (by kernel_rfl) (by kernel_rfl) ⟨trivial, trivial⟩
        ·
          refine Tri.skip ?_
          change Tri _ _ _ _ _ _
          refine Tri.rangeStr (x := p1.getD k0 ⟨#[]⟩) ([(7, .sc (.i .i64 (iAdd .i64 z0 (((p1.getD k0 ⟨#[]⟩).size : Nat) : Int)))), (9, .sc (.s (p1.getD k0 ⟨#[]⟩))), (22, .sc (.i .i64 ((k0 : Nat) : Int))), (21, .sc (.i .i64 ((p1.length : Nat) : Int))), (20, .sc (.ros p1)), (0, .sc (.s p0)), (1, .sc (.ros p1)), (2, .sc (.ro .u8 p2))], []) (fun q => noneOf 44 (p1.getD k0 ⟨#[]⟩) q) rfl rfl rfl rfl rfl rfl rfl rfl rfl rfl (by kernel_rfl) rfl ((Sub.keep [7, 9, 22, 21, 20, 0, 1, 2] []).trans (Sub.of_eq (by kernel_rfl))) (by decide) (by decide) (by kernel_rfl) (fun j hj => absurd hj (Nat.not_lt_zero j)) ?_ ?_
          ·
            intro E4 g4 q4 r4 hq4 hlt4
            refine Tri.sub (Sub.of_eq (show _ = (([(35, .sc (.b true)), (34, .tup [.sc (.b true), .sc (.i .i64 ((q4 : Nat) : Int)), .sc (.i .i32 ((r4 : Nat) : Int))]), (33, .sc (.raw (ptr g4))), (7, .sc (.i .i64 (iAdd .i64 z0 (((p1.getD k0 ⟨#[]⟩).size : Nat) : Int)))), (9, .sc (.s (p1.getD k0 ⟨#[]⟩))), (22, .sc (.i .i64 ((k0 : Nat) : Int))), (21, .sc (.i .i64 ((p1.length : Nat) : Int))), (20, .sc (.ros p1)), (0, .sc (.s p0)), (1, .sc (.ros p1)), (2, .sc (.ro .u8 p2))], []) : St) from by kernel_rfl)) ?_
            refine Tri.block ?_
            refine Tri.seq_region [] none [10, 33, 7, 9, 22, 21, 20, 0, 1, 2] [] ((True ∧ True) ∧ ((True ∧ True) ∧ True))
                ([(10, .sc (.i .i64 ((q4 : Nat) : Int))), (33, .sc (.raw (ptr g4))), (7, .sc (.i .i64 (iAdd .i64 z0 (((p1.getD k0 ⟨#[]⟩).size : Nat) : Int)))), (9, .sc (.s (p1.getD k0 ⟨#[]⟩))), (22, .sc (.i .i64 ((k0 : Nat) : Int))), (21, .sc (.i .i64 ((p1.length : Nat) : Int))), (20, .sc (.ros p1)), (0, .sc (.s p0)), (1, .sc (.ros p1)), (2, .sc (.ro .u8 p2))], [])
                416 (by kernel_rfl) rfl (by kernel_rfl) (⟨⟨trivial, trivial⟩, ⟨⟨trivial, trivial⟩, trivial⟩⟩) ?_
            refine Tri.seq_region [] none [40, 33, 7, 9, 22, 21, 20, 0, 1, 2] [] ((True ∧ True) ∧ ((True ∧ True) ∧ ((((0 : Int) ≤ ((q4 : Nat) : Int) ∧ ((q4 : Nat) : Int) < ((p1.getD k0 ⟨#[]⟩).size : Int)) ∧ True) ∧ ((True ∧ True) ∧ True))))
                ([(40, .sc (.b (((byteAt (p1.getD k0 ⟨#[]⟩) ((q4 : Nat) : Int)) : Int) == 44))), (33, .sc (.raw (ptr g4))), (7, .sc (.i .i64 (iAdd .i64 z0 (((p1.getD k0 ⟨#[]⟩).size : Nat) : Int)))), (9, .sc (.s (p1.getD k0 ⟨#[]⟩))), (22, .sc (.i .i64 ((k0 : Nat) : Int))), (21, .sc (.i .i64 ((p1.length : Nat) : Int))), (20, .sc (.ros p1)), (0, .sc (.s p0)), (1, .sc (.ros p1)), (2, .sc (.ro .u8 p2))], [])
                480 (by kernel_rfl) rfl (by kernel_rfl) (⟨⟨trivial, trivial⟩, ⟨⟨trivial, trivial⟩, ⟨⟨(by first | omega | decide | (have hw := back_small hC (by omega) (by omega); first | omega | (unfold FwwNamesn0; omega) | exact ⟨by omega, by omega⟩ | exact ⟨by omega, by omega, by omega⟩ | (unfold FwwNamesn0; exact ⟨by omega, by omega⟩)) | exact Nat.le_trans (len_FwNames _ _) (by decide)), trivial⟩, ⟨⟨trivial, trivial⟩, trivial⟩⟩⟩⟩) ?_
            refine Tri.cond (x := (((byteAt (p1.getD k0 ⟨#[]⟩) ((q4 : Nat) : Int)) : Int) == 44)) (by kernel_rfl) (fun h5 => ?_) (fun h5 => ?_)
            ·
              have h5' := eq_true_i h5
              refine Tri.seq_region [] none [6] [] ((True ∧ True) ∧ True)
                  ([(6, .sc (.b true))], [])
                  496 (by kernel_rfl) rfl (by kernel_rfl) (⟨⟨trivial, trivial⟩, trivial⟩) ?_
              refine Tri.ret ?_
              have hc4 : (hasB 44 (p1.getD k0 ⟨#[]⟩)) = true := hasB_true hlt4 (byteAt_is (c := 44) h5 hlt4)
              subst hz0
              have hf0 : fstB (FwWireBacks0 p1) p1.length = k0 := fst_found (by omega) hJ0 (by simp only [FwWireBacks0, h1, h2, h3, hc4, sel_true, sel_false])
              have hb0 : Nat.blt k0 p1.length = true := blt_true (by omega)
              have hq0 : Nat.blt (fstB (FwWireBacks0 p1) p1.length) p1.length = true := by rw [hf0]; exact hb0
              repeat (first | refine thenP_ret ?_ | refine blkP_ret ?_ | refine countP_ret ?_ | refine joinP_ret ?_ | refine iterP_ret ?_)
              refine endP.conv (r' := ⟨.sc (.b true), []⟩) (by simp only [FwWireBack, h1, hq0, hf0, hb0, sel_true, sel_false]) ?_
              exact endP.ret [] (True ∧ True) (by kernel_rfl) (by kernel_rfl) ⟨trivial, trivial⟩
            ·
              have h5' := eq_false_i h5
              refine Tri.skip ?_
              repeat (refine blkP_normal ?_)
              refine iterP_normal (noneOf_next (by decide) hq4 (byteAt_ne (c := 44) h5 hlt4)) ?_
              exact (Sub.ren (ns := []) (kf := [33, 7, 9, 22, 21, 20, 0, 1, 2]) (s' := ([(33, .sc (.raw (ptr g4))), (7, .sc (.i .i64 (iAdd .i64 z0 (((p1.getD k0 ⟨#[]⟩).size : Nat) : Int)))), (9, .sc (.s (p1.getD k0 ⟨#[]⟩))), (22, .sc (.i .i64 ((k0 : Nat) : Int))), (21, .sc (.i .i64 ((p1.length : Nat) : Int))), (20, .sc (.ros p1)), (0, .sc (.s p0)), (1, .sc (.ros p1)), (2, .sc (.ro .u8 p2))], [])) (by kernel_rfl) (by kernel_rfl)).trans (Sub.of_eq (by kernel_rfl))
          ·
            intro q4 hq4 hlt4
            have hc4 : (hasB 44 (p1.getD k0 ⟨#[]⟩)) = false := hasB_false hq4 hlt4
            change Tri _ _ _ _ _ _
            refine Tri.region' [(41, qi ((k0 + 1 : Nat) : Int))] none [22, 7, 21, 20, 0, 1, 2] [] ((True ∧ ((iAdd .i64 ((k0 : Nat) : Int) 1) = ((k0 + 1 : Nat) : Int))) ∧ ((True ∧ True) ∧ True))
                ([(22, .sc (.i .i64 ((k0 + 1 : Nat) : Int))), (7, .sc (.i .i64 (iAdd .i64 z0 (((p1.getD k0 ⟨#[]⟩).size : Nat) : Int)))), (21, .sc (.i .i64 ((p1.length : Nat) : Int))), (20, .sc (.ros p1)), (0, .sc (.s p0)), (1, .sc (.ros p1)), (2, .sc (.ro .u8 p2))], [])
                416 (by kernel_rfl) rfl (by kernel_rfl) (⟨⟨trivial, (iAdd_nat (a := k0) (b := 1) (by omega))⟩, ⟨⟨trivial, trivial⟩, trivial⟩⟩) ?_
            repeat (refine blkP_normal ?_)
            refine countP_normal (by omega) (below_succ hJ0 (by subst hz0; simp only [FwWireBacks0, h1, h2, h3, hc4, sel_true, sel_false])) ?_
            exact Sub.ren (ns := []) (kf := [22, 21, 20, 7, 0, 1, 2]) (by kernel_rfl) (by kernel_rfl)
      ·
        have h2' := of_decide_eq_false h2
        refine Tri.exit ?_
        have hend0 : k0 = p1.length := by (have := of_decide_eq_false h2; omega)
        subst hend0; subst hz0
        have hf0 : fstB (FwWireBacks0 p1) p1.length = p1.length := fst_none hJ0
        have hb0 : Nat.blt p1.length p1.length = false := blt_self _
        have hq0 : Nat.blt (fstB (FwWireBacks0 p1) p1.length) p1.length = false := by rw [hf0]; exact hb0
        change Tri _ _ _ _ _ _
        refine Tri.seq ?_
        refine Tri.split (decide (((itr (FwWireBackl0 p1) p1.length ((p0.size + p2.length : Nat) : Int)) : Int) > 2000)) (fun h6 => ?_) (fun h6 => ?_)
        ·
          have h6' := of_decide_eq_true h6
          refine Tri.seq_region [(44, qb true)] none [48, 0, 1, 2] [] ((True ∧ True) ∧ ((True ∧ True) ∧ ((True ∧ ((decide (((itr (FwWireBackl0 p1) p1.length ((p0.size + p2.length : Nat) : Int)) : Int) > 2000)) = true)) ∧ ((True ∧ True) ∧ ((True ∧ True) ∧ ((True ∧ True) ∧ ((True ∧ True) ∧ True)))))))
              ([(48, .sc (.b true)), (0, .sc (.s p0)), (1, .sc (.ros p1)), (2, .sc (.ro .u8 p2))], [])
              336 (by kernel_rfl) rfl (by kernel_rfl) (⟨⟨trivial, trivial⟩, ⟨⟨trivial, trivial⟩, ⟨⟨trivial, (h6)⟩, ⟨⟨trivial, trivial⟩, ⟨⟨trivial, trivial⟩, ⟨⟨trivial, trivial⟩, ⟨⟨trivial, trivial⟩, trivial⟩⟩⟩⟩⟩⟩⟩) ?_
          refine Tri.cond_true (by kernel_rfl) ?_
          refine Tri.seq_region [] none [6] [] ((True ∧ True) ∧ True)
              ([(6, .sc (.b true))], [])
              352 (by kernel_rfl) rfl (by kernel_rfl) (⟨⟨trivial, trivial⟩, trivial⟩) ?_
          refine Tri.ret ?_
          repeat (first | refine thenP_ret ?_ | refine blkP_ret ?_ | refine countP_ret ?_ | refine joinP_ret ?_ | refine iterP_ret ?_)
          refine endP.conv (r' := ⟨.sc (.b true), []⟩) (by simp only [FwWireBack, h1, hq0, hf0, hb0, h6, sel_true, sel_false]) ?_
          exact endP.ret [] (True ∧ True) (by kernel_rfl) (by kernel_rfl) ⟨trivial, trivial⟩
        ·
          have h6' := of_decide_eq_false h6
          refine Tri.seq_region [(44, qb false)] none [48, 0, 1, 2] [] ((True ∧ True) ∧ ((True ∧ True) ∧ ((True ∧ ((decide (((itr (FwWireBackl0 p1) p1.length ((p0.size + p2.length : Nat) : Int)) : Int) > 2000)) = false)) ∧ ((True ∧ True) ∧ ((True ∧ True) ∧ ((True ∧ True) ∧ ((True ∧ True) ∧ True)))))))
              ([(48, .sc (.b (decide ((((p1.length : Nat) : Int) : Int) > 100)))), (0, .sc (.s p0)), (1, .sc (.ros p1)), (2, .sc (.ro .u8 p2))], [])
              336 (by kernel_rfl) rfl (by kernel_rfl) (⟨⟨trivial, trivial⟩, ⟨⟨trivial, trivial⟩, ⟨⟨trivial, (h6)⟩, ⟨⟨trivial, trivial⟩, ⟨⟨trivial, trivial⟩, ⟨⟨trivial, trivial⟩, ⟨⟨trivial, trivial⟩, trivial⟩⟩⟩⟩⟩⟩⟩) ?_
          refine Tri.cond (x := (decide ((((p1.length : Nat) : Int) : Int) > 100))) (by kernel_rfl) (fun h7 => ?_) (fun h7 => ?_)
          ·
            have h7' := of_decide_eq_true h7
            refine Tri.seq_region [] none [6] [] ((True ∧ True) ∧ True)
                ([(6, .sc (.b true))], [])
                352 (by kernel_rfl) rfl (by kernel_rfl) (⟨⟨trivial, trivial⟩, trivial⟩) ?_
            refine Tri.ret ?_
            repeat (first | refine thenP_ret ?_ | refine blkP_ret ?_ | refine countP_ret ?_ | refine joinP_ret ?_ | refine iterP_ret ?_)
            refine endP.conv (r' := ⟨.sc (.b true), []⟩) (by simp only [FwWireBack, h1, hq0, hf0, hb0, h6, h7, sel_true, sel_false]) ?_
            exact endP.ret [] (True ∧ True) (by kernel_rfl) (by kernel_rfl) ⟨trivial, trivial⟩
          ·
            have h7' := of_decide_eq_false h7
            refine Tri.skip ?_
            change Tri _ _ _ _ _ _
            refine Tri.seq_region [] none [11, 0, 1, 2] [432] ((True ∧ True) ∧ (((True ∧ (p0.size ≤ 1000000000)) ∧ True) ∧ ((True ∧ True) ∧ (((True ∧ (((4 + p0.size) = (4 + p0.size)) ∧ ((4 + p0.size) ≤ 1000000000 ∧ p1.length ≤ 1000000000 ∧ (joinB p1 (⟨#[44]⟩ : ByteArray)).size ≤ 1000000000))) ∧ True) ∧ ((True ∧ True) ∧ ((((True ∧ True) ∧ (((FwwNamesn0 (4 + p0.size) (FwwTextn p0) p1) = (FwwNamesn0 (4 + p0.size) (FwwTextn p0) p1)) ∧ ((FwwNamesn0 (4 + p0.size) (FwwTextn p0) p1) ≤ 1000000000 ∧ p2.length ≤ 1000000000))) ∧ True) ∧ ((((True ∧ True) ∧ True) ∧ True) ∧ ((True ∧ True) ∧ True))))))))
                ([(11, .sc (.p 432 0)), (0, .sc (.s p0)), (1, .sc (.ros p1)), (2, .sc (.ro .u8 p2))], [(432, .cells [.ro .u8 (FwwIntz (FwwNamesn0 (4 + p0.size) (FwwTextn p0) p1) (FwwNames (4 + p0.size) (FwwTextn p0) p1) p2), .b false])])
                464 (by kernel_rfl) rfl (by kernel_rfl) (⟨⟨trivial, trivial⟩, ⟨⟨⟨trivial, (by first | omega | decide | (have hw := back_small hC (by omega) (by omega); first | omega | (unfold FwwNamesn0; omega) | exact ⟨by omega, by omega⟩ | exact ⟨by omega, by omega, by omega⟩ | (unfold FwwNamesn0; exact ⟨by omega, by omega⟩)) | exact Nat.le_trans (len_FwNames _ _) (by decide))⟩, trivial⟩, ⟨⟨trivial, trivial⟩, ⟨⟨⟨trivial, ⟨(rfl), (by first | omega | decide | (have hw := back_small hC (by omega) (by omega); first | omega | (unfold FwwNamesn0; omega) | exact ⟨by omega, by omega⟩ | exact ⟨by omega, by omega, by omega⟩ | (unfold FwwNamesn0; exact ⟨by omega, by omega⟩)) | exact Nat.le_trans (len_FwNames _ _) (by decide))⟩⟩, trivial⟩, ⟨⟨trivial, trivial⟩, ⟨⟨⟨⟨trivial, trivial⟩, ⟨(rfl), (by first | omega | decide | (have hw := back_small hC (by omega) (by omega); first | omega | (unfold FwwNamesn0; omega) | exact ⟨by omega, by omega⟩ | exact ⟨by omega, by omega, by omega⟩ | (unfold FwwNamesn0; exact ⟨by omega, by omega⟩)) | exact Nat.le_trans (len_FwNames _ _) (by decide))⟩⟩, trivial⟩, ⟨⟨⟨⟨trivial, trivial⟩, trivial⟩, trivial⟩, ⟨⟨trivial, trivial⟩, trivial⟩⟩⟩⟩⟩⟩⟩⟩) ?_
            refine Tri.seq_region [] none [12, 11, 0, 1, 2] [432] ((True ∧ True) ∧ True)
                ([(12, .sc (.i .i64 0)), (11, .sc (.p 432 0)), (0, .sc (.s p0)), (1, .sc (.ros p1)), (2, .sc (.ro .u8 p2))], [(432, .cells [.ro .u8 (FwwIntz (FwwNamesn0 (4 + p0.size) (FwwTextn p0) p1) (FwwNames (4 + p0.size) (FwwTextn p0) p1) p2), .b false])])
                480 (by kernel_rfl) rfl (by kernel_rfl) (⟨⟨trivial, trivial⟩, trivial⟩) ?_
            refine Tri.seq ?_
            refine Tri.block ?_
            refine Tri.count 480 p2.length (FwWireBackl1) (()) (fun k1 z1 => (∀ j, j < k1 → (FwWireBacks1 p2) j = false)) (fun k1 z1 => ([(12, .sc (.i .i64 ((k1 : Nat) : Int))), (11, .sc (.p 432 0)), (0, .sc (.s p0)), (1, .sc (.ros p1)), (2, .sc (.ro .u8 p2))], [(432, .cells [.ro .u8 (FwwIntz (FwwNamesn0 (4 + p0.size) (FwwTextn p0) p1) (FwwNames (4 + p0.size) (FwwTextn p0) p1) p2), .b false])])) (fun j hj => absurd hj (Nat.not_lt_zero j)) (Sub.of_eq (by kernel_rfl)) ?_
            intro k1 z1 hk1 hz1 hJ1
            refine Tri.seq ?_
            refine Tri.split (decide ((((k1 : Nat) : Int) : Int) < ((p2.length : Nat) : Int))) (fun h8 => ?_) (fun h8 => ?_)
            ·
              have h8' := of_decide_eq_true h8
              refine Tri.seq_region [(60, qb true)] none [66, 12, 11, 0, 1, 2] [432] ((True ∧ True) ∧ ((True ∧ True) ∧ ((True ∧ True) ∧ ((True ∧ True) ∧ ((True ∧ ((decide ((((k1 : Nat) : Int) : Int) < ((p2.length : Nat) : Int))) = true)) ∧ ((True ∧ True) ∧ ((True ∧ True) ∧ ((((0 : Int) ≤ ((k1 : Nat) : Int) ∧ ((k1 : Nat) : Int) < (p2.length : Int)) ∧ True) ∧ (((k1 < p2.length) ∧ True) ∧ ((True ∧ True) ∧ ((True ∧ True) ∧ True)))))))))))
                  ([(66, .sc (.b ((p2.getD k1 0 : Int) == 0))), (12, .sc (.i .i64 ((k1 : Nat) : Int))), (11, .sc (.p 432 0)), (0, .sc (.s p0)), (1, .sc (.ros p1)), (2, .sc (.ro .u8 p2))], [(432, .cells [.ro .u8 (FwwIntz (FwwNamesn0 (4 + p0.size) (FwwTextn p0) p1) (FwwNames (4 + p0.size) (FwwTextn p0) p1) p2), .b false])])
                  656 (by kernel_rfl) rfl (by kernel_rfl) (⟨⟨trivial, trivial⟩, ⟨⟨trivial, trivial⟩, ⟨⟨trivial, trivial⟩, ⟨⟨trivial, trivial⟩, ⟨⟨trivial, (h8)⟩, ⟨⟨trivial, trivial⟩, ⟨⟨trivial, trivial⟩, ⟨⟨(by first | omega | decide | (have hw := back_small hC (by omega) (by omega); first | omega | (unfold FwwNamesn0; omega) | exact ⟨by omega, by omega⟩ | exact ⟨by omega, by omega, by omega⟩ | (unfold FwwNamesn0; exact ⟨by omega, by omega⟩)) | exact Nat.le_trans (len_FwNames _ _) (by decide)), trivial⟩, ⟨⟨(by first | omega | decide | (have hw := back_small hC (by omega) (by omega); first | omega | (unfold FwwNamesn0; omega) | exact ⟨by omega, by omega⟩ | exact ⟨by omega, by omega, by omega⟩ | (unfold FwwNamesn0; exact ⟨by omega, by omega⟩)) | exact Nat.le_trans (len_FwNames _ _) (by decide)), trivial⟩, ⟨⟨trivial, trivial⟩, ⟨⟨trivial, trivial⟩, trivial⟩⟩⟩⟩⟩⟩⟩⟩⟩⟩⟩) ?_
              refine Tri.cond (x := ((p2.getD k1 0 : Int) == 0)) (by kernel_rfl) (fun h9 => ?_) (fun h9 => ?_)
              ·
                have h9' := eq_true_i h9
                refine Tri.skip ?_
                change Tri _ _ _ _ _ _
                refine Tri.block ?_
                refine Tri.region' [(68, qi ((k1 + 1 : Nat) : Int))] none [12, 11, 0, 1, 2] [432] ((True ∧ True) ∧ ((True ∧ ((iAdd .i64 ((k1 : Nat) : Int) 1) = ((k1 + 1 : Nat) : Int))) ∧ ((True ∧ True) ∧ True)))
                    ([(12, .sc (.i .i64 ((k1 + 1 : Nat) : Int))), (11, .sc (.p 432 0)), (0, .sc (.s p0)), (1, .sc (.ros p1)), (2, .sc (.ro .u8 p2))], [(432, .cells [.ro .u8 (FwwIntz (FwwNamesn0 (4 + p0.size) (FwwTextn p0) p1) (FwwNames (4 + p0.size) (FwwTextn p0) p1) p2), .b false])])
                    704 (by kernel_rfl) rfl (by kernel_rfl) (⟨⟨trivial, trivial⟩, ⟨⟨trivial, (iAdd_nat (a := k1) (b := 1) (by omega))⟩, ⟨⟨trivial, trivial⟩, trivial⟩⟩⟩) ?_
                repeat (refine blkP_normal ?_)
                refine countP_normal (by omega) (below_succ hJ1 (by subst hz1; simp only [FwWireBacks1, h1, hq0, hf0, hb0, h6, h7, h8, h9, sel_true, sel_false])) ?_
                exact Sub.ren (ns := [(432, 432)]) (kf := [12, 11, 0, 1, 2]) (by kernel_rfl) (by kernel_rfl)
              ·
                have h9' := eq_false_i h9
                refine Tri.exit ?_
                subst hz1
                have hf1 : fstB (FwWireBacks1 p2) p2.length = k1 := fst_found (by omega) hJ1 (by simp only [FwWireBacks1, h1, hq0, hf0, hb0, h6, h7, h8, h9, sel_true, sel_false])
                have hb1 : Nat.blt k1 p2.length = true := blt_true (by omega)
                have hq1 : Nat.blt (fstB (FwWireBacks1 p2) p2.length) p2.length = true := by rw [hf1]; exact hb1
                change Tri _ _ _ _ _ _
                refine Tri.split (strEq (FwText (FwwIntz (FwwNamesn0 (4 + p0.size) (FwwTextn p0) p1) (FwwNames (4 + p0.size) (FwwTextn p0) p1) p2) false) p0) (fun h10 => ?_) (fun h10 => ?_)
                ·
                  refine Tri.split (Fwtexts (FwNames (FwText_1 (FwwIntz (FwwNamesn0 (4 + p0.size) (FwwTextn p0) p1) (FwwNames (4 + p0.size) (FwwTextn p0) p1) p2) false) (FwText_2 (FwwIntz (FwwNamesn0 (4 + p0.size) (FwwTextn p0) p1) (FwwNames (4 + p0.size) (FwwTextn p0) p1) p2) false)) p1) (fun h11 => ?_) (fun h11 => ?_)
                  ·
                    refine Tri.split (strEq (bytesOf (FwInt (FwNames_1 (FwText_1 (FwwIntz (FwwNamesn0 (4 + p0.size) (FwwTextn p0) p1) (FwwNames (4 + p0.size) (FwwTextn p0) p1) p2) false) (FwText_2 (FwwIntz (FwwNamesn0 (4 + p0.size) (FwwTextn p0) p1) (FwwNames (4 + p0.size) (FwwTextn p0) p1) p2) false)) (FwNames_2 (FwText_1 (FwwIntz (FwwNamesn0 (4 + p0.size) (FwwTextn p0) p1) (FwwNames (4 + p0.size) (FwwTextn p0) p1) p2) false) (FwText_2 (FwwIntz (FwwNamesn0 (4 + p0.size) (FwwTextn p0) p1) (FwwNames (4 + p0.size) (FwwTextn p0) p1) p2) false)))) (bytesOf ((p2.drop k1).take (p2.length - k1)))) (fun h12 => ?_) (fun h12 => ?_)
                    ·
                      refine Tri.seq_region [(73, qb true), (79, qb true), (89, qb true)] (some [0, 1, 0, 7, 15, 31, 63, 31, 255, 511, 1023, 2047, 4095, 8191, 2047, 2047, 51199, 116735, 262143, 524287, 1048575, 2097151, 4194303, 8388607, 16777215]) [6] [] ((True ∧ True) ∧ (((True ∧ True) ∧ True) ∧ ((True ∧ True) ∧ ((True ∧ True) ∧ ((True ∧ ((strEq (FwText (FwwIntz (FwwNamesn0 (4 + p0.size) (FwwTextn p0) p1) (FwwNames (4 + p0.size) (FwwTextn p0) p1) p2) false) p0) = true)) ∧ ((True ∧ True) ∧ (((True ∧ True) ∧ True) ∧ ((True ∧ True) ∧ (((True ∧ ((FwNames (FwText_1 (FwwIntz (FwwNamesn0 (4 + p0.size) (FwwTextn p0) p1) (FwwNames (4 + p0.size) (FwwTextn p0) p1) p2) false) (FwText_2 (FwwIntz (FwwNamesn0 (4 + p0.size) (FwwTextn p0) p1) (FwwNames (4 + p0.size) (FwwTextn p0) p1) p2) false)).length ≤ 1000000000)) ∧ True) ∧ ((True ∧ True) ∧ ((True ∧ ((Fwtexts (FwNames (FwText_1 (FwwIntz (FwwNamesn0 (4 + p0.size) (FwwTextn p0) p1) (FwwNames (4 + p0.size) (FwwTextn p0) p1) p2) false) (FwText_2 (FwwIntz (FwwNamesn0 (4 + p0.size) (FwwTextn p0) p1) (FwwNames (4 + p0.size) (FwwTextn p0) p1) p2) false)) p1) = true)) ∧ ((True ∧ True) ∧ (((True ∧ True) ∧ True) ∧ ((True ∧ True) ∧ ((True ∧ True) ∧ ((True ∧ True) ∧ ((((0 : Int) ≤ ((k1 : Nat) : Int) ∧ (((k1 : Nat) : Int) : Int) ≤ ((p2.length : Nat) : Int) ∧ ((p2.length : Nat) : Int) ≤ (p2.length : Int)) ∧ True) ∧ ((True ∧ True) ∧ ((True ∧ True) ∧ ((True ∧ True) ∧ ((True ∧ ((strEq (bytesOf (FwInt (FwNames_1 (FwText_1 (FwwIntz (FwwNamesn0 (4 + p0.size) (FwwTextn p0) p1) (FwwNames (4 + p0.size) (FwwTextn p0) p1) p2) false) (FwText_2 (FwwIntz (FwwNamesn0 (4 + p0.size) (FwwTextn p0) p1) (FwwNames (4 + p0.size) (FwwTextn p0) p1) p2) false)) (FwNames_2 (FwText_1 (FwwIntz (FwwNamesn0 (4 + p0.size) (FwwTextn p0) p1) (FwwNames (4 + p0.size) (FwwTextn p0) p1) p2) false) (FwText_2 (FwwIntz (FwwNamesn0 (4 + p0.size) (FwwTextn p0) p1) (FwwNames (4 + p0.size) (FwwTextn p0) p1) p2) false)))) (bytesOf ((p2.drop k1).take (p2.length - k1)))) = true)) ∧ ((True ∧ True) ∧ (((True ∧ True) ∧ True) ∧ ((True ∧ True) ∧ ((True ∧ True) ∧ True)))))))))))))))))))))))))
                          ([(6, .sc (.b (FwEnd (FwInt_1 (FwNames_1 (FwText_1 (FwwIntz (FwwNamesn0 (4 + p0.size) (FwwTextn p0) p1) (FwwNames (4 + p0.size) (FwwTextn p0) p1) p2) false) (FwText_2 (FwwIntz (FwwNamesn0 (4 + p0.size) (FwwTextn p0) p1) (FwwNames (4 + p0.size) (FwwTextn p0) p1) p2) false)) (FwNames_2 (FwText_1 (FwwIntz (FwwNamesn0 (4 + p0.size) (FwwTextn p0) p1) (FwwNames (4 + p0.size) (FwwTextn p0) p1) p2) false) (FwText_2 (FwwIntz (FwwNamesn0 (4 + p0.size) (FwwTextn p0) p1) (FwwNames (4 + p0.size) (FwwTextn p0) p1) p2) false))) (FwInt_2 (FwNames_1 (FwText_1 (FwwIntz (FwwNamesn0 (4 + p0.size) (FwwTextn p0) p1) (FwwNames (4 + p0.size) (FwwTextn p0) p1) p2) false) (FwText_2 (FwwIntz (FwwNamesn0 (4 + p0.size) (FwwTextn p0) p1) (FwwNames (4 + p0.size) (FwwTextn p0) p1) p2) false)) (FwNames_2 (FwText_1 (FwwIntz (FwwNamesn0 (4 + p0.size) (FwwTextn p0) p1) (FwwNames (4 + p0.size) (FwwTextn p0) p1) p2) false) (FwText_2 (FwwIntz (FwwNamesn0 (4 + p0.size) (FwwTextn p0) p1) (FwwNames (4 + p0.size) (FwwTextn p0) p1) p2) false))))))], [])
                          1056 (by kernel_rfl) rfl (by kernel_rfl) (⟨⟨trivial, trivial⟩, ⟨⟨⟨trivial, trivial⟩, trivial⟩, ⟨⟨trivial, trivial⟩, ⟨⟨trivial, trivial⟩, ⟨⟨trivial, (h10)⟩, ⟨⟨trivial, trivial⟩, ⟨⟨⟨trivial, trivial⟩, trivial⟩, ⟨⟨trivial, trivial⟩, ⟨⟨⟨trivial, (by first | omega | decide | (have hw := back_small hC (by omega) (by omega); first | omega | (unfold FwwNamesn0; omega) | exact ⟨by omega, by omega⟩ | exact ⟨by omega, by omega, by omega⟩ | (unfold FwwNamesn0; exact ⟨by omega, by omega⟩)) | exact Nat.le_trans (len_FwNames _ _) (by decide))⟩, trivial⟩, ⟨⟨trivial, trivial⟩, ⟨⟨trivial, (h11)⟩, ⟨⟨trivial, trivial⟩, ⟨⟨⟨trivial, trivial⟩, trivial⟩, ⟨⟨trivial, trivial⟩, ⟨⟨trivial, trivial⟩, ⟨⟨trivial, trivial⟩, ⟨⟨(by first | omega | decide | (have hw := back_small hC (by omega) (by omega); first | omega | (unfold FwwNamesn0; omega) | exact ⟨by omega, by omega⟩ | exact ⟨by omega, by omega, by omega⟩ | (unfold FwwNamesn0; exact ⟨by omega, by omega⟩)) | exact Nat.le_trans (len_FwNames _ _) (by decide)), trivial⟩, ⟨⟨trivial, trivial⟩, ⟨⟨trivial, trivial⟩, ⟨⟨trivial, trivial⟩, ⟨⟨trivial, (h12)⟩, ⟨⟨trivial, trivial⟩, ⟨⟨⟨trivial, trivial⟩, trivial⟩, ⟨⟨trivial, trivial⟩, ⟨⟨trivial, trivial⟩, trivial⟩⟩⟩⟩⟩⟩⟩⟩⟩⟩⟩⟩⟩⟩⟩⟩⟩⟩⟩⟩⟩⟩⟩⟩⟩) ?_
                      refine Tri.ret ?_
                      repeat (first | refine thenP_ret ?_ | refine blkP_ret ?_ | refine countP_ret ?_ | refine joinP_ret ?_ | refine iterP_ret ?_)
                      refine endP.conv (r' := ⟨.sc (.b (FwEnd (FwInt_1 (FwNames_1 (FwText_1 (FwwIntz (FwwNamesn0 (4 + p0.size) (FwwTextn p0) p1) (FwwNames (4 + p0.size) (FwwTextn p0) p1) p2) false) (FwText_2 (FwwIntz (FwwNamesn0 (4 + p0.size) (FwwTextn p0) p1) (FwwNames (4 + p0.size) (FwwTextn p0) p1) p2) false)) (FwNames_2 (FwText_1 (FwwIntz (FwwNamesn0 (4 + p0.size) (FwwTextn p0) p1) (FwwNames (4 + p0.size) (FwwTextn p0) p1) p2) false) (FwText_2 (FwwIntz (FwwNamesn0 (4 + p0.size) (FwwTextn p0) p1) (FwwNames (4 + p0.size) (FwwTextn p0) p1) p2) false))) (FwInt_2 (FwNames_1 (FwText_1 (FwwIntz (FwwNamesn0 (4 + p0.size) (FwwTextn p0) p1) (FwwNames (4 + p0.size) (FwwTextn p0) p1) p2) false) (FwText_2 (FwwIntz (FwwNamesn0 (4 + p0.size) (FwwTextn p0) p1) (FwwNames (4 + p0.size) (FwwTextn p0) p1) p2) false)) (FwNames_2 (FwText_1 (FwwIntz (FwwNamesn0 (4 + p0.size) (FwwTextn p0) p1) (FwwNames (4 + p0.size) (FwwTextn p0) p1) p2) false) (FwText_2 (FwwIntz (FwwNamesn0 (4 + p0.size) (FwwTextn p0) p1) (FwwNames (4 + p0.size) (FwwTextn p0) p1) p2) false))))), []⟩) (by simp only [FwWireBack, h1, hq0, hf0, hb0, h6, h7, hq1, hf1, hb1, h10, h11, h12, sel_true, sel_false]) ?_
                      exact endP.ret [] (True ∧ True) (by kernel_rfl) (by kernel_rfl) ⟨trivial, trivial⟩
                    ·
                      refine Tri.seq_region [(73, qb true), (79, qb true), (89, qb false)] (some [0, 1, 0, 7, 15, 31, 63, 31, 255, 511, 1023, 2047, 4095, 8191, 2047, 2047, 51199, 116735, 262143, 524287, 1048575, 2097151, 4194303, 8388607, 16777215]) [6] [] ((True ∧ True) ∧ (((True ∧ True) ∧ True) ∧ ((True ∧ True) ∧ ((True ∧ True) ∧ ((True ∧ ((strEq (FwText (FwwIntz (FwwNamesn0 (4 + p0.size) (FwwTextn p0) p1) (FwwNames (4 + p0.size) (FwwTextn p0) p1) p2) false) p0) = true)) ∧ ((True ∧ True) ∧ (((True ∧ True) ∧ True) ∧ ((True ∧ True) ∧ (((True ∧ ((FwNames (FwText_1 (FwwIntz (FwwNamesn0 (4 + p0.size) (FwwTextn p0) p1) (FwwNames (4 + p0.size) (FwwTextn p0) p1) p2) false) (FwText_2 (FwwIntz (FwwNamesn0 (4 + p0.size) (FwwTextn p0) p1) (FwwNames (4 + p0.size) (FwwTextn p0) p1) p2) false)).length ≤ 1000000000)) ∧ True) ∧ ((True ∧ True) ∧ ((True ∧ ((Fwtexts (FwNames (FwText_1 (FwwIntz (FwwNamesn0 (4 + p0.size) (FwwTextn p0) p1) (FwwNames (4 + p0.size) (FwwTextn p0) p1) p2) false) (FwText_2 (FwwIntz (FwwNamesn0 (4 + p0.size) (FwwTextn p0) p1) (FwwNames (4 + p0.size) (FwwTextn p0) p1) p2) false)) p1) = true)) ∧ ((True ∧ True) ∧ (((True ∧ True) ∧ True) ∧ ((True ∧ True) ∧ ((True ∧ True) ∧ ((True ∧ True) ∧ ((((0 : Int) ≤ ((k1 : Nat) : Int) ∧ (((k1 : Nat) : Int) : Int) ≤ ((p2.length : Nat) : Int) ∧ ((p2.length : Nat) : Int) ≤ (p2.length : Int)) ∧ True) ∧ ((True ∧ True) ∧ ((True ∧ True) ∧ ((True ∧ True) ∧ ((True ∧ ((strEq (bytesOf (FwInt (FwNames_1 (FwText_1 (FwwIntz (FwwNamesn0 (4 + p0.size) (FwwTextn p0) p1) (FwwNames (4 + p0.size) (FwwTextn p0) p1) p2) false) (FwText_2 (FwwIntz (FwwNamesn0 (4 + p0.size) (FwwTextn p0) p1) (FwwNames (4 + p0.size) (FwwTextn p0) p1) p2) false)) (FwNames_2 (FwText_1 (FwwIntz (FwwNamesn0 (4 + p0.size) (FwwTextn p0) p1) (FwwNames (4 + p0.size) (FwwTextn p0) p1) p2) false) (FwText_2 (FwwIntz (FwwNamesn0 (4 + p0.size) (FwwTextn p0) p1) (FwwNames (4 + p0.size) (FwwTextn p0) p1) p2) false)))) (bytesOf ((p2.drop k1).take (p2.length - k1)))) = false)) ∧ ((True ∧ True) ∧ ((True ∧ True) ∧ ((True ∧ True) ∧ ((True ∧ True) ∧ True)))))))))))))))))))))))))
                          ([(6, .sc (.b false))], [])
                          1056 (by kernel_rfl) rfl (by kernel_rfl) (⟨⟨trivial, trivial⟩, ⟨⟨⟨trivial, trivial⟩, trivial⟩, ⟨⟨trivial, trivial⟩, ⟨⟨trivial, trivial⟩, ⟨⟨trivial, (h10)⟩, ⟨⟨trivial, trivial⟩, ⟨⟨⟨trivial, trivial⟩, trivial⟩, ⟨⟨trivial, trivial⟩, ⟨⟨⟨trivial, (by first | omega | decide | (have hw := back_small hC (by omega) (by omega); first | omega | (unfold FwwNamesn0; omega) | exact ⟨by omega, by omega⟩ | exact ⟨by omega, by omega, by omega⟩ | (unfold FwwNamesn0; exact ⟨by omega, by omega⟩)) | exact Nat.le_trans (len_FwNames _ _) (by decide))⟩, trivial⟩, ⟨⟨trivial, trivial⟩, ⟨⟨trivial, (h11)⟩, ⟨⟨trivial, trivial⟩, ⟨⟨⟨trivial, trivial⟩, trivial⟩, ⟨⟨trivial, trivial⟩, ⟨⟨trivial, trivial⟩, ⟨⟨trivial, trivial⟩, ⟨⟨(by first | omega | decide | (have hw := back_small hC (by omega) (by omega); first | omega | (unfold FwwNamesn0; omega) | exact ⟨by omega, by omega⟩ | exact ⟨by omega, by omega, by omega⟩ | (unfold FwwNamesn0; exact ⟨by omega, by omega⟩)) | exact Nat.le_trans (len_FwNames _ _) (by decide)), trivial⟩, ⟨⟨trivial, trivial⟩, ⟨⟨trivial, trivial⟩, ⟨⟨trivial, trivial⟩, ⟨⟨trivial, (h12)⟩, ⟨⟨trivial, trivial⟩, ⟨⟨trivial, trivial⟩, ⟨⟨trivial, trivial⟩, ⟨⟨trivial, trivial⟩, trivial⟩⟩⟩⟩⟩⟩⟩⟩⟩⟩⟩⟩⟩⟩⟩⟩⟩⟩⟩⟩⟩⟩⟩⟩⟩) ?_
                      refine Tri.ret ?_
                      repeat (first | refine thenP_ret ?_ | refine blkP_ret ?_ | refine countP_ret ?_ | refine joinP_ret ?_ | refine iterP_ret ?_)
                      refine endP.conv (r' := ⟨.sc (.b false), []⟩) (by simp only [FwWireBack, h1, hq0, hf0, hb0, h6, h7, hq1, hf1, hb1, h10, h11, h12, sel_true, sel_false]) ?_
                      exact endP.ret [] (True ∧ True) (by kernel_rfl) (by kernel_rfl) ⟨trivial, trivial⟩
                  ·
                    refine Tri.seq_region [(73, qb true), (79, qb false)] (some [0, 1, 0, 7, 15, 31, 63, 31, 255, 511, 1023, 2047, 4095, 8191, 2047, 2047, 51199, 116735, 262143, 524287, 1048575, 2097151, 4194303, 8388607, 16777215]) [6] [] ((True ∧ True) ∧ (((True ∧ True) ∧ True) ∧ ((True ∧ True) ∧ ((True ∧ True) ∧ ((True ∧ ((strEq (FwText (FwwIntz (FwwNamesn0 (4 + p0.size) (FwwTextn p0) p1) (FwwNames (4 + p0.size) (FwwTextn p0) p1) p2) false) p0) = true)) ∧ ((True ∧ True) ∧ (((True ∧ True) ∧ True) ∧ ((True ∧ True) ∧ (((True ∧ ((FwNames (FwText_1 (FwwIntz (FwwNamesn0 (4 + p0.size) (FwwTextn p0) p1) (FwwNames (4 + p0.size) (FwwTextn p0) p1) p2) false) (FwText_2 (FwwIntz (FwwNamesn0 (4 + p0.size) (FwwTextn p0) p1) (FwwNames (4 + p0.size) (FwwTextn p0) p1) p2) false)).length ≤ 1000000000)) ∧ True) ∧ ((True ∧ True) ∧ ((True ∧ ((Fwtexts (FwNames (FwText_1 (FwwIntz (FwwNamesn0 (4 + p0.size) (FwwTextn p0) p1) (FwwNames (4 + p0.size) (FwwTextn p0) p1) p2) false) (FwText_2 (FwwIntz (FwwNamesn0 (4 + p0.size) (FwwTextn p0) p1) (FwwNames (4 + p0.size) (FwwTextn p0) p1) p2) false)) p1) = false)) ∧ ((True ∧ True) ∧ ((True ∧ True) ∧ ((True ∧ True) ∧ ((True ∧ True) ∧ ((True ∧ True) ∧ ((True ∧ True) ∧ ((True ∧ True) ∧ ((True ∧ True) ∧ ((True ∧ True) ∧ ((True ∧ True) ∧ ((True ∧ True) ∧ ((True ∧ True) ∧ ((True ∧ True) ∧ ((True ∧ True) ∧ True)))))))))))))))))))))))))
                        ([(6, .sc (.b false))], [])
                        1056 (by kernel_rfl) rfl (by kernel_rfl) (⟨⟨trivial, trivial⟩, ⟨⟨⟨trivial, trivial⟩, trivial⟩, ⟨⟨trivial, trivial⟩, ⟨⟨trivial, trivial⟩, ⟨⟨trivial, (h10)⟩, ⟨⟨trivial, trivial⟩, ⟨⟨⟨trivial, trivial⟩, trivial⟩, ⟨⟨trivial, trivial⟩, ⟨⟨⟨trivial, (by first | omega | decide | (have hw := back_small hC (by omega) (by omega); first | omega | (unfold FwwNamesn0; omega) | exact ⟨by omega, by omega⟩ | exact ⟨by omega, by omega, by omega⟩ | (unfold FwwNamesn0; exact ⟨by omega, by omega⟩)) | exact Nat.le_trans (len_FwNames _ _) (by decide))⟩, trivial⟩, ⟨⟨trivial, trivial⟩, ⟨⟨trivial, (h11)⟩, ⟨⟨trivial, trivial⟩, ⟨⟨trivial, trivial⟩, ⟨⟨trivial, trivial⟩, ⟨⟨trivial, trivial⟩, ⟨⟨trivial, trivial⟩, ⟨⟨trivial, trivial⟩, ⟨⟨trivial, trivial⟩, ⟨⟨trivial, trivial⟩, ⟨⟨trivial, trivial⟩, ⟨⟨trivial, trivial⟩, ⟨⟨trivial, trivial⟩, ⟨⟨trivial, trivial⟩, ⟨⟨trivial, trivial⟩, ⟨⟨trivial, trivial⟩, trivial⟩⟩⟩⟩⟩⟩⟩⟩⟩⟩⟩⟩⟩⟩⟩⟩⟩⟩⟩⟩⟩⟩⟩⟩⟩) ?_
                    refine Tri.ret ?_
                    repeat (first | refine thenP_ret ?_ | refine blkP_ret ?_ | refine countP_ret ?_ | refine joinP_ret ?_ | refine iterP_ret ?_)
                    refine endP.conv (r' := ⟨.sc (.b false), []⟩) (by simp only [FwWireBack, h1, hq0, hf0, hb0, h6, h7, hq1, hf1, hb1, h10, h11, sel_true, sel_false]) ?_
                    exact endP.ret [] (True ∧ True) (by kernel_rfl) (by kernel_rfl) ⟨trivial, trivial⟩
                ·
                  refine Tri.seq_region [(73, qb false)] (some [0, 1, 0, 7, 15, 31, 63, 31, 255, 511, 1023, 2047, 4095, 8191, 2047, 2047, 51199, 116735, 262143, 524287, 1048575, 2097151, 4194303, 8388607, 16777215]) [6] [] ((True ∧ True) ∧ (((True ∧ True) ∧ True) ∧ ((True ∧ True) ∧ ((True ∧ True) ∧ ((True ∧ ((strEq (FwText (FwwIntz (FwwNamesn0 (4 + p0.size) (FwwTextn p0) p1) (FwwNames (4 + p0.size) (FwwTextn p0) p1) p2) false) p0) = false)) ∧ ((True ∧ True) ∧ ((True ∧ True) ∧ ((True ∧ True) ∧ ((True ∧ True) ∧ ((True ∧ True) ∧ ((True ∧ True) ∧ ((True ∧ True) ∧ ((True ∧ True) ∧ ((True ∧ True) ∧ ((True ∧ True) ∧ ((True ∧ True) ∧ ((True ∧ True) ∧ ((True ∧ True) ∧ ((True ∧ True) ∧ ((True ∧ True) ∧ ((True ∧ True) ∧ ((True ∧ True) ∧ ((True ∧ True) ∧ ((True ∧ True) ∧ ((True ∧ True) ∧ True)))))))))))))))))))))))))
                      ([(6, .sc (.b false))], [])
                      1056 (by kernel_rfl) rfl (by kernel_rfl) (⟨⟨trivial, trivial⟩, ⟨⟨⟨trivial, trivial⟩, trivial⟩, ⟨⟨trivial, trivial⟩, ⟨⟨trivial, trivial⟩, ⟨⟨trivial, (h10)⟩, ⟨⟨trivial, trivial⟩, ⟨⟨trivial, trivial⟩, ⟨⟨trivial, trivial⟩, ⟨⟨trivial, trivial⟩, ⟨⟨trivial, trivial⟩, ⟨⟨trivial, trivial⟩, ⟨⟨trivial, trivial⟩, ⟨⟨trivial, trivial⟩, ⟨⟨trivial, trivial⟩, ⟨⟨trivial, trivial⟩, ⟨⟨trivial, trivial⟩, ⟨⟨trivial, trivial⟩, ⟨⟨trivial, trivial⟩, ⟨⟨trivial, trivial⟩, ⟨⟨trivial, trivial⟩, ⟨⟨trivial, trivial⟩, ⟨⟨trivial, trivial⟩, ⟨⟨trivial, trivial⟩, ⟨⟨trivial, trivial⟩, ⟨⟨trivial, trivial⟩, trivial⟩⟩⟩⟩⟩⟩⟩⟩⟩⟩⟩⟩⟩⟩⟩⟩⟩⟩⟩⟩⟩⟩⟩⟩⟩) ?_
                  refine Tri.ret ?_
                  repeat (first | refine thenP_ret ?_ | refine blkP_ret ?_ | refine countP_ret ?_ | refine joinP_ret ?_ | refine iterP_ret ?_)
                  refine endP.conv (r' := ⟨.sc (.b false), []⟩) (by simp only [FwWireBack, h1, hq0, hf0, hb0, h6, h7, hq1, hf1, hb1, h10, sel_true, sel_false]) ?_
                  exact endP.ret [] (True ∧ True) (by kernel_rfl) (by kernel_rfl) ⟨trivial, trivial⟩
            ·
              have h8' := of_decide_eq_false h8
              refine Tri.seq_region [(60, qb false)] none [66, 12, 11, 0, 1, 2] [432] ((True ∧ True) ∧ ((True ∧ True) ∧ ((True ∧ True) ∧ ((True ∧ True) ∧ ((True ∧ ((decide ((((k1 : Nat) : Int) : Int) < ((p2.length : Nat) : Int))) = false)) ∧ ((True ∧ True) ∧ ((True ∧ True) ∧ ((True ∧ True) ∧ ((True ∧ True) ∧ ((True ∧ True) ∧ ((True ∧ True) ∧ True)))))))))))
                  ([(66, .sc (.b false)), (12, .sc (.i .i64 ((k1 : Nat) : Int))), (11, .sc (.p 432 0)), (0, .sc (.s p0)), (1, .sc (.ros p1)), (2, .sc (.ro .u8 p2))], [(432, .cells [.ro .u8 (FwwIntz (FwwNamesn0 (4 + p0.size) (FwwTextn p0) p1) (FwwNames (4 + p0.size) (FwwTextn p0) p1) p2), .b false])])
                  656 (by kernel_rfl) rfl (by kernel_rfl) (⟨⟨trivial, trivial⟩, ⟨⟨trivial, trivial⟩, ⟨⟨trivial, trivial⟩, ⟨⟨trivial, trivial⟩, ⟨⟨trivial, (h8)⟩, ⟨⟨trivial, trivial⟩, ⟨⟨trivial, trivial⟩, ⟨⟨trivial, trivial⟩, ⟨⟨trivial, trivial⟩, ⟨⟨trivial, trivial⟩, ⟨⟨trivial, trivial⟩, trivial⟩⟩⟩⟩⟩⟩⟩⟩⟩⟩⟩) ?_
              refine Tri.cond_false (by kernel_rfl) ?_
              refine Tri.exit ?_
              have hend1 : k1 = p2.length := by (have := of_decide_eq_false h8; omega)
              subst hend1; subst hz1
              have hf1 : fstB (FwWireBacks1 p2) p2.length = p2.length := fst_none hJ1
              have hb1 : Nat.blt p2.length p2.length = false := blt_self _
              have hq1 : Nat.blt (fstB (FwWireBacks1 p2) p2.length) p2.length = false := by rw [hf1]; exact hb1
              change Tri _ _ _ _ _ _
              refine Tri.split (strEq (FwText (FwwIntz (FwwNamesn0 (4 + p0.size) (FwwTextn p0) p1) (FwwNames (4 + p0.size) (FwwTextn p0) p1) p2) false) p0) (fun h13 => ?_) (fun h13 => ?_)
              ·
                refine Tri.split (Fwtexts (FwNames (FwText_1 (FwwIntz (FwwNamesn0 (4 + p0.size) (FwwTextn p0) p1) (FwwNames (4 + p0.size) (FwwTextn p0) p1) p2) false) (FwText_2 (FwwIntz (FwwNamesn0 (4 + p0.size) (FwwTextn p0) p1) (FwwNames (4 + p0.size) (FwwTextn p0) p1) p2) false)) p1) (fun h14 => ?_) (fun h14 => ?_)
                ·
                  refine Tri.split (strEq (bytesOf (FwInt (FwNames_1 (FwText_1 (FwwIntz (FwwNamesn0 (4 + p0.size) (FwwTextn p0) p1) (FwwNames (4 + p0.size) (FwwTextn p0) p1) p2) false) (FwText_2 (FwwIntz (FwwNamesn0 (4 + p0.size) (FwwTextn p0) p1) (FwwNames (4 + p0.size) (FwwTextn p0) p1) p2) false)) (FwNames_2 (FwText_1 (FwwIntz (FwwNamesn0 (4 + p0.size) (FwwTextn p0) p1) (FwwNames (4 + p0.size) (FwwTextn p0) p1) p2) false) (FwText_2 (FwwIntz (FwwNamesn0 (4 + p0.size) (FwwTextn p0) p1) (FwwNames (4 + p0.size) (FwwTextn p0) p1) p2) false)))) (bytesOf ((p2.drop p2.length).take (p2.length - p2.length)))) (fun h15 => ?_) (fun h15 => ?_)
                  ·
                    refine Tri.seq_region [(73, qb true), (79, qb true), (89, qb true)] (some [0, 1, 0, 7, 15, 31, 63, 31, 255, 511, 1023, 2047, 4095, 8191, 2047, 2047, 51199, 116735, 262143, 524287, 1048575, 2097151, 4194303, 8388607, 16777215]) [6] [] ((True ∧ True) ∧ (((True ∧ True) ∧ True) ∧ ((True ∧ True) ∧ ((True ∧ True) ∧ ((True ∧ ((strEq (FwText (FwwIntz (FwwNamesn0 (4 + p0.size) (FwwTextn p0) p1) (FwwNames (4 + p0.size) (FwwTextn p0) p1) p2) false) p0) = true)) ∧ ((True ∧ True) ∧ (((True ∧ True) ∧ True) ∧ ((True ∧ True) ∧ (((True ∧ ((FwNames (FwText_1 (FwwIntz (FwwNamesn0 (4 + p0.size) (FwwTextn p0) p1) (FwwNames (4 + p0.size) (FwwTextn p0) p1) p2) false) (FwText_2 (FwwIntz (FwwNamesn0 (4 + p0.size) (FwwTextn p0) p1) (FwwNames (4 + p0.size) (FwwTextn p0) p1) p2) false)).length ≤ 1000000000)) ∧ True) ∧ ((True ∧ True) ∧ ((True ∧ ((Fwtexts (FwNames (FwText_1 (FwwIntz (FwwNamesn0 (4 + p0.size) (FwwTextn p0) p1) (FwwNames (4 + p0.size) (FwwTextn p0) p1) p2) false) (FwText_2 (FwwIntz (FwwNamesn0 (4 + p0.size) (FwwTextn p0) p1) (FwwNames (4 + p0.size) (FwwTextn p0) p1) p2) false)) p1) = true)) ∧ ((True ∧ True) ∧ (((True ∧ True) ∧ True) ∧ ((True ∧ True) ∧ ((True ∧ True) ∧ ((True ∧ True) ∧ ((((0 : Int) ≤ ((p2.length : Nat) : Int) ∧ (((p2.length : Nat) : Int) : Int) ≤ ((p2.length : Nat) : Int) ∧ ((p2.length : Nat) : Int) ≤ (p2.length : Int)) ∧ True) ∧ ((True ∧ True) ∧ ((True ∧ True) ∧ ((True ∧ True) ∧ ((True ∧ ((strEq (bytesOf (FwInt (FwNames_1 (FwText_1 (FwwIntz (FwwNamesn0 (4 + p0.size) (FwwTextn p0) p1) (FwwNames (4 + p0.size) (FwwTextn p0) p1) p2) false) (FwText_2 (FwwIntz (FwwNamesn0 (4 + p0.size) (FwwTextn p0) p1) (FwwNames (4 + p0.size) (FwwTextn p0) p1) p2) false)) (FwNames_2 (FwText_1 (FwwIntz (FwwNamesn0 (4 + p0.size) (FwwTextn p0) p1) (FwwNames (4 + p0.size) (FwwTextn p0) p1) p2) false) (FwText_2 (FwwIntz (FwwNamesn0 (4 + p0.size) (FwwTextn p0) p1) (FwwNames (4 + p0.size) (FwwTextn p0) p1) p2) false)))) (bytesOf ((p2.drop p2.length).take (p2.length - p2.length)))) = true)) ∧ ((True ∧ True) ∧ (((True ∧ True) ∧ True) ∧ ((True ∧ True) ∧ ((True ∧ True) ∧ True)))))))))))))))))))))))))
                        ([(6, .sc (.b (FwEnd (FwInt_1 (FwNames_1 (FwText_1 (FwwIntz (FwwNamesn0 (4 + p0.size) (FwwTextn p0) p1) (FwwNames (4 + p0.size) (FwwTextn p0) p1) p2) false) (FwText_2 (FwwIntz (FwwNamesn0 (4 + p0.size) (FwwTextn p0) p1) (FwwNames (4 + p0.size) (FwwTextn p0) p1) p2) false)) (FwNames_2 (FwText_1 (FwwIntz (FwwNamesn0 (4 + p0.size) (FwwTextn p0) p1) (FwwNames (4 + p0.size) (FwwTextn p0) p1) p2) false) (FwText_2 (FwwIntz (FwwNamesn0 (4 + p0.size) (FwwTextn p0) p1) (FwwNames (4 + p0.size) (FwwTextn p0) p1) p2) false))) (FwInt_2 (FwNames_1 (FwText_1 (FwwIntz (FwwNamesn0 (4 + p0.size) (FwwTextn p0) p1) (FwwNames (4 + p0.size) (FwwTextn p0) p1) p2) false) (FwText_2 (FwwIntz (FwwNamesn0 (4 + p0.size) (FwwTextn p0) p1) (FwwNames (4 + p0.size) (FwwTextn p0) p1) p2) false)) (FwNames_2 (FwText_1 (FwwIntz (FwwNamesn0 (4 + p0.size) (FwwTextn p0) p1) (FwwNames (4 + p0.size) (FwwTextn p0) p1) p2) false) (FwText_2 (FwwIntz (FwwNamesn0 (4 + p0.size) (FwwTextn p0) p1) (FwwNames (4 + p0.size) (FwwTextn p0) p1) p2) false))))))], [])
                        1056 (by kernel_rfl) rfl (by kernel_rfl) (⟨⟨trivial, trivial⟩, ⟨⟨⟨trivial, trivial⟩, trivial⟩, ⟨⟨trivial, trivial⟩, ⟨⟨trivial, trivial⟩, ⟨⟨trivial, (h13)⟩, ⟨⟨trivial, trivial⟩, ⟨⟨⟨trivial, trivial⟩, trivial⟩, ⟨⟨trivial, trivial⟩, ⟨⟨⟨trivial, (by first | omega | decide | (have hw := back_small hC (by omega) (by omega); first | omega | (unfold FwwNamesn0; omega) | exact ⟨by omega, by omega⟩ | exact ⟨by omega, by omega, by omega⟩ | (unfold FwwNamesn0; exact ⟨by omega, by omega⟩)) | exact Nat.le_trans (len_FwNames _ _) (by decide))⟩, trivial⟩, ⟨⟨trivial, trivial⟩, ⟨⟨trivial, (h14)⟩, ⟨⟨trivial, trivial⟩, ⟨⟨⟨trivial, trivial⟩, trivial⟩, ⟨⟨trivial, trivial⟩, ⟨⟨trivial, trivial⟩, ⟨⟨trivial, trivial⟩, ⟨⟨(by first | omega | decide | (have hw := back_small hC (by omega) (by omega); first | omega | (unfold FwwNamesn0; omega) | exact ⟨by omega, by omega⟩ | exact ⟨by omega, by omega, by omega⟩ | (unfold FwwNamesn0; exact ⟨by omega, by omega⟩)) | exact Nat.le_trans (len_FwNames _ _) (by decide)), trivial⟩, ⟨⟨trivial, trivial⟩, ⟨⟨trivial, trivial⟩, ⟨⟨trivial, trivial⟩, ⟨⟨trivial, (h15)⟩, ⟨⟨trivial, trivial⟩, ⟨⟨⟨trivial, trivial⟩, trivial⟩, ⟨⟨trivial, trivial⟩, ⟨⟨trivial, trivial⟩, trivial⟩⟩⟩⟩⟩⟩⟩⟩⟩⟩⟩⟩⟩⟩⟩⟩⟩⟩⟩⟩⟩⟩⟩⟩⟩) ?_
                    refine Tri.ret ?_
                    repeat (first | refine thenP_ret ?_ | refine blkP_ret ?_ | refine countP_ret ?_ | refine joinP_ret ?_ | refine iterP_ret ?_)
                    refine endP.conv (r' := ⟨.sc (.b (FwEnd (FwInt_1 (FwNames_1 (FwText_1 (FwwIntz (FwwNamesn0 (4 + p0.size) (FwwTextn p0) p1) (FwwNames (4 + p0.size) (FwwTextn p0) p1) p2) false) (FwText_2 (FwwIntz (FwwNamesn0 (4 + p0.size) (FwwTextn p0) p1) (FwwNames (4 + p0.size) (FwwTextn p0) p1) p2) false)) (FwNames_2 (FwText_1 (FwwIntz (FwwNamesn0 (4 + p0.size) (FwwTextn p0) p1) (FwwNames (4 + p0.size) (FwwTextn p0) p1) p2) false) (FwText_2 (FwwIntz (FwwNamesn0 (4 + p0.size) (FwwTextn p0) p1) (FwwNames (4 + p0.size) (FwwTextn p0) p1) p2) false))) (FwInt_2 (FwNames_1 (FwText_1 (FwwIntz (FwwNamesn0 (4 + p0.size) (FwwTextn p0) p1) (FwwNames (4 + p0.size) (FwwTextn p0) p1) p2) false) (FwText_2 (FwwIntz (FwwNamesn0 (4 + p0.size) (FwwTextn p0) p1) (FwwNames (4 + p0.size) (FwwTextn p0) p1) p2) false)) (FwNames_2 (FwText_1 (FwwIntz (FwwNamesn0 (4 + p0.size) (FwwTextn p0) p1) (FwwNames (4 + p0.size) (FwwTextn p0) p1) p2) false) (FwText_2 (FwwIntz (FwwNamesn0 (4 + p0.size) (FwwTextn p0) p1) (FwwNames (4 + p0.size) (FwwTextn p0) p1) p2) false))))), []⟩) (by simp only [FwWireBack, h1, hq0, hf0, hb0, h6, h7, hq1, hf1, hb1, h13, h14, h15, sel_true, sel_false]) ?_
                    exact endP.ret [] (True ∧ True) (by kernel_rfl) (by kernel_rfl) ⟨trivial, trivial⟩
                  ·
                    refine Tri.seq_region [(73, qb true), (79, qb true), (89, qb false)] (some [0, 1, 0, 7, 15, 31, 63, 31, 255, 511, 1023, 2047, 4095, 8191, 2047, 2047, 51199, 116735, 262143, 524287, 1048575, 2097151, 4194303, 8388607, 16777215]) [6] [] ((True ∧ True) ∧ (((True ∧ True) ∧ True) ∧ ((True ∧ True) ∧ ((True ∧ True) ∧ ((True ∧ ((strEq (FwText (FwwIntz (FwwNamesn0 (4 + p0.size) (FwwTextn p0) p1) (FwwNames (4 + p0.size) (FwwTextn p0) p1) p2) false) p0) = true)) ∧ ((True ∧ True) ∧ (((True ∧ True) ∧ True) ∧ ((True ∧ True) ∧ (((True ∧ ((FwNames (FwText_1 (FwwIntz (FwwNamesn0 (4 + p0.size) (FwwTextn p0) p1) (FwwNames (4 + p0.size) (FwwTextn p0) p1) p2) false) (FwText_2 (FwwIntz (FwwNamesn0 (4 + p0.size) (FwwTextn p0) p1) (FwwNames (4 + p0.size) (FwwTextn p0) p1) p2) false)).length ≤ 1000000000)) ∧ True) ∧ ((True ∧ True) ∧ ((True ∧ ((Fwtexts (FwNames (FwText_1 (FwwIntz (FwwNamesn0 (4 + p0.size) (FwwTextn p0) p1) (FwwNames (4 + p0.size) (FwwTextn p0) p1) p2) false) (FwText_2 (FwwIntz (FwwNamesn0 (4 + p0.size) (FwwTextn p0) p1) (FwwNames (4 + p0.size) (FwwTextn p0) p1) p2) false)) p1) = true)) ∧ ((True ∧ True) ∧ (((True ∧ True) ∧ True) ∧ ((True ∧ True) ∧ ((True ∧ True) ∧ ((True ∧ True) ∧ ((((0 : Int) ≤ ((p2.length : Nat) : Int) ∧ (((p2.length : Nat) : Int) : Int) ≤ ((p2.length : Nat) : Int) ∧ ((p2.length : Nat) : Int) ≤ (p2.length : Int)) ∧ True) ∧ ((True ∧ True) ∧ ((True ∧ True) ∧ ((True ∧ True) ∧ ((True ∧ ((strEq (bytesOf (FwInt (FwNames_1 (FwText_1 (FwwIntz (FwwNamesn0 (4 + p0.size) (FwwTextn p0) p1) (FwwNames (4 + p0.size) (FwwTextn p0) p1) p2) false) (FwText_2 (FwwIntz (FwwNamesn0 (4 + p0.size) (FwwTextn p0) p1) (FwwNames (4 + p0.size) (FwwTextn p0) p1) p2) false)) (FwNames_2 (FwText_1 (FwwIntz (FwwNamesn0 (4 + p0.size) (FwwTextn p0) p1) (FwwNames (4 + p0.size) (FwwTextn p0) p1) p2) false) (FwText_2 (FwwIntz (FwwNamesn0 (4 + p0.size) (FwwTextn p0) p1) (FwwNames (4 + p0.size) (FwwTextn p0) p1) p2) false)))) (bytesOf ((p2.drop p2.length).take (p2.length - p2.length)))) = false)) ∧ ((True ∧ True) ∧ ((True ∧ True) ∧ ((True ∧ True) ∧ ((True ∧ True) ∧ True)))))))))))))))))))))))))
                        ([(6, .sc (.b false))], [])
                        1056 (by kernel_rfl) rfl (by kernel_rfl) (⟨⟨trivial, trivial⟩, ⟨⟨⟨trivial, trivial⟩, trivial⟩, ⟨⟨trivial, trivial⟩, ⟨⟨trivial, trivial⟩, ⟨⟨trivial, (h13)⟩, ⟨⟨trivial, trivial⟩, ⟨⟨⟨trivial, trivial⟩, trivial⟩, ⟨⟨trivial, trivial⟩, ⟨⟨⟨trivial, (by first | omega | decide | (have hw := back_small hC (by omega) (by omega); first | omega | (unfold FwwNamesn0; omega) | exact ⟨by omega, by omega⟩ | exact ⟨by omega, by omega, by omega⟩ | (unfold FwwNamesn0; exact ⟨by omega, by omega⟩)) | exact Nat.le_trans (len_FwNames _ _) (by decide))⟩, trivial⟩, ⟨⟨trivial, trivial⟩, ⟨⟨trivial, (h14)⟩, ⟨⟨trivial, trivial⟩, ⟨⟨⟨trivial, trivial⟩, trivial⟩, ⟨⟨trivial, trivial⟩, ⟨⟨trivial, trivial⟩, ⟨⟨trivial, trivial⟩, ⟨⟨(by first | omega | decide | (have hw := back_small hC (by omega) (by omega); first | omega | (unfold FwwNamesn0; omega) | exact ⟨by omega, by omega⟩ | exact ⟨by omega, by omega, by omega⟩ | (unfold FwwNamesn0; exact ⟨by omega, by omega⟩)) | exact Nat.le_trans (len_FwNames _ _) (by decide)), trivial⟩, ⟨⟨trivial, trivial⟩, ⟨⟨trivial, trivial⟩, ⟨⟨trivial, trivial⟩, ⟨⟨trivial, (h15)⟩, ⟨⟨trivial, trivial⟩, ⟨⟨trivial, trivial⟩, ⟨⟨trivial, trivial⟩, ⟨⟨trivial, trivial⟩, trivial⟩⟩⟩⟩⟩⟩⟩⟩⟩⟩⟩⟩⟩⟩⟩⟩⟩⟩⟩⟩⟩⟩⟩⟩⟩) ?_
                    refine Tri.ret ?_
                    repeat (first | refine thenP_ret ?_ | refine blkP_ret ?_ | refine countP_ret ?_ | refine joinP_ret ?_ | refine iterP_ret ?_)
                    refine endP.conv (r' := ⟨.sc (.b false), []⟩) (by simp only [FwWireBack, h1, hq0, hf0, hb0, h6, h7, hq1, hf1, hb1, h13, h14, h15, sel_true, sel_false]) ?_
                    exact endP.ret [] (True ∧ True) (by kernel_rfl) (by kernel_rfl) ⟨trivial, trivial⟩
                ·
                  refine Tri.seq_region [(73, qb true), (79, qb false)] (some [0, 1, 0, 7, 15, 31, 63, 31, 255, 511, 1023, 2047, 4095, 8191, 2047, 2047, 51199, 116735, 262143, 524287, 1048575, 2097151, 4194303, 8388607, 16777215]) [6] [] ((True ∧ True) ∧ (((True ∧ True) ∧ True) ∧ ((True ∧ True) ∧ ((True ∧ True) ∧ ((True ∧ ((strEq (FwText (FwwIntz (FwwNamesn0 (4 + p0.size) (FwwTextn p0) p1) (FwwNames (4 + p0.size) (FwwTextn p0) p1) p2) false) p0) = true)) ∧ ((True ∧ True) ∧ (((True ∧ True) ∧ True) ∧ ((True ∧ True) ∧ (((True ∧ ((FwNames (FwText_1 (FwwIntz (FwwNamesn0 (4 + p0.size) (FwwTextn p0) p1) (FwwNames (4 + p0.size) (FwwTextn p0) p1) p2) false) (FwText_2 (FwwIntz (FwwNamesn0 (4 + p0.size) (FwwTextn p0) p1) (FwwNames (4 + p0.size) (FwwTextn p0) p1) p2) false)).length ≤ 1000000000)) ∧ True) ∧ ((True ∧ True) ∧ ((True ∧ ((Fwtexts (FwNames (FwText_1 (FwwIntz (FwwNamesn0 (4 + p0.size) (FwwTextn p0) p1) (FwwNames (4 + p0.size) (FwwTextn p0) p1) p2) false) (FwText_2 (FwwIntz (FwwNamesn0 (4 + p0.size) (FwwTextn p0) p1) (FwwNames (4 + p0.size) (FwwTextn p0) p1) p2) false)) p1) = false)) ∧ ((True ∧ True) ∧ ((True ∧ True) ∧ ((True ∧ True) ∧ ((True ∧ True) ∧ ((True ∧ True) ∧ ((True ∧ True) ∧ ((True ∧ True) ∧ ((True ∧ True) ∧ ((True ∧ True) ∧ ((True ∧ True) ∧ ((True ∧ True) ∧ ((True ∧ True) ∧ ((True ∧ True) ∧ ((True ∧ True) ∧ True)))))))))))))))))))))))))
                      ([(6, .sc (.b false))], [])
                      1056 (by kernel_rfl) rfl (by kernel_rfl) (⟨⟨trivial, trivial⟩, ⟨⟨⟨trivial, trivial⟩, trivial⟩, ⟨⟨trivial, trivial⟩, ⟨⟨trivial, trivial⟩, ⟨⟨trivial, (h13)⟩, ⟨⟨trivial, trivial⟩, ⟨⟨⟨trivial, trivial⟩, trivial⟩, ⟨⟨trivial, trivial⟩, ⟨⟨⟨trivial, (by first | omega | decide | (have hw := back_small hC (by omega) (by omega); first | omega | (unfold FwwNamesn0; omega) | exact ⟨by omega, by omega⟩ | exact ⟨by omega, by omega, by omega⟩ | (unfold FwwNamesn0; exact ⟨by omega, by omega⟩)) | exact Nat.le_trans (len_FwNames _ _) (by decide))⟩, trivial⟩, ⟨⟨trivial, trivial⟩, ⟨⟨trivial, (h14)⟩, ⟨⟨trivial, trivial⟩, ⟨⟨trivial, trivial⟩, ⟨⟨trivial, trivial⟩, ⟨⟨trivial, trivial⟩, ⟨⟨trivial, trivial⟩, ⟨⟨trivial, trivial⟩, ⟨⟨trivial, trivial⟩, ⟨⟨trivial, trivial⟩, ⟨⟨trivial, trivial⟩, ⟨⟨trivial, trivial⟩, ⟨⟨trivial, trivial⟩, ⟨⟨trivial, trivial⟩, ⟨⟨trivial, trivial⟩, ⟨⟨trivial, trivial⟩, trivial⟩⟩⟩⟩⟩⟩⟩⟩⟩⟩⟩⟩⟩⟩⟩⟩⟩⟩⟩⟩⟩⟩⟩⟩⟩) ?_
                  refine Tri.ret ?_
                  repeat (first | refine thenP_ret ?_ | refine blkP_ret ?_ | refine countP_ret ?_ | refine joinP_ret ?_ | refine iterP_ret ?_)
                  refine endP.conv (r' := ⟨.sc (.b false), []⟩) (by simp only [FwWireBack, h1, hq0, hf0, hb0, h6, h7, hq1, hf1, hb1, h13, h14, sel_true, sel_false]) ?_
                  exact endP.ret [] (True ∧ True) (by kernel_rfl) (by kernel_rfl) ⟨trivial, trivial⟩
              ·
                refine Tri.seq_region [(73, qb false)] (some [0, 1, 0, 7, 15, 31, 63, 31, 255, 511, 1023, 2047, 4095, 8191, 2047, 2047, 51199, 116735, 262143, 524287, 1048575, 2097151, 4194303, 8388607, 16777215]) [6] [] ((True ∧ True) ∧ (((True ∧ True) ∧ True) ∧ ((True ∧ True) ∧ ((True ∧ True) ∧ ((True ∧ ((strEq (FwText (FwwIntz (FwwNamesn0 (4 + p0.size) (FwwTextn p0) p1) (FwwNames (4 + p0.size) (FwwTextn p0) p1) p2) false) p0) = false)) ∧ ((True ∧ True) ∧ ((True ∧ True) ∧ ((True ∧ True) ∧ ((True ∧ True) ∧ ((True ∧ True) ∧ ((True ∧ True) ∧ ((True ∧ True) ∧ ((True ∧ True) ∧ ((True ∧ True) ∧ ((True ∧ True) ∧ ((True ∧ True) ∧ ((True ∧ True) ∧ ((True ∧ True) ∧ ((True ∧ True) ∧ ((True ∧ True) ∧ ((True ∧ True) ∧ ((True ∧ True) ∧ ((True ∧ True) ∧ ((True ∧ True) ∧ ((True ∧ True) ∧ True)))))))))))))))))))))))))
                    ([(6, .sc (.b false))], [])
                    1056 (by kernel_rfl) rfl (by kernel_rfl) (⟨⟨trivial, trivial⟩, ⟨⟨⟨trivial, trivial⟩, trivial⟩, ⟨⟨trivial, trivial⟩, ⟨⟨trivial, trivial⟩, ⟨⟨trivial, (h13)⟩, ⟨⟨trivial, trivial⟩, ⟨⟨trivial, trivial⟩, ⟨⟨trivial, trivial⟩, ⟨⟨trivial, trivial⟩, ⟨⟨trivial, trivial⟩, ⟨⟨trivial, trivial⟩, ⟨⟨trivial, trivial⟩, ⟨⟨trivial, trivial⟩, ⟨⟨trivial, trivial⟩, ⟨⟨trivial, trivial⟩, ⟨⟨trivial, trivial⟩, ⟨⟨trivial, trivial⟩, ⟨⟨trivial, trivial⟩, ⟨⟨trivial, trivial⟩, ⟨⟨trivial, trivial⟩, ⟨⟨trivial, trivial⟩, ⟨⟨trivial, trivial⟩, ⟨⟨trivial, trivial⟩, ⟨⟨trivial, trivial⟩, ⟨⟨trivial, trivial⟩, trivial⟩⟩⟩⟩⟩⟩⟩⟩⟩⟩⟩⟩⟩⟩⟩⟩⟩⟩⟩⟩⟩⟩⟩⟩⟩) ?_
                refine Tri.ret ?_
                repeat (first | refine thenP_ret ?_ | refine blkP_ret ?_ | refine countP_ret ?_ | refine joinP_ret ?_ | refine iterP_ret ?_)
                refine endP.conv (r' := ⟨.sc (.b false), []⟩) (by simp only [FwWireBack, h1, hq0, hf0, hb0, h6, h7, hq1, hf1, hb1, h13, sel_true, sel_false]) ?_
                exact endP.ret [] (True ∧ True) (by kernel_rfl) (by kernel_rfl) ⟨trivial, trivial⟩



end Go.Vm
