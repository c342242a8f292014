/- What the functions compute, and that they do: walked by a printed text. -/
import Derived.Test.YtfkmfdjdppjijaaWk2
set_option linter.unusedVariables false
set_option linter.unusedSimpArgs false
set_option maxRecDepth 4000
namespace Go.Vm
open Go
structure Ch where
  server : Bool
  state : Int
  peer : Int
  window : Int
  most : Int
  room : Int
  wait : List Int
  got : List Int
  ready : Bool
  e0 : Bool
  e1 : Bool
  c0 : Bool
  c1 : Bool
  out : List (List Int)
def chC (a b c : Nat) (p : Ch) : Blk := .cells [.b p.server, .i .i64 p.state, .i .u32 p.peer, .i .i64 p.window, .i .i64 p.most, .i .i64 p.room, .sl a 0 p.wait.length 1 none, .sl b 0 p.got.length 1 none, .b p.ready, .b p.e0, .b p.e1, .b p.c0, .b p.c1, .sl c 0 p.out.length 1 none]
def chLens (n1 n2 n3 m1 m2 : Nat) (p : Ch) : Prop := n1 = p.wait.length ∧ n2 = p.got.length ∧ n3 = p.out.length ∧ m1 = p.wait.length ∧ m2 = p.got.length
theorem chLens_self (p : Ch) : chLens p.wait.length p.got.length p.out.length p.wait.length p.got.length p := ⟨rfl, rfl, rfl, rfl, rfl⟩
theorem minI_nat3 {a : Nat} {w m : Int} (hw : 0 ≤ w) (hm : 0 ≤ m) : minI (minI ((a : Nat) : Int) w) m = ((min (min a w.toNat) m.toNat : Nat) : Int) := by
  unfold minI
  split <;> split <;> omega
def chFlow (p : Ch) : Prop := (0 ≤ p.window ∧ p.window ≤ 2147483647) ∧ (0 ≤ p.most ∧ p.most ≤ 512) ∧ (0 < p.window → 0 < p.most) ∧ p.out.length + p.wait.length ≤ 1000000000
def chOk (N : Nat) (p : Ch) : Prop := (0 ≤ p.window ∧ p.window ≤ 2147483647) ∧ (0 ≤ p.most ∧ p.most ≤ 512) ∧ (0 < p.window → 0 < p.most) ∧ (p.out.length + p.wait.length ≤ N ∧ p.got.length ≤ N) ∧ (p.state = 2 → 0 < p.most)
def flowM (p : Ch) : Nat := min p.wait.length p.window.toNat
def flowN (p : Ch) : Nat := sel p.c0 0 ((flowM p + p.most.toNat - 1) / p.most.toNat)
def flowJ (p : Ch) (k : Nat) (z : Ch) : Prop := z.wait = p.wait.drop (min (k * p.most.toNat) (flowM p)) ∧ z.window = p.window - ((min (k * p.most.toNat) (flowM p) : Nat) : Int) ∧ z.most = p.most ∧ z.c0 = p.c0 ∧ z.out.length + z.wait.length ≤ p.out.length + p.wait.length
theorem flowJ_0 {p : Ch} : flowJ p 0 p := by
  unfold flowJ
  rw [Nat.zero_mul, Nat.zero_min]
  exact ⟨rfl, by omega, rfl, rfl, Nat.le_refl _⟩
theorem flowJ_facts {p z : Ch} {k : Nat} (h : chFlow p) (hJ : flowJ p k z) : (0 ≤ z.window ∧ z.window ≤ 2147483647) ∧ (0 ≤ z.most ∧ z.most ≤ 512) ∧ z.wait.length ≤ 1000000000 ∧ z.out.length ≤ 1000000000 := by
  obtain ⟨⟨a1, a2⟩, ⟨a3, a4⟩, a5, a6⟩ := h
  obtain ⟨b1, b2, b3, b4, b5⟩ := hJ
  have hm : min (k * p.most.toNat) (flowM p) ≤ p.window.toNat := Nat.le_trans (Nat.min_le_right _ _) (Nat.min_le_right _ _)
  refine ⟨⟨by omega, by omega⟩, by rw [b3]; exact ⟨a3, a4⟩, by omega, by omega⟩
theorem flowJ_lt' {p z : Ch} {k : Nat} (h : chFlow p) (hJ : flowJ p k z) (h1 : (0 : Int) < (z.wait.length : Int)) (h2 : 0 < z.window) (h3 : z.c0 = false) : (0 < p.most.toNat ∧ k * p.most.toNat < flowM p) ∧ k < flowN p := by
  obtain ⟨⟨a1, a2⟩, ⟨a3, a4⟩, a5, a6⟩ := h
  obtain ⟨b1, b2, b3, b4, b5⟩ := hJ
  rw [b1, List.length_drop] at h1
  rw [b2] at h2
  rw [b4] at h3
  have hM : flowM p = min p.wait.length p.window.toNat := rfl
  have hs : min (k * p.most.toNat) (flowM p) < flowM p := by omega
  have hk : k * p.most.toNat < flowM p := by omega
  have hq : 0 < p.most := a5 (by omega)
  refine ⟨⟨by omega, hk⟩, ?_⟩
  unfold flowN
  rw [h3, sel_false]
  refine (Nat.le_div_iff_mul_le (by omega)).2 ?_
  rw [Nat.succ_mul]
  omega
theorem flowJ_lt {p z : Ch} {k : Nat} (h : chFlow p) (hJ : flowJ p k z) (h1 : (decide ((((z.wait.length : Nat) : Int) : Int) > 0)) = true) (h2 : (decide ((z.window : Int) > 0)) = true) (h3 : (!z.c0) = true) : k < flowN p :=
  (flowJ_lt' h hJ (of_decide_eq_true h1) (of_decide_eq_true h2) (by cases hc : z.c0; rfl; rw [hc] at h3; cases h3)).2
theorem flowJ_end {p z : Ch} {k : Nat} (h : chFlow p) (hJ : flowJ p k z) (hk : k ≤ flowN p) (h1 : (decide ((((z.wait.length : Nat) : Int) : Int) > 0)) = false ∨ (decide ((z.window : Int) > 0)) = false ∨ (!z.c0) = false) : k = flowN p := by
  obtain ⟨⟨a1, a2⟩, ⟨a3, a4⟩, a5, a6⟩ := h
  obtain ⟨b1, b2, b3, b4, b5⟩ := hJ
  have hM : flowM p = min p.wait.length p.window.toNat := rfl
  unfold flowN at hk ⊢
  cases hc : p.c0
  · rw [hc] at hk
    rw [sel_false] at hk ⊢
    have hs : flowM p ≤ min (k * p.most.toNat) (flowM p) := by
      rcases h1 with h1 | h1 | h1
      · have h1' := of_decide_eq_false h1
        rw [b1, List.length_drop] at h1'
        omega
      · have h1' := of_decide_eq_false h1
        rw [b2] at h1'
        omega
      · rw [b4, hc] at h1; cases h1
    rcases Nat.eq_zero_or_pos p.most.toNat with hq | hq
    · rw [hq, Nat.div_zero] at hk ⊢
      omega
    · have hlt : (flowM p + p.most.toNat - 1) / p.most.toNat < k + 1 := by
        refine (Nat.div_lt_iff_lt_mul hq).2 ?_
        rw [Nat.succ_mul]
        omega
      omega
  · rw [hc] at hk
    rw [sel_true] at hk ⊢
    omega

noncomputable def FcNew (p0 : Bool) : Ch :=
  ({server := p0, state := 0, peer := 0, window := 0, most := 0, room := 0, wait := ([] : List Int), got := ([] : List Int), ready := false, e0 := false, e1 := false, c0 := false, c1 := false, out := ([] : List (List Int))} : Ch)

noncomputable def ScNew : List AV → List Blk → Option (Prop × Ret)
  | [.sc (.b p0)], [] => some (True, ⟨.sc (.p 0 0), [some (chC 1 2 3 (FcNew p0)), some (.ints .u8 ((FcNew p0).wait.length) ((FcNew p0).wait)), some (.ints .u8 ((FcNew p0).got.length) ((FcNew p0).got)), some (.vec .row ((FcNew p0).out))]⟩)
  | _, _ => none

noncomputable def BcNew : Bs := { P := Go.Proofs.Try.prog, G := noG, tab := tabOf [], n := 6 }

theorem BcNew.ok : BcNew.Ok := ⟨tabOk (P := Go.Proofs.Try.prog) (G := noG) (l := []) True.intro, mixed⟩

theorem KcNew : Known Go.Proofs.Try.prog noG 9 ⟨0, 4, ScNew⟩ := by
  refine Known.walk (B := BcNew) (fn := Go.Proofs.Try.f9) BcNew.ok (by kernel_rfl) rfl (by kernel_rfl) (by kernel_rfl) (by decide) (by decide) ?_
  · intro E args ks C r h hC hlen
    simp only at h
    unfold ScNew at h
    split at h
    rotate_left
    · cases h
    rename_i p0
    cases h
    simp only [lens] at hlen
    refine ⟨show 1 ≤ 6 from by decide, ?_⟩
    refine Tri.sub (Sub.of_eq (show _ = ([(0, .sc (.b p0))], []) from rfl)) ?_
    refine Tri.seq_region [] none [0] [] (TT ∧ True)
        ([(0, .sc (.b p0))], [])
        32 (by kernel_rfl) rfl (by kernel_rfl) (⟨tt, trivial⟩) ?_
    refine Tri.seq_region [] none [2] [64] (TT ∧ (((((0 < 14) ∧ (1 = 1)) ∧ True) ∧ True) ∧ (TT ∧ (TT ∧ True))))
        ([(2, .sc (.p 64 0))], [(64, .cells [.b p0, .i .i64 0, .i .u32 0, .i .i64 0, .i .i64 0, .i .i64 0, .nils, .nils, .b false, .b false, .b false, .b false, .b false, .nils])])
        96 (by kernel_rfl) rfl (by kernel_rfl) (⟨tt, ⟨⟨⟨⟨(by first | omega | (dsimp only; omega) | decide | (simp only [len_say]; omega)), (rfl)⟩, trivial⟩, trivial⟩, ⟨tt, ⟨tt, trivial⟩⟩⟩⟩) ?_
    refine Tri.sub (Sub.openC (U := 96) (U' := 112) 64 6 96 1 (.ints .u8 0 ([] : List Int)) (l := [.b p0, .i .i64 0, .i .u32 0, .i .i64 0, .i .i64 0, .i .i64 0, .nils, .nils, .b false, .b false, .b false, .b false, .b false, .nils]) ⟨rfl, rfl⟩ (by decide) (by kernel_rfl) (by kernel_rfl)) ?_
    refine Tri.sub (Sub.of_eq (congrArg (fun (qq : Nat) => (([(2, .sc (.p 64 0))], [(96, .ints .u8 qq ([] : List Int)), (64, .cells [.b p0, .i .i64 0, .i .u32 0, .i .i64 0, .i .i64 0, .i .i64 0, .sl 96 0 qq 1 none, .nils, .b false, .b false, .b false, .b false, .b false, .nils])]) : St)) (show 0 = ([] : List Int).length from by simp only [List.length_append, List.length_drop, List.length_cons, List.length_nil, Nat.zero_add, Nat.sub_zero, Nat.reduceAdd, bytesI_length]))) ?_
    show Tri _ _ _ _ ([(2, .sc (.p 64 0))], [(96, .ints .u8 (([] : List Int).length) ([] : List Int)), (64, .cells [.b p0, .i .i64 0, .i .u32 0, .i .i64 0, .i .i64 0, .i .i64 0, .sl 96 0 (([] : List Int).length) 1 none, .nils, .b false, .b false, .b false, .b false, .b false, .nils])]) _
    refine Tri.sub (Sub.openC (U := 112) (U' := 128) 64 7 112 1 (.ints .u8 0 ([] : List Int)) (l := [.b p0, .i .i64 0, .i .u32 0, .i .i64 0, .i .i64 0, .i .i64 0, .sl 96 0 (([] : List Int).length) 1 none, .nils, .b false, .b false, .b false, .b false, .b false, .nils]) ⟨rfl, rfl⟩ (by decide) (by kernel_rfl) (by kernel_rfl)) ?_
    refine Tri.sub (Sub.of_eq (congrArg (fun (qq : Nat) => (([(2, .sc (.p 64 0))], [(112, .ints .u8 qq ([] : List Int)), (64, .cells [.b p0, .i .i64 0, .i .u32 0, .i .i64 0, .i .i64 0, .i .i64 0, .sl 96 0 (([] : List Int).length) 1 none, .sl 112 0 qq 1 none, .b false, .b false, .b false, .b false, .b false, .nils]), (96, .ints .u8 (([] : List Int).length) ([] : List Int))]) : St)) (show 0 = ([] : List Int).length from by simp only [List.length_append, List.length_drop, List.length_cons, List.length_nil, Nat.zero_add, Nat.sub_zero, Nat.reduceAdd, bytesI_length]))) ?_
    show Tri _ _ _ _ ([(2, .sc (.p 64 0))], [(112, .ints .u8 (([] : List Int).length) ([] : List Int)), (64, .cells [.b p0, .i .i64 0, .i .u32 0, .i .i64 0, .i .i64 0, .i .i64 0, .sl 96 0 (([] : List Int).length) 1 none, .sl 112 0 (([] : List Int).length) 1 none, .b false, .b false, .b false, .b false, .b false, .nils]), (96, .ints .u8 (([] : List Int).length) ([] : List Int))]) _
    refine Tri.sub (Sub.openC (U := 128) (U' := 144) 64 13 128 1 (.vec .row ([] : List (List Int))) (l := [.b p0, .i .i64 0, .i .u32 0, .i .i64 0, .i .i64 0, .i .i64 0, .sl 96 0 (([] : List Int).length) 1 none, .sl 112 0 (([] : List Int).length) 1 none, .b false, .b false, .b false, .b false, .b false, .nils]) ⟨rfl, trivial⟩ (by decide) (by kernel_rfl) (by kernel_rfl)) ?_
    refine Tri.sub (Sub.of_eq (congrArg (fun (qq : Nat) => (([(2, .sc (.p 64 0))], [(128, .vec .row ([] : List (List Int))), (64, .cells [.b p0, .i .i64 0, .i .u32 0, .i .i64 0, .i .i64 0, .i .i64 0, .sl 96 0 (([] : List Int).length) 1 none, .sl 112 0 (([] : List Int).length) 1 none, .b false, .b false, .b false, .b false, .b false, .sl 128 0 qq 1 none]), (112, .ints .u8 (([] : List Int).length) ([] : List Int)), (96, .ints .u8 (([] : List Int).length) ([] : List Int))]) : St)) (show 0 = ([] : List (List Int)).length from by simp only [List.length_append, List.length_drop, List.length_cons, List.length_nil, Nat.zero_add, Nat.sub_zero, Nat.reduceAdd, bytesI_length]))) ?_
    show Tri _ _ _ _ ([(2, .sc (.p 64 0))], [(128, .vec .row ([] : List (List Int))), (64, .cells [.b p0, .i .i64 0, .i .u32 0, .i .i64 0, .i .i64 0, .i .i64 0, .sl 96 0 (([] : List Int).length) 1 none, .sl 112 0 (([] : List Int).length) 1 none, .b false, .b false, .b false, .b false, .b false, .sl 128 0 (([] : List (List Int)).length) 1 none]), (112, .ints .u8 (([] : List Int).length) ([] : List Int)), (96, .ints .u8 (([] : List Int).length) ([] : List Int))]) _
    refine Tri.ret ?_
    repeat (first | refine thenP_ret ?_ | refine blkP_ret ?_ | refine countP_ret ?_ | refine joinP_ret ?_ | refine iterP_ret ?_)
    exact endP.ret [(64, 0), (96, 1), (112, 2), (128, 3)] TT (by kernel_rfl) (by kernel_rfl) tt




noncomputable def FcOut (p0 : Ch) : Ch :=
  ({p0 with out := ([] : List (List Int))} : Ch)

noncomputable def FcOut_1 (p0 : Ch) : List (List Int) :=
  p0.out

noncomputable def ScOutc (p0 : Ch) (y0_n1 : Nat) (y0_n2 : Nat) (y0_n3 : Nat) (y0_m1 : Nat) (y0_m2 : Nat)  : Option (Prop × Ret) :=
  some ((chLens y0_n1 y0_n2 y0_n3 y0_m1 y0_m2 p0 ∧ True), ⟨.sc (.sl 7 0 p0.out.length 1 none), [some (chC 4 5 6 (FcOut p0)), none, none, none, some (.ints .u8 ((FcOut p0).wait.length) ((FcOut p0).wait)), some (.ints .u8 ((FcOut p0).got.length) ((FcOut p0).got)), some (.vec .row ((FcOut p0).out)), some (.vec .row (FcOut_1 p0))]⟩)

noncomputable def ScOut : List AV → List Blk → Option (Prop × Ret)
  | [.sc (.p 0 0)], [.cells [.b y0_server, .i .i64 y0_state, .i .u32 y0_peer, .i .i64 y0_window, .i .i64 y0_most, .i .i64 y0_room, .sl 1 0 y0_n1 1 none, .sl 2 0 y0_n2 1 none, .b y0_ready, .b y0_e0, .b y0_e1, .b y0_c0, .b y0_c1, .sl 3 0 y0_n3 1 none], .ints .u8 y0_m1 y0_wait, .ints .u8 y0_m2 y0_got, .vec .row y0_out] => ScOutc ⟨y0_server, y0_state, y0_peer, y0_window, y0_most, y0_room, y0_wait, y0_got, y0_ready, y0_e0, y0_e1, y0_c0, y0_c1, y0_out⟩ y0_n1 y0_n2 y0_n3 y0_m1 y0_m2
  | _, _ => none

noncomputable def BcOut : Bs := { P := Go.Proofs.Try.prog, G := noG, tab := tabOf [], n := 14 }

theorem BcOut.ok : BcOut.Ok := ⟨tabOk (P := Go.Proofs.Try.prog) (G := noG) (l := []) True.intro, mixed⟩

theorem KcOut : Known Go.Proofs.Try.prog noG 16 ⟨4, 4, ScOut⟩ := by
  refine Known.walk (B := BcOut) (fn := Go.Proofs.Try.f16) BcOut.ok (by kernel_rfl) rfl (by kernel_rfl) (by kernel_rfl) (by decide) (by decide) ?_
  · intro E args ks C r h hC hlen
    simp only at h
    unfold ScOut at h
    split at h
    rotate_left
    · cases h
    rename_i y0_server y0_state y0_peer y0_window y0_most y0_room y0_n1 y0_n2 y0_ready y0_e0 y0_e1 y0_c0 y0_c1 y0_n3 y0_m1 y0_wait y0_m2 y0_got y0_out
    generalize hp0 : (⟨y0_server, y0_state, y0_peer, y0_window, y0_most, y0_room, y0_wait, y0_got, y0_ready, y0_e0, y0_e1, y0_c0, y0_c1, y0_out⟩ : Ch) = p0 at h
    obtain rfl : y0_server = p0.server := by rw [← hp0]
    obtain rfl : y0_state = p0.state := by rw [← hp0]
    obtain rfl : y0_peer = p0.peer := by rw [← hp0]
    obtain rfl : y0_window = p0.window := by rw [← hp0]
    obtain rfl : y0_most = p0.most := by rw [← hp0]
    obtain rfl : y0_room = p0.room := by rw [← hp0]
    obtain rfl : y0_wait = p0.wait := by rw [← hp0]
    obtain rfl : y0_got = p0.got := by rw [← hp0]
    obtain rfl : y0_ready = p0.ready := by rw [← hp0]
    obtain rfl : y0_e0 = p0.e0 := by rw [← hp0]
    obtain rfl : y0_e1 = p0.e1 := by rw [← hp0]
    obtain rfl : y0_c0 = p0.c0 := by rw [← hp0]
    obtain rfl : y0_c1 = p0.c1 := by rw [← hp0]
    obtain rfl : y0_out = p0.out := by rw [← hp0]
    clear hp0
    unfold ScOutc at h
    cases h
    obtain ⟨⟨rfl, rfl, rfl, rfl, rfl⟩, hC⟩ := hC
    simp only [lens] at hlen
    refine ⟨show 1 ≤ 14 from by decide, ?_⟩
    refine Tri.sub (Sub.of_eq (show _ = ([(0, .sc (.p 0 0))], [(0, chC 1 2 3 p0), (1, .ints .u8 p0.wait.length p0.wait), (2, .ints .u8 p0.got.length p0.got), (3, .vec .row p0.out)]) from rfl)) ?_
    refine Tri.subP ?_
    refine Tri.seq_region [] none [0] [0, 1, 2, 3] (TT ∧ True)
        ([(0, .sc (.p 0 0))], [(0, chC 1 2 3 p0), (1, .ints .u8 p0.wait.length p0.wait), (2, .ints .u8 p0.got.length p0.got), (3, .vec .row p0.out)])
        32 (by kernel_rfl) rfl (by kernel_rfl) (⟨tt, trivial⟩) ?_
    refine Tri.seq ?_
    refine Tri.seq_region [] none [5, 0] [0, 1, 2, 3] (TT ∧ (TT ∧ True))
        ([(5, .sc (.b false)), (0, .sc (.p 0 0))], [(0, chC 1 2 3 p0), (1, .ints .u8 p0.wait.length p0.wait), (2, .ints .u8 p0.got.length p0.got), (3, .vec .row p0.out)])
        64 (by kernel_rfl) rfl (by kernel_rfl) (⟨tt, ⟨tt, trivial⟩⟩) ?_
    refine Tri.cond_false (by kernel_rfl) ?_
    refine Tri.skip ?_
    change Tri _ _ _ _ _ _
    refine Tri.seq_region [] none [3, 0] [0, 1, 2, 3] (TT ∧ (TT ∧ (TT ∧ (((13 < 14) ∧ True) ∧ (TT ∧ True)))))
        ([(3, .sc (.sl 3 0 p0.out.length 1 none)), (0, .sc (.p 0 0))], [(0, chC 1 2 3 p0), (1, .ints .u8 p0.wait.length p0.wait), (2, .ints .u8 p0.got.length p0.got), (3, .vec .row p0.out)])
        144 (by kernel_rfl) rfl (by kernel_rfl) (⟨tt, ⟨tt, ⟨tt, ⟨⟨(by first | omega | (dsimp only; omega) | decide | (simp only [len_say]; omega)), trivial⟩, ⟨tt, trivial⟩⟩⟩⟩⟩) ?_
    refine Tri.seq_region [] none [3] [0, 1, 2, 3] (TT ∧ (TT ∧ (TT ∧ ((((13 < 14) ∧ (1 = 1)) ∧ True) ∧ True))))
        ([(3, .sc (.sl 3 0 p0.out.length 1 none))], [(0, .cells [.b p0.server, .i .i64 p0.state, .i .u32 p0.peer, .i .i64 p0.window, .i .i64 p0.most, .i .i64 p0.room, .sl 1 0 p0.wait.length 1 none, .sl 2 0 p0.got.length 1 none, .b p0.ready, .b p0.e0, .b p0.e1, .b p0.c0, .b p0.c1, .nils]), (1, .ints .u8 p0.wait.length p0.wait), (2, .ints .u8 p0.got.length p0.got), (3, .vec .row p0.out)])
        208 (by kernel_rfl) rfl (by kernel_rfl) (⟨tt, ⟨tt, ⟨tt, ⟨⟨⟨(by first | omega | (dsimp only; omega) | decide | (simp only [len_say]; omega)), (rfl)⟩, trivial⟩, trivial⟩⟩⟩⟩) ?_
    refine Tri.sub (Sub.openC (U := 208) (U' := 224) 0 13 208 1 (.vec .row ([] : List (List Int))) (l := [.b p0.server, .i .i64 p0.state, .i .u32 p0.peer, .i .i64 p0.window, .i .i64 p0.most, .i .i64 p0.room, .sl 1 0 p0.wait.length 1 none, .sl 2 0 p0.got.length 1 none, .b p0.ready, .b p0.e0, .b p0.e1, .b p0.c0, .b p0.c1, .nils]) ⟨rfl, trivial⟩ (by decide) (by kernel_rfl) (by kernel_rfl)) ?_
    refine Tri.sub (Sub.of_eq (congrArg (fun (qq : Nat) => (([(3, .sc (.sl 3 0 p0.out.length 1 none))], [(208, .vec .row ([] : List (List Int))), (0, .cells [.b p0.server, .i .i64 p0.state, .i .u32 p0.peer, .i .i64 p0.window, .i .i64 p0.most, .i .i64 p0.room, .sl 1 0 p0.wait.length 1 none, .sl 2 0 p0.got.length 1 none, .b p0.ready, .b p0.e0, .b p0.e1, .b p0.c0, .b p0.c1, .sl 208 0 qq 1 none]), (1, .ints .u8 p0.wait.length p0.wait), (2, .ints .u8 p0.got.length p0.got), (3, .vec .row p0.out)]) : St)) (show 0 = ([] : List (List Int)).length from by simp only [List.length_append, List.length_drop, List.length_cons, List.length_nil, Nat.zero_add, Nat.sub_zero, Nat.reduceAdd, bytesI_length]))) ?_
    show Tri _ _ _ _ ([(3, .sc (.sl 3 0 p0.out.length 1 none))], [(208, .vec .row ([] : List (List Int))), (0, .cells [.b p0.server, .i .i64 p0.state, .i .u32 p0.peer, .i .i64 p0.window, .i .i64 p0.most, .i .i64 p0.room, .sl 1 0 p0.wait.length 1 none, .sl 2 0 p0.got.length 1 none, .b p0.ready, .b p0.e0, .b p0.e1, .b p0.c0, .b p0.c1, .sl 208 0 (([] : List (List Int)).length) 1 none]), (1, .ints .u8 p0.wait.length p0.wait), (2, .ints .u8 p0.got.length p0.got), (3, .vec .row p0.out)]) _
    refine Tri.seq_region [] none [2] [208, 0, 1, 2, 3] (TT ∧ (TT ∧ True))
        ([(2, .sc (.sl 3 0 p0.out.length 1 none))], [(208, .vec .row ([] : List (List Int))), (0, .cells [.b p0.server, .i .i64 p0.state, .i .u32 p0.peer, .i .i64 p0.window, .i .i64 p0.most, .i .i64 p0.room, .sl 1 0 p0.wait.length 1 none, .sl 2 0 p0.got.length 1 none, .b p0.ready, .b p0.e0, .b p0.e1, .b p0.c0, .b p0.c1, .sl 208 0 (([] : List (List Int)).length) 1 none]), (1, .ints .u8 p0.wait.length p0.wait), (2, .ints .u8 p0.got.length p0.got), (3, .vec .row p0.out)])
        256 (by kernel_rfl) rfl (by kernel_rfl) (⟨tt, ⟨tt, trivial⟩⟩) ?_
    refine Tri.ret ?_
    repeat (first | refine thenP_ret ?_ | refine blkP_ret ?_ | refine countP_ret ?_ | refine joinP_ret ?_ | refine iterP_ret ?_)
    refine subP_done ?_
    exact endP.ret [(0, 0), (1, 4), (2, 5), (208, 6), (3, 7)] TT (by kernel_rfl) (by kernel_rfl) tt




noncomputable def FcState (p0 : Ch) : Int :=
  p0.state

noncomputable def ScStatec (p0 : Ch) (y0_n1 : Nat) (y0_n2 : Nat) (y0_n3 : Nat) (y0_m1 : Nat) (y0_m2 : Nat)  : Option (Prop × Ret) :=
  some ((chLens y0_n1 y0_n2 y0_n3 y0_m1 y0_m2 p0 ∧ True), ⟨.sc (.i .i64 (FcState p0)), [some (chC 1 2 3 p0), some (.ints .u8 p0.wait.length p0.wait), some (.ints .u8 p0.got.length p0.got), some (.vec .row p0.out)]⟩)

noncomputable def ScState : List AV → List Blk → Option (Prop × Ret)
  | [.sc (.p 0 0)], [.cells [.b y0_server, .i .i64 y0_state, .i .u32 y0_peer, .i .i64 y0_window, .i .i64 y0_most, .i .i64 y0_room, .sl 1 0 y0_n1 1 none, .sl 2 0 y0_n2 1 none, .b y0_ready, .b y0_e0, .b y0_e1, .b y0_c0, .b y0_c1, .sl 3 0 y0_n3 1 none], .ints .u8 y0_m1 y0_wait, .ints .u8 y0_m2 y0_got, .vec .row y0_out] => ScStatec ⟨y0_server, y0_state, y0_peer, y0_window, y0_most, y0_room, y0_wait, y0_got, y0_ready, y0_e0, y0_e1, y0_c0, y0_c1, y0_out⟩ y0_n1 y0_n2 y0_n3 y0_m1 y0_m2
  | _, _ => none

noncomputable def BcState : Bs := { P := Go.Proofs.Try.prog, G := noG, tab := tabOf [], n := 9 }

theorem BcState.ok : BcState.Ok := ⟨tabOk (P := Go.Proofs.Try.prog) (G := noG) (l := []) True.intro, mixed⟩

theorem KcState : Known Go.Proofs.Try.prog noG 17 ⟨4, 0, ScState⟩ := by
  refine Known.walk (B := BcState) (fn := Go.Proofs.Try.f17) BcState.ok (by kernel_rfl) rfl (by kernel_rfl) (by kernel_rfl) (by decide) (by decide) ?_
  · intro E args ks C r h hC hlen
    simp only at h
    unfold ScState at h
    split at h
    rotate_left
    · cases h
    rename_i y0_server y0_state y0_peer y0_window y0_most y0_room y0_n1 y0_n2 y0_ready y0_e0 y0_e1 y0_c0 y0_c1 y0_n3 y0_m1 y0_wait y0_m2 y0_got y0_out
    generalize hp0 : (⟨y0_server, y0_state, y0_peer, y0_window, y0_most, y0_room, y0_wait, y0_got, y0_ready, y0_e0, y0_e1, y0_c0, y0_c1, y0_out⟩ : Ch) = p0 at h
    obtain rfl : y0_server = p0.server := by rw [← hp0]
    obtain rfl : y0_state = p0.state := by rw [← hp0]
    obtain rfl : y0_peer = p0.peer := by rw [← hp0]
    obtain rfl : y0_window = p0.window := by rw [← hp0]
    obtain rfl : y0_most = p0.most := by rw [← hp0]
    obtain rfl : y0_room = p0.room := by rw [← hp0]
    obtain rfl : y0_wait = p0.wait := by rw [← hp0]
    obtain rfl : y0_got = p0.got := by rw [← hp0]
    obtain rfl : y0_ready = p0.ready := by rw [← hp0]
    obtain rfl : y0_e0 = p0.e0 := by rw [← hp0]
    obtain rfl : y0_e1 = p0.e1 := by rw [← hp0]
    obtain rfl : y0_c0 = p0.c0 := by rw [← hp0]
    obtain rfl : y0_c1 = p0.c1 := by rw [← hp0]
    obtain rfl : y0_out = p0.out := by rw [← hp0]
    clear hp0
    unfold ScStatec at h
    cases h
    obtain ⟨⟨rfl, rfl, rfl, rfl, rfl⟩, hC⟩ := hC
    simp only [lens] at hlen
    refine ⟨show 1 ≤ 9 from by decide, ?_⟩
    refine Tri.sub (Sub.of_eq (show _ = ([(0, .sc (.p 0 0))], [(0, chC 1 2 3 p0), (1, .ints .u8 p0.wait.length p0.wait), (2, .ints .u8 p0.got.length p0.got), (3, .vec .row p0.out)]) from rfl)) ?_
    refine Tri.subP ?_
    refine Tri.seq_region [] none [0] [0, 1, 2, 3] (TT ∧ True)
        ([(0, .sc (.p 0 0))], [(0, chC 1 2 3 p0), (1, .ints .u8 p0.wait.length p0.wait), (2, .ints .u8 p0.got.length p0.got), (3, .vec .row p0.out)])
        32 (by kernel_rfl) rfl (by kernel_rfl) (⟨tt, trivial⟩) ?_
    refine Tri.seq ?_
    refine Tri.seq_region [] none [4, 0] [0, 1, 2, 3] (TT ∧ (TT ∧ True))
        ([(4, .sc (.b false)), (0, .sc (.p 0 0))], [(0, chC 1 2 3 p0), (1, .ints .u8 p0.wait.length p0.wait), (2, .ints .u8 p0.got.length p0.got), (3, .vec .row p0.out)])
        64 (by kernel_rfl) rfl (by kernel_rfl) (⟨tt, ⟨tt, trivial⟩⟩) ?_
    refine Tri.cond_false (by kernel_rfl) ?_
    refine Tri.skip ?_
    change Tri _ _ _ _ _ _
    refine Tri.seq_region [] none [2] [0, 1, 2, 3] (TT ∧ (TT ∧ (TT ∧ (((1 < 14) ∧ True) ∧ (TT ∧ True)))))
        ([(2, .sc (.i .i64 p0.state))], [(0, chC 1 2 3 p0), (1, .ints .u8 p0.wait.length p0.wait), (2, .ints .u8 p0.got.length p0.got), (3, .vec .row p0.out)])
        144 (by kernel_rfl) rfl (by kernel_rfl) (⟨tt, ⟨tt, ⟨tt, ⟨⟨(by first | omega | (dsimp only; omega) | decide | (simp only [len_say]; omega)), trivial⟩, ⟨tt, trivial⟩⟩⟩⟩⟩) ?_
    refine Tri.ret ?_
    repeat (first | refine thenP_ret ?_ | refine blkP_ret ?_ | refine countP_ret ?_ | refine joinP_ret ?_ | refine iterP_ret ?_)
    refine subP_done ?_
    exact endP.ret [(0, 0), (1, 1), (2, 2), (3, 3)] TT (by kernel_rfl) (by kernel_rfl) tt




noncomputable def FcReady (p0 : Ch) : Bool :=
  p0.ready

noncomputable def ScReadyc (p0 : Ch) (y0_n1 : Nat) (y0_n2 : Nat) (y0_n3 : Nat) (y0_m1 : Nat) (y0_m2 : Nat)  : Option (Prop × Ret) :=
  some ((chLens y0_n1 y0_n2 y0_n3 y0_m1 y0_m2 p0 ∧ True), ⟨.sc (.b (FcReady p0)), [some (chC 1 2 3 p0), some (.ints .u8 p0.wait.length p0.wait), some (.ints .u8 p0.got.length p0.got), some (.vec .row p0.out)]⟩)

noncomputable def ScReady : List AV → List Blk → Option (Prop × Ret)
  | [.sc (.p 0 0)], [.cells [.b y0_server, .i .i64 y0_state, .i .u32 y0_peer, .i .i64 y0_window, .i .i64 y0_most, .i .i64 y0_room, .sl 1 0 y0_n1 1 none, .sl 2 0 y0_n2 1 none, .b y0_ready, .b y0_e0, .b y0_e1, .b y0_c0, .b y0_c1, .sl 3 0 y0_n3 1 none], .ints .u8 y0_m1 y0_wait, .ints .u8 y0_m2 y0_got, .vec .row y0_out] => ScReadyc ⟨y0_server, y0_state, y0_peer, y0_window, y0_most, y0_room, y0_wait, y0_got, y0_ready, y0_e0, y0_e1, y0_c0, y0_c1, y0_out⟩ y0_n1 y0_n2 y0_n3 y0_m1 y0_m2
  | _, _ => none

noncomputable def BcReady : Bs := { P := Go.Proofs.Try.prog, G := noG, tab := tabOf [], n := 11 }

theorem BcReady.ok : BcReady.Ok := ⟨tabOk (P := Go.Proofs.Try.prog) (G := noG) (l := []) True.intro, mixed⟩

theorem KcReady : Known Go.Proofs.Try.prog noG 18 ⟨4, 0, ScReady⟩ := by
  refine Known.walk (B := BcReady) (fn := Go.Proofs.Try.f18) BcReady.ok (by kernel_rfl) rfl (by kernel_rfl) (by kernel_rfl) (by decide) (by decide) ?_
  · intro E args ks C r h hC hlen
    simp only at h
    unfold ScReady at h
    split at h
    rotate_left
    · cases h
    rename_i y0_server y0_state y0_peer y0_window y0_most y0_room y0_n1 y0_n2 y0_ready y0_e0 y0_e1 y0_c0 y0_c1 y0_n3 y0_m1 y0_wait y0_m2 y0_got y0_out
    generalize hp0 : (⟨y0_server, y0_state, y0_peer, y0_window, y0_most, y0_room, y0_wait, y0_got, y0_ready, y0_e0, y0_e1, y0_c0, y0_c1, y0_out⟩ : Ch) = p0 at h
    obtain rfl : y0_server = p0.server := by rw [← hp0]
    obtain rfl : y0_state = p0.state := by rw [← hp0]
    obtain rfl : y0_peer = p0.peer := by rw [← hp0]
    obtain rfl : y0_window = p0.window := by rw [← hp0]
    obtain rfl : y0_most = p0.most := by rw [← hp0]
    obtain rfl : y0_room = p0.room := by rw [← hp0]
    obtain rfl : y0_wait = p0.wait := by rw [← hp0]
    obtain rfl : y0_got = p0.got := by rw [← hp0]
    obtain rfl : y0_ready = p0.ready := by rw [← hp0]
    obtain rfl : y0_e0 = p0.e0 := by rw [← hp0]
    obtain rfl : y0_e1 = p0.e1 := by rw [← hp0]
    obtain rfl : y0_c0 = p0.c0 := by rw [← hp0]
    obtain rfl : y0_c1 = p0.c1 := by rw [← hp0]
    obtain rfl : y0_out = p0.out := by rw [← hp0]
    clear hp0
    unfold ScReadyc at h
    cases h
    obtain ⟨⟨rfl, rfl, rfl, rfl, rfl⟩, hC⟩ := hC
    simp only [lens] at hlen
    refine ⟨show 1 ≤ 11 from by decide, ?_⟩
    refine Tri.sub (Sub.of_eq (show _ = ([(0, .sc (.p 0 0))], [(0, chC 1 2 3 p0), (1, .ints .u8 p0.wait.length p0.wait), (2, .ints .u8 p0.got.length p0.got), (3, .vec .row p0.out)]) from rfl)) ?_
    refine Tri.subP ?_
    refine Tri.seq_region [] none [0] [0, 1, 2, 3] (TT ∧ True)
        ([(0, .sc (.p 0 0))], [(0, chC 1 2 3 p0), (1, .ints .u8 p0.wait.length p0.wait), (2, .ints .u8 p0.got.length p0.got), (3, .vec .row p0.out)])
        32 (by kernel_rfl) rfl (by kernel_rfl) (⟨tt, trivial⟩) ?_
    refine Tri.seq_region [] none [2] [0, 1, 2, 3] (TT ∧ (TT ∧ (TT ∧ (TT ∧ (TT ∧ (TT ∧ (((8 < 14) ∧ True) ∧ (TT ∧ (TT ∧ True)))))))))
        ([(2, .sc (.b p0.ready))], [(0, chC 1 2 3 p0), (1, .ints .u8 p0.wait.length p0.wait), (2, .ints .u8 p0.got.length p0.got), (3, .vec .row p0.out)])
        176 (by kernel_rfl) rfl (by kernel_rfl) (⟨tt, ⟨tt, ⟨tt, ⟨tt, ⟨tt, ⟨tt, ⟨⟨(by first | omega | (dsimp only; omega) | decide | (simp only [len_say]; omega)), trivial⟩, ⟨tt, ⟨tt, trivial⟩⟩⟩⟩⟩⟩⟩⟩⟩) ?_
    refine Tri.ret ?_
    repeat (first | refine thenP_ret ?_ | refine blkP_ret ?_ | refine countP_ret ?_ | refine joinP_ret ?_ | refine iterP_ret ?_)
    refine subP_done ?_
    exact endP.ret [(0, 0), (1, 1), (2, 2), (3, 3)] TT (by kernel_rfl) (by kernel_rfl) tt




noncomputable def FcPending (p0 : Ch) : Int :=
  ((p0.wait.length : Nat) : Int)

noncomputable def ScPendingc (p0 : Ch) (y0_n1 : Nat) (y0_n2 : Nat) (y0_n3 : Nat) (y0_m1 : Nat) (y0_m2 : Nat)  : Option (Prop × Ret) :=
  some ((chLens y0_n1 y0_n2 y0_n3 y0_m1 y0_m2 p0 ∧ True), ⟨.sc (.i .i64 (FcPending p0)), [some (chC 1 2 3 p0), some (.ints .u8 p0.wait.length p0.wait), some (.ints .u8 p0.got.length p0.got), some (.vec .row p0.out)]⟩)

noncomputable def ScPending : List AV → List Blk → Option (Prop × Ret)
  | [.sc (.p 0 0)], [.cells [.b y0_server, .i .i64 y0_state, .i .u32 y0_peer, .i .i64 y0_window, .i .i64 y0_most, .i .i64 y0_room, .sl 1 0 y0_n1 1 none, .sl 2 0 y0_n2 1 none, .b y0_ready, .b y0_e0, .b y0_e1, .b y0_c0, .b y0_c1, .sl 3 0 y0_n3 1 none], .ints .u8 y0_m1 y0_wait, .ints .u8 y0_m2 y0_got, .vec .row y0_out] => ScPendingc ⟨y0_server, y0_state, y0_peer, y0_window, y0_most, y0_room, y0_wait, y0_got, y0_ready, y0_e0, y0_e1, y0_c0, y0_c1, y0_out⟩ y0_n1 y0_n2 y0_n3 y0_m1 y0_m2
  | _, _ => none

noncomputable def BcPending : Bs := { P := Go.Proofs.Try.prog, G := noG, tab := tabOf [], n := 10 }

theorem BcPending.ok : BcPending.Ok := ⟨tabOk (P := Go.Proofs.Try.prog) (G := noG) (l := []) True.intro, mixed⟩

theorem KcPending : Known Go.Proofs.Try.prog noG 24 ⟨4, 0, ScPending⟩ := by
  refine Known.walk (B := BcPending) (fn := Go.Proofs.Try.f24) BcPending.ok (by kernel_rfl) rfl (by kernel_rfl) (by kernel_rfl) (by decide) (by decide) ?_
  · intro E args ks C r h hC hlen
    simp only at h
    unfold ScPending at h
    split at h
    rotate_left
    · cases h
    rename_i y0_server y0_state y0_peer y0_window y0_most y0_room y0_n1 y0_n2 y0_ready y0_e0 y0_e1 y0_c0 y0_c1 y0_n3 y0_m1 y0_wait y0_m2 y0_got y0_out
    generalize hp0 : (⟨y0_server, y0_state, y0_peer, y0_window, y0_most, y0_room, y0_wait, y0_got, y0_ready, y0_e0, y0_e1, y0_c0, y0_c1, y0_out⟩ : Ch) = p0 at h
    obtain rfl : y0_server = p0.server := by rw [← hp0]
    obtain rfl : y0_state = p0.state := by rw [← hp0]
    obtain rfl : y0_peer = p0.peer := by rw [← hp0]
    obtain rfl : y0_window = p0.window := by rw [← hp0]
    obtain rfl : y0_most = p0.most := by rw [← hp0]
    obtain rfl : y0_room = p0.room := by rw [← hp0]
    obtain rfl : y0_wait = p0.wait := by rw [← hp0]
    obtain rfl : y0_got = p0.got := by rw [← hp0]
    obtain rfl : y0_ready = p0.ready := by rw [← hp0]
    obtain rfl : y0_e0 = p0.e0 := by rw [← hp0]
    obtain rfl : y0_e1 = p0.e1 := by rw [← hp0]
    obtain rfl : y0_c0 = p0.c0 := by rw [← hp0]
    obtain rfl : y0_c1 = p0.c1 := by rw [← hp0]
    obtain rfl : y0_out = p0.out := by rw [← hp0]
    clear hp0
    unfold ScPendingc at h
    cases h
    obtain ⟨⟨rfl, rfl, rfl, rfl, rfl⟩, hC⟩ := hC
    simp only [lens] at hlen
    refine ⟨show 1 ≤ 10 from by decide, ?_⟩
    refine Tri.sub (Sub.of_eq (show _ = ([(0, .sc (.p 0 0))], [(0, chC 1 2 3 p0), (1, .ints .u8 p0.wait.length p0.wait), (2, .ints .u8 p0.got.length p0.got), (3, .vec .row p0.out)]) from rfl)) ?_
    refine Tri.subP ?_
    refine Tri.seq_region [] none [0] [0, 1, 2, 3] (TT ∧ True)
        ([(0, .sc (.p 0 0))], [(0, chC 1 2 3 p0), (1, .ints .u8 p0.wait.length p0.wait), (2, .ints .u8 p0.got.length p0.got), (3, .vec .row p0.out)])
        32 (by kernel_rfl) rfl (by kernel_rfl) (⟨tt, trivial⟩) ?_
    refine Tri.seq ?_
    refine Tri.seq_region [] none [4, 0] [0, 1, 2, 3] (TT ∧ (TT ∧ True))
        ([(4, .sc (.b false)), (0, .sc (.p 0 0))], [(0, chC 1 2 3 p0), (1, .ints .u8 p0.wait.length p0.wait), (2, .ints .u8 p0.got.length p0.got), (3, .vec .row p0.out)])
        64 (by kernel_rfl) rfl (by kernel_rfl) (⟨tt, ⟨tt, trivial⟩⟩) ?_
    refine Tri.cond_false (by kernel_rfl) ?_
    refine Tri.skip ?_
    change Tri _ _ _ _ _ _
    refine Tri.seq_region [] none [2] [0, 1, 2, 3] (TT ∧ (TT ∧ (TT ∧ (((6 < 14) ∧ True) ∧ (TT ∧ (TT ∧ True))))))
        ([(2, .sc (.i .i64 ((p0.wait.length : Nat) : Int)))], [(0, chC 1 2 3 p0), (1, .ints .u8 p0.wait.length p0.wait), (2, .ints .u8 p0.got.length p0.got), (3, .vec .row p0.out)])
        160 (by kernel_rfl) rfl (by kernel_rfl) (⟨tt, ⟨tt, ⟨tt, ⟨⟨(by first | omega | (dsimp only; omega) | decide | (simp only [len_say]; omega)), trivial⟩, ⟨tt, ⟨tt, trivial⟩⟩⟩⟩⟩⟩) ?_
    refine Tri.ret ?_
    repeat (first | refine thenP_ret ?_ | refine blkP_ret ?_ | refine countP_ret ?_ | refine joinP_ret ?_ | refine iterP_ret ?_)
    refine subP_done ?_
    exact endP.ret [(0, 0), (1, 1), (2, 2), (3, 3)] TT (by kernel_rfl) (by kernel_rfl) tt




noncomputable def ScOutNil : List AV → List Blk → Option (Prop × Ret)
  | [.sc (.nilp)], [] => some (True, ⟨.sc (.nils), []⟩)
  | _, _ => none

noncomputable def BcOutNil : Bs := { P := Go.Proofs.Try.prog, G := noG, tab := tabOf [], n := 14 }

theorem BcOutNil.ok : BcOutNil.Ok := ⟨tabOk (P := Go.Proofs.Try.prog) (G := noG) (l := []) True.intro, mixed⟩

theorem KcOutNil : Known Go.Proofs.Try.prog noG 16 ⟨0, 0, ScOutNil⟩ := by
  refine Known.walk (B := BcOutNil) (fn := Go.Proofs.Try.f16) BcOutNil.ok (by kernel_rfl) rfl (by kernel_rfl) (by kernel_rfl) (by decide) (by decide) ?_
  · intro E args ks C r h hC hlen
    simp only at h
    unfold ScOutNil at h
    split at h
    rotate_left
    · cases h
    skip
    cases h
    simp only [lens] at hlen
    refine ⟨show 1 ≤ 14 from by decide, ?_⟩
    refine Tri.sub (Sub.of_eq (show _ = ([(0, .sc (.nilp))], []) from rfl)) ?_
    refine Tri.seq_region [] none [0] [] (TT ∧ True)
        ([(0, .sc (.nilp))], [])
        32 (by kernel_rfl) rfl (by kernel_rfl) (⟨tt, trivial⟩) ?_
    refine Tri.seq ?_
    refine Tri.seq_region [] none [5, 0] [] (TT ∧ (TT ∧ True))
        ([(5, .sc (.b true)), (0, .sc (.nilp))], [])
        64 (by kernel_rfl) rfl (by kernel_rfl) (⟨tt, ⟨tt, trivial⟩⟩) ?_
    refine Tri.cond_true (by kernel_rfl) ?_
    refine Tri.seq_region [] none [2] [] (TT ∧ True)
        ([(2, .sc (.nils))], [])
        80 (by kernel_rfl) rfl (by kernel_rfl) (⟨tt, trivial⟩) ?_
    refine Tri.ret ?_
    repeat (first | refine thenP_ret ?_ | refine blkP_ret ?_ | refine countP_ret ?_ | refine joinP_ret ?_ | refine iterP_ret ?_)
    exact endP.ret [] TT (by kernel_rfl) (by kernel_rfl) tt




noncomputable def ScStateNil : List AV → List Blk → Option (Prop × Ret)
  | [.sc (.nilp)], [] => some (True, ⟨.sc (.i .i64 0), []⟩)
  | _, _ => none

noncomputable def BcStateNil : Bs := { P := Go.Proofs.Try.prog, G := noG, tab := tabOf [], n := 9 }

theorem BcStateNil.ok : BcStateNil.Ok := ⟨tabOk (P := Go.Proofs.Try.prog) (G := noG) (l := []) True.intro, mixed⟩

theorem KcStateNil : Known Go.Proofs.Try.prog noG 17 ⟨0, 0, ScStateNil⟩ := by
  refine Known.walk (B := BcStateNil) (fn := Go.Proofs.Try.f17) BcStateNil.ok (by kernel_rfl) rfl (by kernel_rfl) (by kernel_rfl) (by decide) (by decide) ?_
  · intro E args ks C r h hC hlen
    simp only at h
    unfold ScStateNil at h
    split at h
    rotate_left
    · cases h
    skip
    cases h
    simp only [lens] at hlen
    refine ⟨show 1 ≤ 9 from by decide, ?_⟩
    refine Tri.sub (Sub.of_eq (show _ = ([(0, .sc (.nilp))], []) from rfl)) ?_
    refine Tri.seq_region [] none [0] [] (TT ∧ True)
        ([(0, .sc (.nilp))], [])
        32 (by kernel_rfl) rfl (by kernel_rfl) (⟨tt, trivial⟩) ?_
    refine Tri.seq ?_
    refine Tri.seq_region [] none [4, 0] [] (TT ∧ (TT ∧ True))
        ([(4, .sc (.b true)), (0, .sc (.nilp))], [])
        64 (by kernel_rfl) rfl (by kernel_rfl) (⟨tt, ⟨tt, trivial⟩⟩) ?_
    refine Tri.cond_true (by kernel_rfl) ?_
    refine Tri.seq_region [] none [2] [] (TT ∧ True)
        ([(2, .sc (.i .i64 0))], [])
        80 (by kernel_rfl) rfl (by kernel_rfl) (⟨tt, trivial⟩) ?_
    refine Tri.ret ?_
    repeat (first | refine thenP_ret ?_ | refine blkP_ret ?_ | refine countP_ret ?_ | refine joinP_ret ?_ | refine iterP_ret ?_)
    exact endP.ret [] TT (by kernel_rfl) (by kernel_rfl) tt




noncomputable def ScReadyNil : List AV → List Blk → Option (Prop × Ret)
  | [.sc (.nilp)], [] => some (True, ⟨.sc (.b false), []⟩)
  | _, _ => none

noncomputable def BcReadyNil : Bs := { P := Go.Proofs.Try.prog, G := noG, tab := tabOf [], n := 11 }

theorem BcReadyNil.ok : BcReadyNil.Ok := ⟨tabOk (P := Go.Proofs.Try.prog) (G := noG) (l := []) True.intro, mixed⟩

theorem KcReadyNil : Known Go.Proofs.Try.prog noG 18 ⟨0, 0, ScReadyNil⟩ := by
  refine Known.walk (B := BcReadyNil) (fn := Go.Proofs.Try.f18) BcReadyNil.ok (by kernel_rfl) rfl (by kernel_rfl) (by kernel_rfl) (by decide) (by decide) ?_
  · intro E args ks C r h hC hlen
    simp only at h
    unfold ScReadyNil at h
    split at h
    rotate_left
    · cases h
    skip
    cases h
    simp only [lens] at hlen
    refine ⟨show 1 ≤ 11 from by decide, ?_⟩
    refine Tri.sub (Sub.of_eq (show _ = ([(0, .sc (.nilp))], []) from rfl)) ?_
    refine Tri.seq_region [] none [0] [] (TT ∧ True)
        ([(0, .sc (.nilp))], [])
        32 (by kernel_rfl) rfl (by kernel_rfl) (⟨tt, trivial⟩) ?_
    refine Tri.seq_region [] none [2] [] (TT ∧ (TT ∧ (TT ∧ (TT ∧ (TT ∧ (TT ∧ (TT ∧ (TT ∧ (TT ∧ True)))))))))
        ([(2, .sc (.b false))], [])
        176 (by kernel_rfl) rfl (by kernel_rfl) (⟨tt, ⟨tt, ⟨tt, ⟨tt, ⟨tt, ⟨tt, ⟨tt, ⟨tt, ⟨tt, trivial⟩⟩⟩⟩⟩⟩⟩⟩⟩) ?_
    refine Tri.ret ?_
    repeat (first | refine thenP_ret ?_ | refine blkP_ret ?_ | refine countP_ret ?_ | refine joinP_ret ?_ | refine iterP_ret ?_)
    exact endP.ret [] TT (by kernel_rfl) (by kernel_rfl) tt




noncomputable def ScPendingNil : List AV → List Blk → Option (Prop × Ret)
  | [.sc (.nilp)], [] => some (True, ⟨.sc (.i .i64 0), []⟩)
  | _, _ => none

noncomputable def BcPendingNil : Bs := { P := Go.Proofs.Try.prog, G := noG, tab := tabOf [], n := 10 }

theorem BcPendingNil.ok : BcPendingNil.Ok := ⟨tabOk (P := Go.Proofs.Try.prog) (G := noG) (l := []) True.intro, mixed⟩

theorem KcPendingNil : Known Go.Proofs.Try.prog noG 24 ⟨0, 0, ScPendingNil⟩ := by
  refine Known.walk (B := BcPendingNil) (fn := Go.Proofs.Try.f24) BcPendingNil.ok (by kernel_rfl) rfl (by kernel_rfl) (by kernel_rfl) (by decide) (by decide) ?_
  · intro E args ks C r h hC hlen
    simp only at h
    unfold ScPendingNil at h
    split at h
    rotate_left
    · cases h
    skip
    cases h
    simp only [lens] at hlen
    refine ⟨show 1 ≤ 10 from by decide, ?_⟩
    refine Tri.sub (Sub.of_eq (show _ = ([(0, .sc (.nilp))], []) from rfl)) ?_
    refine Tri.seq_region [] none [0] [] (TT ∧ True)
        ([(0, .sc (.nilp))], [])
        32 (by kernel_rfl) rfl (by kernel_rfl) (⟨tt, trivial⟩) ?_
    refine Tri.seq ?_
    refine Tri.seq_region [] none [4, 0] [] (TT ∧ (TT ∧ True))
        ([(4, .sc (.b true)), (0, .sc (.nilp))], [])
        64 (by kernel_rfl) rfl (by kernel_rfl) (⟨tt, ⟨tt, trivial⟩⟩) ?_
    refine Tri.cond_true (by kernel_rfl) ?_
    refine Tri.seq_region [] none [2] [] (TT ∧ True)
        ([(2, .sc (.i .i64 0))], [])
        80 (by kernel_rfl) rfl (by kernel_rfl) (⟨tt, trivial⟩) ?_
    refine Tri.ret ?_
    repeat (first | refine thenP_ret ?_ | refine blkP_ret ?_ | refine countP_ret ?_ | refine joinP_ret ?_ | refine iterP_ret ?_)
    exact endP.ret [] TT (by kernel_rfl) (by kernel_rfl) tt




noncomputable def ScBeginNil : List AV → List Blk → Option (Prop × Ret)
  | [.sc (.nilp)], [] => some (True, ⟨.sc (.i .i64 8), []⟩)
  | _, _ => none

noncomputable def BcBeginNil : Bs := { P := Go.Proofs.Try.prog, G := noG, tab := tabOf [], n := 31 }

theorem BcBeginNil.ok : BcBeginNil.Ok := ⟨tabOk (P := Go.Proofs.Try.prog) (G := noG) (l := []) True.intro, mixed⟩

theorem KcBeginNil : Known Go.Proofs.Try.prog noG 10 ⟨0, 0, ScBeginNil⟩ := by
  refine Known.walk (B := BcBeginNil) (fn := Go.Proofs.Try.f10) BcBeginNil.ok (by kernel_rfl) rfl (by kernel_rfl) (by kernel_rfl) (by decide) (by decide) ?_
  · intro E args ks C r h hC hlen
    simp only at h
    unfold ScBeginNil at h
    split at h
    rotate_left
    · cases h
    skip
    cases h
    simp only [lens] at hlen
    refine ⟨show 1 ≤ 31 from by decide, ?_⟩
    refine Tri.sub (Sub.of_eq (show _ = ([(0, .sc (.nilp))], []) from rfl)) ?_
    refine Tri.seq_region [] none [0] [] (TT ∧ True)
        ([(0, .sc (.nilp))], [])
        32 (by kernel_rfl) rfl (by kernel_rfl) (⟨tt, trivial⟩) ?_
    refine Tri.seq ?_
    refine Tri.seq_region [] none [17, 0] [] (TT ∧ (TT ∧ (TT ∧ (TT ∧ (TT ∧ (TT ∧ (TT ∧ (TT ∧ (TT ∧ (TT ∧ (TT ∧ (TT ∧ (TT ∧ (TT ∧ (TT ∧ True)))))))))))))))
        ([(17, .sc (.b true)), (0, .sc (.nilp))], [])
        272 (by kernel_rfl) rfl (by kernel_rfl) (⟨tt, ⟨tt, ⟨tt, ⟨tt, ⟨tt, ⟨tt, ⟨tt, ⟨tt, ⟨tt, ⟨tt, ⟨tt, ⟨tt, ⟨tt, ⟨tt, ⟨tt, trivial⟩⟩⟩⟩⟩⟩⟩⟩⟩⟩⟩⟩⟩⟩⟩) ?_
    refine Tri.cond_true (by kernel_rfl) ?_
    refine Tri.seq_region [] none [2] [] (TT ∧ True)
        ([(2, .sc (.i .i64 8))], [])
        288 (by kernel_rfl) rfl (by kernel_rfl) (⟨tt, trivial⟩) ?_
    refine Tri.ret ?_
    repeat (first | refine thenP_ret ?_ | refine blkP_ret ?_ | refine countP_ret ?_ | refine joinP_ret ?_ | refine iterP_ret ?_)
    exact endP.ret [] TT (by kernel_rfl) (by kernel_rfl) tt




noncomputable def ScRecvNil : List AV → List Blk → Option (Prop × Ret)
  | [.sc (.nilp)], [] => some (True, ⟨.sc (.nils), []⟩)
  | _, _ => none

noncomputable def BcRecvNil : Bs := { P := Go.Proofs.Try.prog, G := noG, tab := tabOf [], n := 49 }

theorem BcRecvNil.ok : BcRecvNil.Ok := ⟨tabOk (P := Go.Proofs.Try.prog) (G := noG) (l := []) True.intro, mixed⟩

theorem KcRecvNil : Known Go.Proofs.Try.prog noG 26 ⟨0, 0, ScRecvNil⟩ := by
  refine Known.walk (B := BcRecvNil) (fn := Go.Proofs.Try.f26) BcRecvNil.ok (by kernel_rfl) rfl (by kernel_rfl) (by kernel_rfl) (by decide) (by decide) ?_
  · intro E args ks C r h hC hlen
    simp only at h
    unfold ScRecvNil at h
    split at h
    rotate_left
    · cases h
    skip
    cases h
    simp only [lens] at hlen
    refine ⟨show 1 ≤ 49 from by decide, ?_⟩
    refine Tri.sub (Sub.of_eq (show _ = ([(0, .sc (.nilp))], []) from rfl)) ?_
    refine Tri.seq_region [] none [0] [] (TT ∧ True)
        ([(0, .sc (.nilp))], [])
        32 (by kernel_rfl) rfl (by kernel_rfl) (⟨tt, trivial⟩) ?_
    refine Tri.seq ?_
    refine Tri.seq_region [] none [6, 0] [] (TT ∧ (TT ∧ True))
        ([(6, .sc (.b true)), (0, .sc (.nilp))], [])
        64 (by kernel_rfl) rfl (by kernel_rfl) (⟨tt, ⟨tt, trivial⟩⟩) ?_
    refine Tri.cond_true (by kernel_rfl) ?_
    refine Tri.seq_region [] none [2] [] (TT ∧ True)
        ([(2, .sc (.nils))], [])
        80 (by kernel_rfl) rfl (by kernel_rfl) (⟨tt, trivial⟩) ?_
    refine Tri.ret ?_
    repeat (first | refine thenP_ret ?_ | refine blkP_ret ?_ | refine countP_ret ?_ | refine joinP_ret ?_ | refine iterP_ret ?_)
    exact endP.ret [] TT (by kernel_rfl) (by kernel_rfl) tt




noncomputable def ScCloseNil : List AV → List Blk → Option (Prop × Ret)
  | [.sc (.nilp)], [] => some (True, ⟨.sc (.i .i64 8), []⟩)
  | _, _ => none

noncomputable def BcCloseNil : Bs := { P := Go.Proofs.Try.prog, G := noG, tab := tabOf [], n := 21 }

theorem BcCloseNil.ok : BcCloseNil.Ok := ⟨tabOk (P := Go.Proofs.Try.prog) (G := noG) (l := []) True.intro, mixed⟩

theorem KcCloseNil : Known Go.Proofs.Try.prog noG 27 ⟨0, 0, ScCloseNil⟩ := by
  refine Known.walk (B := BcCloseNil) (fn := Go.Proofs.Try.f27) BcCloseNil.ok (by kernel_rfl) rfl (by kernel_rfl) (by kernel_rfl) (by decide) (by decide) ?_
  · intro E args ks C r h hC hlen
    simp only at h
    unfold ScCloseNil at h
    split at h
    rotate_left
    · cases h
    skip
    cases h
    simp only [lens] at hlen
    refine ⟨show 1 ≤ 21 from by decide, ?_⟩
    refine Tri.sub (Sub.of_eq (show _ = ([(0, .sc (.nilp))], []) from rfl)) ?_
    refine Tri.seq_region [] none [0] [] (TT ∧ True)
        ([(0, .sc (.nilp))], [])
        32 (by kernel_rfl) rfl (by kernel_rfl) (⟨tt, trivial⟩) ?_
    refine Tri.seq ?_
    refine Tri.seq_region [] none [18, 0] [] (TT ∧ (TT ∧ (TT ∧ (TT ∧ (TT ∧ (TT ∧ (TT ∧ (TT ∧ (TT ∧ (TT ∧ (TT ∧ (TT ∧ (TT ∧ (TT ∧ (TT ∧ (TT ∧ True))))))))))))))))
        ([(18, .sc (.b true)), (0, .sc (.nilp))], [])
        288 (by kernel_rfl) rfl (by kernel_rfl) (⟨tt, ⟨tt, ⟨tt, ⟨tt, ⟨tt, ⟨tt, ⟨tt, ⟨tt, ⟨tt, ⟨tt, ⟨tt, ⟨tt, ⟨tt, ⟨tt, ⟨tt, ⟨tt, trivial⟩⟩⟩⟩⟩⟩⟩⟩⟩⟩⟩⟩⟩⟩⟩⟩) ?_
    refine Tri.cond_true (by kernel_rfl) ?_
    refine Tri.seq_region [] none [2] [] (TT ∧ True)
        ([(2, .sc (.i .i64 8))], [])
        304 (by kernel_rfl) rfl (by kernel_rfl) (⟨tt, trivial⟩) ?_
    refine Tri.ret ?_
    repeat (first | refine thenP_ret ?_ | refine blkP_ret ?_ | refine countP_ret ?_ | refine joinP_ret ?_ | refine iterP_ret ?_)
    exact endP.ret [] TT (by kernel_rfl) (by kernel_rfl) tt




noncomputable def ScSendNil : List AV → List Blk → Option (Prop × Ret)
  | [.sc (.nilp), .sc (.ro .u8 p1)], [] => some (True, ⟨.sc (.i .i64 8), []⟩)
  | _, _ => none

noncomputable def BcSendNil : Bs := { P := Go.Proofs.Try.prog, G := noG, tab := tabOf [], n := 46 }

theorem BcSendNil.ok : BcSendNil.Ok := ⟨tabOk (P := Go.Proofs.Try.prog) (G := noG) (l := []) True.intro, mixed⟩

theorem KcSendNil : Known Go.Proofs.Try.prog noG 19 ⟨0, 0, ScSendNil⟩ := by
  refine Known.walk (B := BcSendNil) (fn := Go.Proofs.Try.f19) BcSendNil.ok (by kernel_rfl) rfl (by kernel_rfl) (by kernel_rfl) (by decide) (by decide) ?_
  · intro E args ks C r h hC hlen
    simp only at h
    unfold ScSendNil at h
    split at h
    rotate_left
    · cases h
    rename_i p1
    cases h
    simp only [lens] at hlen
    refine ⟨show 2 ≤ 46 from by decide, ?_⟩
    refine Tri.sub (Sub.of_eq (show _ = ([(0, .sc (.nilp)), (1, .sc (.ro .u8 p1))], []) from rfl)) ?_
    refine Tri.seq_region [] none [0, 1] [] (TT ∧ True)
        ([(0, .sc (.nilp)), (1, .sc (.ro .u8 p1))], [])
        32 (by kernel_rfl) rfl (by kernel_rfl) (⟨tt, trivial⟩) ?_
    refine Tri.seq ?_
    refine Tri.seq_region [] none [34, 0, 1] [] (TT ∧ (TT ∧ (TT ∧ (TT ∧ (TT ∧ (TT ∧ (TT ∧ (TT ∧ (TT ∧ (TT ∧ (TT ∧ (TT ∧ (TT ∧ (TT ∧ (TT ∧ (TT ∧ (TT ∧ (TT ∧ (TT ∧ (TT ∧ (TT ∧ (TT ∧ (TT ∧ (TT ∧ (TT ∧ (TT ∧ (TT ∧ (TT ∧ (TT ∧ (TT ∧ True))))))))))))))))))))))))))))))
        ([(34, .sc (.b true)), (0, .sc (.nilp)), (1, .sc (.ro .u8 p1))], [])
        512 (by kernel_rfl) rfl (by kernel_rfl) (⟨tt, ⟨tt, ⟨tt, ⟨tt, ⟨tt, ⟨tt, ⟨tt, ⟨tt, ⟨tt, ⟨tt, ⟨tt, ⟨tt, ⟨tt, ⟨tt, ⟨tt, ⟨tt, ⟨tt, ⟨tt, ⟨tt, ⟨tt, ⟨tt, ⟨tt, ⟨tt, ⟨tt, ⟨tt, ⟨tt, ⟨tt, ⟨tt, ⟨tt, ⟨tt, trivial⟩⟩⟩⟩⟩⟩⟩⟩⟩⟩⟩⟩⟩⟩⟩⟩⟩⟩⟩⟩⟩⟩⟩⟩⟩⟩⟩⟩⟩⟩) ?_
    refine Tri.cond_true (by kernel_rfl) ?_
    refine Tri.seq_region [] none [4] [] (TT ∧ True)
        ([(4, .sc (.i .i64 8))], [])
        528 (by kernel_rfl) rfl (by kernel_rfl) (⟨tt, trivial⟩) ?_
    refine Tri.ret ?_
    repeat (first | refine thenP_ret ?_ | refine blkP_ret ?_ | refine countP_ret ?_ | refine joinP_ret ?_ | refine iterP_ret ?_)
    exact endP.ret [] TT (by kernel_rfl) (by kernel_rfl) tt




noncomputable def ScTakeNil : List AV → List Blk → Option (Prop × Ret)
  | [.sc (.nilp), .sc (.ro .u8 p1)], [] => some (True, ⟨.sc (.i .i64 3), []⟩)
  | _, _ => none

noncomputable def BcTakeNil : Bs := { P := Go.Proofs.Try.prog, G := noG, tab := tabOf [], n := 69 }

theorem BcTakeNil.ok : BcTakeNil.Ok := ⟨tabOk (P := Go.Proofs.Try.prog) (G := noG) (l := []) True.intro, mixed⟩

theorem KcTakeNil : Known Go.Proofs.Try.prog noG 12 ⟨0, 0, ScTakeNil⟩ := by
  refine Known.walk (B := BcTakeNil) (fn := Go.Proofs.Try.f12) BcTakeNil.ok (by kernel_rfl) rfl (by kernel_rfl) (by kernel_rfl) (by decide) (by decide) ?_
  · intro E args ks C r h hC hlen
    simp only at h
    unfold ScTakeNil at h
    split at h
    rotate_left
    · cases h
    rename_i p1
    cases h
    simp only [lens] at hlen
    refine ⟨show 2 ≤ 69 from by decide, ?_⟩
    refine Tri.sub (Sub.of_eq (show _ = ([(0, .sc (.nilp)), (1, .sc (.ro .u8 p1))], []) from rfl)) ?_
    refine Tri.seq_region [] none [0, 1] [] (TT ∧ True)
        ([(0, .sc (.nilp)), (1, .sc (.ro .u8 p1))], [])
        32 (by kernel_rfl) rfl (by kernel_rfl) (⟨tt, trivial⟩) ?_
    refine Tri.seq ?_
    refine Tri.seq_region [] none [14, 0, 1] [] (TT ∧ (TT ∧ (TT ∧ (TT ∧ (TT ∧ (TT ∧ (TT ∧ True)))))))
        ([(14, .sc (.b true)), (0, .sc (.nilp)), (1, .sc (.ro .u8 p1))], [])
        144 (by kernel_rfl) rfl (by kernel_rfl) (⟨tt, ⟨tt, ⟨tt, ⟨tt, ⟨tt, ⟨tt, ⟨tt, trivial⟩⟩⟩⟩⟩⟩⟩) ?_
    refine Tri.cond_true (by kernel_rfl) ?_
    refine Tri.seq_region [] none [4] [] (TT ∧ True)
        ([(4, .sc (.i .i64 3))], [])
        160 (by kernel_rfl) rfl (by kernel_rfl) (⟨tt, trivial⟩) ?_
    refine Tri.ret ?_
    repeat (first | refine thenP_ret ?_ | refine blkP_ret ?_ | refine countP_ret ?_ | refine joinP_ret ?_ | refine iterP_ret ?_)
    exact endP.ret [] TT (by kernel_rfl) (by kernel_rfl) tt




noncomputable def Fcsay (p0 : Ch) (p1 : List Int) : Ch :=
  ({p0 with out := p0.out ++ [p1]} : Ch)

noncomputable def Scsayc (p0 : Ch) (y0_n1 : Nat) (y0_n2 : Nat) (y0_n3 : Nat) (y0_m1 : Nat) (y0_m2 : Nat) (p1 : List Int) : Option (Prop × Ret) :=
  some ((chLens y0_n1 y0_n2 y0_n3 y0_m1 y0_m2 p0 ∧ (p0.out.length ≤ 1000000000)), ⟨.tup [], [some (chC 4 5 6 (Fcsay p0 p1)), none, none, none, some (.ints .u8 ((Fcsay p0 p1).wait.length) ((Fcsay p0 p1).wait)), some (.ints .u8 ((Fcsay p0 p1).got.length) ((Fcsay p0 p1).got)), some (.vec .row ((Fcsay p0 p1).out))]⟩)

noncomputable def Scsay : List AV → List Blk → Option (Prop × Ret)
  | [.sc (.p 0 0), .sc (.ro .u8 p1)], [.cells [.b y0_server, .i .i64 y0_state, .i .u32 y0_peer, .i .i64 y0_window, .i .i64 y0_most, .i .i64 y0_room, .sl 1 0 y0_n1 1 none, .sl 2 0 y0_n2 1 none, .b y0_ready, .b y0_e0, .b y0_e1, .b y0_c0, .b y0_c1, .sl 3 0 y0_n3 1 none], .ints .u8 y0_m1 y0_wait, .ints .u8 y0_m2 y0_got, .vec .row y0_out] => Scsayc ⟨y0_server, y0_state, y0_peer, y0_window, y0_most, y0_room, y0_wait, y0_got, y0_ready, y0_e0, y0_e1, y0_c0, y0_c1, y0_out⟩ y0_n1 y0_n2 y0_n3 y0_m1 y0_m2 p1
  | _, _ => none

noncomputable def Bcsay : Bs := { P := Go.Proofs.Try.prog, G := noG, tab := tabOf [], n := 14 }

theorem Bcsay.ok : Bcsay.Ok := ⟨tabOk (P := Go.Proofs.Try.prog) (G := noG) (l := []) True.intro, mixed⟩

theorem Kcsay : Known Go.Proofs.Try.prog noG 28 ⟨4, 3, Scsay⟩ := by
  refine Known.walk (B := Bcsay) (fn := Go.Proofs.Try.f28) Bcsay.ok (by kernel_rfl) rfl (by kernel_rfl) (by kernel_rfl) (by decide) (by decide) ?_
  · intro E args ks C r h hC hlen
    simp only at h
    unfold Scsay at h
    split at h
    rotate_left
    · cases h
    rename_i p1 y0_server y0_state y0_peer y0_window y0_most y0_room y0_n1 y0_n2 y0_ready y0_e0 y0_e1 y0_c0 y0_c1 y0_n3 y0_m1 y0_wait y0_m2 y0_got y0_out
    generalize hp0 : (⟨y0_server, y0_state, y0_peer, y0_window, y0_most, y0_room, y0_wait, y0_got, y0_ready, y0_e0, y0_e1, y0_c0, y0_c1, y0_out⟩ : Ch) = p0 at h
    obtain rfl : y0_server = p0.server := by rw [← hp0]
    obtain rfl : y0_state = p0.state := by rw [← hp0]
    obtain rfl : y0_peer = p0.peer := by rw [← hp0]
    obtain rfl : y0_window = p0.window := by rw [← hp0]
    obtain rfl : y0_most = p0.most := by rw [← hp0]
    obtain rfl : y0_room = p0.room := by rw [← hp0]
    obtain rfl : y0_wait = p0.wait := by rw [← hp0]
    obtain rfl : y0_got = p0.got := by rw [← hp0]
    obtain rfl : y0_ready = p0.ready := by rw [← hp0]
    obtain rfl : y0_e0 = p0.e0 := by rw [← hp0]
    obtain rfl : y0_e1 = p0.e1 := by rw [← hp0]
    obtain rfl : y0_c0 = p0.c0 := by rw [← hp0]
    obtain rfl : y0_c1 = p0.c1 := by rw [← hp0]
    obtain rfl : y0_out = p0.out := by rw [← hp0]
    clear hp0
    unfold Scsayc at h
    cases h
    obtain ⟨⟨rfl, rfl, rfl, rfl, rfl⟩, hC⟩ := hC
    simp only [lens] at hlen
    refine ⟨show 2 ≤ 14 from by decide, ?_⟩
    refine Tri.sub (Sub.of_eq (show _ = ([(0, .sc (.p 0 0)), (1, .sc (.ro .u8 p1))], [(0, chC 1 2 3 p0), (1, .ints .u8 p0.wait.length p0.wait), (2, .ints .u8 p0.got.length p0.got), (3, .vec .row p0.out)]) from rfl)) ?_
    refine Tri.subP ?_
    refine Tri.region' [] none [] [0, 128, 1, 2] (TT ∧ (TT ∧ (TT ∧ (TT ∧ (((13 < 14) ∧ True) ∧ (TT ∧ ((((((0 < 1) ∧ (1 = 1)) ∧ True) ∧ ((1 * 1 ≤ 16777216) ∧ (1 = 1))) ∧ True) ∧ (((((((0 + 1 ≤ 1) ∧ (1 = 1)) ∧ ((0 < 1) ∧ (((p0.out.length + 1) * 24 ≤ 140737488355328) ∧ (p0.out.length + 1 ≤ 140737488355328)))) ∧ (1 = 1 * 1)) ∧ ((1 = 1) ∧ (0 + p0.out.length * 1 = p0.out.length))) ∧ True) ∧ (TT ∧ (TT ∧ ((((13 < 14) ∧ (1 = 1)) ∧ True) ∧ True)))))))))))
        ([], [(0, .cells [.b p0.server, .i .i64 p0.state, .i .u32 p0.peer, .i .i64 p0.window, .i .i64 p0.most, .i .i64 p0.room, .sl 1 0 p0.wait.length 1 none, .sl 2 0 p0.got.length 1 none, .b p0.ready, .b p0.e0, .b p0.e1, .b p0.c0, .b p0.c1, .sl 128 0 (p0.out.length + 1) 1 none]), (128, .vec .row (p0.out ++ [p1])), (1, .ints .u8 p0.wait.length p0.wait), (2, .ints .u8 p0.got.length p0.got)])
        192 (by kernel_rfl) rfl (by kernel_rfl) (⟨tt, ⟨tt, ⟨tt, ⟨tt, ⟨⟨(by first | omega | (dsimp only; omega) | decide | (simp only [len_say]; omega)), trivial⟩, ⟨tt, ⟨⟨⟨⟨⟨(by first | omega | (dsimp only; omega) | decide | (simp only [len_say]; omega)), (rfl)⟩, trivial⟩, ⟨(by first | omega | (dsimp only; omega) | decide | (simp only [len_say]; omega)), (rfl)⟩⟩, trivial⟩, ⟨⟨⟨⟨⟨⟨(by first | omega | (dsimp only; omega) | decide | (simp only [len_say]; omega)), (rfl)⟩, ⟨(by first | omega | (dsimp only; omega) | decide | (simp only [len_say]; omega)), ⟨(by first | omega | (dsimp only; omega) | decide | (simp only [len_say]; omega)), (by first | omega | (dsimp only; omega) | decide | (simp only [len_say]; omega))⟩⟩⟩, (by first | omega | (dsimp only; omega) | decide | (simp only [len_say]; omega))⟩, ⟨(rfl), (by first | omega | (dsimp only; omega) | decide | (simp only [len_say]; omega))⟩⟩, trivial⟩, ⟨tt, ⟨tt, ⟨⟨⟨(by first | omega | (dsimp only; omega) | decide | (simp only [len_say]; omega)), (rfl)⟩, trivial⟩, trivial⟩⟩⟩⟩⟩⟩⟩⟩⟩⟩⟩) ?_
    show subP _ _ _ _
    refine subP_sub (Sub.of_eq (congrArg (fun (qq : Nat) => (([], [(0, .cells [.b p0.server, .i .i64 p0.state, .i .u32 p0.peer, .i .i64 p0.window, .i .i64 p0.most, .i .i64 p0.room, .sl 1 0 p0.wait.length 1 none, .sl 2 0 p0.got.length 1 none, .b p0.ready, .b p0.e0, .b p0.e1, .b p0.c0, .b p0.c1, .sl 128 0 qq 1 none]), (128, .vec .row (p0.out ++ [p1])), (1, .ints .u8 p0.wait.length p0.wait), (2, .ints .u8 p0.got.length p0.got)]) : St)) (show p0.out.length + 1 = (p0.out ++ [p1]).length from by simp only [List.length_append, List.length_drop, List.length_cons, List.length_nil, Nat.zero_add, Nat.sub_zero, Nat.reduceAdd, bytesI_length]))) ?_
    show subP _ _ _ ([], [(0, .cells [.b p0.server, .i .i64 p0.state, .i .u32 p0.peer, .i .i64 p0.window, .i .i64 p0.most, .i .i64 p0.room, .sl 1 0 p0.wait.length 1 none, .sl 2 0 p0.got.length 1 none, .b p0.ready, .b p0.e0, .b p0.e1, .b p0.c0, .b p0.c1, .sl 128 0 ((p0.out ++ [p1]).length) 1 none]), (128, .vec .row (p0.out ++ [p1])), (1, .ints .u8 p0.wait.length p0.wait), (2, .ints .u8 p0.got.length p0.got)])
    repeat (first | refine thenP_ret ?_ | refine blkP_ret ?_ | refine countP_ret ?_ | refine joinP_ret ?_ | refine iterP_ret ?_)
    refine subP_done ?_
    exact endP.nret [(0, 0), (1, 4), (2, 5), (128, 6)] True (by kernel_rfl) (by kernel_rfl) trivial

theorem len_say (p : Ch) (q : List Int) : (Fcsay p q).out.length = p.out.length + 1 := by
  show (p.out ++ [q]).length = _
  rw [List.length_append]
  rfl


noncomputable def Fcto (p0 : Ch) (p1 : Int) : List Int :=
  (FwwU32 1 [p1] p0.peer)

noncomputable def Sctoc (p0 : Ch) (y0_n1 : Nat) (y0_n2 : Nat) (y0_n3 : Nat) (y0_m1 : Nat) (y0_m2 : Nat) (p1 : Int) : Option (Prop × Ret) :=
  some ((chLens y0_n1 y0_n2 y0_n3 y0_m1 y0_m2 p0 ∧ True), ⟨.sc (.sl 4 0 (1 + 4) 1 none), [some (chC 1 2 3 p0), some (.ints .u8 p0.wait.length p0.wait), some (.ints .u8 p0.got.length p0.got), some (.vec .row p0.out), some (.ints .u8 (1 + 4) (Fcto p0 p1))]⟩)

noncomputable def Scto : List AV → List Blk → Option (Prop × Ret)
  | [.sc (.p 0 0), .sc (.i .u8 p1)], [.cells [.b y0_server, .i .i64 y0_state, .i .u32 y0_peer, .i .i64 y0_window, .i .i64 y0_most, .i .i64 y0_room, .sl 1 0 y0_n1 1 none, .sl 2 0 y0_n2 1 none, .b y0_ready, .b y0_e0, .b y0_e1, .b y0_c0, .b y0_c1, .sl 3 0 y0_n3 1 none], .ints .u8 y0_m1 y0_wait, .ints .u8 y0_m2 y0_got, .vec .row y0_out] => Sctoc ⟨y0_server, y0_state, y0_peer, y0_window, y0_most, y0_room, y0_wait, y0_got, y0_ready, y0_e0, y0_e1, y0_c0, y0_c1, y0_out⟩ y0_n1 y0_n2 y0_n3 y0_m1 y0_m2 p1
  | _, _ => none

noncomputable def Bcto : Bs := { P := Go.Proofs.Try.prog, G := noG, tab := tabOf [⟨29, 128, [.io, .val], [], [48], ⟨1, 1, SwwU32⟩, false⟩], n := 12 }

theorem Bcto.ok : Bcto.Ok := ⟨tabOk (P := Go.Proofs.Try.prog) (G := noG) (l := [⟨29, 128, [.io, .val], [], [48], ⟨1, 1, SwwU32⟩, false⟩]) (And.intro KwwU32 True.intro), mixed⟩

theorem Kcto : Known Go.Proofs.Try.prog noG 40 ⟨4, 1, Scto⟩ := by
  refine Known.walk (B := Bcto) (fn := Go.Proofs.Try.f40) Bcto.ok (by kernel_rfl) rfl (by kernel_rfl) (by kernel_rfl) (by decide) (by decide) ?_
  · intro E args ks C r h hC hlen
    simp only at h
    unfold Scto at h
    split at h
    rotate_left
    · cases h
    rename_i p1 y0_server y0_state y0_peer y0_window y0_most y0_room y0_n1 y0_n2 y0_ready y0_e0 y0_e1 y0_c0 y0_c1 y0_n3 y0_m1 y0_wait y0_m2 y0_got y0_out
    generalize hp0 : (⟨y0_server, y0_state, y0_peer, y0_window, y0_most, y0_room, y0_wait, y0_got, y0_ready, y0_e0, y0_e1, y0_c0, y0_c1, y0_out⟩ : Ch) = p0 at h
    obtain rfl : y0_server = p0.server := by rw [← hp0]
    obtain rfl : y0_state = p0.state := by rw [← hp0]
    obtain rfl : y0_peer = p0.peer := by rw [← hp0]
    obtain rfl : y0_window = p0.window := by rw [← hp0]
    obtain rfl : y0_most = p0.most := by rw [← hp0]
    obtain rfl : y0_room = p0.room := by rw [← hp0]
    obtain rfl : y0_wait = p0.wait := by rw [← hp0]
    obtain rfl : y0_got = p0.got := by rw [← hp0]
    obtain rfl : y0_ready = p0.ready := by rw [← hp0]
    obtain rfl : y0_e0 = p0.e0 := by rw [← hp0]
    obtain rfl : y0_e1 = p0.e1 := by rw [← hp0]
    obtain rfl : y0_c0 = p0.c0 := by rw [← hp0]
    obtain rfl : y0_c1 = p0.c1 := by rw [← hp0]
    obtain rfl : y0_out = p0.out := by rw [← hp0]
    clear hp0
    unfold Sctoc at h
    cases h
    obtain ⟨⟨rfl, rfl, rfl, rfl, rfl⟩, hC⟩ := hC
    simp only [lens] at hlen
    refine ⟨show 2 ≤ 12 from by decide, ?_⟩
    refine Tri.sub (Sub.of_eq (show _ = ([(0, .sc (.p 0 0)), (1, .sc (.i .u8 p1))], [(0, chC 1 2 3 p0), (1, .ints .u8 p0.wait.length p0.wait), (2, .ints .u8 p0.got.length p0.got), (3, .vec .row p0.out)]) from rfl)) ?_
    refine Tri.subP ?_
    refine Tri.seq_region [] none [0, 1] [0, 1, 2, 3] (TT ∧ True)
        ([(0, .sc (.p 0 0)), (1, .sc (.i .u8 p1))], [(0, chC 1 2 3 p0), (1, .ints .u8 p0.wait.length p0.wait), (2, .ints .u8 p0.got.length p0.got), (3, .vec .row p0.out)])
        32 (by kernel_rfl) rfl (by kernel_rfl) (⟨tt, trivial⟩) ?_
    refine Tri.seq_region [] none [4] [128, 0, 1, 2, 3] (TT ∧ ((((((0 < 1) ∧ (1 = 1)) ∧ True) ∧ ((1 * 1 ≤ 16777216) ∧ (1 = 1))) ∧ True) ∧ (TT ∧ (TT ∧ (TT ∧ (((2 < 14) ∧ True) ∧ (((True ∧ ((1 = 1) ∧ (1 ≤ 1000000000))) ∧ True) ∧ (TT ∧ True))))))))
        ([(4, .sc (.sl 128 0 (1 + 4) 1 none))], [(128, .ints .u8 (1 + 4) (FwwU32 1 [p1] p0.peer)), (0, chC 1 2 3 p0), (1, .ints .u8 p0.wait.length p0.wait), (2, .ints .u8 p0.got.length p0.got), (3, .vec .row p0.out)])
        160 (by kernel_rfl) rfl (by kernel_rfl) (⟨tt, ⟨⟨⟨⟨⟨(by first | omega | (dsimp only; omega) | decide | (simp only [len_say]; omega)), (rfl)⟩, trivial⟩, ⟨(by first | omega | (dsimp only; omega) | decide | (simp only [len_say]; omega)), (rfl)⟩⟩, trivial⟩, ⟨tt, ⟨tt, ⟨tt, ⟨⟨(by first | omega | (dsimp only; omega) | decide | (simp only [len_say]; omega)), trivial⟩, ⟨⟨⟨trivial, ⟨(rfl), (by first | omega | (dsimp only; omega) | decide | (simp only [len_say]; omega))⟩⟩, trivial⟩, ⟨tt, trivial⟩⟩⟩⟩⟩⟩⟩⟩) ?_
    refine Tri.ret ?_
    repeat (first | refine thenP_ret ?_ | refine blkP_ret ?_ | refine countP_ret ?_ | refine joinP_ret ?_ | refine iterP_ret ?_)
    refine subP_done ?_
    exact endP.ret [(0, 0), (1, 1), (2, 2), (3, 3), (128, 4)] TT (by kernel_rfl) (by kernel_rfl) tt




noncomputable def Fctoz (p0 : Ch) (p1 : Int) : List Int :=
  part1 (FwwU32 1 [p1] p0.peer) (1 + 4) 0 (1 + 4)

noncomputable def Sctozc (p0 : Ch) (y0_n1 : Nat) (y0_n2 : Nat) (y0_n3 : Nat) (y0_m1 : Nat) (y0_m2 : Nat) (p1 : Int) : Option (Prop × Ret) :=
  some ((chLens y0_n1 y0_n2 y0_n3 y0_m1 y0_m2 p0 ∧ True), ⟨.sc (.ro .u8 (Fctoz p0 p1)), [some (chC 1 2 3 p0), some (.ints .u8 p0.wait.length p0.wait), some (.ints .u8 p0.got.length p0.got), some (.vec .row p0.out)]⟩)

noncomputable def Sctoz : List AV → List Blk → Option (Prop × Ret)
  | [.sc (.p 0 0), .sc (.i .u8 p1)], [.cells [.b y0_server, .i .i64 y0_state, .i .u32 y0_peer, .i .i64 y0_window, .i .i64 y0_most, .i .i64 y0_room, .sl 1 0 y0_n1 1 none, .sl 2 0 y0_n2 1 none, .b y0_ready, .b y0_e0, .b y0_e1, .b y0_c0, .b y0_c1, .sl 3 0 y0_n3 1 none], .ints .u8 y0_m1 y0_wait, .ints .u8 y0_m2 y0_got, .vec .row y0_out] => Sctozc ⟨y0_server, y0_state, y0_peer, y0_window, y0_most, y0_room, y0_wait, y0_got, y0_ready, y0_e0, y0_e1, y0_c0, y0_c1, y0_out⟩ y0_n1 y0_n2 y0_n3 y0_m1 y0_m2 p1
  | _, _ => none

noncomputable def Bctoz : Bs := { P := Go.Proofs.Try.prog, G := noG, tab := tabOf [⟨29, 128, [.io, .val], [], [48], ⟨1, 1, SwwU32⟩, false⟩], n := 12 }

theorem Bctoz.ok : Bctoz.Ok := ⟨tabOk (P := Go.Proofs.Try.prog) (G := noG) (l := [⟨29, 128, [.io, .val], [], [48], ⟨1, 1, SwwU32⟩, false⟩]) (And.intro KwwU32 True.intro), mixed⟩

theorem Kctoz : Known Go.Proofs.Try.prog noG 40 ⟨4, 0, Sctoz⟩ := by
  refine Known.walk (B := Bctoz) (fn := Go.Proofs.Try.f40) Bctoz.ok (by kernel_rfl) rfl (by kernel_rfl) (by kernel_rfl) (by decide) (by decide) ?_
  · intro E args ks C r h hC hlen
    simp only at h
    unfold Sctoz at h
    split at h
    rotate_left
    · cases h
    rename_i p1 y0_server y0_state y0_peer y0_window y0_most y0_room y0_n1 y0_n2 y0_ready y0_e0 y0_e1 y0_c0 y0_c1 y0_n3 y0_m1 y0_wait y0_m2 y0_got y0_out
    generalize hp0 : (⟨y0_server, y0_state, y0_peer, y0_window, y0_most, y0_room, y0_wait, y0_got, y0_ready, y0_e0, y0_e1, y0_c0, y0_c1, y0_out⟩ : Ch) = p0 at h
    obtain rfl : y0_server = p0.server := by rw [← hp0]
    obtain rfl : y0_state = p0.state := by rw [← hp0]
    obtain rfl : y0_peer = p0.peer := by rw [← hp0]
    obtain rfl : y0_window = p0.window := by rw [← hp0]
    obtain rfl : y0_most = p0.most := by rw [← hp0]
    obtain rfl : y0_room = p0.room := by rw [← hp0]
    obtain rfl : y0_wait = p0.wait := by rw [← hp0]
    obtain rfl : y0_got = p0.got := by rw [← hp0]
    obtain rfl : y0_ready = p0.ready := by rw [← hp0]
    obtain rfl : y0_e0 = p0.e0 := by rw [← hp0]
    obtain rfl : y0_e1 = p0.e1 := by rw [← hp0]
    obtain rfl : y0_c0 = p0.c0 := by rw [← hp0]
    obtain rfl : y0_c1 = p0.c1 := by rw [← hp0]
    obtain rfl : y0_out = p0.out := by rw [← hp0]
    clear hp0
    unfold Sctozc at h
    cases h
    obtain ⟨⟨rfl, rfl, rfl, rfl, rfl⟩, hC⟩ := hC
    simp only [lens] at hlen
    refine ⟨show 2 ≤ 12 from by decide, ?_⟩
    refine Tri.sub (Sub.of_eq (show _ = ([(0, .sc (.p 0 0)), (1, .sc (.i .u8 p1))], [(0, chC 1 2 3 p0), (1, .ints .u8 p0.wait.length p0.wait), (2, .ints .u8 p0.got.length p0.got), (3, .vec .row p0.out)]) from rfl)) ?_
    refine Tri.subP ?_
    refine Tri.seq_region [] none [0, 1] [0, 1, 2, 3] (TT ∧ True)
        ([(0, .sc (.p 0 0)), (1, .sc (.i .u8 p1))], [(0, chC 1 2 3 p0), (1, .ints .u8 p0.wait.length p0.wait), (2, .ints .u8 p0.got.length p0.got), (3, .vec .row p0.out)])
        32 (by kernel_rfl) rfl (by kernel_rfl) (⟨tt, trivial⟩) ?_
    refine Tri.seq_region [] none [4] [128, 0, 1, 2, 3] (TT ∧ ((((((0 < 1) ∧ (1 = 1)) ∧ True) ∧ ((1 * 1 ≤ 16777216) ∧ (1 = 1))) ∧ True) ∧ (TT ∧ (TT ∧ (TT ∧ (((2 < 14) ∧ True) ∧ (((True ∧ ((1 = 1) ∧ (1 ≤ 1000000000))) ∧ True) ∧ (TT ∧ True))))))))
        ([(4, .sc (.sl 128 0 (1 + 4) 1 none))], [(128, .ints .u8 (1 + 4) (FwwU32 1 [p1] p0.peer)), (0, chC 1 2 3 p0), (1, .ints .u8 p0.wait.length p0.wait), (2, .ints .u8 p0.got.length p0.got), (3, .vec .row p0.out)])
        160 (by kernel_rfl) rfl (by kernel_rfl) (⟨tt, ⟨⟨⟨⟨⟨(by first | omega | (dsimp only; omega) | decide | (simp only [len_say]; omega)), (rfl)⟩, trivial⟩, ⟨(by first | omega | (dsimp only; omega) | decide | (simp only [len_say]; omega)), (rfl)⟩⟩, trivial⟩, ⟨tt, ⟨tt, ⟨tt, ⟨⟨(by first | omega | (dsimp only; omega) | decide | (simp only [len_say]; omega)), trivial⟩, ⟨⟨⟨trivial, ⟨(rfl), (by first | omega | (dsimp only; omega) | decide | (simp only [len_say]; omega))⟩⟩, trivial⟩, ⟨tt, trivial⟩⟩⟩⟩⟩⟩⟩⟩) ?_
    refine Tri.sub (Sub.still (s' := ([(4, .sc (.ro .u8 (part1 (FwwU32 1 [p1] p0.peer) (1 + 4) 0 (1 + 4))))], [(0, chC 1 2 3 p0), (1, .ints .u8 p0.wait.length p0.wait), (2, .ints .u8 p0.got.length p0.got), (3, .vec .row p0.out)])) 128 (.ints .u8 (1 + 4) (FwwU32 1 [p1] p0.peer)) (by kernel_rfl) (show 0 + (1 + 4) ≤ 1 + 4 from by first | omega | (dsimp only; omega) | decide | (simp only [len_say]; omega)) (by kernel_rfl)) ?_
    refine Tri.ret ?_
    repeat (first | refine thenP_ret ?_ | refine blkP_ret ?_ | refine countP_ret ?_ | refine joinP_ret ?_ | refine iterP_ret ?_)
    refine subP_done ?_
    exact endP.ret [(0, 0), (1, 1), (2, 2), (3, 3)] TT (by kernel_rfl) (by kernel_rfl) tt




noncomputable def FcBeginv0 (p0 : Ch) : Ch :=
  (Fcsay ({p0 with state := 1, room := 4096} : Ch) (FwwU32z ((((1 + 4) + (⟨#[115, 101, 115, 115, 105, 111, 110]⟩ : ByteArray).size) + 4) + 4) (FwwU32 (((1 + 4) + (⟨#[115, 101, 115, 115, 105, 111, 110]⟩ : ByteArray).size) + 4) (FwwU32 ((1 + 4) + (⟨#[115, 101, 115, 115, 105, 111, 110]⟩ : ByteArray).size) (FwwText 1 [90] (⟨#[115, 101, 115, 115, 105, 111, 110]⟩ : ByteArray)) 0) 4096) 512))

noncomputable def FcBegin (p0 : Ch) : Int :=
  (sel p0.server 8 (sel ((p0.state : Int) != 0) 8 0))

noncomputable def FcBegin_1 (p0 : Ch) : Ch :=
  (sel p0.server p0 (sel ((p0.state : Int) != 0) p0 (FcBeginv0 p0)))

noncomputable def ScBeginc (p0 : Ch) (y0_n1 : Nat) (y0_n2 : Nat) (y0_n3 : Nat) (y0_m1 : Nat) (y0_m2 : Nat)  : Option (Prop × Ret) :=
  some ((chLens y0_n1 y0_n2 y0_n3 y0_m1 y0_m2 p0 ∧ (p0.out.length ≤ 1000000000)), ⟨.sc (.i .i64 (FcBegin p0)), [some (chC 4 5 6 (FcBegin_1 p0)), none, none, none, some (.ints .u8 ((FcBegin_1 p0).wait.length) ((FcBegin_1 p0).wait)), some (.ints .u8 ((FcBegin_1 p0).got.length) ((FcBegin_1 p0).got)), some (.vec .row ((FcBegin_1 p0).out))]⟩)

noncomputable def ScBegin : List AV → List Blk → Option (Prop × Ret)
  | [.sc (.p 0 0)], [.cells [.b y0_server, .i .i64 y0_state, .i .u32 y0_peer, .i .i64 y0_window, .i .i64 y0_most, .i .i64 y0_room, .sl 1 0 y0_n1 1 none, .sl 2 0 y0_n2 1 none, .b y0_ready, .b y0_e0, .b y0_e1, .b y0_c0, .b y0_c1, .sl 3 0 y0_n3 1 none], .ints .u8 y0_m1 y0_wait, .ints .u8 y0_m2 y0_got, .vec .row y0_out] => ScBeginc ⟨y0_server, y0_state, y0_peer, y0_window, y0_most, y0_room, y0_wait, y0_got, y0_ready, y0_e0, y0_e1, y0_c0, y0_c1, y0_out⟩ y0_n1 y0_n2 y0_n3 y0_m1 y0_m2
  | _, _ => none

noncomputable def BcBegin : Bs := { P := Go.Proofs.Try.prog, G := noG, tab := tabOf [⟨28, 496, [.io, .ro .u8], [], [0, 1, 2, 3], ⟨4, 3, Scsay⟩, false⟩, ⟨29, 448, [.io, .val], [], [432], ⟨1, 1, SwwU32⟩, false⟩, ⟨29, 464, [.io, .val], [], [448], ⟨1, 1, SwwU32⟩, false⟩, ⟨29, 480, [.io, .val], [], [464], ⟨1, 0, SwwU32z⟩, false⟩, ⟨30, 432, [.io, .val], [], [416], ⟨1, 1, SwwText⟩, false⟩], n := 31 }

theorem BcBegin.ok : BcBegin.Ok := ⟨tabOk (P := Go.Proofs.Try.prog) (G := noG) (l := [⟨28, 496, [.io, .ro .u8], [], [0, 1, 2, 3], ⟨4, 3, Scsay⟩, false⟩, ⟨29, 448, [.io, .val], [], [432], ⟨1, 1, SwwU32⟩, false⟩, ⟨29, 464, [.io, .val], [], [448], ⟨1, 1, SwwU32⟩, false⟩, ⟨29, 480, [.io, .val], [], [464], ⟨1, 0, SwwU32z⟩, false⟩, ⟨30, 432, [.io, .val], [], [416], ⟨1, 1, SwwText⟩, false⟩]) (And.intro Kcsay (And.intro KwwU32 (And.intro KwwU32 (And.intro KwwU32z (And.intro KwwText True.intro))))), mixed⟩

theorem KcBegin : Known Go.Proofs.Try.prog noG 10 ⟨4, 3, ScBegin⟩ := by
  refine Known.walk (B := BcBegin) (fn := Go.Proofs.Try.f10) BcBegin.ok (by kernel_rfl) rfl (by kernel_rfl) (by kernel_rfl) (by decide) (by decide) ?_
  · intro E args ks C r h hC hlen
    simp only at h
    unfold ScBegin at h
    split at h
    rotate_left
    · cases h
    rename_i y0_server y0_state y0_peer y0_window y0_most y0_room y0_n1 y0_n2 y0_ready y0_e0 y0_e1 y0_c0 y0_c1 y0_n3 y0_m1 y0_wait y0_m2 y0_got y0_out
    generalize hp0 : (⟨y0_server, y0_state, y0_peer, y0_window, y0_most, y0_room, y0_wait, y0_got, y0_ready, y0_e0, y0_e1, y0_c0, y0_c1, y0_out⟩ : Ch) = p0 at h
    obtain rfl : y0_server = p0.server := by rw [← hp0]
    obtain rfl : y0_state = p0.state := by rw [← hp0]
    obtain rfl : y0_peer = p0.peer := by rw [← hp0]
    obtain rfl : y0_window = p0.window := by rw [← hp0]
    obtain rfl : y0_most = p0.most := by rw [← hp0]
    obtain rfl : y0_room = p0.room := by rw [← hp0]
    obtain rfl : y0_wait = p0.wait := by rw [← hp0]
    obtain rfl : y0_got = p0.got := by rw [← hp0]
    obtain rfl : y0_ready = p0.ready := by rw [← hp0]
    obtain rfl : y0_e0 = p0.e0 := by rw [← hp0]
    obtain rfl : y0_e1 = p0.e1 := by rw [← hp0]
    obtain rfl : y0_c0 = p0.c0 := by rw [← hp0]
    obtain rfl : y0_c1 = p0.c1 := by rw [← hp0]
    obtain rfl : y0_out = p0.out := by rw [← hp0]
    clear hp0
    unfold ScBeginc at h
    cases h
    obtain ⟨⟨rfl, rfl, rfl, rfl, rfl⟩, hC⟩ := hC
    simp only [lens] at hlen
    refine ⟨show 1 ≤ 31 from by decide, ?_⟩
    refine Tri.sub (Sub.of_eq (show _ = ([(0, .sc (.p 0 0))], [(0, chC 1 2 3 p0), (1, .ints .u8 p0.wait.length p0.wait), (2, .ints .u8 p0.got.length p0.got), (3, .vec .row p0.out)]) from rfl)) ?_
    refine Tri.subP ?_
    refine Tri.seq_region [] none [0] [0, 1, 2, 3] (TT ∧ True)
        ([(0, .sc (.p 0 0))], [(0, chC 1 2 3 p0), (1, .ints .u8 p0.wait.length p0.wait), (2, .ints .u8 p0.got.length p0.got), (3, .vec .row p0.out)])
        32 (by kernel_rfl) rfl (by kernel_rfl) (⟨tt, trivial⟩) ?_
    refine Tri.seq ?_
    refine Tri.split p0.server (fun h1 => ?_) (fun h1 => ?_)
    ·
      refine Tri.seq_region [(11, qb true)] none [17, 0] [0, 1, 2, 3] (TT ∧ (TT ∧ (TT ∧ (TT ∧ (TT ∧ (TT ∧ (((0 < 14) ∧ True) ∧ (TT ∧ ((True ∧ (p0.server = true)) ∧ (TT ∧ (TT ∧ (TT ∧ (TT ∧ (TT ∧ (TT ∧ True)))))))))))))))
          ([(17, .sc (.b true)), (0, .sc (.p 0 0))], [(0, chC 1 2 3 p0), (1, .ints .u8 p0.wait.length p0.wait), (2, .ints .u8 p0.got.length p0.got), (3, .vec .row p0.out)])
          272 (by kernel_rfl) rfl (by kernel_rfl) (⟨tt, ⟨tt, ⟨tt, ⟨tt, ⟨tt, ⟨tt, ⟨⟨(by first | omega | (dsimp only; omega) | decide | (simp only [FcBeginv0, len_say]; omega)), trivial⟩, ⟨tt, ⟨⟨trivial, (h1)⟩, ⟨tt, ⟨tt, ⟨tt, ⟨tt, ⟨tt, ⟨tt, trivial⟩⟩⟩⟩⟩⟩⟩⟩⟩⟩⟩⟩⟩⟩⟩) ?_
      refine Tri.cond_true (by kernel_rfl) ?_
      refine Tri.seq_region [] none [2] [0, 1, 2, 3] (TT ∧ True)
          ([(2, .sc (.i .i64 8))], [(0, chC 1 2 3 p0), (1, .ints .u8 p0.wait.length p0.wait), (2, .ints .u8 p0.got.length p0.got), (3, .vec .row p0.out)])
          288 (by kernel_rfl) rfl (by kernel_rfl) (⟨tt, trivial⟩) ?_
      refine Tri.ret ?_
      repeat (first | refine thenP_ret ?_ | refine blkP_ret ?_ | refine countP_ret ?_ | refine joinP_ret ?_ | refine iterP_ret ?_)
      refine subP_done ?_
      refine endP.conv (r' := ⟨.sc (.i .i64 8), [some (chC 4 5 6 p0), none, none, none, some (.ints .u8 p0.wait.length p0.wait), some (.ints .u8 p0.got.length p0.got), some (.vec .row p0.out)]⟩) (by simp only [chC, FcBegin, FcBegin_1, h1, sel_true, sel_false]) ?_
      exact endP.ret [(0, 0), (1, 4), (2, 5), (3, 6)] TT (by kernel_rfl) (by kernel_rfl) tt
    ·
      refine Tri.seq_region [(11, qb false)] none [17, 0] [0, 1, 2, 3] (TT ∧ (TT ∧ (TT ∧ (TT ∧ (TT ∧ (TT ∧ (((0 < 14) ∧ True) ∧ (TT ∧ ((True ∧ (p0.server = false)) ∧ (TT ∧ (TT ∧ (TT ∧ (((1 < 14) ∧ True) ∧ (TT ∧ (TT ∧ True)))))))))))))))
          ([(17, .sc (.b ((p0.state : Int) != 0))), (0, .sc (.p 0 0))], [(0, chC 1 2 3 p0), (1, .ints .u8 p0.wait.length p0.wait), (2, .ints .u8 p0.got.length p0.got), (3, .vec .row p0.out)])
          272 (by kernel_rfl) rfl (by kernel_rfl) (⟨tt, ⟨tt, ⟨tt, ⟨tt, ⟨tt, ⟨tt, ⟨⟨(by first | omega | (dsimp only; omega) | decide | (simp only [FcBeginv0, len_say]; omega)), trivial⟩, ⟨tt, ⟨⟨trivial, (h1)⟩, ⟨tt, ⟨tt, ⟨tt, ⟨⟨(by first | omega | (dsimp only; omega) | decide | (simp only [FcBeginv0, len_say]; omega)), trivial⟩, ⟨tt, ⟨tt, trivial⟩⟩⟩⟩⟩⟩⟩⟩⟩⟩⟩⟩⟩⟩⟩) ?_
      refine Tri.cond (x := ((p0.state : Int) != 0)) (by kernel_rfl) (fun h2 => ?_) (fun h2 => ?_)
      ·
        have h2' := ne_true_i h2
        refine Tri.seq_region [] none [2] [0, 1, 2, 3] (TT ∧ True)
            ([(2, .sc (.i .i64 8))], [(0, chC 1 2 3 p0), (1, .ints .u8 p0.wait.length p0.wait), (2, .ints .u8 p0.got.length p0.got), (3, .vec .row p0.out)])
            288 (by kernel_rfl) rfl (by kernel_rfl) (⟨tt, trivial⟩) ?_
        refine Tri.ret ?_
        repeat (first | refine thenP_ret ?_ | refine blkP_ret ?_ | refine countP_ret ?_ | refine joinP_ret ?_ | refine iterP_ret ?_)
        refine subP_done ?_
        refine endP.conv (r' := ⟨.sc (.i .i64 8), [some (chC 4 5 6 p0), none, none, none, some (.ints .u8 p0.wait.length p0.wait), some (.ints .u8 p0.got.length p0.got), some (.vec .row p0.out)]⟩) (by simp only [chC, FcBegin, FcBegin_1, h1, h2, sel_true, sel_false]) ?_
        exact endP.ret [(0, 0), (1, 4), (2, 5), (3, 6)] TT (by kernel_rfl) (by kernel_rfl) tt
      ·
        have h2' := ne_false_i h2
        refine Tri.skip ?_
        change Tri _ _ _ _ _ _
        refine Tri.seq_region [] none [0] [0, 1, 2, 3] (TT ∧ (TT ∧ (TT ∧ (TT ∧ ((((1 < 14) ∧ (1 = 1)) ∧ True) ∧ (TT ∧ (TT ∧ ((((5 < 14) ∧ (1 = 1)) ∧ True) ∧ True))))))))
            ([(0, .sc (.p 0 0))], [(0, .cells [.b p0.server, .i .i64 1, .i .u32 p0.peer, .i .i64 p0.window, .i .i64 p0.most, .i .i64 4096, .sl 1 0 p0.wait.length 1 none, .sl 2 0 p0.got.length 1 none, .b p0.ready, .b p0.e0, .b p0.e1, .b p0.c0, .b p0.c1, .sl 3 0 p0.out.length 1 none]), (1, .ints .u8 p0.wait.length p0.wait), (2, .ints .u8 p0.got.length p0.got), (3, .vec .row p0.out)])
            400 (by kernel_rfl) rfl (by kernel_rfl) (⟨tt, ⟨tt, ⟨tt, ⟨tt, ⟨⟨⟨(by first | omega | (dsimp only; omega) | decide | (simp only [FcBeginv0, len_say]; omega)), (rfl)⟩, trivial⟩, ⟨tt, ⟨tt, ⟨⟨⟨(by first | omega | (dsimp only; omega) | decide | (simp only [FcBeginv0, len_say]; omega)), (rfl)⟩, trivial⟩, trivial⟩⟩⟩⟩⟩⟩⟩⟩) ?_
        refine Tri.seq_region [] none [] [498, 497, 496, 0] (TT ∧ ((((((0 < 1) ∧ (1 = 1)) ∧ True) ∧ ((1 * 1 ≤ 16777216) ∧ (1 = 1))) ∧ True) ∧ (((True ∧ ((1 = 1) ∧ (1 ≤ 1000000000 ∧ (⟨#[115, 101, 115, 115, 105, 111, 110]⟩ : ByteArray).size ≤ 1000000000))) ∧ True) ∧ (((True ∧ ((((1 + 4) + (⟨#[115, 101, 115, 115, 105, 111, 110]⟩ : ByteArray).size) = ((1 + 4) + (⟨#[115, 101, 115, 115, 105, 111, 110]⟩ : ByteArray).size)) ∧ (((1 + 4) + (⟨#[115, 101, 115, 115, 105, 111, 110]⟩ : ByteArray).size) ≤ 1000000000))) ∧ True) ∧ (((True ∧ (((((1 + 4) + (⟨#[115, 101, 115, 115, 105, 111, 110]⟩ : ByteArray).size) + 4) = (((1 + 4) + (⟨#[115, 101, 115, 115, 105, 111, 110]⟩ : ByteArray).size) + 4)) ∧ ((((1 + 4) + (⟨#[115, 101, 115, 115, 105, 111, 110]⟩ : ByteArray).size) + 4) ≤ 1000000000))) ∧ True) ∧ (((True ∧ ((((((1 + 4) + (⟨#[115, 101, 115, 115, 105, 111, 110]⟩ : ByteArray).size) + 4) + 4) = ((((1 + 4) + (⟨#[115, 101, 115, 115, 105, 111, 110]⟩ : ByteArray).size) + 4) + 4)) ∧ (((((1 + 4) + (⟨#[115, 101, 115, 115, 105, 111, 110]⟩ : ByteArray).size) + 4) + 4) ≤ 1000000000))) ∧ True) ∧ (((TT ∧ ((chLens (({p0 with state := 1, room := 4096} : Ch).wait.length) (({p0 with state := 1, room := 4096} : Ch).got.length) (({p0 with state := 1, room := 4096} : Ch).out.length) (({p0 with state := 1, room := 4096} : Ch).wait.length) (({p0 with state := 1, room := 4096} : Ch).got.length) ({p0 with state := 1, room := 4096} : Ch)) ∧ (({p0 with state := 1, room := 4096} : Ch).out.length ≤ 1000000000))) ∧ True) ∧ True)))))))
            ([], [(498, .vec .row ((FcBeginv0 p0).out)), (497, .ints .u8 ((FcBeginv0 p0).got.length) ((FcBeginv0 p0).got)), (496, .ints .u8 ((FcBeginv0 p0).wait.length) ((FcBeginv0 p0).wait)), (0, chC 496 497 498 (FcBeginv0 p0))])
            512 (by kernel_rfl) rfl (by kernel_rfl) (⟨tt, ⟨⟨⟨⟨⟨(by first | omega | (dsimp only; omega) | decide | (simp only [FcBeginv0, len_say]; omega)), (rfl)⟩, trivial⟩, ⟨(by first | omega | (dsimp only; omega) | decide | (simp only [FcBeginv0, len_say]; omega)), (rfl)⟩⟩, trivial⟩, ⟨⟨⟨trivial, ⟨(rfl), (by first | omega | (dsimp only; omega) | decide | (simp only [FcBeginv0, len_say]; omega))⟩⟩, trivial⟩, ⟨⟨⟨trivial, ⟨(rfl), (by first | omega | (dsimp only; omega) | decide | (simp only [FcBeginv0, len_say]; omega))⟩⟩, trivial⟩, ⟨⟨⟨trivial, ⟨(rfl), (by first | omega | (dsimp only; omega) | decide | (simp only [FcBeginv0, len_say]; omega))⟩⟩, trivial⟩, ⟨⟨⟨trivial, ⟨(rfl), (by first | omega | (dsimp only; omega) | decide | (simp only [FcBeginv0, len_say]; omega))⟩⟩, trivial⟩, ⟨⟨⟨tt, ⟨(chLens_self _), (by first | omega | (dsimp only; omega) | decide | (simp only [FcBeginv0, len_say]; omega))⟩⟩, trivial⟩, trivial⟩⟩⟩⟩⟩⟩⟩) ?_
        refine Tri.seq_region [] none [2] [498, 497, 496, 0] (TT ∧ True)
            ([(2, .sc (.i .i64 0))], [(498, .vec .row ((FcBeginv0 p0).out)), (497, .ints .u8 ((FcBeginv0 p0).got.length) ((FcBeginv0 p0).got)), (496, .ints .u8 ((FcBeginv0 p0).wait.length) ((FcBeginv0 p0).wait)), (0, chC 496 497 498 (FcBeginv0 p0))])
            528 (by kernel_rfl) rfl (by kernel_rfl) (⟨tt, trivial⟩) ?_
        refine Tri.ret ?_
        repeat (first | refine thenP_ret ?_ | refine blkP_ret ?_ | refine countP_ret ?_ | refine joinP_ret ?_ | refine iterP_ret ?_)
        refine subP_done ?_
        refine endP.conv (r' := ⟨.sc (.i .i64 0), [some (chC 4 5 6 (FcBeginv0 p0)), none, none, none, some (.ints .u8 ((FcBeginv0 p0).wait.length) ((FcBeginv0 p0).wait)), some (.ints .u8 ((FcBeginv0 p0).got.length) ((FcBeginv0 p0).got)), some (.vec .row ((FcBeginv0 p0).out))]⟩) (by simp only [chC, FcBegin, FcBegin_1, h1, h2, sel_true, sel_false]) ?_
        exact endP.ret [(0, 0), (496, 4), (497, 5), (498, 6)] TT (by kernel_rfl) (by kernel_rfl) tt



end Go.Vm
