/- What the functions compute, and that they do: walked by a printed text. -/
import Derived.Test.YtfkmfdjdppjijaaWk5
set_option linter.unusedVariables false
set_option linter.unusedSimpArgs false
set_option maxRecDepth 4000
namespace Go.Vm
open Go
theorem on_flow {p : Ch} {n : Int} (hC : chOk 900000000 p ∧ 0 < p.most) (hn : 0 ≤ n ∧ n < 4294967296) (h : (decide (((iAdd .i64 p.window (IntKind.wrap .i64 n)) : Int) > 2147483647)) = false) : chFlow ({p with window := (iAdd .i64 p.window (IntKind.wrap .i64 n))} : Ch) := by
  obtain ⟨⟨⟨q1, q2⟩, q3, q4, ⟨q5, q6⟩, q7⟩, q8⟩ := hC
  have h' := of_decide_eq_false h
  rw [wrap_small (by omega) (by omega), iAdd_i64 (by omega) (by omega)] at h' ⊢
  exact ⟨⟨by show 0 ≤ p.window + n; omega, by show p.window + n ≤ _; omega⟩, q3, fun _ => q8, by show p.out.length + p.wait.length ≤ _; omega⟩
noncomputable def Fconv0 (p0 : Ch) (p2 : List Int) (p3 : Bool) : Ch :=
  (Fcflow ({p0 with window := (iAdd .i64 p0.window (IntKind.wrap .i64 (FwU32 p2 p3)))} : Ch))

noncomputable def Fconv1 (p0 : Ch) : Ch :=
  (Fcsay ({p0 with ready := true} : Ch) (Fctoz ({p0 with ready := true} : Ch) (sel (!p0.ready) 99 100)))

noncomputable def Fconv2 (p0 : Ch) : Ch :=
  (Fcsay ({p0 with ready := (!p0.ready)} : Ch) (Fctoz ({p0 with ready := (!p0.ready)} : Ch) (sel (!p0.ready) 99 100)))

noncomputable def Fconv3 (p0 : Ch) : Ch :=
  (Fcsay ({p0 with ready := true} : Ch) (Fctoz ({p0 with ready := true} : Ch) 100))

noncomputable def Fconv4 (p0 : Ch) : Ch :=
  (Fcsay ({p0 with ready := false} : Ch) (Fctoz ({p0 with ready := false} : Ch) 100))

noncomputable def Fconv5 (p0 : Ch) (p1 : Int) : Ch :=
  (Fcbye ({p0 with ready := ((p1 : Int) == 99)} : Ch))

noncomputable def Fcon (p0 : Ch) (p1 : Int) (p2 : List Int) (p3 : Bool) : Int :=
  (sel ((p1 : Int) == 93) (sel (!(FwEnd (FwU32_1 p2 p3) (FwU32_2 p2 p3))) 3 (sel (decide (((iAdd .i64 p0.window (IntKind.wrap .i64 (FwU32 p2 p3))) : Int) > 2147483647)) 3 0)) (sel ((p1 : Int) == 94) (sel (!(FwEnd (FwText_1 p2 p3) (FwText_2 p2 p3))) 3 (sel (decide (((((FwText p2 p3).size : Nat) : Int) : Int) > p0.room)) 3 (sel (decide (((((FwText p2 p3).size : Nat) : Int) : Int) > 512)) 3 (sel p0.e1 3 0)))) (sel ((p1 : Int) == 96) (sel (!(FwEnd p2 p3)) 3 (sel p0.e1 3 0)) (sel ((p1 : Int) == 97) (sel (!(FwEnd p2 p3)) 3 0) (sel ((p1 : Int) == 98) (sel (strEq (FwText p2 p3) (⟨#[115, 117, 98, 115, 121, 115, 116, 101, 109]⟩ : ByteArray)) (sel (!(FwOk (FwText_1 (FwFlag_1 (FwText_1 p2 p3) (FwText_2 p2 p3)) (FwFlag_2 (FwText_1 p2 p3) (FwText_2 p2 p3))) (FwText_2 (FwFlag_1 (FwText_1 p2 p3) (FwText_2 p2 p3)) (FwFlag_2 (FwText_1 p2 p3) (FwText_2 p2 p3))))) 3 0) (sel (!(FwOk (FwFlag_1 (FwText_1 p2 p3) (FwText_2 p2 p3)) (FwFlag_2 (FwText_1 p2 p3) (FwText_2 p2 p3)))) 3 0)) (sel (sel ((p1 : Int) == 99) ((p1 : Int) == 99) ((p1 : Int) == 100)) (sel (!(FwEnd p2 p3)) 3 (sel p0.server 3 (sel p0.ready 3 0))) 3))))))

noncomputable def Fcon_1 (p0 : Ch) (p1 : Int) (p2 : List Int) (p3 : Bool) : Ch :=
  (sel ((p1 : Int) == 93) (sel (!(FwEnd (FwU32_1 p2 p3) (FwU32_2 p2 p3))) p0 (sel (decide (((iAdd .i64 p0.window (IntKind.wrap .i64 (FwU32 p2 p3))) : Int) > 2147483647)) p0 (Fconv0 p0 p2 p3))) (sel ((p1 : Int) == 94) (sel (!(FwEnd (FwText_1 p2 p3) (FwText_2 p2 p3))) p0 (sel (decide (((((FwText p2 p3).size : Nat) : Int) : Int) > p0.room)) p0 (sel (decide (((((FwText p2 p3).size : Nat) : Int) : Int) > 512)) p0 (sel p0.e1 p0 ({p0 with room := (iSub .i64 p0.room (((FwText p2 p3).size : Nat) : Int)), got := p0.got ++ (bytesI (FwText p2 p3))} : Ch))))) (sel ((p1 : Int) == 96) (sel (!(FwEnd p2 p3)) p0 (sel p0.e1 p0 ({p0 with e1 := true} : Ch))) (sel ((p1 : Int) == 97) (sel (!(FwEnd p2 p3)) p0 (sel (!p0.c0) ({(Fcbye ({p0 with c1 := true} : Ch)) with state := 3} : Ch) ({p0 with state := 3, c1 := true} : Ch))) (sel ((p1 : Int) == 98) (sel (strEq (FwText p2 p3) (⟨#[115, 117, 98, 115, 121, 115, 116, 101, 109]⟩ : ByteArray)) (sel (strEq (FwText (FwFlag_1 (FwText_1 p2 p3) (FwText_2 p2 p3)) (FwFlag_2 (FwText_1 p2 p3) (FwText_2 p2 p3))) (⟨#[110, 101, 116, 99, 111, 110, 102]⟩ : ByteArray)) (sel (FwEnd (FwText_1 (FwFlag_1 (FwText_1 p2 p3) (FwText_2 p2 p3)) (FwFlag_2 (FwText_1 p2 p3) (FwText_2 p2 p3))) (FwText_2 (FwFlag_1 (FwText_1 p2 p3) (FwText_2 p2 p3)) (FwFlag_2 (FwText_1 p2 p3) (FwText_2 p2 p3)))) (sel p0.server (sel (!(FwOk (FwText_1 (FwFlag_1 (FwText_1 p2 p3) (FwText_2 p2 p3)) (FwFlag_2 (FwText_1 p2 p3) (FwText_2 p2 p3))) (FwText_2 (FwFlag_1 (FwText_1 p2 p3) (FwText_2 p2 p3)) (FwFlag_2 (FwText_1 p2 p3) (FwText_2 p2 p3))))) p0 (sel p0.ready (sel (FwFlag (FwText_1 p2 p3) (FwText_2 p2 p3)) (Fconv1 p0) ({p0 with ready := true} : Ch)) (sel (FwFlag (FwText_1 p2 p3) (FwText_2 p2 p3)) (Fconv2 p0) ({p0 with ready := (!p0.ready)} : Ch)))) (sel (!(FwOk (FwText_1 (FwFlag_1 (FwText_1 p2 p3) (FwText_2 p2 p3)) (FwFlag_2 (FwText_1 p2 p3) (FwText_2 p2 p3))) (FwText_2 (FwFlag_1 (FwText_1 p2 p3) (FwText_2 p2 p3)) (FwFlag_2 (FwText_1 p2 p3) (FwText_2 p2 p3))))) p0 (sel p0.ready (sel (FwFlag (FwText_1 p2 p3) (FwText_2 p2 p3)) (Fconv3 p0) ({p0 with ready := true} : Ch)) (sel (FwFlag (FwText_1 p2 p3) (FwText_2 p2 p3)) (Fconv4 p0) ({p0 with ready := false} : Ch))))) (sel (!(FwOk (FwText_1 (FwFlag_1 (FwText_1 p2 p3) (FwText_2 p2 p3)) (FwFlag_2 (FwText_1 p2 p3) (FwText_2 p2 p3))) (FwText_2 (FwFlag_1 (FwText_1 p2 p3) (FwText_2 p2 p3)) (FwFlag_2 (FwText_1 p2 p3) (FwText_2 p2 p3))))) p0 (sel p0.ready (sel (FwFlag (FwText_1 p2 p3) (FwText_2 p2 p3)) (Fconv3 p0) ({p0 with ready := true} : Ch)) (sel (FwFlag (FwText_1 p2 p3) (FwText_2 p2 p3)) (Fconv4 p0) ({p0 with ready := false} : Ch))))) (sel (!(FwOk (FwText_1 (FwFlag_1 (FwText_1 p2 p3) (FwText_2 p2 p3)) (FwFlag_2 (FwText_1 p2 p3) (FwText_2 p2 p3))) (FwText_2 (FwFlag_1 (FwText_1 p2 p3) (FwText_2 p2 p3)) (FwFlag_2 (FwText_1 p2 p3) (FwText_2 p2 p3))))) p0 (sel p0.ready (sel (FwFlag (FwText_1 p2 p3) (FwText_2 p2 p3)) (Fconv3 p0) ({p0 with ready := true} : Ch)) (sel (FwFlag (FwText_1 p2 p3) (FwText_2 p2 p3)) (Fconv4 p0) ({p0 with ready := false} : Ch))))) (sel (!(FwOk (FwFlag_1 (FwText_1 p2 p3) (FwText_2 p2 p3)) (FwFlag_2 (FwText_1 p2 p3) (FwText_2 p2 p3)))) p0 (sel p0.ready (sel (FwFlag (FwText_1 p2 p3) (FwText_2 p2 p3)) (Fconv3 p0) ({p0 with ready := true} : Ch)) (sel (FwFlag (FwText_1 p2 p3) (FwText_2 p2 p3)) (Fconv4 p0) ({p0 with ready := false} : Ch))))) (sel (sel ((p1 : Int) == 99) ((p1 : Int) == 99) ((p1 : Int) == 100)) (sel (!(FwEnd p2 p3)) p0 (sel p0.server p0 (sel p0.ready p0 (sel (!((p1 : Int) == 99)) (sel (!p0.c0) (Fconv5 p0 p1) ({p0 with ready := ((p1 : Int) == 99)} : Ch)) ({p0 with ready := ((p1 : Int) == 99)} : Ch))))) p0))))))

noncomputable def Fcon_2 (p0 : Ch) (p1 : Int) (p2 : List Int) (p3 : Bool) : List Int :=
  (sel ((p1 : Int) == 93) (FwU32_1 p2 p3) (sel ((p1 : Int) == 94) (FwText_1 p2 p3) (sel ((p1 : Int) == 96) p2 (sel ((p1 : Int) == 97) p2 (sel ((p1 : Int) == 98) (sel (strEq (FwText p2 p3) (⟨#[115, 117, 98, 115, 121, 115, 116, 101, 109]⟩ : ByteArray)) (FwText_1 (FwFlag_1 (FwText_1 p2 p3) (FwText_2 p2 p3)) (FwFlag_2 (FwText_1 p2 p3) (FwText_2 p2 p3))) (FwFlag_1 (FwText_1 p2 p3) (FwText_2 p2 p3))) p2)))))

noncomputable def Fcon_3 (p0 : Ch) (p1 : Int) (p2 : List Int) (p3 : Bool) : Bool :=
  (sel ((p1 : Int) == 93) (FwU32_2 p2 p3) (sel ((p1 : Int) == 94) (FwText_2 p2 p3) (sel ((p1 : Int) == 96) p3 (sel ((p1 : Int) == 97) p3 (sel ((p1 : Int) == 98) (sel (strEq (FwText p2 p3) (⟨#[115, 117, 98, 115, 121, 115, 116, 101, 109]⟩ : ByteArray)) (FwText_2 (FwFlag_1 (FwText_1 p2 p3) (FwText_2 p2 p3)) (FwFlag_2 (FwText_1 p2 p3) (FwText_2 p2 p3))) (FwFlag_2 (FwText_1 p2 p3) (FwText_2 p2 p3))) p3)))))

noncomputable def Sconc (p0 : Ch) (y0_n1 : Nat) (y0_n2 : Nat) (y0_n3 : Nat) (y0_m1 : Nat) (y0_m2 : Nat) (p1 : Int) (p2 : List Int) (p3 : Bool) : Option (Prop × Ret) :=
  some ((chLens y0_n1 y0_n2 y0_n3 y0_m1 y0_m2 p0 ∧ (chOk 900000000 p0 ∧ 0 < p0.most)), ⟨.sc (.i .i64 (Fcon p0 p1 p2 p3)), [some (chC 5 6 7 (Fcon_1 p0 p1 p2 p3)), none, none, none, some (.cells [.ro .u8 (Fcon_2 p0 p1 p2 p3), .b (Fcon_3 p0 p1 p2 p3)]), some (.ints .u8 ((Fcon_1 p0 p1 p2 p3).wait.length) ((Fcon_1 p0 p1 p2 p3).wait)), some (.ints .u8 ((Fcon_1 p0 p1 p2 p3).got.length) ((Fcon_1 p0 p1 p2 p3).got)), some (.vec .row ((Fcon_1 p0 p1 p2 p3).out))]⟩)

noncomputable def Scon : List AV → List Blk → Option (Prop × Ret)
  | [.sc (.p 0 0), .sc (.i .u8 p1), .sc (.p 4 0)], [.cells [.b y0_server, .i .i64 y0_state, .i .u32 y0_peer, .i .i64 y0_window, .i .i64 y0_most, .i .i64 y0_room, .sl 1 0 y0_n1 1 none, .sl 2 0 y0_n2 1 none, .b y0_ready, .b y0_e0, .b y0_e1, .b y0_c0, .b y0_c1, .sl 3 0 y0_n3 1 none], .ints .u8 y0_m1 y0_wait, .ints .u8 y0_m2 y0_got, .vec .row y0_out, .cells [.ro .u8 p2, .b p3]] => Sconc ⟨y0_server, y0_state, y0_peer, y0_window, y0_most, y0_room, y0_wait, y0_got, y0_ready, y0_e0, y0_e1, y0_c0, y0_c1, y0_out⟩ y0_n1 y0_n2 y0_n3 y0_m1 y0_m2 p1 p2 p3
  | _, _ => none

noncomputable def Bcon : Bs := { P := Go.Proofs.Try.prog, G := noG, tab := tabOf [⟨28, 1040, [.io, .ro .u8], [], [0, 1, 2, 3], ⟨4, 3, Scsay⟩, false⟩, ⟨28, 1056, [.io, .ro .u8], [], [0, 1, 2, 3], ⟨4, 3, Scsay⟩, false⟩, ⟨35, 96, [.io], [], [4], ⟨1, 0, SwU32⟩, false⟩, ⟨36, 720, [.io], [], [4], ⟨1, 0, SwOk⟩, false⟩, ⟨38, 512, [.io], [], [0, 1, 2, 3], ⟨4, 3, Scflow⟩, false⟩, ⟨40, 1024, [.io, .val], [], [0, 1, 2, 3], ⟨4, 0, Sctoz⟩, true⟩, ⟨40, 1040, [.io, .val], [], [0, 1, 2, 3], ⟨4, 0, Sctoz⟩, true⟩, ⟨41, 416, [.io], [], [0, 1, 2, 3], ⟨4, 3, Scbye⟩, false⟩, ⟨41, 832, [.io], [], [0, 1, 2, 3], ⟨4, 3, Scbye⟩, false⟩, ⟨43, 128, [.io], [], [4], ⟨1, 0, SwText⟩, false⟩, ⟨43, 224, [.io], [], [4], ⟨1, 0, SwText⟩, false⟩, ⟨43, 368, [.io], [], [4], ⟨1, 0, SwText⟩, false⟩, ⟨44, 144, [.io], [], [4], ⟨1, 0, SwEnd⟩, false⟩, ⟨44, 160, [.io], [], [4], ⟨1, 0, SwEnd⟩, false⟩, ⟨44, 176, [.io], [], [4], ⟨1, 0, SwEnd⟩, false⟩, ⟨44, 192, [.io], [], [4], ⟨1, 0, SwEnd⟩, false⟩, ⟨44, 288, [.io], [], [4], ⟨1, 0, SwEnd⟩, false⟩, ⟨44, 448, [.io], [], [4], ⟨1, 0, SwEnd⟩, false⟩, ⟨46, 256, [.io], [], [4], ⟨1, 0, SwFlag⟩, false⟩], n := 212 }

theorem Bcon.ok : Bcon.Ok := ⟨tabOk (P := Go.Proofs.Try.prog) (G := noG) (l := [⟨28, 1040, [.io, .ro .u8], [], [0, 1, 2, 3], ⟨4, 3, Scsay⟩, false⟩, ⟨28, 1056, [.io, .ro .u8], [], [0, 1, 2, 3], ⟨4, 3, Scsay⟩, false⟩, ⟨35, 96, [.io], [], [4], ⟨1, 0, SwU32⟩, false⟩, ⟨36, 720, [.io], [], [4], ⟨1, 0, SwOk⟩, false⟩, ⟨38, 512, [.io], [], [0, 1, 2, 3], ⟨4, 3, Scflow⟩, false⟩, ⟨40, 1024, [.io, .val], [], [0, 1, 2, 3], ⟨4, 0, Sctoz⟩, true⟩, ⟨40, 1040, [.io, .val], [], [0, 1, 2, 3], ⟨4, 0, Sctoz⟩, true⟩, ⟨41, 416, [.io], [], [0, 1, 2, 3], ⟨4, 3, Scbye⟩, false⟩, ⟨41, 832, [.io], [], [0, 1, 2, 3], ⟨4, 3, Scbye⟩, false⟩, ⟨43, 128, [.io], [], [4], ⟨1, 0, SwText⟩, false⟩, ⟨43, 224, [.io], [], [4], ⟨1, 0, SwText⟩, false⟩, ⟨43, 368, [.io], [], [4], ⟨1, 0, SwText⟩, false⟩, ⟨44, 144, [.io], [], [4], ⟨1, 0, SwEnd⟩, false⟩, ⟨44, 160, [.io], [], [4], ⟨1, 0, SwEnd⟩, false⟩, ⟨44, 176, [.io], [], [4], ⟨1, 0, SwEnd⟩, false⟩, ⟨44, 192, [.io], [], [4], ⟨1, 0, SwEnd⟩, false⟩, ⟨44, 288, [.io], [], [4], ⟨1, 0, SwEnd⟩, false⟩, ⟨44, 448, [.io], [], [4], ⟨1, 0, SwEnd⟩, false⟩, ⟨46, 256, [.io], [], [4], ⟨1, 0, SwFlag⟩, false⟩]) (And.intro Kcsay (And.intro Kcsay (And.intro KwU32 (And.intro KwOk (And.intro Kcflow (And.intro Kctoz (And.intro Kctoz (And.intro Kcbye (And.intro Kcbye (And.intro KwText (And.intro KwText (And.intro KwText (And.intro KwEnd (And.intro KwEnd (And.intro KwEnd (And.intro KwEnd (And.intro KwEnd (And.intro KwEnd (And.intro KwFlag True.intro))))))))))))))))))), mixed⟩

theorem Kcon : Known Go.Proofs.Try.prog noG 37 ⟨5, 3, Scon⟩ := by
  refine Known.walk (B := Bcon) (fn := Go.Proofs.Try.f37) Bcon.ok (by kernel_rfl) rfl (by kernel_rfl) (by kernel_rfl) (by decide) (by decide) ?_
  · intro E args ks C r h hC hlen
    simp only at h
    unfold Scon at h
    split at h
    rotate_left
    · cases h
    rename_i p1 y0_server y0_state y0_peer y0_window y0_most y0_room y0_n1 y0_n2 y0_ready y0_e0 y0_e1 y0_c0 y0_c1 y0_n3 y0_m1 y0_wait y0_m2 y0_got y0_out p2 p3
    generalize hp0 : (⟨y0_server, y0_state, y0_peer, y0_window, y0_most, y0_room, y0_wait, y0_got, y0_ready, y0_e0, y0_e1, y0_c0, y0_c1, y0_out⟩ : Ch) = p0 at h
    obtain rfl : y0_server = p0.server := by rw [← hp0]
    obtain rfl : y0_state = p0.state := by rw [← hp0]
    obtain rfl : y0_peer = p0.peer := by rw [← hp0]
    obtain rfl : y0_window = p0.window := by rw [← hp0]
    obtain rfl : y0_most = p0.most := by rw [← hp0]
    obtain rfl : y0_room = p0.room := by rw [← hp0]
    obtain rfl : y0_wait = p0.wait := by rw [← hp0]
    obtain rfl : y0_got = p0.got := by rw [← hp0]
    obtain rfl : y0_ready = p0.ready := by rw [← hp0]
    obtain rfl : y0_e0 = p0.e0 := by rw [← hp0]
    obtain rfl : y0_e1 = p0.e1 := by rw [← hp0]
    obtain rfl : y0_c0 = p0.c0 := by rw [← hp0]
    obtain rfl : y0_c1 = p0.c1 := by rw [← hp0]
    obtain rfl : y0_out = p0.out := by rw [← hp0]
    clear hp0
    unfold Sconc at h
    cases h
    obtain ⟨⟨rfl, rfl, rfl, rfl, rfl⟩, hC⟩ := hC
    simp only [lens] at hlen
    obtain ⟨⟨⟨hq1, hq2⟩, hq3, hq4, ⟨hq5, hq5b⟩, hq6⟩, hq7⟩ := id hC
    have hs := size_FwText p2 p3
    refine ⟨show 3 ≤ 212 from by decide, ?_⟩
    refine Tri.sub (Sub.of_eq (show _ = ([(0, .sc (.p 0 0)), (1, .sc (.i .u8 p1)), (2, .sc (.p 4 0))], [(0, chC 1 2 3 p0), (1, .ints .u8 p0.wait.length p0.wait), (2, .ints .u8 p0.got.length p0.got), (3, .vec .row p0.out), (4, .cells [.ro .u8 p2, .b p3])]) from rfl)) ?_
    refine Tri.subP ?_
    refine Tri.seq_region [] none [0, 1, 2] [0, 1, 2, 3, 4] (TT ∧ True)
        ([(0, .sc (.p 0 0)), (1, .sc (.i .u8 p1)), (2, .sc (.p 4 0))], [(0, chC 1 2 3 p0), (1, .ints .u8 p0.wait.length p0.wait), (2, .ints .u8 p0.got.length p0.got), (3, .vec .row p0.out), (4, .cells [.ro .u8 p2, .b p3])])
        32 (by kernel_rfl) rfl (by kernel_rfl) (⟨tt, trivial⟩) ?_
    refine Tri.seq ?_
    refine Tri.seq_region [] none [13, 0, 1, 2] [0, 1, 2, 3, 4] (TT ∧ True)
        ([(13, .sc (.i .u8 p1)), (0, .sc (.p 0 0)), (1, .sc (.i .u8 p1)), (2, .sc (.p 4 0))], [(0, chC 1 2 3 p0), (1, .ints .u8 p0.wait.length p0.wait), (2, .ints .u8 p0.got.length p0.got), (3, .vec .row p0.out), (4, .cells [.ro .u8 p2, .b p3])])
        48 (by kernel_rfl) rfl (by kernel_rfl) (⟨tt, trivial⟩) ?_
    refine Tri.block ?_
    refine Tri.seq_region [] none [14, 13, 0, 1, 2] [0, 1, 2, 3, 4] (TT ∧ (TT ∧ True))
        ([(14, .sc (.b ((p1 : Int) == 93))), (13, .sc (.i .u8 p1)), (0, .sc (.p 0 0)), (1, .sc (.i .u8 p1)), (2, .sc (.p 4 0))], [(0, chC 1 2 3 p0), (1, .ints .u8 p0.wait.length p0.wait), (2, .ints .u8 p0.got.length p0.got), (3, .vec .row p0.out), (4, .cells [.ro .u8 p2, .b p3])])
        80 (by kernel_rfl) rfl (by kernel_rfl) (⟨tt, ⟨tt, trivial⟩⟩) ?_
    refine Tri.cond (x := ((p1 : Int) == 93)) (by kernel_rfl) (fun h1 => ?_) (fun h1 => ?_)
    ·
      have h1' := eq_true_i h1
      refine Tri.seq_region [] none [7, 0, 2] [4, 0, 1, 2, 3] (TT ∧ ((TT ∧ True) ∧ (TT ∧ True)))
          ([(7, .sc (.i .u32 (FwU32 p2 p3))), (0, .sc (.p 0 0)), (2, .sc (.p 4 0))], [(4, .cells [.ro .u8 (FwU32_1 p2 p3), .b (FwU32_2 p2 p3)]), (0, chC 1 2 3 p0), (1, .ints .u8 p0.wait.length p0.wait), (2, .ints .u8 p0.got.length p0.got), (3, .vec .row p0.out)])
          128 (by kernel_rfl) rfl (by kernel_rfl) (⟨tt, ⟨⟨tt, trivial⟩, ⟨tt, trivial⟩⟩⟩) ?_
      refine Tri.seq ?_
      refine Tri.split (!(FwEnd (FwU32_1 p2 p3) (FwU32_2 p2 p3))) (fun h2 => ?_) (fun h2 => ?_)
      ·
        refine Tri.seq_region [(21, qb true)] none [30, 7, 0] [4, 0, 1, 2, 3] (TT ∧ ((TT ∧ True) ∧ (TT ∧ ((True ∧ ((!(FwEnd (FwU32_1 p2 p3) (FwU32_2 p2 p3))) = true)) ∧ (TT ∧ (TT ∧ (TT ∧ (TT ∧ (TT ∧ (TT ∧ (TT ∧ (TT ∧ (TT ∧ True)))))))))))))
            ([(30, .sc (.b true)), (7, .sc (.i .u32 (FwU32 p2 p3))), (0, .sc (.p 0 0))], [(4, .cells [.ro .u8 (FwU32_1 p2 p3), .b (FwU32_2 p2 p3)]), (0, chC 1 2 3 p0), (1, .ints .u8 p0.wait.length p0.wait), (2, .ints .u8 p0.got.length p0.got), (3, .vec .row p0.out)])
            336 (by kernel_rfl) rfl (by kernel_rfl) (⟨tt, ⟨⟨tt, trivial⟩, ⟨tt, ⟨⟨trivial, (h2)⟩, ⟨tt, ⟨tt, ⟨tt, ⟨tt, ⟨tt, ⟨tt, ⟨tt, ⟨tt, ⟨tt, trivial⟩⟩⟩⟩⟩⟩⟩⟩⟩⟩⟩⟩⟩) ?_
        refine Tri.cond_true (by kernel_rfl) ?_
        refine Tri.seq_region [] none [6] [4, 0, 1, 2, 3] (TT ∧ True)
            ([(6, .sc (.i .i64 3))], [(4, .cells [.ro .u8 (FwU32_1 p2 p3), .b (FwU32_2 p2 p3)]), (0, chC 1 2 3 p0), (1, .ints .u8 p0.wait.length p0.wait), (2, .ints .u8 p0.got.length p0.got), (3, .vec .row p0.out)])
            352 (by kernel_rfl) rfl (by kernel_rfl) (⟨tt, trivial⟩) ?_
        refine Tri.ret ?_
        repeat (first | refine thenP_ret ?_ | refine blkP_ret ?_ | refine countP_ret ?_ | refine joinP_ret ?_ | refine iterP_ret ?_)
        refine subP_done ?_
        refine endP.conv (r' := ⟨.sc (.i .i64 3), [some (chC 5 6 7 p0), none, none, none, some (.cells [.ro .u8 (FwU32_1 p2 p3), .b (FwU32_2 p2 p3)]), some (.ints .u8 p0.wait.length p0.wait), some (.ints .u8 p0.got.length p0.got), some (.vec .row p0.out)]⟩) (by simp only [chC, Fcon, Fcon_1, Fcon_2, Fcon_3, h1, h2, sel_true, sel_false]) ?_
        exact endP.ret [(0, 0), (4, 4), (1, 5), (2, 6), (3, 7)] TT (by kernel_rfl) (by kernel_rfl) tt
      ·
        refine Tri.seq_region [(21, qb false)] none [30, 7, 0] [4, 0, 1, 2, 3] (TT ∧ ((TT ∧ True) ∧ (TT ∧ ((True ∧ ((!(FwEnd (FwU32_1 p2 p3) (FwU32_2 p2 p3))) = false)) ∧ (TT ∧ (TT ∧ (TT ∧ (((3 < 14) ∧ True) ∧ (TT ∧ (TT ∧ (TT ∧ (TT ∧ (TT ∧ True)))))))))))))
            ([(30, .sc (.b (decide (((iAdd .i64 p0.window (IntKind.wrap .i64 (FwU32 p2 p3))) : Int) > 2147483647)))), (7, .sc (.i .u32 (FwU32 p2 p3))), (0, .sc (.p 0 0))], [(4, .cells [.ro .u8 (FwU32_1 p2 p3), .b (FwU32_2 p2 p3)]), (0, chC 1 2 3 p0), (1, .ints .u8 p0.wait.length p0.wait), (2, .ints .u8 p0.got.length p0.got), (3, .vec .row p0.out)])
            336 (by kernel_rfl) rfl (by kernel_rfl) (⟨tt, ⟨⟨tt, trivial⟩, ⟨tt, ⟨⟨trivial, (h2)⟩, ⟨tt, ⟨tt, ⟨tt, ⟨⟨(by first | omega | (dsimp only; omega) | decide | (simp only [Fconv0, Fconv1, Fconv2, Fconv3, Fconv4, Fconv5, len_say]; omega)), trivial⟩, ⟨tt, ⟨tt, ⟨tt, ⟨tt, ⟨tt, trivial⟩⟩⟩⟩⟩⟩⟩⟩⟩⟩⟩⟩⟩) ?_
        refine Tri.cond (x := (decide (((iAdd .i64 p0.window (IntKind.wrap .i64 (FwU32 p2 p3))) : Int) > 2147483647))) (by kernel_rfl) (fun h3 => ?_) (fun h3 => ?_)
        ·
          have h3' := of_decide_eq_true h3
          refine Tri.seq_region [] none [6] [4, 0, 1, 2, 3] (TT ∧ True)
              ([(6, .sc (.i .i64 3))], [(4, .cells [.ro .u8 (FwU32_1 p2 p3), .b (FwU32_2 p2 p3)]), (0, chC 1 2 3 p0), (1, .ints .u8 p0.wait.length p0.wait), (2, .ints .u8 p0.got.length p0.got), (3, .vec .row p0.out)])
              352 (by kernel_rfl) rfl (by kernel_rfl) (⟨tt, trivial⟩) ?_
          refine Tri.ret ?_
          repeat (first | refine thenP_ret ?_ | refine blkP_ret ?_ | refine countP_ret ?_ | refine joinP_ret ?_ | refine iterP_ret ?_)
          refine subP_done ?_
          refine endP.conv (r' := ⟨.sc (.i .i64 3), [some (chC 5 6 7 p0), none, none, none, some (.cells [.ro .u8 (FwU32_1 p2 p3), .b (FwU32_2 p2 p3)]), some (.ints .u8 p0.wait.length p0.wait), some (.ints .u8 p0.got.length p0.got), some (.vec .row p0.out)]⟩) (by simp only [chC, Fcon, Fcon_1, Fcon_2, Fcon_3, h1, h2, h3, sel_true, sel_false]) ?_
          exact endP.ret [(0, 0), (4, 4), (1, 5), (2, 6), (3, 7)] TT (by kernel_rfl) (by kernel_rfl) tt
        ·
          have h3' := of_decide_eq_false h3
          refine Tri.skip ?_
          change Tri _ _ _ _ _ _
          refine Tri.seq_region [] none [0] [0, 4, 1, 2, 3] (TT ∧ (TT ∧ (TT ∧ (((3 < 14) ∧ True) ∧ (TT ∧ (TT ∧ (TT ∧ (TT ∧ (TT ∧ ((((3 < 14) ∧ (1 = 1)) ∧ True) ∧ True))))))))))
              ([(0, .sc (.p 0 0))], [(0, .cells [.b p0.server, .i .i64 p0.state, .i .u32 p0.peer, .i .i64 (iAdd .i64 p0.window (IntKind.wrap .i64 (FwU32 p2 p3))), .i .i64 p0.most, .i .i64 p0.room, .sl 1 0 p0.wait.length 1 none, .sl 2 0 p0.got.length 1 none, .b p0.ready, .b p0.e0, .b p0.e1, .b p0.c0, .b p0.c1, .sl 3 0 p0.out.length 1 none]), (4, .cells [.ro .u8 (FwU32_1 p2 p3), .b (FwU32_2 p2 p3)]), (1, .ints .u8 p0.wait.length p0.wait), (2, .ints .u8 p0.got.length p0.got), (3, .vec .row p0.out)])
              496 (by kernel_rfl) rfl (by kernel_rfl) (⟨tt, ⟨tt, ⟨tt, ⟨⟨(by first | omega | (dsimp only; omega) | decide | (simp only [Fconv0, Fconv1, Fconv2, Fconv3, Fconv4, Fconv5, len_say]; omega)), trivial⟩, ⟨tt, ⟨tt, ⟨tt, ⟨tt, ⟨tt, ⟨⟨⟨(by first | omega | (dsimp only; omega) | decide | (simp only [Fconv0, Fconv1, Fconv2, Fconv3, Fconv4, Fconv5, len_say]; omega)), (rfl)⟩, trivial⟩, trivial⟩⟩⟩⟩⟩⟩⟩⟩⟩⟩) ?_
          refine Tri.region' [] none [] [514, 513, 512, 0, 4] (TT ∧ (((True ∧ ((chLens (({p0 with window := (iAdd .i64 p0.window (IntKind.wrap .i64 (FwU32 p2 p3)))} : Ch).wait.length) (({p0 with window := (iAdd .i64 p0.window (IntKind.wrap .i64 (FwU32 p2 p3)))} : Ch).got.length) (({p0 with window := (iAdd .i64 p0.window (IntKind.wrap .i64 (FwU32 p2 p3)))} : Ch).out.length) (({p0 with window := (iAdd .i64 p0.window (IntKind.wrap .i64 (FwU32 p2 p3)))} : Ch).wait.length) (({p0 with window := (iAdd .i64 p0.window (IntKind.wrap .i64 (FwU32 p2 p3)))} : Ch).got.length) ({p0 with window := (iAdd .i64 p0.window (IntKind.wrap .i64 (FwU32 p2 p3)))} : Ch)) ∧ (chFlow ({p0 with window := (iAdd .i64 p0.window (IntKind.wrap .i64 (FwU32 p2 p3)))} : Ch)))) ∧ True) ∧ True))
              ([], [(514, .vec .row ((Fconv0 p0 p2 p3).out)), (513, .ints .u8 ((Fconv0 p0 p2 p3).got.length) ((Fconv0 p0 p2 p3).got)), (512, .ints .u8 ((Fconv0 p0 p2 p3).wait.length) ((Fconv0 p0 p2 p3).wait)), (0, chC 512 513 514 (Fconv0 p0 p2 p3)), (4, .cells [.ro .u8 (FwU32_1 p2 p3), .b (FwU32_2 p2 p3)])])
              528 (by kernel_rfl) rfl (by kernel_rfl) (⟨tt, ⟨⟨⟨trivial, ⟨(chLens_self _), ((on_flow hC (in_FwU32 _ _) (by assumption)))⟩⟩, trivial⟩, trivial⟩⟩) ?_
          change Tri _ _ _ _ _ _
          refine Tri.seq_region [] none [6] [514, 513, 512, 0, 4] (TT ∧ True)
              ([(6, .sc (.i .i64 0))], [(514, .vec .row ((Fconv0 p0 p2 p3).out)), (513, .ints .u8 ((Fconv0 p0 p2 p3).got.length) ((Fconv0 p0 p2 p3).got)), (512, .ints .u8 ((Fconv0 p0 p2 p3).wait.length) ((Fconv0 p0 p2 p3).wait)), (0, chC 512 513 514 (Fconv0 p0 p2 p3)), (4, .cells [.ro .u8 (FwU32_1 p2 p3), .b (FwU32_2 p2 p3)])])
              544 (by kernel_rfl) rfl (by kernel_rfl) (⟨tt, trivial⟩) ?_
          refine Tri.ret ?_
          repeat (first | refine thenP_ret ?_ | refine blkP_ret ?_ | refine countP_ret ?_ | refine joinP_ret ?_ | refine iterP_ret ?_)
          refine subP_done ?_
          refine endP.conv (r' := ⟨.sc (.i .i64 0), [some (chC 5 6 7 (Fconv0 p0 p2 p3)), none, none, none, some (.cells [.ro .u8 (FwU32_1 p2 p3), .b (FwU32_2 p2 p3)]), some (.ints .u8 ((Fconv0 p0 p2 p3).wait.length) ((Fconv0 p0 p2 p3).wait)), some (.ints .u8 ((Fconv0 p0 p2 p3).got.length) ((Fconv0 p0 p2 p3).got)), some (.vec .row ((Fconv0 p0 p2 p3).out))]⟩) (by simp only [chC, Fcon, Fcon_1, Fcon_2, Fcon_3, h1, h2, h3, sel_true, sel_false]) ?_
          exact endP.ret [(0, 0), (4, 4), (512, 5), (513, 6), (514, 7)] TT (by kernel_rfl) (by kernel_rfl) tt
    ·
      have h1' := eq_false_i h1
      refine Tri.seq_region [] none [42, 13, 0, 1, 2] [0, 1, 2, 3, 4] (TT ∧ (TT ∧ True))
          ([(42, .sc (.b ((p1 : Int) == 94))), (13, .sc (.i .u8 p1)), (0, .sc (.p 0 0)), (1, .sc (.i .u8 p1)), (2, .sc (.p 4 0))], [(0, chC 1 2 3 p0), (1, .ints .u8 p0.wait.length p0.wait), (2, .ints .u8 p0.got.length p0.got), (3, .vec .row p0.out), (4, .cells [.ro .u8 p2, .b p3])])
          112 (by kernel_rfl) rfl (by kernel_rfl) (⟨tt, ⟨tt, trivial⟩⟩) ?_
      refine Tri.cond (x := ((p1 : Int) == 94)) (by kernel_rfl) (fun h4 => ?_) (fun h4 => ?_)
      ·
        have h4' := eq_true_i h4
        refine Tri.seq_region [] none [8, 0, 2] [4, 0, 1, 2, 3] (TT ∧ ((TT ∧ True) ∧ (TT ∧ True)))
            ([(8, .sc (.s (FwText p2 p3))), (0, .sc (.p 0 0)), (2, .sc (.p 4 0))], [(4, .cells [.ro .u8 (FwText_1 p2 p3), .b (FwText_2 p2 p3)]), (0, chC 1 2 3 p0), (1, .ints .u8 p0.wait.length p0.wait), (2, .ints .u8 p0.got.length p0.got), (3, .vec .row p0.out)])
            160 (by kernel_rfl) rfl (by kernel_rfl) (⟨tt, ⟨⟨tt, trivial⟩, ⟨tt, trivial⟩⟩⟩) ?_
        refine Tri.seq ?_
        refine Tri.split (!(FwEnd (FwText_1 p2 p3) (FwText_2 p2 p3))) (fun h5 => ?_) (fun h5 => ?_)
        ·
          refine Tri.seq_region [(49, qb true)] none [69, 8, 0] [4, 0, 1, 2, 3] (TT ∧ ((TT ∧ True) ∧ (TT ∧ ((True ∧ ((!(FwEnd (FwText_1 p2 p3) (FwText_2 p2 p3))) = true)) ∧ (TT ∧ (TT ∧ (TT ∧ (TT ∧ (TT ∧ (TT ∧ (TT ∧ (TT ∧ (TT ∧ (TT ∧ (TT ∧ (TT ∧ (TT ∧ (TT ∧ (TT ∧ (TT ∧ (TT ∧ (TT ∧ (TT ∧ (TT ∧ True))))))))))))))))))))))))
              ([(69, .sc (.b true)), (8, .sc (.s (FwText p2 p3))), (0, .sc (.p 0 0))], [(4, .cells [.ro .u8 (FwText_1 p2 p3), .b (FwText_2 p2 p3)]), (0, chC 1 2 3 p0), (1, .ints .u8 p0.wait.length p0.wait), (2, .ints .u8 p0.got.length p0.got), (3, .vec .row p0.out)])
              544 (by kernel_rfl) rfl (by kernel_rfl) (⟨tt, ⟨⟨tt, trivial⟩, ⟨tt, ⟨⟨trivial, (h5)⟩, ⟨tt, ⟨tt, ⟨tt, ⟨tt, ⟨tt, ⟨tt, ⟨tt, ⟨tt, ⟨tt, ⟨tt, ⟨tt, ⟨tt, ⟨tt, ⟨tt, ⟨tt, ⟨tt, ⟨tt, ⟨tt, ⟨tt, ⟨tt, trivial⟩⟩⟩⟩⟩⟩⟩⟩⟩⟩⟩⟩⟩⟩⟩⟩⟩⟩⟩⟩⟩⟩⟩⟩) ?_
          refine Tri.cond_true (by kernel_rfl) ?_
          refine Tri.seq_region [] none [6] [4, 0, 1, 2, 3] (TT ∧ True)
              ([(6, .sc (.i .i64 3))], [(4, .cells [.ro .u8 (FwText_1 p2 p3), .b (FwText_2 p2 p3)]), (0, chC 1 2 3 p0), (1, .ints .u8 p0.wait.length p0.wait), (2, .ints .u8 p0.got.length p0.got), (3, .vec .row p0.out)])
              560 (by kernel_rfl) rfl (by kernel_rfl) (⟨tt, trivial⟩) ?_
          refine Tri.ret ?_
          repeat (first | refine thenP_ret ?_ | refine blkP_ret ?_ | refine countP_ret ?_ | refine joinP_ret ?_ | refine iterP_ret ?_)
          refine subP_done ?_
          refine endP.conv (r' := ⟨.sc (.i .i64 3), [some (chC 5 6 7 p0), none, none, none, some (.cells [.ro .u8 (FwText_1 p2 p3), .b (FwText_2 p2 p3)]), some (.ints .u8 p0.wait.length p0.wait), some (.ints .u8 p0.got.length p0.got), some (.vec .row p0.out)]⟩) (by simp only [chC, Fcon, Fcon_1, Fcon_2, Fcon_3, h1, h4, h5, sel_true, sel_false]) ?_
          exact endP.ret [(0, 0), (4, 4), (1, 5), (2, 6), (3, 7)] TT (by kernel_rfl) (by kernel_rfl) tt
        ·
          refine Tri.split (decide (((((FwText p2 p3).size : Nat) : Int) : Int) > p0.room)) (fun h6 => ?_) (fun h6 => ?_)
          ·
            have h6' := of_decide_eq_true h6
            refine Tri.seq_region [(49, qb false), (58, qb true)] none [69, 8, 0] [4, 0, 1, 2, 3] (TT ∧ ((TT ∧ True) ∧ (TT ∧ ((True ∧ ((!(FwEnd (FwText_1 p2 p3) (FwText_2 p2 p3))) = false)) ∧ (TT ∧ (TT ∧ (TT ∧ (TT ∧ (TT ∧ (((5 < 14) ∧ True) ∧ (TT ∧ (TT ∧ ((True ∧ ((decide (((((FwText p2 p3).size : Nat) : Int) : Int) > p0.room)) = true)) ∧ (TT ∧ (TT ∧ (TT ∧ (TT ∧ (TT ∧ (TT ∧ (TT ∧ (TT ∧ (TT ∧ (TT ∧ (TT ∧ True))))))))))))))))))))))))
                ([(69, .sc (.b true)), (8, .sc (.s (FwText p2 p3))), (0, .sc (.p 0 0))], [(4, .cells [.ro .u8 (FwText_1 p2 p3), .b (FwText_2 p2 p3)]), (0, chC 1 2 3 p0), (1, .ints .u8 p0.wait.length p0.wait), (2, .ints .u8 p0.got.length p0.got), (3, .vec .row p0.out)])
                544 (by kernel_rfl) rfl (by kernel_rfl) (⟨tt, ⟨⟨tt, trivial⟩, ⟨tt, ⟨⟨trivial, (h5)⟩, ⟨tt, ⟨tt, ⟨tt, ⟨tt, ⟨tt, ⟨⟨(by first | omega | (dsimp only; omega) | decide | (simp only [Fconv0, Fconv1, Fconv2, Fconv3, Fconv4, Fconv5, len_say]; omega)), trivial⟩, ⟨tt, ⟨tt, ⟨⟨trivial, (h6)⟩, ⟨tt, ⟨tt, ⟨tt, ⟨tt, ⟨tt, ⟨tt, ⟨tt, ⟨tt, ⟨tt, ⟨tt, ⟨tt, trivial⟩⟩⟩⟩⟩⟩⟩⟩⟩⟩⟩⟩⟩⟩⟩⟩⟩⟩⟩⟩⟩⟩⟩⟩) ?_
            refine Tri.cond_true (by kernel_rfl) ?_
            refine Tri.seq_region [] none [6] [4, 0, 1, 2, 3] (TT ∧ True)
                ([(6, .sc (.i .i64 3))], [(4, .cells [.ro .u8 (FwText_1 p2 p3), .b (FwText_2 p2 p3)]), (0, chC 1 2 3 p0), (1, .ints .u8 p0.wait.length p0.wait), (2, .ints .u8 p0.got.length p0.got), (3, .vec .row p0.out)])
                560 (by kernel_rfl) rfl (by kernel_rfl) (⟨tt, trivial⟩) ?_
            refine Tri.ret ?_
            repeat (first | refine thenP_ret ?_ | refine blkP_ret ?_ | refine countP_ret ?_ | refine joinP_ret ?_ | refine iterP_ret ?_)
            refine subP_done ?_
            refine endP.conv (r' := ⟨.sc (.i .i64 3), [some (chC 5 6 7 p0), none, none, none, some (.cells [.ro .u8 (FwText_1 p2 p3), .b (FwText_2 p2 p3)]), some (.ints .u8 p0.wait.length p0.wait), some (.ints .u8 p0.got.length p0.got), some (.vec .row p0.out)]⟩) (by simp only [chC, Fcon, Fcon_1, Fcon_2, Fcon_3, h1, h4, h5, h6, sel_true, sel_false]) ?_
            exact endP.ret [(0, 0), (4, 4), (1, 5), (2, 6), (3, 7)] TT (by kernel_rfl) (by kernel_rfl) tt
          ·
            have h6' := of_decide_eq_false h6
            refine Tri.split (decide (((((FwText p2 p3).size : Nat) : Int) : Int) > 512)) (fun h7 => ?_) (fun h7 => ?_)
            ·
              have h7' := of_decide_eq_true h7
              refine Tri.seq_region [(49, qb false), (58, qb false), (63, qb true)] none [69, 8, 0] [4, 0, 1, 2, 3] (TT ∧ ((TT ∧ True) ∧ (TT ∧ ((True ∧ ((!(FwEnd (FwText_1 p2 p3) (FwText_2 p2 p3))) = false)) ∧ (TT ∧ (TT ∧ (TT ∧ (TT ∧ (TT ∧ (((5 < 14) ∧ True) ∧ (TT ∧ (TT ∧ ((True ∧ ((decide (((((FwText p2 p3).size : Nat) : Int) : Int) > p0.room)) = false)) ∧ (TT ∧ (TT ∧ (TT ∧ (TT ∧ ((True ∧ ((decide (((((FwText p2 p3).size : Nat) : Int) : Int) > 512)) = true)) ∧ (TT ∧ (TT ∧ (TT ∧ (TT ∧ (TT ∧ (TT ∧ True))))))))))))))))))))))))
                  ([(69, .sc (.b true)), (8, .sc (.s (FwText p2 p3))), (0, .sc (.p 0 0))], [(4, .cells [.ro .u8 (FwText_1 p2 p3), .b (FwText_2 p2 p3)]), (0, chC 1 2 3 p0), (1, .ints .u8 p0.wait.length p0.wait), (2, .ints .u8 p0.got.length p0.got), (3, .vec .row p0.out)])
                  544 (by kernel_rfl) rfl (by kernel_rfl) (⟨tt, ⟨⟨tt, trivial⟩, ⟨tt, ⟨⟨trivial, (h5)⟩, ⟨tt, ⟨tt, ⟨tt, ⟨tt, ⟨tt, ⟨⟨(by first | omega | (dsimp only; omega) | decide | (simp only [Fconv0, Fconv1, Fconv2, Fconv3, Fconv4, Fconv5, len_say]; omega)), trivial⟩, ⟨tt, ⟨tt, ⟨⟨trivial, (h6)⟩, ⟨tt, ⟨tt, ⟨tt, ⟨tt, ⟨⟨trivial, (h7)⟩, ⟨tt, ⟨tt, ⟨tt, ⟨tt, ⟨tt, ⟨tt, trivial⟩⟩⟩⟩⟩⟩⟩⟩⟩⟩⟩⟩⟩⟩⟩⟩⟩⟩⟩⟩⟩⟩⟩⟩) ?_
              refine Tri.cond_true (by kernel_rfl) ?_
              refine Tri.seq_region [] none [6] [4, 0, 1, 2, 3] (TT ∧ True)
                  ([(6, .sc (.i .i64 3))], [(4, .cells [.ro .u8 (FwText_1 p2 p3), .b (FwText_2 p2 p3)]), (0, chC 1 2 3 p0), (1, .ints .u8 p0.wait.length p0.wait), (2, .ints .u8 p0.got.length p0.got), (3, .vec .row p0.out)])
                  560 (by kernel_rfl) rfl (by kernel_rfl) (⟨tt, trivial⟩) ?_
              refine Tri.ret ?_
              repeat (first | refine thenP_ret ?_ | refine blkP_ret ?_ | refine countP_ret ?_ | refine joinP_ret ?_ | refine iterP_ret ?_)
              refine subP_done ?_
              refine endP.conv (r' := ⟨.sc (.i .i64 3), [some (chC 5 6 7 p0), none, none, none, some (.cells [.ro .u8 (FwText_1 p2 p3), .b (FwText_2 p2 p3)]), some (.ints .u8 p0.wait.length p0.wait), some (.ints .u8 p0.got.length p0.got), some (.vec .row p0.out)]⟩) (by simp only [chC, Fcon, Fcon_1, Fcon_2, Fcon_3, h1, h4, h5, h6, h7, sel_true, sel_false]) ?_
              exact endP.ret [(0, 0), (4, 4), (1, 5), (2, 6), (3, 7)] TT (by kernel_rfl) (by kernel_rfl) tt
            ·
              have h7' := of_decide_eq_false h7
              refine Tri.seq_region [(49, qb false), (58, qb false), (63, qb false)] none [69, 8, 0] [4, 0, 1, 2, 3] (TT ∧ ((TT ∧ True) ∧ (TT ∧ ((True ∧ ((!(FwEnd (FwText_1 p2 p3) (FwText_2 p2 p3))) = false)) ∧ (TT ∧ (TT ∧ (TT ∧ (TT ∧ (TT ∧ (((5 < 14) ∧ True) ∧ (TT ∧ (TT ∧ ((True ∧ ((decide (((((FwText p2 p3).size : Nat) : Int) : Int) > p0.room)) = false)) ∧ (TT ∧ (TT ∧ (TT ∧ (TT ∧ ((True ∧ ((decide (((((FwText p2 p3).size : Nat) : Int) : Int) > 512)) = false)) ∧ (TT ∧ (TT ∧ (TT ∧ ((((0 : Int) ≤ 1 ∧ 1 < ((2 : Nat) : Int)) ∧ True) ∧ (((10 < 14) ∧ True) ∧ (TT ∧ True))))))))))))))))))))))))
                  ([(69, .sc (.b p0.e1)), (8, .sc (.s (FwText p2 p3))), (0, .sc (.p 0 0))], [(4, .cells [.ro .u8 (FwText_1 p2 p3), .b (FwText_2 p2 p3)]), (0, chC 1 2 3 p0), (1, .ints .u8 p0.wait.length p0.wait), (2, .ints .u8 p0.got.length p0.got), (3, .vec .row p0.out)])
                  544 (by kernel_rfl) rfl (by kernel_rfl) (⟨tt, ⟨⟨tt, trivial⟩, ⟨tt, ⟨⟨trivial, (h5)⟩, ⟨tt, ⟨tt, ⟨tt, ⟨tt, ⟨tt, ⟨⟨(by first | omega | (dsimp only; omega) | decide | (simp only [Fconv0, Fconv1, Fconv2, Fconv3, Fconv4, Fconv5, len_say]; omega)), trivial⟩, ⟨tt, ⟨tt, ⟨⟨trivial, (h6)⟩, ⟨tt, ⟨tt, ⟨tt, ⟨tt, ⟨⟨trivial, (h7)⟩, ⟨tt, ⟨tt, ⟨tt, ⟨⟨(by first | omega | (dsimp only; omega) | decide | (simp only [Fconv0, Fconv1, Fconv2, Fconv3, Fconv4, Fconv5, len_say]; omega)), trivial⟩, ⟨⟨(by first | omega | (dsimp only; omega) | decide | (simp only [Fconv0, Fconv1, Fconv2, Fconv3, Fconv4, Fconv5, len_say]; omega)), trivial⟩, ⟨tt, trivial⟩⟩⟩⟩⟩⟩⟩⟩⟩⟩⟩⟩⟩⟩⟩⟩⟩⟩⟩⟩⟩⟩⟩⟩) ?_
              refine Tri.cond (x := p0.e1) (by kernel_rfl) (fun h8 => ?_) (fun h8 => ?_)
              ·
                refine Tri.seq_region [] none [6] [4, 0, 1, 2, 3] (TT ∧ True)
                    ([(6, .sc (.i .i64 3))], [(4, .cells [.ro .u8 (FwText_1 p2 p3), .b (FwText_2 p2 p3)]), (0, chC 1 2 3 p0), (1, .ints .u8 p0.wait.length p0.wait), (2, .ints .u8 p0.got.length p0.got), (3, .vec .row p0.out)])
                    560 (by kernel_rfl) rfl (by kernel_rfl) (⟨tt, trivial⟩) ?_
                refine Tri.ret ?_
                repeat (first | refine thenP_ret ?_ | refine blkP_ret ?_ | refine countP_ret ?_ | refine joinP_ret ?_ | refine iterP_ret ?_)
                refine subP_done ?_
                refine endP.conv (r' := ⟨.sc (.i .i64 3), [some (chC 5 6 7 p0), none, none, none, some (.cells [.ro .u8 (FwText_1 p2 p3), .b (FwText_2 p2 p3)]), some (.ints .u8 p0.wait.length p0.wait), some (.ints .u8 p0.got.length p0.got), some (.vec .row p0.out)]⟩) (by simp only [chC, Fcon, Fcon_1, Fcon_2, Fcon_3, h1, h4, h5, h6, h7, h8, sel_true, sel_false]) ?_
                exact endP.ret [(0, 0), (4, 4), (1, 5), (2, 6), (3, 7)] TT (by kernel_rfl) (by kernel_rfl) tt
              ·
                refine Tri.skip ?_
                change Tri _ _ _ _ _ _
                refine Tri.seq_region [] none [8, 0] [0, 4, 1, 2, 3] (TT ∧ (TT ∧ (TT ∧ (((5 < 14) ∧ True) ∧ (TT ∧ (TT ∧ (TT ∧ (TT ∧ (TT ∧ ((((5 < 14) ∧ (1 = 1)) ∧ True) ∧ True))))))))))
                    ([(8, .sc (.s (FwText p2 p3))), (0, .sc (.p 0 0))], [(0, .cells [.b p0.server, .i .i64 p0.state, .i .u32 p0.peer, .i .i64 p0.window, .i .i64 p0.most, .i .i64 (iSub .i64 p0.room (((FwText p2 p3).size : Nat) : Int)), .sl 1 0 p0.wait.length 1 none, .sl 2 0 p0.got.length 1 none, .b p0.ready, .b p0.e0, .b p0.e1, .b p0.c0, .b p0.c1, .sl 3 0 p0.out.length 1 none]), (4, .cells [.ro .u8 (FwText_1 p2 p3), .b (FwText_2 p2 p3)]), (1, .ints .u8 p0.wait.length p0.wait), (2, .ints .u8 p0.got.length p0.got), (3, .vec .row p0.out)])
                    704 (by kernel_rfl) rfl (by kernel_rfl) (⟨tt, ⟨tt, ⟨tt, ⟨⟨(by first | omega | (dsimp only; omega) | decide | (simp only [Fconv0, Fconv1, Fconv2, Fconv3, Fconv4, Fconv5, len_say]; omega)), trivial⟩, ⟨tt, ⟨tt, ⟨tt, ⟨tt, ⟨tt, ⟨⟨⟨(by first | omega | (dsimp only; omega) | decide | (simp only [Fconv0, Fconv1, Fconv2, Fconv3, Fconv4, Fconv5, len_say]; omega)), (rfl)⟩, trivial⟩, trivial⟩⟩⟩⟩⟩⟩⟩⟩⟩⟩) ?_
                refine Tri.region' [] none [] [0, 800, 4, 1, 3] (TT ∧ (TT ∧ (TT ∧ (TT ∧ (((7 < 14) ∧ True) ∧ (TT ∧ ((((((True ∧ (1 = 1)) ∧ ((0 < 1) ∧ (((p0.got.length + ((FwText p2 p3).size)) * 1 ≤ 140737488355328) ∧ (p0.got.length + ((FwText p2 p3).size) ≤ 140737488355328)))) ∧ ((FwText p2 p3).size = ((FwText p2 p3).size) * 1)) ∧ ((1 = 1) ∧ (0 + p0.got.length * 1 = p0.got.length))) ∧ True) ∧ (TT ∧ (TT ∧ ((((7 < 14) ∧ (1 = 1)) ∧ True) ∧ True))))))))))
                    ([], [(0, .cells [.b p0.server, .i .i64 p0.state, .i .u32 p0.peer, .i .i64 p0.window, .i .i64 p0.most, .i .i64 (iSub .i64 p0.room (((FwText p2 p3).size : Nat) : Int)), .sl 1 0 p0.wait.length 1 none, .sl 800 0 (p0.got.length + ((FwText p2 p3).size)) 1 none, .b p0.ready, .b p0.e0, .b p0.e1, .b p0.c0, .b p0.c1, .sl 3 0 p0.out.length 1 none]), (800, .ints .u8 (p0.got.length + ((FwText p2 p3).size)) (p0.got ++ (bytesI (FwText p2 p3)))), (4, .cells [.ro .u8 (FwText_1 p2 p3), .b (FwText_2 p2 p3)]), (1, .ints .u8 p0.wait.length p0.wait), (3, .vec .row p0.out)])
                    864 (by kernel_rfl) rfl (by kernel_rfl) (⟨tt, ⟨tt, ⟨tt, ⟨tt, ⟨⟨(by first | omega | (dsimp only; omega) | decide | (simp only [Fconv0, Fconv1, Fconv2, Fconv3, Fconv4, Fconv5, len_say]; omega)), trivial⟩, ⟨tt, ⟨⟨⟨⟨⟨⟨trivial, (rfl)⟩, ⟨(by first | omega | (dsimp only; omega) | decide | (simp only [Fconv0, Fconv1, Fconv2, Fconv3, Fconv4, Fconv5, len_say]; omega)), ⟨(by first | omega | (dsimp only; omega) | decide | (simp only [Fconv0, Fconv1, Fconv2, Fconv3, Fconv4, Fconv5, len_say]; omega)), (by first | omega | (dsimp only; omega) | decide | (simp only [Fconv0, Fconv1, Fconv2, Fconv3, Fconv4, Fconv5, len_say]; omega))⟩⟩⟩, (by first | omega | (dsimp only; omega) | decide | (simp only [Fconv0, Fconv1, Fconv2, Fconv3, Fconv4, Fconv5, len_say]; omega))⟩, ⟨(rfl), (by first | omega | (dsimp only; omega) | decide | (simp only [Fconv0, Fconv1, Fconv2, Fconv3, Fconv4, Fconv5, len_say]; omega))⟩⟩, trivial⟩, ⟨tt, ⟨tt, ⟨⟨⟨(by first | omega | (dsimp only; omega) | decide | (simp only [Fconv0, Fconv1, Fconv2, Fconv3, Fconv4, Fconv5, len_say]; omega)), (rfl)⟩, trivial⟩, trivial⟩⟩⟩⟩⟩⟩⟩⟩⟩⟩) ?_
                change Tri _ _ _ _ _ _
                refine Tri.sub (Sub.of_eq (congrArg (fun (qq : Nat) => (([], [(0, .cells [.b p0.server, .i .i64 p0.state, .i .u32 p0.peer, .i .i64 p0.window, .i .i64 p0.most, .i .i64 (iSub .i64 p0.room (((FwText p2 p3).size : Nat) : Int)), .sl 1 0 p0.wait.length 1 none, .sl 800 0 qq 1 none, .b p0.ready, .b p0.e0, .b p0.e1, .b p0.c0, .b p0.c1, .sl 3 0 p0.out.length 1 none]), (800, .ints .u8 qq (p0.got ++ (bytesI (FwText p2 p3)))), (4, .cells [.ro .u8 (FwText_1 p2 p3), .b (FwText_2 p2 p3)]), (1, .ints .u8 p0.wait.length p0.wait), (3, .vec .row p0.out)]) : St)) (show p0.got.length + ((FwText p2 p3).size) = (p0.got ++ (bytesI (FwText p2 p3))).length from by simp only [List.length_append, List.length_drop, List.length_cons, List.length_nil, Nat.zero_add, Nat.sub_zero, Nat.reduceAdd, bytesI_length]))) ?_
                show Tri _ _ _ _ ([], [(0, .cells [.b p0.server, .i .i64 p0.state, .i .u32 p0.peer, .i .i64 p0.window, .i .i64 p0.most, .i .i64 (iSub .i64 p0.room (((FwText p2 p3).size : Nat) : Int)), .sl 1 0 p0.wait.length 1 none, .sl 800 0 ((p0.got ++ (bytesI (FwText p2 p3))).length) 1 none, .b p0.ready, .b p0.e0, .b p0.e1, .b p0.c0, .b p0.c1, .sl 3 0 p0.out.length 1 none]), (800, .ints .u8 ((p0.got ++ (bytesI (FwText p2 p3))).length) (p0.got ++ (bytesI (FwText p2 p3)))), (4, .cells [.ro .u8 (FwText_1 p2 p3), .b (FwText_2 p2 p3)]), (1, .ints .u8 p0.wait.length p0.wait), (3, .vec .row p0.out)]) _
                refine Tri.seq_region [] none [6] [0, 800, 4, 1, 3] (TT ∧ True)
                    ([(6, .sc (.i .i64 0))], [(0, .cells [.b p0.server, .i .i64 p0.state, .i .u32 p0.peer, .i .i64 p0.window, .i .i64 p0.most, .i .i64 (iSub .i64 p0.room (((FwText p2 p3).size : Nat) : Int)), .sl 1 0 p0.wait.length 1 none, .sl 800 0 ((p0.got ++ (bytesI (FwText p2 p3))).length) 1 none, .b p0.ready, .b p0.e0, .b p0.e1, .b p0.c0, .b p0.c1, .sl 3 0 p0.out.length 1 none]), (800, .ints .u8 ((p0.got ++ (bytesI (FwText p2 p3))).length) (p0.got ++ (bytesI (FwText p2 p3)))), (4, .cells [.ro .u8 (FwText_1 p2 p3), .b (FwText_2 p2 p3)]), (1, .ints .u8 p0.wait.length p0.wait), (3, .vec .row p0.out)])
                    880 (by kernel_rfl) rfl (by kernel_rfl) (⟨tt, trivial⟩) ?_
                refine Tri.ret ?_
                repeat (first | refine thenP_ret ?_ | refine blkP_ret ?_ | refine countP_ret ?_ | refine joinP_ret ?_ | refine iterP_ret ?_)
                refine subP_done ?_
                refine endP.conv (r' := ⟨.sc (.i .i64 0), [some (.cells [.b p0.server, .i .i64 p0.state, .i .u32 p0.peer, .i .i64 p0.window, .i .i64 p0.most, .i .i64 (iSub .i64 p0.room (((FwText p2 p3).size : Nat) : Int)), .sl 5 0 p0.wait.length 1 none, .sl 6 0 ((p0.got ++ (bytesI (FwText p2 p3))).length) 1 none, .b p0.ready, .b p0.e0, .b p0.e1, .b p0.c0, .b p0.c1, .sl 7 0 p0.out.length 1 none]), none, none, none, some (.cells [.ro .u8 (FwText_1 p2 p3), .b (FwText_2 p2 p3)]), some (.ints .u8 p0.wait.length p0.wait), some (.ints .u8 ((p0.got ++ (bytesI (FwText p2 p3))).length) (p0.got ++ (bytesI (FwText p2 p3)))), some (.vec .row p0.out)]⟩) (by simp only [chC, Fcon, Fcon_1, Fcon_2, Fcon_3, h1, h4, h5, h6, h7, h8, sel_true, sel_false]) ?_
                exact endP.ret [(0, 0), (4, 4), (1, 5), (800, 6), (3, 7)] TT (by kernel_rfl) (by kernel_rfl) tt
      ·
        have h4' := eq_false_i h4
        refine Tri.seq_region [] none [88, 13, 0, 1, 2] [0, 1, 2, 3, 4] (TT ∧ (TT ∧ True))
            ([(88, .sc (.b ((p1 : Int) == 96))), (13, .sc (.i .u8 p1)), (0, .sc (.p 0 0)), (1, .sc (.i .u8 p1)), (2, .sc (.p 4 0))], [(0, chC 1 2 3 p0), (1, .ints .u8 p0.wait.length p0.wait), (2, .ints .u8 p0.got.length p0.got), (3, .vec .row p0.out), (4, .cells [.ro .u8 p2, .b p3])])
            144 (by kernel_rfl) rfl (by kernel_rfl) (⟨tt, ⟨tt, trivial⟩⟩) ?_
        refine Tri.cond (x := ((p1 : Int) == 96)) (by kernel_rfl) (fun h9 => ?_) (fun h9 => ?_)
        ·
          have h9' := eq_true_i h9
          refine Tri.seq ?_
          refine Tri.split (!(FwEnd p2 p3)) (fun h10 => ?_) (fun h10 => ?_)
          ·
            refine Tri.seq_region [(93, qb true)] none [99, 0] [4, 0, 1, 2, 3] (TT ∧ ((TT ∧ True) ∧ (TT ∧ ((True ∧ ((!(FwEnd p2 p3)) = true)) ∧ (TT ∧ (TT ∧ (TT ∧ (TT ∧ (TT ∧ (TT ∧ True))))))))))
                ([(99, .sc (.b true)), (0, .sc (.p 0 0))], [(4, .cells [.ro .u8 p2, .b p3]), (0, chC 1 2 3 p0), (1, .ints .u8 p0.wait.length p0.wait), (2, .ints .u8 p0.got.length p0.got), (3, .vec .row p0.out)])
                304 (by kernel_rfl) rfl (by kernel_rfl) (⟨tt, ⟨⟨tt, trivial⟩, ⟨tt, ⟨⟨trivial, (h10)⟩, ⟨tt, ⟨tt, ⟨tt, ⟨tt, ⟨tt, ⟨tt, trivial⟩⟩⟩⟩⟩⟩⟩⟩⟩⟩) ?_
            refine Tri.cond_true (by kernel_rfl) ?_
            refine Tri.seq_region [] none [6] [4, 0, 1, 2, 3] (TT ∧ True)
                ([(6, .sc (.i .i64 3))], [(4, .cells [.ro .u8 p2, .b p3]), (0, chC 1 2 3 p0), (1, .ints .u8 p0.wait.length p0.wait), (2, .ints .u8 p0.got.length p0.got), (3, .vec .row p0.out)])
                320 (by kernel_rfl) rfl (by kernel_rfl) (⟨tt, trivial⟩) ?_
            refine Tri.ret ?_
            repeat (first | refine thenP_ret ?_ | refine blkP_ret ?_ | refine countP_ret ?_ | refine joinP_ret ?_ | refine iterP_ret ?_)
            refine subP_done ?_
            refine endP.conv (r' := ⟨.sc (.i .i64 3), [some (chC 5 6 7 p0), none, none, none, some (.cells [.ro .u8 p2, .b p3]), some (.ints .u8 p0.wait.length p0.wait), some (.ints .u8 p0.got.length p0.got), some (.vec .row p0.out)]⟩) (by simp only [chC, Fcon, Fcon_1, Fcon_2, Fcon_3, h1, h4, h9, h10, sel_true, sel_false]) ?_
            exact endP.ret [(0, 0), (4, 4), (1, 5), (2, 6), (3, 7)] TT (by kernel_rfl) (by kernel_rfl) tt
          ·
            refine Tri.seq_region [(93, qb false)] none [99, 0] [4, 0, 1, 2, 3] (TT ∧ ((TT ∧ True) ∧ (TT ∧ ((True ∧ ((!(FwEnd p2 p3)) = false)) ∧ (TT ∧ (TT ∧ (TT ∧ ((((0 : Int) ≤ 1 ∧ 1 < ((2 : Nat) : Int)) ∧ True) ∧ (((10 < 14) ∧ True) ∧ (TT ∧ True))))))))))
                ([(99, .sc (.b p0.e1)), (0, .sc (.p 0 0))], [(4, .cells [.ro .u8 p2, .b p3]), (0, chC 1 2 3 p0), (1, .ints .u8 p0.wait.length p0.wait), (2, .ints .u8 p0.got.length p0.got), (3, .vec .row p0.out)])
                304 (by kernel_rfl) rfl (by kernel_rfl) (⟨tt, ⟨⟨tt, trivial⟩, ⟨tt, ⟨⟨trivial, (h10)⟩, ⟨tt, ⟨tt, ⟨tt, ⟨⟨(by first | omega | (dsimp only; omega) | decide | (simp only [Fconv0, Fconv1, Fconv2, Fconv3, Fconv4, Fconv5, len_say]; omega)), trivial⟩, ⟨⟨(by first | omega | (dsimp only; omega) | decide | (simp only [Fconv0, Fconv1, Fconv2, Fconv3, Fconv4, Fconv5, len_say]; omega)), trivial⟩, ⟨tt, trivial⟩⟩⟩⟩⟩⟩⟩⟩⟩⟩) ?_
            refine Tri.cond (x := p0.e1) (by kernel_rfl) (fun h11 => ?_) (fun h11 => ?_)
            ·
              refine Tri.seq_region [] none [6] [4, 0, 1, 2, 3] (TT ∧ True)
                  ([(6, .sc (.i .i64 3))], [(4, .cells [.ro .u8 p2, .b p3]), (0, chC 1 2 3 p0), (1, .ints .u8 p0.wait.length p0.wait), (2, .ints .u8 p0.got.length p0.got), (3, .vec .row p0.out)])
                  320 (by kernel_rfl) rfl (by kernel_rfl) (⟨tt, trivial⟩) ?_
              refine Tri.ret ?_
              repeat (first | refine thenP_ret ?_ | refine blkP_ret ?_ | refine countP_ret ?_ | refine joinP_ret ?_ | refine iterP_ret ?_)
              refine subP_done ?_
              refine endP.conv (r' := ⟨.sc (.i .i64 3), [some (chC 5 6 7 p0), none, none, none, some (.cells [.ro .u8 p2, .b p3]), some (.ints .u8 p0.wait.length p0.wait), some (.ints .u8 p0.got.length p0.got), some (.vec .row p0.out)]⟩) (by simp only [chC, Fcon, Fcon_1, Fcon_2, Fcon_3, h1, h4, h9, h10, h11, sel_true, sel_false]) ?_
              exact endP.ret [(0, 0), (4, 4), (1, 5), (2, 6), (3, 7)] TT (by kernel_rfl) (by kernel_rfl) tt
            ·
              refine Tri.skip ?_
              change Tri _ _ _ _ _ _
              refine Tri.region' [] none [] [0, 4, 1, 2, 3] (TT ∧ (TT ∧ (TT ∧ ((((0 : Int) ≤ 1 ∧ 1 < ((2 : Nat) : Int)) ∧ True) ∧ ((((10 < 14) ∧ (1 = 1)) ∧ True) ∧ True)))))
                  ([], [(0, .cells [.b p0.server, .i .i64 p0.state, .i .u32 p0.peer, .i .i64 p0.window, .i .i64 p0.most, .i .i64 p0.room, .sl 1 0 p0.wait.length 1 none, .sl 2 0 p0.got.length 1 none, .b p0.ready, .b p0.e0, .b true, .b p0.c0, .b p0.c1, .sl 3 0 p0.out.length 1 none]), (4, .cells [.ro .u8 p2, .b p3]), (1, .ints .u8 p0.wait.length p0.wait), (2, .ints .u8 p0.got.length p0.got), (3, .vec .row p0.out)])
                  384 (by kernel_rfl) rfl (by kernel_rfl) (⟨tt, ⟨tt, ⟨tt, ⟨⟨(by first | omega | (dsimp only; omega) | decide | (simp only [Fconv0, Fconv1, Fconv2, Fconv3, Fconv4, Fconv5, len_say]; omega)), trivial⟩, ⟨⟨⟨(by first | omega | (dsimp only; omega) | decide | (simp only [Fconv0, Fconv1, Fconv2, Fconv3, Fconv4, Fconv5, len_say]; omega)), (rfl)⟩, trivial⟩, trivial⟩⟩⟩⟩⟩) ?_
              change Tri _ _ _ _ _ _
              refine Tri.seq_region [] none [6] [0, 4, 1, 2, 3] (TT ∧ True)
                  ([(6, .sc (.i .i64 0))], [(0, .cells [.b p0.server, .i .i64 p0.state, .i .u32 p0.peer, .i .i64 p0.window, .i .i64 p0.most, .i .i64 p0.room, .sl 1 0 p0.wait.length 1 none, .sl 2 0 p0.got.length 1 none, .b p0.ready, .b p0.e0, .b true, .b p0.c0, .b p0.c1, .sl 3 0 p0.out.length 1 none]), (4, .cells [.ro .u8 p2, .b p3]), (1, .ints .u8 p0.wait.length p0.wait), (2, .ints .u8 p0.got.length p0.got), (3, .vec .row p0.out)])
                  400 (by kernel_rfl) rfl (by kernel_rfl) (⟨tt, trivial⟩) ?_
              refine Tri.ret ?_
              repeat (first | refine thenP_ret ?_ | refine blkP_ret ?_ | refine countP_ret ?_ | refine joinP_ret ?_ | refine iterP_ret ?_)
              refine subP_done ?_
              refine endP.conv (r' := ⟨.sc (.i .i64 0), [some (.cells [.b p0.server, .i .i64 p0.state, .i .u32 p0.peer, .i .i64 p0.window, .i .i64 p0.most, .i .i64 p0.room, .sl 5 0 p0.wait.length 1 none, .sl 6 0 p0.got.length 1 none, .b p0.ready, .b p0.e0, .b true, .b p0.c0, .b p0.c1, .sl 7 0 p0.out.length 1 none]), none, none, none, some (.cells [.ro .u8 p2, .b p3]), some (.ints .u8 p0.wait.length p0.wait), some (.ints .u8 p0.got.length p0.got), some (.vec .row p0.out)]⟩) (by simp only [chC, Fcon, Fcon_1, Fcon_2, Fcon_3, h1, h4, h9, h10, h11, sel_true, sel_false]) ?_
              exact endP.ret [(0, 0), (4, 4), (1, 5), (2, 6), (3, 7)] TT (by kernel_rfl) (by kernel_rfl) tt
        ·
          have h9' := eq_false_i h9
          refine Tri.seq_region [] none [104, 13, 0, 1, 2] [0, 1, 2, 3, 4] (TT ∧ (TT ∧ True))
              ([(104, .sc (.b ((p1 : Int) == 97))), (13, .sc (.i .u8 p1)), (0, .sc (.p 0 0)), (1, .sc (.i .u8 p1)), (2, .sc (.p 4 0))], [(0, chC 1 2 3 p0), (1, .ints .u8 p0.wait.length p0.wait), (2, .ints .u8 p0.got.length p0.got), (3, .vec .row p0.out), (4, .cells [.ro .u8 p2, .b p3])])
              176 (by kernel_rfl) rfl (by kernel_rfl) (⟨tt, ⟨tt, trivial⟩⟩) ?_
          refine Tri.cond (x := ((p1 : Int) == 97)) (by kernel_rfl) (fun h12 => ?_) (fun h12 => ?_)
          ·
            have h12' := eq_true_i h12
            refine Tri.seq ?_
            refine Tri.seq_region [] none [108, 0] [4, 0, 1, 2, 3] (TT ∧ ((TT ∧ True) ∧ (TT ∧ True)))
                ([(108, .sc (.b (!(FwEnd p2 p3)))), (0, .sc (.p 0 0))], [(4, .cells [.ro .u8 p2, .b p3]), (0, chC 1 2 3 p0), (1, .ints .u8 p0.wait.length p0.wait), (2, .ints .u8 p0.got.length p0.got), (3, .vec .row p0.out)])
                224 (by kernel_rfl) rfl (by kernel_rfl) (⟨tt, ⟨⟨tt, trivial⟩, ⟨tt, trivial⟩⟩⟩) ?_
            refine Tri.cond (x := (!(FwEnd p2 p3))) (by kernel_rfl) (fun h13 => ?_) (fun h13 => ?_)
            ·
              refine Tri.seq_region [] none [6] [4, 0, 1, 2, 3] (TT ∧ True)
                  ([(6, .sc (.i .i64 3))], [(4, .cells [.ro .u8 p2, .b p3]), (0, chC 1 2 3 p0), (1, .ints .u8 p0.wait.length p0.wait), (2, .ints .u8 p0.got.length p0.got), (3, .vec .row p0.out)])
                  240 (by kernel_rfl) rfl (by kernel_rfl) (⟨tt, trivial⟩) ?_
              refine Tri.ret ?_
              repeat (first | refine thenP_ret ?_ | refine blkP_ret ?_ | refine countP_ret ?_ | refine joinP_ret ?_ | refine iterP_ret ?_)
              refine subP_done ?_
              refine endP.conv (r' := ⟨.sc (.i .i64 3), [some (chC 5 6 7 p0), none, none, none, some (.cells [.ro .u8 p2, .b p3]), some (.ints .u8 p0.wait.length p0.wait), some (.ints .u8 p0.got.length p0.got), some (.vec .row p0.out)]⟩) (by simp only [chC, Fcon, Fcon_1, Fcon_2, Fcon_3, h1, h4, h9, h12, h13, sel_true, sel_false]) ?_
              exact endP.ret [(0, 0), (4, 4), (1, 5), (2, 6), (3, 7)] TT (by kernel_rfl) (by kernel_rfl) tt
            ·
              refine Tri.skip ?_
              change Tri _ _ _ _ _ _
              refine Tri.seq ?_
              refine Tri.seq_region [] none [0] [0, 4, 1, 2, 3] (TT ∧ (TT ∧ (TT ∧ ((((0 : Int) ≤ 1 ∧ 1 < ((2 : Nat) : Int)) ∧ True) ∧ ((((12 < 14) ∧ (1 = 1)) ∧ True) ∧ True)))))
                  ([(0, .sc (.p 0 0))], [(0, .cells [.b p0.server, .i .i64 p0.state, .i .u32 p0.peer, .i .i64 p0.window, .i .i64 p0.most, .i .i64 p0.room, .sl 1 0 p0.wait.length 1 none, .sl 2 0 p0.got.length 1 none, .b p0.ready, .b p0.e0, .b p0.e1, .b p0.c0, .b true, .sl 3 0 p0.out.length 1 none]), (4, .cells [.ro .u8 p2, .b p3]), (1, .ints .u8 p0.wait.length p0.wait), (2, .ints .u8 p0.got.length p0.got), (3, .vec .row p0.out)])
                  304 (by kernel_rfl) rfl (by kernel_rfl) (⟨tt, ⟨tt, ⟨tt, ⟨⟨(by first | omega | (dsimp only; omega) | decide | (simp only [Fconv0, Fconv1, Fconv2, Fconv3, Fconv4, Fconv5, len_say]; omega)), trivial⟩, ⟨⟨⟨(by first | omega | (dsimp only; omega) | decide | (simp only [Fconv0, Fconv1, Fconv2, Fconv3, Fconv4, Fconv5, len_say]; omega)), (rfl)⟩, trivial⟩, trivial⟩⟩⟩⟩⟩) ?_
              refine Tri.seq_region [] none [118, 0] [0, 4, 1, 2, 3] (TT ∧ (TT ∧ (TT ∧ ((((0 : Int) ≤ 0 ∧ 0 < ((2 : Nat) : Int)) ∧ True) ∧ (((11 < 14) ∧ True) ∧ (TT ∧ True))))))
                  ([(118, .sc (.b (!p0.c0))), (0, .sc (.p 0 0))], [(0, .cells [.b p0.server, .i .i64 p0.state, .i .u32 p0.peer, .i .i64 p0.window, .i .i64 p0.most, .i .i64 p0.room, .sl 1 0 p0.wait.length 1 none, .sl 2 0 p0.got.length 1 none, .b p0.ready, .b p0.e0, .b p0.e1, .b p0.c0, .b true, .sl 3 0 p0.out.length 1 none]), (4, .cells [.ro .u8 p2, .b p3]), (1, .ints .u8 p0.wait.length p0.wait), (2, .ints .u8 p0.got.length p0.got), (3, .vec .row p0.out)])
                  400 (by kernel_rfl) rfl (by kernel_rfl) (⟨tt, ⟨tt, ⟨tt, ⟨⟨(by first | omega | (dsimp only; omega) | decide | (simp only [Fconv0, Fconv1, Fconv2, Fconv3, Fconv4, Fconv5, len_say]; omega)), trivial⟩, ⟨⟨(by first | omega | (dsimp only; omega) | decide | (simp only [Fconv0, Fconv1, Fconv2, Fconv3, Fconv4, Fconv5, len_say]; omega)), trivial⟩, ⟨tt, trivial⟩⟩⟩⟩⟩⟩) ?_
              refine Tri.cond (x := (!p0.c0)) (by kernel_rfl) (fun h14 => ?_) (fun h14 => ?_)
              ·
                refine Tri.region' [] none [0] [418, 417, 416, 0, 4] (TT ∧ (((True ∧ ((chLens (({p0 with c1 := true} : Ch).wait.length) (({p0 with c1 := true} : Ch).got.length) (({p0 with c1 := true} : Ch).out.length) (({p0 with c1 := true} : Ch).wait.length) (({p0 with c1 := true} : Ch).got.length) ({p0 with c1 := true} : Ch)) ∧ (({p0 with c1 := true} : Ch).out.length ≤ 900000000))) ∧ True) ∧ True))
                    ([(0, .sc (.p 0 0))], [(418, .vec .row ((Fcbye ({p0 with c1 := true} : Ch)).out)), (417, .ints .u8 ((Fcbye ({p0 with c1 := true} : Ch)).got.length) ((Fcbye ({p0 with c1 := true} : Ch)).got)), (416, .ints .u8 ((Fcbye ({p0 with c1 := true} : Ch)).wait.length) ((Fcbye ({p0 with c1 := true} : Ch)).wait)), (0, chC 416 417 418 (Fcbye ({p0 with c1 := true} : Ch))), (4, .cells [.ro .u8 p2, .b p3])])
                    432 (by kernel_rfl) rfl (by kernel_rfl) (⟨tt, ⟨⟨⟨trivial, ⟨(chLens_self _), (by first | omega | (dsimp only; omega) | decide | (simp only [Fconv0, Fconv1, Fconv2, Fconv3, Fconv4, Fconv5, len_say]; omega))⟩⟩, trivial⟩, trivial⟩⟩) ?_
                change Tri _ _ _ _ _ _
                refine Tri.region' [] none [] [0, 418, 417, 416, 4] (TT ∧ (TT ∧ (TT ∧ ((((1 < 14) ∧ (1 = 1)) ∧ True) ∧ True))))
                    ([], [(0, .cells [.b ((Fcbye ({p0 with c1 := true} : Ch)).server), .i .i64 3, .i .u32 ((Fcbye ({p0 with c1 := true} : Ch)).peer), .i .i64 ((Fcbye ({p0 with c1 := true} : Ch)).window), .i .i64 ((Fcbye ({p0 with c1 := true} : Ch)).most), .i .i64 ((Fcbye ({p0 with c1 := true} : Ch)).room), .sl 416 0 ((Fcbye ({p0 with c1 := true} : Ch)).wait.length) 1 none, .sl 417 0 ((Fcbye ({p0 with c1 := true} : Ch)).got.length) 1 none, .b ((Fcbye ({p0 with c1 := true} : Ch)).ready), .b ((Fcbye ({p0 with c1 := true} : Ch)).e0), .b ((Fcbye ({p0 with c1 := true} : Ch)).e1), .b ((Fcbye ({p0 with c1 := true} : Ch)).c0), .b ((Fcbye ({p0 with c1 := true} : Ch)).c1), .sl 418 0 ((Fcbye ({p0 with c1 := true} : Ch)).out.length) 1 none]), (418, .vec .row ((Fcbye ({p0 with c1 := true} : Ch)).out)), (417, .ints .u8 ((Fcbye ({p0 with c1 := true} : Ch)).got.length) ((Fcbye ({p0 with c1 := true} : Ch)).got)), (416, .ints .u8 ((Fcbye ({p0 with c1 := true} : Ch)).wait.length) ((Fcbye ({p0 with c1 := true} : Ch)).wait)), (4, .cells [.ro .u8 p2, .b p3])])
                    496 (by kernel_rfl) rfl (by kernel_rfl) (⟨tt, ⟨tt, ⟨tt, ⟨⟨⟨(by first | omega | (dsimp only; omega) | decide | (simp only [Fconv0, Fconv1, Fconv2, Fconv3, Fconv4, Fconv5, len_say]; omega)), (rfl)⟩, trivial⟩, trivial⟩⟩⟩⟩) ?_
                change Tri _ _ _ _ _ _
                refine Tri.seq_region [] none [6] [0, 418, 417, 416, 4] (TT ∧ True)
                    ([(6, .sc (.i .i64 0))], [(0, .cells [.b ((Fcbye ({p0 with c1 := true} : Ch)).server), .i .i64 3, .i .u32 ((Fcbye ({p0 with c1 := true} : Ch)).peer), .i .i64 ((Fcbye ({p0 with c1 := true} : Ch)).window), .i .i64 ((Fcbye ({p0 with c1 := true} : Ch)).most), .i .i64 ((Fcbye ({p0 with c1 := true} : Ch)).room), .sl 416 0 ((Fcbye ({p0 with c1 := true} : Ch)).wait.length) 1 none, .sl 417 0 ((Fcbye ({p0 with c1 := true} : Ch)).got.length) 1 none, .b ((Fcbye ({p0 with c1 := true} : Ch)).ready), .b ((Fcbye ({p0 with c1 := true} : Ch)).e0), .b ((Fcbye ({p0 with c1 := true} : Ch)).e1), .b ((Fcbye ({p0 with c1 := true} : Ch)).c0), .b ((Fcbye ({p0 with c1 := true} : Ch)).c1), .sl 418 0 ((Fcbye ({p0 with c1 := true} : Ch)).out.length) 1 none]), (418, .vec .row ((Fcbye ({p0 with c1 := true} : Ch)).out)), (417, .ints .u8 ((Fcbye ({p0 with c1 := true} : Ch)).got.length) ((Fcbye ({p0 with c1 := true} : Ch)).got)), (416, .ints .u8 ((Fcbye ({p0 with c1 := true} : Ch)).wait.length) ((Fcbye ({p0 with c1 := true} : Ch)).wait)), (4, .cells [.ro .u8 p2, .b p3])])
                    512 (by kernel_rfl) rfl (by kernel_rfl) (⟨tt, trivial⟩) ?_
                refine Tri.ret ?_
                repeat (first | refine thenP_ret ?_ | refine blkP_ret ?_ | refine countP_ret ?_ | refine joinP_ret ?_ | refine iterP_ret ?_)
                refine subP_done ?_
                refine endP.conv (r' := ⟨.sc (.i .i64 0), [some (.cells [.b ((Fcbye ({p0 with c1 := true} : Ch)).server), .i .i64 3, .i .u32 ((Fcbye ({p0 with c1 := true} : Ch)).peer), .i .i64 ((Fcbye ({p0 with c1 := true} : Ch)).window), .i .i64 ((Fcbye ({p0 with c1 := true} : Ch)).most), .i .i64 ((Fcbye ({p0 with c1 := true} : Ch)).room), .sl 5 0 ((Fcbye ({p0 with c1 := true} : Ch)).wait.length) 1 none, .sl 6 0 ((Fcbye ({p0 with c1 := true} : Ch)).got.length) 1 none, .b ((Fcbye ({p0 with c1 := true} : Ch)).ready), .b ((Fcbye ({p0 with c1 := true} : Ch)).e0), .b ((Fcbye ({p0 with c1 := true} : Ch)).e1), .b ((Fcbye ({p0 with c1 := true} : Ch)).c0), .b ((Fcbye ({p0 with c1 := true} : Ch)).c1), .sl 7 0 ((Fcbye ({p0 with c1 := true} : Ch)).out.length) 1 none]), none, none, none, some (.cells [.ro .u8 p2, .b p3]), some (.ints .u8 ((Fcbye ({p0 with c1 := true} : Ch)).wait.length) ((Fcbye ({p0 with c1 := true} : Ch)).wait)), some (.ints .u8 ((Fcbye ({p0 with c1 := true} : Ch)).got.length) ((Fcbye ({p0 with c1 := true} : Ch)).got)), some (.vec .row ((Fcbye ({p0 with c1 := true} : Ch)).out))]⟩) (by simp only [chC, Fcon, Fcon_1, Fcon_2, Fcon_3, h1, h4, h9, h12, h13, h14, sel_true, sel_false]) ?_
                exact endP.ret [(0, 0), (4, 4), (416, 5), (417, 6), (418, 7)] TT (by kernel_rfl) (by kernel_rfl) tt
              ·
                refine Tri.skip ?_
                change Tri _ _ _ _ _ _
                refine Tri.region' [] none [] [0, 4, 1, 2, 3] (TT ∧ (TT ∧ (TT ∧ ((((1 < 14) ∧ (1 = 1)) ∧ True) ∧ True))))
                    ([], [(0, .cells [.b p0.server, .i .i64 3, .i .u32 p0.peer, .i .i64 p0.window, .i .i64 p0.most, .i .i64 p0.room, .sl 1 0 p0.wait.length 1 none, .sl 2 0 p0.got.length 1 none, .b p0.ready, .b p0.e0, .b p0.e1, .b p0.c0, .b true, .sl 3 0 p0.out.length 1 none]), (4, .cells [.ro .u8 p2, .b p3]), (1, .ints .u8 p0.wait.length p0.wait), (2, .ints .u8 p0.got.length p0.got), (3, .vec .row p0.out)])
                    464 (by kernel_rfl) rfl (by kernel_rfl) (⟨tt, ⟨tt, ⟨tt, ⟨⟨⟨(by first | omega | (dsimp only; omega) | decide | (simp only [Fconv0, Fconv1, Fconv2, Fconv3, Fconv4, Fconv5, len_say]; omega)), (rfl)⟩, trivial⟩, trivial⟩⟩⟩⟩) ?_
                change Tri _ _ _ _ _ _
                refine Tri.seq_region [] none [6] [0, 4, 1, 2, 3] (TT ∧ True)
                    ([(6, .sc (.i .i64 0))], [(0, .cells [.b p0.server, .i .i64 3, .i .u32 p0.peer, .i .i64 p0.window, .i .i64 p0.most, .i .i64 p0.room, .sl 1 0 p0.wait.length 1 none, .sl 2 0 p0.got.length 1 none, .b p0.ready, .b p0.e0, .b p0.e1, .b p0.c0, .b true, .sl 3 0 p0.out.length 1 none]), (4, .cells [.ro .u8 p2, .b p3]), (1, .ints .u8 p0.wait.length p0.wait), (2, .ints .u8 p0.got.length p0.got), (3, .vec .row p0.out)])
                    480 (by kernel_rfl) rfl (by kernel_rfl) (⟨tt, trivial⟩) ?_
                refine Tri.ret ?_
                repeat (first | refine thenP_ret ?_ | refine blkP_ret ?_ | refine countP_ret ?_ | refine joinP_ret ?_ | refine iterP_ret ?_)
                refine subP_done ?_
                refine endP.conv (r' := ⟨.sc (.i .i64 0), [some (.cells [.b p0.server, .i .i64 3, .i .u32 p0.peer, .i .i64 p0.window, .i .i64 p0.most, .i .i64 p0.room, .sl 5 0 p0.wait.length 1 none, .sl 6 0 p0.got.length 1 none, .b p0.ready, .b p0.e0, .b p0.e1, .b p0.c0, .b true, .sl 7 0 p0.out.length 1 none]), none, none, none, some (.cells [.ro .u8 p2, .b p3]), some (.ints .u8 p0.wait.length p0.wait), some (.ints .u8 p0.got.length p0.got), some (.vec .row p0.out)]⟩) (by simp only [chC, Fcon, Fcon_1, Fcon_2, Fcon_3, h1, h4, h9, h12, h13, h14, sel_true, sel_false]) ?_
                exact endP.ret [(0, 0), (4, 4), (1, 5), (2, 6), (3, 7)] TT (by kernel_rfl) (by kernel_rfl) tt
          ·
            have h12' := eq_false_i h12
            refine Tri.seq_region [] none [124, 13, 0, 1, 2] [0, 1, 2, 3, 4] (TT ∧ (TT ∧ True))
                ([(124, .sc (.b ((p1 : Int) == 98))), (13, .sc (.i .u8 p1)), (0, .sc (.p 0 0)), (1, .sc (.i .u8 p1)), (2, .sc (.p 4 0))], [(0, chC 1 2 3 p0), (1, .ints .u8 p0.wait.length p0.wait), (2, .ints .u8 p0.got.length p0.got), (3, .vec .row p0.out), (4, .cells [.ro .u8 p2, .b p3])])
                208 (by kernel_rfl) rfl (by kernel_rfl) (⟨tt, ⟨tt, trivial⟩⟩) ?_
            refine Tri.cond (x := ((p1 : Int) == 98)) (by kernel_rfl) (fun h15 => ?_) (fun h15 => ?_)
            ·
              have h15' := eq_true_i h15
              refine Tri.seq_region [] none [10, 9, 0, 2] [4, 0, 1, 2, 3] (TT ∧ ((TT ∧ True) ∧ (TT ∧ ((TT ∧ True) ∧ (TT ∧ (TT ∧ True))))))
                  ([(10, .sc (.b (FwFlag (FwText_1 p2 p3) (FwText_2 p2 p3)))), (9, .sc (.s (FwText p2 p3))), (0, .sc (.p 0 0)), (2, .sc (.p 4 0))], [(4, .cells [.ro .u8 (FwFlag_1 (FwText_1 p2 p3) (FwText_2 p2 p3)), .b (FwFlag_2 (FwText_1 p2 p3) (FwText_2 p2 p3))]), (0, chC 1 2 3 p0), (1, .ints .u8 p0.wait.length p0.wait), (2, .ints .u8 p0.got.length p0.got), (3, .vec .row p0.out)])
                  304 (by kernel_rfl) rfl (by kernel_rfl) (⟨tt, ⟨⟨tt, trivial⟩, ⟨tt, ⟨⟨tt, trivial⟩, ⟨tt, ⟨tt, trivial⟩⟩⟩⟩⟩⟩) ?_
              refine Tri.split (strEq (FwText p2 p3) (⟨#[115, 117, 98, 115, 121, 115, 116, 101, 109]⟩ : ByteArray)) (fun h16 => ?_) (fun h16 => ?_)
              ·
                refine Tri.split (strEq (FwText (FwFlag_1 (FwText_1 p2 p3) (FwText_2 p2 p3)) (FwFlag_2 (FwText_1 p2 p3) (FwText_2 p2 p3))) (⟨#[110, 101, 116, 99, 111, 110, 102]⟩ : ByteArray)) (fun h17 => ?_) (fun h17 => ?_)
                ·
                  refine Tri.split (FwEnd (FwText_1 (FwFlag_1 (FwText_1 p2 p3) (FwText_2 p2 p3)) (FwFlag_2 (FwText_1 p2 p3) (FwText_2 p2 p3))) (FwText_2 (FwFlag_1 (FwText_1 p2 p3) (FwText_2 p2 p3)) (FwFlag_2 (FwText_1 p2 p3) (FwText_2 p2 p3)))) (fun h18 => ?_) (fun h18 => ?_)
                  ·
                    refine Tri.split p0.server (fun h19 => ?_) (fun h19 => ?_)
                    ·
                      refine Tri.seq_region [(132, qb true), (137, qb true), (141, qb true), (147, qb true)] none [11, 10, 0, 2] [4, 0, 1, 2, 3] (TT ∧ (TT ∧ ((True ∧ ((strEq (FwText p2 p3) (⟨#[115, 117, 98, 115, 121, 115, 116, 101, 109]⟩ : ByteArray)) = true)) ∧ (TT ∧ ((TT ∧ True) ∧ (TT ∧ (TT ∧ ((True ∧ ((strEq (FwText (FwFlag_1 (FwText_1 p2 p3) (FwText_2 p2 p3)) (FwFlag_2 (FwText_1 p2 p3) (FwText_2 p2 p3))) (⟨#[110, 101, 116, 99, 111, 110, 102]⟩ : ByteArray)) = true)) ∧ (TT ∧ ((TT ∧ True) ∧ (TT ∧ ((True ∧ ((FwEnd (FwText_1 (FwFlag_1 (FwText_1 p2 p3) (FwText_2 p2 p3)) (FwFlag_2 (FwText_1 p2 p3) (FwText_2 p2 p3))) (FwText_2 (FwFlag_1 (FwText_1 p2 p3) (FwText_2 p2 p3)) (FwFlag_2 (FwText_1 p2 p3) (FwText_2 p2 p3)))) = true)) ∧ (TT ∧ (TT ∧ (TT ∧ (((0 < 14) ∧ True) ∧ (TT ∧ ((True ∧ (p0.server = true)) ∧ (TT ∧ (TT ∧ (TT ∧ (((8 < 14) ∧ True) ∧ (TT ∧ (TT ∧ (TT ∧ True)))))))))))))))))))))))))
                          ([(11, .sc (.b (!p0.ready))), (10, .sc (.b (FwFlag (FwText_1 p2 p3) (FwText_2 p2 p3)))), (0, .sc (.p 0 0)), (2, .sc (.p 4 0))], [(4, .cells [.ro .u8 (FwText_1 (FwFlag_1 (FwText_1 p2 p3) (FwText_2 p2 p3)) (FwFlag_2 (FwText_1 p2 p3) (FwText_2 p2 p3))), .b (FwText_2 (FwFlag_1 (FwText_1 p2 p3) (FwText_2 p2 p3)) (FwFlag_2 (FwText_1 p2 p3) (FwText_2 p2 p3)))]), (0, chC 1 2 3 p0), (1, .ints .u8 p0.wait.length p0.wait), (2, .ints .u8 p0.got.length p0.got), (3, .vec .row p0.out)])
                          704 (by kernel_rfl) rfl (by kernel_rfl) (⟨tt, ⟨tt, ⟨⟨trivial, (h16)⟩, ⟨tt, ⟨⟨tt, trivial⟩, ⟨tt, ⟨tt, ⟨⟨trivial, (h17)⟩, ⟨tt, ⟨⟨tt, trivial⟩, ⟨tt, ⟨⟨trivial, (h18)⟩, ⟨tt, ⟨tt, ⟨tt, ⟨⟨(by first | omega | (dsimp only; omega) | decide | (simp only [Fconv0, Fconv1, Fconv2, Fconv3, Fconv4, Fconv5, len_say]; omega)), trivial⟩, ⟨tt, ⟨⟨trivial, (h19)⟩, ⟨tt, ⟨tt, ⟨tt, ⟨⟨(by first | omega | (dsimp only; omega) | decide | (simp only [Fconv0, Fconv1, Fconv2, Fconv3, Fconv4, Fconv5, len_say]; omega)), trivial⟩, ⟨tt, ⟨tt, ⟨tt, trivial⟩⟩⟩⟩⟩⟩⟩⟩⟩⟩⟩⟩⟩⟩⟩⟩⟩⟩⟩⟩⟩⟩⟩⟩⟩) ?_
                      refine Tri.seq ?_
                      refine Tri.seq_region [] none [156, 11, 10, 0] [4, 0, 1, 2, 3] (TT ∧ ((TT ∧ True) ∧ (TT ∧ True)))
                          ([(156, .sc (.b (!(FwOk (FwText_1 (FwFlag_1 (FwText_1 p2 p3) (FwText_2 p2 p3)) (FwFlag_2 (FwText_1 p2 p3) (FwText_2 p2 p3))) (FwText_2 (FwFlag_1 (FwText_1 p2 p3) (FwText_2 p2 p3)) (FwFlag_2 (FwText_1 p2 p3) (FwText_2 p2 p3))))))), (11, .sc (.b (!p0.ready))), (10, .sc (.b (FwFlag (FwText_1 p2 p3) (FwText_2 p2 p3)))), (0, .sc (.p 0 0))], [(4, .cells [.ro .u8 (FwText_1 (FwFlag_1 (FwText_1 p2 p3) (FwText_2 p2 p3)) (FwFlag_2 (FwText_1 p2 p3) (FwText_2 p2 p3))), .b (FwText_2 (FwFlag_1 (FwText_1 p2 p3) (FwText_2 p2 p3)) (FwFlag_2 (FwText_1 p2 p3) (FwText_2 p2 p3)))]), (0, chC 1 2 3 p0), (1, .ints .u8 p0.wait.length p0.wait), (2, .ints .u8 p0.got.length p0.got), (3, .vec .row p0.out)])
                          752 (by kernel_rfl) rfl (by kernel_rfl) (⟨tt, ⟨⟨tt, trivial⟩, ⟨tt, trivial⟩⟩⟩) ?_
                      refine Tri.cond (x := (!(FwOk (FwText_1 (FwFlag_1 (FwText_1 p2 p3) (FwText_2 p2 p3)) (FwFlag_2 (FwText_1 p2 p3) (FwText_2 p2 p3))) (FwText_2 (FwFlag_1 (FwText_1 p2 p3) (FwText_2 p2 p3)) (FwFlag_2 (FwText_1 p2 p3) (FwText_2 p2 p3)))))) (by kernel_rfl) (fun h20 => ?_) (fun h20 => ?_)
                      ·
                        refine Tri.seq_region [] none [6] [4, 0, 1, 2, 3] (TT ∧ True)
                            ([(6, .sc (.i .i64 3))], [(4, .cells [.ro .u8 (FwText_1 (FwFlag_1 (FwText_1 p2 p3) (FwText_2 p2 p3)) (FwFlag_2 (FwText_1 p2 p3) (FwText_2 p2 p3))), .b (FwText_2 (FwFlag_1 (FwText_1 p2 p3) (FwText_2 p2 p3)) (FwFlag_2 (FwText_1 p2 p3) (FwText_2 p2 p3)))]), (0, chC 1 2 3 p0), (1, .ints .u8 p0.wait.length p0.wait), (2, .ints .u8 p0.got.length p0.got), (3, .vec .row p0.out)])
                            768 (by kernel_rfl) rfl (by kernel_rfl) (⟨tt, trivial⟩) ?_
                        refine Tri.ret ?_
                        repeat (first | refine thenP_ret ?_ | refine blkP_ret ?_ | refine countP_ret ?_ | refine joinP_ret ?_ | refine iterP_ret ?_)
                        refine subP_done ?_
                        refine endP.conv (r' := ⟨.sc (.i .i64 3), [some (chC 5 6 7 p0), none, none, none, some (.cells [.ro .u8 (FwText_1 (FwFlag_1 (FwText_1 p2 p3) (FwText_2 p2 p3)) (FwFlag_2 (FwText_1 p2 p3) (FwText_2 p2 p3))), .b (FwText_2 (FwFlag_1 (FwText_1 p2 p3) (FwText_2 p2 p3)) (FwFlag_2 (FwText_1 p2 p3) (FwText_2 p2 p3)))]), some (.ints .u8 p0.wait.length p0.wait), some (.ints .u8 p0.got.length p0.got), some (.vec .row p0.out)]⟩) (by simp only [chC, Fcon, Fcon_1, Fcon_2, Fcon_3, h1, h4, h9, h12, h15, h16, h17, h18, h19, h20, sel_true, sel_false]) ?_
                        exact endP.ret [(0, 0), (4, 4), (1, 5), (2, 6), (3, 7)] TT (by kernel_rfl) (by kernel_rfl) tt
                      ·
                        refine Tri.skip ?_
                        change Tri _ _ _ _ _ _
                        refine Tri.split p0.ready (fun h21 => ?_) (fun h21 => ?_)
                        ·
                          refine Tri.seq_region [(162, qb true)] none [11, 10, 0] [0, 4, 1, 2, 3] (TT ∧ (TT ∧ (TT ∧ (TT ∧ (((8 < 14) ∧ True) ∧ ((True ∧ (p0.ready = true)) ∧ (TT ∧ (TT ∧ (TT ∧ (TT ∧ ((((8 < 14) ∧ (1 = 1)) ∧ True) ∧ True)))))))))))
                              ([(11, .sc (.b (!p0.ready))), (10, .sc (.b (FwFlag (FwText_1 p2 p3) (FwText_2 p2 p3)))), (0, .sc (.p 0 0))], [(0, .cells [.b p0.server, .i .i64 p0.state, .i .u32 p0.peer, .i .i64 p0.window, .i .i64 p0.most, .i .i64 p0.room, .sl 1 0 p0.wait.length 1 none, .sl 2 0 p0.got.length 1 none, .b true, .b p0.e0, .b p0.e1, .b p0.c0, .b p0.c1, .sl 3 0 p0.out.length 1 none]), (4, .cells [.ro .u8 (FwText_1 (FwFlag_1 (FwText_1 p2 p3) (FwText_2 p2 p3)) (FwFlag_2 (FwText_1 p2 p3) (FwText_2 p2 p3))), .b (FwText_2 (FwFlag_1 (FwText_1 p2 p3) (FwText_2 p2 p3)) (FwFlag_2 (FwText_1 p2 p3) (FwText_2 p2 p3)))]), (1, .ints .u8 p0.wait.length p0.wait), (2, .ints .u8 p0.got.length p0.got), (3, .vec .row p0.out)])
                              928 (by kernel_rfl) rfl (by kernel_rfl) (⟨tt, ⟨tt, ⟨tt, ⟨tt, ⟨⟨(by first | omega | (dsimp only; omega) | decide | (simp only [Fconv0, Fconv1, Fconv2, Fconv3, Fconv4, Fconv5, len_say]; omega)), trivial⟩, ⟨⟨trivial, (h21)⟩, ⟨tt, ⟨tt, ⟨tt, ⟨tt, ⟨⟨⟨(by first | omega | (dsimp only; omega) | decide | (simp only [Fconv0, Fconv1, Fconv2, Fconv3, Fconv4, Fconv5, len_say]; omega)), (rfl)⟩, trivial⟩, trivial⟩⟩⟩⟩⟩⟩⟩⟩⟩⟩⟩) ?_
                          refine Tri.seq_region [] none [167, 11, 0] [0, 4, 1, 2, 3] (TT ∧ True)
                              ([(167, .sc (.b (FwFlag (FwText_1 p2 p3) (FwText_2 p2 p3)))), (11, .sc (.b (!p0.ready))), (0, .sc (.p 0 0))], [(0, .cells [.b p0.server, .i .i64 p0.state, .i .u32 p0.peer, .i .i64 p0.window, .i .i64 p0.most, .i .i64 p0.room, .sl 1 0 p0.wait.length 1 none, .sl 2 0 p0.got.length 1 none, .b true, .b p0.e0, .b p0.e1, .b p0.c0, .b p0.c1, .sl 3 0 p0.out.length 1 none]), (4, .cells [.ro .u8 (FwText_1 (FwFlag_1 (FwText_1 p2 p3) (FwText_2 p2 p3)) (FwFlag_2 (FwText_1 p2 p3) (FwText_2 p2 p3))), .b (FwText_2 (FwFlag_1 (FwText_1 p2 p3) (FwText_2 p2 p3)) (FwFlag_2 (FwText_1 p2 p3) (FwText_2 p2 p3)))]), (1, .ints .u8 p0.wait.length p0.wait), (2, .ints .u8 p0.got.length p0.got), (3, .vec .row p0.out)])
                              944 (by kernel_rfl) rfl (by kernel_rfl) (⟨tt, trivial⟩) ?_
                          refine Tri.cond (x := (FwFlag (FwText_1 p2 p3) (FwText_2 p2 p3))) (by kernel_rfl) (fun h22 => ?_) (fun h22 => ?_)
                          ·
                            refine Tri.seq_region [] none [12, 11, 0] [0, 4, 1, 2, 3] (TT ∧ True)
                                ([(12, .sc (.i .u8 100)), (11, .sc (.b (!p0.ready))), (0, .sc (.p 0 0))], [(0, .cells [.b p0.server, .i .i64 p0.state, .i .u32 p0.peer, .i .i64 p0.window, .i .i64 p0.most, .i .i64 p0.room, .sl 1 0 p0.wait.length 1 none, .sl 2 0 p0.got.length 1 none, .b true, .b p0.e0, .b p0.e1, .b p0.c0, .b p0.c1, .sl 3 0 p0.out.length 1 none]), (4, .cells [.ro .u8 (FwText_1 (FwFlag_1 (FwText_1 p2 p3) (FwText_2 p2 p3)) (FwFlag_2 (FwText_1 p2 p3) (FwText_2 p2 p3))), .b (FwText_2 (FwFlag_1 (FwText_1 p2 p3) (FwText_2 p2 p3)) (FwFlag_2 (FwText_1 p2 p3) (FwText_2 p2 p3)))]), (1, .ints .u8 p0.wait.length p0.wait), (2, .ints .u8 p0.got.length p0.got), (3, .vec .row p0.out)])
                                960 (by kernel_rfl) rfl (by kernel_rfl) (⟨tt, trivial⟩) ?_
                            refine Tri.seq ?_
                            refine Tri.seq_region [] none [168, 12, 0] [0, 4, 1, 2, 3] (TT ∧ True)
                                ([(168, .sc (.b (!p0.ready))), (12, .sc (.i .u8 100)), (0, .sc (.p 0 0))], [(0, .cells [.b p0.server, .i .i64 p0.state, .i .u32 p0.peer, .i .i64 p0.window, .i .i64 p0.most, .i .i64 p0.room, .sl 1 0 p0.wait.length 1 none, .sl 2 0 p0.got.length 1 none, .b true, .b p0.e0, .b p0.e1, .b p0.c0, .b p0.c1, .sl 3 0 p0.out.length 1 none]), (4, .cells [.ro .u8 (FwText_1 (FwFlag_1 (FwText_1 p2 p3) (FwText_2 p2 p3)) (FwFlag_2 (FwText_1 p2 p3) (FwText_2 p2 p3))), .b (FwText_2 (FwFlag_1 (FwText_1 p2 p3) (FwText_2 p2 p3)) (FwFlag_2 (FwText_1 p2 p3) (FwText_2 p2 p3)))]), (1, .ints .u8 p0.wait.length p0.wait), (2, .ints .u8 p0.got.length p0.got), (3, .vec .row p0.out)])
                                976 (by kernel_rfl) rfl (by kernel_rfl) (⟨tt, trivial⟩) ?_
                            refine Tri.join (x := (!p0.ready)) (fun bb => ([(12, .sc (.i .u8 (sel bb 99 100))), (0, .sc (.p 0 0))], [(0, .cells [.b p0.server, .i .i64 p0.state, .i .u32 p0.peer, .i .i64 p0.window, .i .i64 p0.most, .i .i64 p0.room, .sl 1 0 p0.wait.length 1 none, .sl 2 0 p0.got.length 1 none, .b true, .b p0.e0, .b p0.e1, .b p0.c0, .b p0.c1, .sl 3 0 p0.out.length 1 none]), (4, .cells [.ro .u8 (FwText_1 (FwFlag_1 (FwText_1 p2 p3) (FwText_2 p2 p3)) (FwFlag_2 (FwText_1 p2 p3) (FwText_2 p2 p3))), .b (FwText_2 (FwFlag_1 (FwText_1 p2 p3) (FwText_2 p2 p3)) (FwFlag_2 (FwText_1 p2 p3) (FwText_2 p2 p3)))]), (1, .ints .u8 p0.wait.length p0.wait), (2, .ints .u8 p0.got.length p0.got), (3, .vec .row p0.out)])) 992 (by kernel_rfl) (fun h23 => ?_) (fun h23 => ?_) ?_
                            ·
                              refine Tri.region' [] none [12, 0] [0, 4, 1, 2, 3] (TT ∧ True)
                                  ([(12, .sc (.i .u8 99)), (0, .sc (.p 0 0))], [(0, .cells [.b p0.server, .i .i64 p0.state, .i .u32 p0.peer, .i .i64 p0.window, .i .i64 p0.most, .i .i64 p0.room, .sl 1 0 p0.wait.length 1 none, .sl 2 0 p0.got.length 1 none, .b true, .b p0.e0, .b p0.e1, .b p0.c0, .b p0.c1, .sl 3 0 p0.out.length 1 none]), (4, .cells [.ro .u8 (FwText_1 (FwFlag_1 (FwText_1 p2 p3) (FwText_2 p2 p3)) (FwFlag_2 (FwText_1 p2 p3) (FwText_2 p2 p3))), .b (FwText_2 (FwFlag_1 (FwText_1 p2 p3) (FwText_2 p2 p3)) (FwFlag_2 (FwText_1 p2 p3) (FwText_2 p2 p3)))]), (1, .ints .u8 p0.wait.length p0.wait), (2, .ints .u8 p0.got.length p0.got), (3, .vec .row p0.out)])
                                  992 (by kernel_rfl) rfl (by kernel_rfl) (⟨tt, trivial⟩) ?_
                              exact (Sub.ren (ns := [(0, 0), (4, 4), (1, 1), (2, 2), (3, 3)]) (kf := [12, 0]) (s' := ([(12, .sc (.i .u8 99)), (0, .sc (.p 0 0))], [(0, .cells [.b p0.server, .i .i64 p0.state, .i .u32 p0.peer, .i .i64 p0.window, .i .i64 p0.most, .i .i64 p0.room, .sl 1 0 p0.wait.length 1 none, .sl 2 0 p0.got.length 1 none, .b true, .b p0.e0, .b p0.e1, .b p0.c0, .b p0.c1, .sl 3 0 p0.out.length 1 none]), (4, .cells [.ro .u8 (FwText_1 (FwFlag_1 (FwText_1 p2 p3) (FwText_2 p2 p3)) (FwFlag_2 (FwText_1 p2 p3) (FwText_2 p2 p3))), .b (FwText_2 (FwFlag_1 (FwText_1 p2 p3) (FwText_2 p2 p3)) (FwFlag_2 (FwText_1 p2 p3) (FwText_2 p2 p3)))]), (1, .ints .u8 p0.wait.length p0.wait), (2, .ints .u8 p0.got.length p0.got), (3, .vec .row p0.out)])) (by kernel_rfl) (by kernel_rfl)).trans (Sub.of_eq (by simp only [chC, sel_true, sel_false]))
                            ·
                              refine Tri.skip ?_
                              exact (Sub.ren (ns := [(0, 0), (4, 4), (1, 1), (2, 2), (3, 3)]) (kf := [12, 0]) (s' := ([(12, .sc (.i .u8 100)), (0, .sc (.p 0 0))], [(0, .cells [.b p0.server, .i .i64 p0.state, .i .u32 p0.peer, .i .i64 p0.window, .i .i64 p0.most, .i .i64 p0.room, .sl 1 0 p0.wait.length 1 none, .sl 2 0 p0.got.length 1 none, .b true, .b p0.e0, .b p0.e1, .b p0.c0, .b p0.c1, .sl 3 0 p0.out.length 1 none]), (4, .cells [.ro .u8 (FwText_1 (FwFlag_1 (FwText_1 p2 p3) (FwText_2 p2 p3)) (FwFlag_2 (FwText_1 p2 p3) (FwText_2 p2 p3))), .b (FwText_2 (FwFlag_1 (FwText_1 p2 p3) (FwText_2 p2 p3)) (FwFlag_2 (FwText_1 p2 p3) (FwText_2 p2 p3)))]), (1, .ints .u8 p0.wait.length p0.wait), (2, .ints .u8 p0.got.length p0.got), (3, .vec .row p0.out)])) (by kernel_rfl) (by kernel_rfl)).trans (Sub.of_eq (by simp only [chC, sel_true, sel_false]))
                            ·
                              change Tri _ _ _ _ _ _
                              refine Tri.region' [] none [] [1058, 1057, 1056, 0, 4] (TT ∧ (TT ∧ (TT ∧ ((((True ∧ ((chLens (({p0 with ready := true} : Ch).wait.length) (({p0 with ready := true} : Ch).got.length) (({p0 with ready := true} : Ch).out.length) (({p0 with ready := true} : Ch).wait.length) (({p0 with ready := true} : Ch).got.length) ({p0 with ready := true} : Ch)) ∧ True)) ∧ (([some (.cells [.b p0.server, .i .i64 p0.state, .i .u32 p0.peer, .i .i64 p0.window, .i .i64 p0.most, .i .i64 p0.room, .sl 1 0 p0.wait.length 1 none, .sl 2 0 p0.got.length 1 none, .b true, .b p0.e0, .b p0.e1, .b p0.c0, .b p0.c1, .sl 3 0 p0.out.length 1 none]), some (.ints .u8 p0.wait.length p0.wait), some (.ints .u8 p0.got.length p0.got), some (.vec .row p0.out)] : List (Option Blk)) = [some (.cells [.b p0.server, .i .i64 p0.state, .i .u32 p0.peer, .i .i64 p0.window, .i .i64 p0.most, .i .i64 p0.room, .sl 1 0 p0.wait.length 1 none, .sl 2 0 p0.got.length 1 none, .b true, .b p0.e0, .b p0.e1, .b p0.c0, .b p0.c1, .sl 3 0 p0.out.length 1 none]), some (.ints .u8 p0.wait.length p0.wait), some (.ints .u8 p0.got.length p0.got), some (.vec .row p0.out)])) ∧ True) ∧ (((TT ∧ ((chLens (({p0 with ready := true} : Ch).wait.length) (({p0 with ready := true} : Ch).got.length) (({p0 with ready := true} : Ch).out.length) (({p0 with ready := true} : Ch).wait.length) (({p0 with ready := true} : Ch).got.length) ({p0 with ready := true} : Ch)) ∧ (({p0 with ready := true} : Ch).out.length ≤ 1000000000))) ∧ True) ∧ True)))))
                                  ([], [(1058, .vec .row ((Fconv1 p0).out)), (1057, .ints .u8 ((Fconv1 p0).got.length) ((Fconv1 p0).got)), (1056, .ints .u8 ((Fconv1 p0).wait.length) ((Fconv1 p0).wait)), (0, chC 1056 1057 1058 (Fconv1 p0)), (4, .cells [.ro .u8 (FwText_1 (FwFlag_1 (FwText_1 p2 p3) (FwText_2 p2 p3)) (FwFlag_2 (FwText_1 p2 p3) (FwText_2 p2 p3))), .b (FwText_2 (FwFlag_1 (FwText_1 p2 p3) (FwText_2 p2 p3)) (FwFlag_2 (FwText_1 p2 p3) (FwText_2 p2 p3)))])])
                                  1072 (by kernel_rfl) rfl (by kernel_rfl) (⟨tt, ⟨tt, ⟨tt, ⟨⟨⟨⟨trivial, ⟨(chLens_self _), trivial⟩⟩, (rfl)⟩, trivial⟩, ⟨⟨⟨tt, ⟨(chLens_self _), (by first | omega | (dsimp only; omega) | decide | (simp only [Fconv0, Fconv1, Fconv2, Fconv3, Fconv4, Fconv5, len_say]; omega))⟩⟩, trivial⟩, trivial⟩⟩⟩⟩⟩) ?_
                              change Tri _ _ _ _ _ _
                              refine Tri.seq_region [] none [6] [1058, 1057, 1056, 0, 4] (TT ∧ True)
                                  ([(6, .sc (.i .i64 0))], [(1058, .vec .row ((Fconv1 p0).out)), (1057, .ints .u8 ((Fconv1 p0).got.length) ((Fconv1 p0).got)), (1056, .ints .u8 ((Fconv1 p0).wait.length) ((Fconv1 p0).wait)), (0, chC 1056 1057 1058 (Fconv1 p0)), (4, .cells [.ro .u8 (FwText_1 (FwFlag_1 (FwText_1 p2 p3) (FwText_2 p2 p3)) (FwFlag_2 (FwText_1 p2 p3) (FwText_2 p2 p3))), .b (FwText_2 (FwFlag_1 (FwText_1 p2 p3) (FwText_2 p2 p3)) (FwFlag_2 (FwText_1 p2 p3) (FwText_2 p2 p3)))])])
                                  1088 (by kernel_rfl) rfl (by kernel_rfl) (⟨tt, trivial⟩) ?_
                              refine Tri.ret ?_
                              repeat (first | refine thenP_ret ?_ | refine blkP_ret ?_ | refine countP_ret ?_ | refine joinP_ret ?_ | refine iterP_ret ?_)
                              refine subP_done ?_
                              refine endP.conv (r' := ⟨.sc (.i .i64 0), [some (chC 5 6 7 (Fconv1 p0)), none, none, none, some (.cells [.ro .u8 (FwText_1 (FwFlag_1 (FwText_1 p2 p3) (FwText_2 p2 p3)) (FwFlag_2 (FwText_1 p2 p3) (FwText_2 p2 p3))), .b (FwText_2 (FwFlag_1 (FwText_1 p2 p3) (FwText_2 p2 p3)) (FwFlag_2 (FwText_1 p2 p3) (FwText_2 p2 p3)))]), some (.ints .u8 ((Fconv1 p0).wait.length) ((Fconv1 p0).wait)), some (.ints .u8 ((Fconv1 p0).got.length) ((Fconv1 p0).got)), some (.vec .row ((Fconv1 p0).out))]⟩) (by simp only [chC, Fcon, Fcon_1, Fcon_2, Fcon_3, h1, h4, h9, h12, h15, h16, h17, h18, h19, h20, h21, h22, sel_true, sel_false]) ?_
                              exact endP.ret [(0, 0), (4, 4), (1056, 5), (1057, 6), (1058, 7)] TT (by kernel_rfl) (by kernel_rfl) tt
                          ·
                            refine Tri.skip ?_
                            change Tri _ _ _ _ _ _
                            refine Tri.seq_region [] none [6] [0, 4, 1, 2, 3] (TT ∧ True)
                                ([(6, .sc (.i .i64 0))], [(0, .cells [.b p0.server, .i .i64 p0.state, .i .u32 p0.peer, .i .i64 p0.window, .i .i64 p0.most, .i .i64 p0.room, .sl 1 0 p0.wait.length 1 none, .sl 2 0 p0.got.length 1 none, .b true, .b p0.e0, .b p0.e1, .b p0.c0, .b p0.c1, .sl 3 0 p0.out.length 1 none]), (4, .cells [.ro .u8 (FwText_1 (FwFlag_1 (FwText_1 p2 p3) (FwText_2 p2 p3)) (FwFlag_2 (FwText_1 p2 p3) (FwText_2 p2 p3))), .b (FwText_2 (FwFlag_1 (FwText_1 p2 p3) (FwText_2 p2 p3)) (FwFlag_2 (FwText_1 p2 p3) (FwText_2 p2 p3)))]), (1, .ints .u8 p0.wait.length p0.wait), (2, .ints .u8 p0.got.length p0.got), (3, .vec .row p0.out)])
                                960 (by kernel_rfl) rfl (by kernel_rfl) (⟨tt, trivial⟩) ?_
                            refine Tri.ret ?_
                            repeat (first | refine thenP_ret ?_ | refine blkP_ret ?_ | refine countP_ret ?_ | refine joinP_ret ?_ | refine iterP_ret ?_)
                            refine subP_done ?_
                            refine endP.conv (r' := ⟨.sc (.i .i64 0), [some (.cells [.b p0.server, .i .i64 p0.state, .i .u32 p0.peer, .i .i64 p0.window, .i .i64 p0.most, .i .i64 p0.room, .sl 5 0 p0.wait.length 1 none, .sl 6 0 p0.got.length 1 none, .b true, .b p0.e0, .b p0.e1, .b p0.c0, .b p0.c1, .sl 7 0 p0.out.length 1 none]), none, none, none, some (.cells [.ro .u8 (FwText_1 (FwFlag_1 (FwText_1 p2 p3) (FwText_2 p2 p3)) (FwFlag_2 (FwText_1 p2 p3) (FwText_2 p2 p3))), .b (FwText_2 (FwFlag_1 (FwText_1 p2 p3) (FwText_2 p2 p3)) (FwFlag_2 (FwText_1 p2 p3) (FwText_2 p2 p3)))]), some (.ints .u8 p0.wait.length p0.wait), some (.ints .u8 p0.got.length p0.got), some (.vec .row p0.out)]⟩) (by simp only [chC, Fcon, Fcon_1, Fcon_2, Fcon_3, h1, h4, h9, h12, h15, h16, h17, h18, h19, h20, h21, h22, sel_true, sel_false]) ?_
                            exact endP.ret [(0, 0), (4, 4), (1, 5), (2, 6), (3, 7)] TT (by kernel_rfl) (by kernel_rfl) tt
                        ·
                          refine Tri.seq_region [(162, qb false)] none [11, 10, 0] [0, 4, 1, 2, 3] (TT ∧ (TT ∧ (TT ∧ (TT ∧ (((8 < 14) ∧ True) ∧ ((True ∧ (p0.ready = false)) ∧ (TT ∧ (TT ∧ (TT ∧ (TT ∧ ((((8 < 14) ∧ (1 = 1)) ∧ True) ∧ True)))))))))))
                              ([(11, .sc (.b (!p0.ready))), (10, .sc (.b (FwFlag (FwText_1 p2 p3) (FwText_2 p2 p3)))), (0, .sc (.p 0 0))], [(0, .cells [.b p0.server, .i .i64 p0.state, .i .u32 p0.peer, .i .i64 p0.window, .i .i64 p0.most, .i .i64 p0.room, .sl 1 0 p0.wait.length 1 none, .sl 2 0 p0.got.length 1 none, .b (!p0.ready), .b p0.e0, .b p0.e1, .b p0.c0, .b p0.c1, .sl 3 0 p0.out.length 1 none]), (4, .cells [.ro .u8 (FwText_1 (FwFlag_1 (FwText_1 p2 p3) (FwText_2 p2 p3)) (FwFlag_2 (FwText_1 p2 p3) (FwText_2 p2 p3))), .b (FwText_2 (FwFlag_1 (FwText_1 p2 p3) (FwText_2 p2 p3)) (FwFlag_2 (FwText_1 p2 p3) (FwText_2 p2 p3)))]), (1, .ints .u8 p0.wait.length p0.wait), (2, .ints .u8 p0.got.length p0.got), (3, .vec .row p0.out)])
                              928 (by kernel_rfl) rfl (by kernel_rfl) (⟨tt, ⟨tt, ⟨tt, ⟨tt, ⟨⟨(by first | omega | (dsimp only; omega) | decide | (simp only [Fconv0, Fconv1, Fconv2, Fconv3, Fconv4, Fconv5, len_say]; omega)), trivial⟩, ⟨⟨trivial, (h21)⟩, ⟨tt, ⟨tt, ⟨tt, ⟨tt, ⟨⟨⟨(by first | omega | (dsimp only; omega) | decide | (simp only [Fconv0, Fconv1, Fconv2, Fconv3, Fconv4, Fconv5, len_say]; omega)), (rfl)⟩, trivial⟩, trivial⟩⟩⟩⟩⟩⟩⟩⟩⟩⟩⟩) ?_
                          refine Tri.seq_region [] none [167, 11, 0] [0, 4, 1, 2, 3] (TT ∧ True)
                              ([(167, .sc (.b (FwFlag (FwText_1 p2 p3) (FwText_2 p2 p3)))), (11, .sc (.b (!p0.ready))), (0, .sc (.p 0 0))], [(0, .cells [.b p0.server, .i .i64 p0.state, .i .u32 p0.peer, .i .i64 p0.window, .i .i64 p0.most, .i .i64 p0.room, .sl 1 0 p0.wait.length 1 none, .sl 2 0 p0.got.length 1 none, .b (!p0.ready), .b p0.e0, .b p0.e1, .b p0.c0, .b p0.c1, .sl 3 0 p0.out.length 1 none]), (4, .cells [.ro .u8 (FwText_1 (FwFlag_1 (FwText_1 p2 p3) (FwText_2 p2 p3)) (FwFlag_2 (FwText_1 p2 p3) (FwText_2 p2 p3))), .b (FwText_2 (FwFlag_1 (FwText_1 p2 p3) (FwText_2 p2 p3)) (FwFlag_2 (FwText_1 p2 p3) (FwText_2 p2 p3)))]), (1, .ints .u8 p0.wait.length p0.wait), (2, .ints .u8 p0.got.length p0.got), (3, .vec .row p0.out)])
                              944 (by kernel_rfl) rfl (by kernel_rfl) (⟨tt, trivial⟩) ?_
                          refine Tri.cond (x := (FwFlag (FwText_1 p2 p3) (FwText_2 p2 p3))) (by kernel_rfl) (fun h24 => ?_) (fun h24 => ?_)
                          ·
                            refine Tri.seq_region [] none [12, 11, 0] [0, 4, 1, 2, 3] (TT ∧ True)
                                ([(12, .sc (.i .u8 100)), (11, .sc (.b (!p0.ready))), (0, .sc (.p 0 0))], [(0, .cells [.b p0.server, .i .i64 p0.state, .i .u32 p0.peer, .i .i64 p0.window, .i .i64 p0.most, .i .i64 p0.room, .sl 1 0 p0.wait.length 1 none, .sl 2 0 p0.got.length 1 none, .b (!p0.ready), .b p0.e0, .b p0.e1, .b p0.c0, .b p0.c1, .sl 3 0 p0.out.length 1 none]), (4, .cells [.ro .u8 (FwText_1 (FwFlag_1 (FwText_1 p2 p3) (FwText_2 p2 p3)) (FwFlag_2 (FwText_1 p2 p3) (FwText_2 p2 p3))), .b (FwText_2 (FwFlag_1 (FwText_1 p2 p3) (FwText_2 p2 p3)) (FwFlag_2 (FwText_1 p2 p3) (FwText_2 p2 p3)))]), (1, .ints .u8 p0.wait.length p0.wait), (2, .ints .u8 p0.got.length p0.got), (3, .vec .row p0.out)])
                                960 (by kernel_rfl) rfl (by kernel_rfl) (⟨tt, trivial⟩) ?_
                            refine Tri.seq ?_
                            refine Tri.seq_region [] none [168, 12, 0] [0, 4, 1, 2, 3] (TT ∧ True)
                                ([(168, .sc (.b (!p0.ready))), (12, .sc (.i .u8 100)), (0, .sc (.p 0 0))], [(0, .cells [.b p0.server, .i .i64 p0.state, .i .u32 p0.peer, .i .i64 p0.window, .i .i64 p0.most, .i .i64 p0.room, .sl 1 0 p0.wait.length 1 none, .sl 2 0 p0.got.length 1 none, .b (!p0.ready), .b p0.e0, .b p0.e1, .b p0.c0, .b p0.c1, .sl 3 0 p0.out.length 1 none]), (4, .cells [.ro .u8 (FwText_1 (FwFlag_1 (FwText_1 p2 p3) (FwText_2 p2 p3)) (FwFlag_2 (FwText_1 p2 p3) (FwText_2 p2 p3))), .b (FwText_2 (FwFlag_1 (FwText_1 p2 p3) (FwText_2 p2 p3)) (FwFlag_2 (FwText_1 p2 p3) (FwText_2 p2 p3)))]), (1, .ints .u8 p0.wait.length p0.wait), (2, .ints .u8 p0.got.length p0.got), (3, .vec .row p0.out)])
                                976 (by kernel_rfl) rfl (by kernel_rfl) (⟨tt, trivial⟩) ?_
                            refine Tri.join (x := (!p0.ready)) (fun bb => ([(12, .sc (.i .u8 (sel bb 99 100))), (0, .sc (.p 0 0))], [(0, .cells [.b p0.server, .i .i64 p0.state, .i .u32 p0.peer, .i .i64 p0.window, .i .i64 p0.most, .i .i64 p0.room, .sl 1 0 p0.wait.length 1 none, .sl 2 0 p0.got.length 1 none, .b (!p0.ready), .b p0.e0, .b p0.e1, .b p0.c0, .b p0.c1, .sl 3 0 p0.out.length 1 none]), (4, .cells [.ro .u8 (FwText_1 (FwFlag_1 (FwText_1 p2 p3) (FwText_2 p2 p3)) (FwFlag_2 (FwText_1 p2 p3) (FwText_2 p2 p3))), .b (FwText_2 (FwFlag_1 (FwText_1 p2 p3) (FwText_2 p2 p3)) (FwFlag_2 (FwText_1 p2 p3) (FwText_2 p2 p3)))]), (1, .ints .u8 p0.wait.length p0.wait), (2, .ints .u8 p0.got.length p0.got), (3, .vec .row p0.out)])) 992 (by kernel_rfl) (fun h25 => ?_) (fun h25 => ?_) ?_
                            ·
                              refine Tri.region' [] none [12, 0] [0, 4, 1, 2, 3] (TT ∧ True)
                                  ([(12, .sc (.i .u8 99)), (0, .sc (.p 0 0))], [(0, .cells [.b p0.server, .i .i64 p0.state, .i .u32 p0.peer, .i .i64 p0.window, .i .i64 p0.most, .i .i64 p0.room, .sl 1 0 p0.wait.length 1 none, .sl 2 0 p0.got.length 1 none, .b (!p0.ready), .b p0.e0, .b p0.e1, .b p0.c0, .b p0.c1, .sl 3 0 p0.out.length 1 none]), (4, .cells [.ro .u8 (FwText_1 (FwFlag_1 (FwText_1 p2 p3) (FwText_2 p2 p3)) (FwFlag_2 (FwText_1 p2 p3) (FwText_2 p2 p3))), .b (FwText_2 (FwFlag_1 (FwText_1 p2 p3) (FwText_2 p2 p3)) (FwFlag_2 (FwText_1 p2 p3) (FwText_2 p2 p3)))]), (1, .ints .u8 p0.wait.length p0.wait), (2, .ints .u8 p0.got.length p0.got), (3, .vec .row p0.out)])
                                  992 (by kernel_rfl) rfl (by kernel_rfl) (⟨tt, trivial⟩) ?_
                              exact (Sub.ren (ns := [(0, 0), (4, 4), (1, 1), (2, 2), (3, 3)]) (kf := [12, 0]) (s' := ([(12, .sc (.i .u8 99)), (0, .sc (.p 0 0))], [(0, .cells [.b p0.server, .i .i64 p0.state, .i .u32 p0.peer, .i .i64 p0.window, .i .i64 p0.most, .i .i64 p0.room, .sl 1 0 p0.wait.length 1 none, .sl 2 0 p0.got.length 1 none, .b (!p0.ready), .b p0.e0, .b p0.e1, .b p0.c0, .b p0.c1, .sl 3 0 p0.out.length 1 none]), (4, .cells [.ro .u8 (FwText_1 (FwFlag_1 (FwText_1 p2 p3) (FwText_2 p2 p3)) (FwFlag_2 (FwText_1 p2 p3) (FwText_2 p2 p3))), .b (FwText_2 (FwFlag_1 (FwText_1 p2 p3) (FwText_2 p2 p3)) (FwFlag_2 (FwText_1 p2 p3) (FwText_2 p2 p3)))]), (1, .ints .u8 p0.wait.length p0.wait), (2, .ints .u8 p0.got.length p0.got), (3, .vec .row p0.out)])) (by kernel_rfl) (by kernel_rfl)).trans (Sub.of_eq (by simp only [chC, sel_true, sel_false]))
                            ·
                              refine Tri.skip ?_
                              exact (Sub.ren (ns := [(0, 0), (4, 4), (1, 1), (2, 2), (3, 3)]) (kf := [12, 0]) (s' := ([(12, .sc (.i .u8 100)), (0, .sc (.p 0 0))], [(0, .cells [.b p0.server, .i .i64 p0.state, .i .u32 p0.peer, .i .i64 p0.window, .i .i64 p0.most, .i .i64 p0.room, .sl 1 0 p0.wait.length 1 none, .sl 2 0 p0.got.length 1 none, .b (!p0.ready), .b p0.e0, .b p0.e1, .b p0.c0, .b p0.c1, .sl 3 0 p0.out.length 1 none]), (4, .cells [.ro .u8 (FwText_1 (FwFlag_1 (FwText_1 p2 p3) (FwText_2 p2 p3)) (FwFlag_2 (FwText_1 p2 p3) (FwText_2 p2 p3))), .b (FwText_2 (FwFlag_1 (FwText_1 p2 p3) (FwText_2 p2 p3)) (FwFlag_2 (FwText_1 p2 p3) (FwText_2 p2 p3)))]), (1, .ints .u8 p0.wait.length p0.wait), (2, .ints .u8 p0.got.length p0.got), (3, .vec .row p0.out)])) (by kernel_rfl) (by kernel_rfl)).trans (Sub.of_eq (by simp only [chC, sel_true, sel_false]))
                            ·
                              change Tri _ _ _ _ _ _
                              refine Tri.region' [] none [] [1058, 1057, 1056, 0, 4] (TT ∧ (TT ∧ (TT ∧ ((((True ∧ ((chLens (({p0 with ready := (!p0.ready)} : Ch).wait.length) (({p0 with ready := (!p0.ready)} : Ch).got.length) (({p0 with ready := (!p0.ready)} : Ch).out.length) (({p0 with ready := (!p0.ready)} : Ch).wait.length) (({p0 with ready := (!p0.ready)} : Ch).got.length) ({p0 with ready := (!p0.ready)} : Ch)) ∧ True)) ∧ (([some (.cells [.b p0.server, .i .i64 p0.state, .i .u32 p0.peer, .i .i64 p0.window, .i .i64 p0.most, .i .i64 p0.room, .sl 1 0 p0.wait.length 1 none, .sl 2 0 p0.got.length 1 none, .b (!p0.ready), .b p0.e0, .b p0.e1, .b p0.c0, .b p0.c1, .sl 3 0 p0.out.length 1 none]), some (.ints .u8 p0.wait.length p0.wait), some (.ints .u8 p0.got.length p0.got), some (.vec .row p0.out)] : List (Option Blk)) = [some (.cells [.b p0.server, .i .i64 p0.state, .i .u32 p0.peer, .i .i64 p0.window, .i .i64 p0.most, .i .i64 p0.room, .sl 1 0 p0.wait.length 1 none, .sl 2 0 p0.got.length 1 none, .b (!p0.ready), .b p0.e0, .b p0.e1, .b p0.c0, .b p0.c1, .sl 3 0 p0.out.length 1 none]), some (.ints .u8 p0.wait.length p0.wait), some (.ints .u8 p0.got.length p0.got), some (.vec .row p0.out)])) ∧ True) ∧ (((TT ∧ ((chLens (({p0 with ready := (!p0.ready)} : Ch).wait.length) (({p0 with ready := (!p0.ready)} : Ch).got.length) (({p0 with ready := (!p0.ready)} : Ch).out.length) (({p0 with ready := (!p0.ready)} : Ch).wait.length) (({p0 with ready := (!p0.ready)} : Ch).got.length) ({p0 with ready := (!p0.ready)} : Ch)) ∧ (({p0 with ready := (!p0.ready)} : Ch).out.length ≤ 1000000000))) ∧ True) ∧ True)))))
                                  ([], [(1058, .vec .row ((Fconv2 p0).out)), (1057, .ints .u8 ((Fconv2 p0).got.length) ((Fconv2 p0).got)), (1056, .ints .u8 ((Fconv2 p0).wait.length) ((Fconv2 p0).wait)), (0, chC 1056 1057 1058 (Fconv2 p0)), (4, .cells [.ro .u8 (FwText_1 (FwFlag_1 (FwText_1 p2 p3) (FwText_2 p2 p3)) (FwFlag_2 (FwText_1 p2 p3) (FwText_2 p2 p3))), .b (FwText_2 (FwFlag_1 (FwText_1 p2 p3) (FwText_2 p2 p3)) (FwFlag_2 (FwText_1 p2 p3) (FwText_2 p2 p3)))])])
                                  1072 (by kernel_rfl) rfl (by kernel_rfl) (⟨tt, ⟨tt, ⟨tt, ⟨⟨⟨⟨trivial, ⟨(chLens_self _), trivial⟩⟩, (rfl)⟩, trivial⟩, ⟨⟨⟨tt, ⟨(chLens_self _), (by first | omega | (dsimp only; omega) | decide | (simp only [Fconv0, Fconv1, Fconv2, Fconv3, Fconv4, Fconv5, len_say]; omega))⟩⟩, trivial⟩, trivial⟩⟩⟩⟩⟩) ?_
                              change Tri _ _ _ _ _ _
                              refine Tri.seq_region [] none [6] [1058, 1057, 1056, 0, 4] (TT ∧ True)
                                  ([(6, .sc (.i .i64 0))], [(1058, .vec .row ((Fconv2 p0).out)), (1057, .ints .u8 ((Fconv2 p0).got.length) ((Fconv2 p0).got)), (1056, .ints .u8 ((Fconv2 p0).wait.length) ((Fconv2 p0).wait)), (0, chC 1056 1057 1058 (Fconv2 p0)), (4, .cells [.ro .u8 (FwText_1 (FwFlag_1 (FwText_1 p2 p3) (FwText_2 p2 p3)) (FwFlag_2 (FwText_1 p2 p3) (FwText_2 p2 p3))), .b (FwText_2 (FwFlag_1 (FwText_1 p2 p3) (FwText_2 p2 p3)) (FwFlag_2 (FwText_1 p2 p3) (FwText_2 p2 p3)))])])
                                  1088 (by kernel_rfl) rfl (by kernel_rfl) (⟨tt, trivial⟩) ?_
                              refine Tri.ret ?_
                              repeat (first | refine thenP_ret ?_ | refine blkP_ret ?_ | refine countP_ret ?_ | refine joinP_ret ?_ | refine iterP_ret ?_)
                              refine subP_done ?_
                              refine endP.conv (r' := ⟨.sc (.i .i64 0), [some (chC 5 6 7 (Fconv2 p0)), none, none, none, some (.cells [.ro .u8 (FwText_1 (FwFlag_1 (FwText_1 p2 p3) (FwText_2 p2 p3)) (FwFlag_2 (FwText_1 p2 p3) (FwText_2 p2 p3))), .b (FwText_2 (FwFlag_1 (FwText_1 p2 p3) (FwText_2 p2 p3)) (FwFlag_2 (FwText_1 p2 p3) (FwText_2 p2 p3)))]), some (.ints .u8 ((Fconv2 p0).wait.length) ((Fconv2 p0).wait)), some (.ints .u8 ((Fconv2 p0).got.length) ((Fconv2 p0).got)), some (.vec .row ((Fconv2 p0).out))]⟩) (by simp only [chC, Fcon, Fcon_1, Fcon_2, Fcon_3, h1, h4, h9, h12, h15, h16, h17, h18, h19, h20, h21, h24, sel_true, sel_false]) ?_
                              exact endP.ret [(0, 0), (4, 4), (1056, 5), (1057, 6), (1058, 7)] TT (by kernel_rfl) (by kernel_rfl) tt
                          ·
                            refine Tri.skip ?_
                            change Tri _ _ _ _ _ _
                            refine Tri.seq_region [] none [6] [0, 4, 1, 2, 3] (TT ∧ True)
                                ([(6, .sc (.i .i64 0))], [(0, .cells [.b p0.server, .i .i64 p0.state, .i .u32 p0.peer, .i .i64 p0.window, .i .i64 p0.most, .i .i64 p0.room, .sl 1 0 p0.wait.length 1 none, .sl 2 0 p0.got.length 1 none, .b (!p0.ready), .b p0.e0, .b p0.e1, .b p0.c0, .b p0.c1, .sl 3 0 p0.out.length 1 none]), (4, .cells [.ro .u8 (FwText_1 (FwFlag_1 (FwText_1 p2 p3) (FwText_2 p2 p3)) (FwFlag_2 (FwText_1 p2 p3) (FwText_2 p2 p3))), .b (FwText_2 (FwFlag_1 (FwText_1 p2 p3) (FwText_2 p2 p3)) (FwFlag_2 (FwText_1 p2 p3) (FwText_2 p2 p3)))]), (1, .ints .u8 p0.wait.length p0.wait), (2, .ints .u8 p0.got.length p0.got), (3, .vec .row p0.out)])
                                960 (by kernel_rfl) rfl (by kernel_rfl) (⟨tt, trivial⟩) ?_
                            refine Tri.ret ?_
                            repeat (first | refine thenP_ret ?_ | refine blkP_ret ?_ | refine countP_ret ?_ | refine joinP_ret ?_ | refine iterP_ret ?_)
                            refine subP_done ?_
                            refine endP.conv (r' := ⟨.sc (.i .i64 0), [some (.cells [.b p0.server, .i .i64 p0.state, .i .u32 p0.peer, .i .i64 p0.window, .i .i64 p0.most, .i .i64 p0.room, .sl 5 0 p0.wait.length 1 none, .sl 6 0 p0.got.length 1 none, .b (!p0.ready), .b p0.e0, .b p0.e1, .b p0.c0, .b p0.c1, .sl 7 0 p0.out.length 1 none]), none, none, none, some (.cells [.ro .u8 (FwText_1 (FwFlag_1 (FwText_1 p2 p3) (FwText_2 p2 p3)) (FwFlag_2 (FwText_1 p2 p3) (FwText_2 p2 p3))), .b (FwText_2 (FwFlag_1 (FwText_1 p2 p3) (FwText_2 p2 p3)) (FwFlag_2 (FwText_1 p2 p3) (FwText_2 p2 p3)))]), some (.ints .u8 p0.wait.length p0.wait), some (.ints .u8 p0.got.length p0.got), some (.vec .row p0.out)]⟩) (by simp only [chC, Fcon, Fcon_1, Fcon_2, Fcon_3, h1, h4, h9, h12, h15, h16, h17, h18, h19, h20, h21, h24, sel_true, sel_false]) ?_
                            exact endP.ret [(0, 0), (4, 4), (1, 5), (2, 6), (3, 7)] TT (by kernel_rfl) (by kernel_rfl) tt
                    ·
                      refine Tri.seq_region [(132, qb true), (137, qb true), (141, qb true), (147, qb false)] none [11, 10, 0, 2] [4, 0, 1, 2, 3] (TT ∧ (TT ∧ ((True ∧ ((strEq (FwText p2 p3) (⟨#[115, 117, 98, 115, 121, 115, 116, 101, 109]⟩ : ByteArray)) = true)) ∧ (TT ∧ ((TT ∧ True) ∧ (TT ∧ (TT ∧ ((True ∧ ((strEq (FwText (FwFlag_1 (FwText_1 p2 p3) (FwText_2 p2 p3)) (FwFlag_2 (FwText_1 p2 p3) (FwText_2 p2 p3))) (⟨#[110, 101, 116, 99, 111, 110, 102]⟩ : ByteArray)) = true)) ∧ (TT ∧ ((TT ∧ True) ∧ (TT ∧ ((True ∧ ((FwEnd (FwText_1 (FwFlag_1 (FwText_1 p2 p3) (FwText_2 p2 p3)) (FwFlag_2 (FwText_1 p2 p3) (FwText_2 p2 p3))) (FwText_2 (FwFlag_1 (FwText_1 p2 p3) (FwText_2 p2 p3)) (FwFlag_2 (FwText_1 p2 p3) (FwText_2 p2 p3)))) = true)) ∧ (TT ∧ (TT ∧ (TT ∧ (((0 < 14) ∧ True) ∧ (TT ∧ ((True ∧ (p0.server = false)) ∧ (TT ∧ (TT ∧ (TT ∧ (TT ∧ (TT ∧ (TT ∧ (TT ∧ True)))))))))))))))))))))))))
                          ([(11, .sc (.b false)), (10, .sc (.b (FwFlag (FwText_1 p2 p3) (FwText_2 p2 p3)))), (0, .sc (.p 0 0)), (2, .sc (.p 4 0))], [(4, .cells [.ro .u8 (FwText_1 (FwFlag_1 (FwText_1 p2 p3) (FwText_2 p2 p3)) (FwFlag_2 (FwText_1 p2 p3) (FwText_2 p2 p3))), .b (FwText_2 (FwFlag_1 (FwText_1 p2 p3) (FwText_2 p2 p3)) (FwFlag_2 (FwText_1 p2 p3) (FwText_2 p2 p3)))]), (0, chC 1 2 3 p0), (1, .ints .u8 p0.wait.length p0.wait), (2, .ints .u8 p0.got.length p0.got), (3, .vec .row p0.out)])
                          704 (by kernel_rfl) rfl (by kernel_rfl) (⟨tt, ⟨tt, ⟨⟨trivial, (h16)⟩, ⟨tt, ⟨⟨tt, trivial⟩, ⟨tt, ⟨tt, ⟨⟨trivial, (h17)⟩, ⟨tt, ⟨⟨tt, trivial⟩, ⟨tt, ⟨⟨trivial, (h18)⟩, ⟨tt, ⟨tt, ⟨tt, ⟨⟨(by first | omega | (dsimp only; omega) | decide | (simp only [Fconv0, Fconv1, Fconv2, Fconv3, Fconv4, Fconv5, len_say]; omega)), trivial⟩, ⟨tt, ⟨⟨trivial, (h19)⟩, ⟨tt, ⟨tt, ⟨tt, ⟨tt, ⟨tt, ⟨tt, ⟨tt, trivial⟩⟩⟩⟩⟩⟩⟩⟩⟩⟩⟩⟩⟩⟩⟩⟩⟩⟩⟩⟩⟩⟩⟩⟩⟩) ?_
                      refine Tri.seq ?_
                      refine Tri.seq_region [] none [156, 11, 10, 0] [4, 0, 1, 2, 3] (TT ∧ ((TT ∧ True) ∧ (TT ∧ True)))
                          ([(156, .sc (.b (!(FwOk (FwText_1 (FwFlag_1 (FwText_1 p2 p3) (FwText_2 p2 p3)) (FwFlag_2 (FwText_1 p2 p3) (FwText_2 p2 p3))) (FwText_2 (FwFlag_1 (FwText_1 p2 p3) (FwText_2 p2 p3)) (FwFlag_2 (FwText_1 p2 p3) (FwText_2 p2 p3))))))), (11, .sc (.b false)), (10, .sc (.b (FwFlag (FwText_1 p2 p3) (FwText_2 p2 p3)))), (0, .sc (.p 0 0))], [(4, .cells [.ro .u8 (FwText_1 (FwFlag_1 (FwText_1 p2 p3) (FwText_2 p2 p3)) (FwFlag_2 (FwText_1 p2 p3) (FwText_2 p2 p3))), .b (FwText_2 (FwFlag_1 (FwText_1 p2 p3) (FwText_2 p2 p3)) (FwFlag_2 (FwText_1 p2 p3) (FwText_2 p2 p3)))]), (0, chC 1 2 3 p0), (1, .ints .u8 p0.wait.length p0.wait), (2, .ints .u8 p0.got.length p0.got), (3, .vec .row p0.out)])
                          752 (by kernel_rfl) rfl (by kernel_rfl) (⟨tt, ⟨⟨tt, trivial⟩, ⟨tt, trivial⟩⟩⟩) ?_
                      refine Tri.cond (x := (!(FwOk (FwText_1 (FwFlag_1 (FwText_1 p2 p3) (FwText_2 p2 p3)) (FwFlag_2 (FwText_1 p2 p3) (FwText_2 p2 p3))) (FwText_2 (FwFlag_1 (FwText_1 p2 p3) (FwText_2 p2 p3)) (FwFlag_2 (FwText_1 p2 p3) (FwText_2 p2 p3)))))) (by kernel_rfl) (fun h26 => ?_) (fun h26 => ?_)
                      ·
                        refine Tri.seq_region [] none [6] [4, 0, 1, 2, 3] (TT ∧ True)
                            ([(6, .sc (.i .i64 3))], [(4, .cells [.ro .u8 (FwText_1 (FwFlag_1 (FwText_1 p2 p3) (FwText_2 p2 p3)) (FwFlag_2 (FwText_1 p2 p3) (FwText_2 p2 p3))), .b (FwText_2 (FwFlag_1 (FwText_1 p2 p3) (FwText_2 p2 p3)) (FwFlag_2 (FwText_1 p2 p3) (FwText_2 p2 p3)))]), (0, chC 1 2 3 p0), (1, .ints .u8 p0.wait.length p0.wait), (2, .ints .u8 p0.got.length p0.got), (3, .vec .row p0.out)])
                            768 (by kernel_rfl) rfl (by kernel_rfl) (⟨tt, trivial⟩) ?_
                        refine Tri.ret ?_
                        repeat (first | refine thenP_ret ?_ | refine blkP_ret ?_ | refine countP_ret ?_ | refine joinP_ret ?_ | refine iterP_ret ?_)
                        refine subP_done ?_
                        refine endP.conv (r' := ⟨.sc (.i .i64 3), [some (chC 5 6 7 p0), none, none, none, some (.cells [.ro .u8 (FwText_1 (FwFlag_1 (FwText_1 p2 p3) (FwText_2 p2 p3)) (FwFlag_2 (FwText_1 p2 p3) (FwText_2 p2 p3))), .b (FwText_2 (FwFlag_1 (FwText_1 p2 p3) (FwText_2 p2 p3)) (FwFlag_2 (FwText_1 p2 p3) (FwText_2 p2 p3)))]), some (.ints .u8 p0.wait.length p0.wait), some (.ints .u8 p0.got.length p0.got), some (.vec .row p0.out)]⟩) (by simp only [chC, Fcon, Fcon_1, Fcon_2, Fcon_3, h1, h4, h9, h12, h15, h16, h17, h18, h19, h26, sel_true, sel_false]) ?_
                        exact endP.ret [(0, 0), (4, 4), (1, 5), (2, 6), (3, 7)] TT (by kernel_rfl) (by kernel_rfl) tt
                      ·
                        refine Tri.skip ?_
                        change Tri _ _ _ _ _ _
                        refine Tri.split p0.ready (fun h27 => ?_) (fun h27 => ?_)
                        ·
                          refine Tri.seq_region [(162, qb true)] none [11, 10, 0] [0, 4, 1, 2, 3] (TT ∧ (TT ∧ (TT ∧ (TT ∧ (((8 < 14) ∧ True) ∧ ((True ∧ (p0.ready = true)) ∧ (TT ∧ (TT ∧ (TT ∧ (TT ∧ ((((8 < 14) ∧ (1 = 1)) ∧ True) ∧ True)))))))))))
                              ([(11, .sc (.b false)), (10, .sc (.b (FwFlag (FwText_1 p2 p3) (FwText_2 p2 p3)))), (0, .sc (.p 0 0))], [(0, .cells [.b p0.server, .i .i64 p0.state, .i .u32 p0.peer, .i .i64 p0.window, .i .i64 p0.most, .i .i64 p0.room, .sl 1 0 p0.wait.length 1 none, .sl 2 0 p0.got.length 1 none, .b true, .b p0.e0, .b p0.e1, .b p0.c0, .b p0.c1, .sl 3 0 p0.out.length 1 none]), (4, .cells [.ro .u8 (FwText_1 (FwFlag_1 (FwText_1 p2 p3) (FwText_2 p2 p3)) (FwFlag_2 (FwText_1 p2 p3) (FwText_2 p2 p3))), .b (FwText_2 (FwFlag_1 (FwText_1 p2 p3) (FwText_2 p2 p3)) (FwFlag_2 (FwText_1 p2 p3) (FwText_2 p2 p3)))]), (1, .ints .u8 p0.wait.length p0.wait), (2, .ints .u8 p0.got.length p0.got), (3, .vec .row p0.out)])
                              928 (by kernel_rfl) rfl (by kernel_rfl) (⟨tt, ⟨tt, ⟨tt, ⟨tt, ⟨⟨(by first | omega | (dsimp only; omega) | decide | (simp only [Fconv0, Fconv1, Fconv2, Fconv3, Fconv4, Fconv5, len_say]; omega)), trivial⟩, ⟨⟨trivial, (h27)⟩, ⟨tt, ⟨tt, ⟨tt, ⟨tt, ⟨⟨⟨(by first | omega | (dsimp only; omega) | decide | (simp only [Fconv0, Fconv1, Fconv2, Fconv3, Fconv4, Fconv5, len_say]; omega)), (rfl)⟩, trivial⟩, trivial⟩⟩⟩⟩⟩⟩⟩⟩⟩⟩⟩) ?_
                          refine Tri.seq_region [] none [167, 11, 0] [0, 4, 1, 2, 3] (TT ∧ True)
                              ([(167, .sc (.b (FwFlag (FwText_1 p2 p3) (FwText_2 p2 p3)))), (11, .sc (.b false)), (0, .sc (.p 0 0))], [(0, .cells [.b p0.server, .i .i64 p0.state, .i .u32 p0.peer, .i .i64 p0.window, .i .i64 p0.most, .i .i64 p0.room, .sl 1 0 p0.wait.length 1 none, .sl 2 0 p0.got.length 1 none, .b true, .b p0.e0, .b p0.e1, .b p0.c0, .b p0.c1, .sl 3 0 p0.out.length 1 none]), (4, .cells [.ro .u8 (FwText_1 (FwFlag_1 (FwText_1 p2 p3) (FwText_2 p2 p3)) (FwFlag_2 (FwText_1 p2 p3) (FwText_2 p2 p3))), .b (FwText_2 (FwFlag_1 (FwText_1 p2 p3) (FwText_2 p2 p3)) (FwFlag_2 (FwText_1 p2 p3) (FwText_2 p2 p3)))]), (1, .ints .u8 p0.wait.length p0.wait), (2, .ints .u8 p0.got.length p0.got), (3, .vec .row p0.out)])
                              944 (by kernel_rfl) rfl (by kernel_rfl) (⟨tt, trivial⟩) ?_
                          refine Tri.cond (x := (FwFlag (FwText_1 p2 p3) (FwText_2 p2 p3))) (by kernel_rfl) (fun h28 => ?_) (fun h28 => ?_)
                          ·
                            refine Tri.seq_region [] none [12, 11, 0] [0, 4, 1, 2, 3] (TT ∧ True)
                                ([(12, .sc (.i .u8 100)), (11, .sc (.b false)), (0, .sc (.p 0 0))], [(0, .cells [.b p0.server, .i .i64 p0.state, .i .u32 p0.peer, .i .i64 p0.window, .i .i64 p0.most, .i .i64 p0.room, .sl 1 0 p0.wait.length 1 none, .sl 2 0 p0.got.length 1 none, .b true, .b p0.e0, .b p0.e1, .b p0.c0, .b p0.c1, .sl 3 0 p0.out.length 1 none]), (4, .cells [.ro .u8 (FwText_1 (FwFlag_1 (FwText_1 p2 p3) (FwText_2 p2 p3)) (FwFlag_2 (FwText_1 p2 p3) (FwText_2 p2 p3))), .b (FwText_2 (FwFlag_1 (FwText_1 p2 p3) (FwText_2 p2 p3)) (FwFlag_2 (FwText_1 p2 p3) (FwText_2 p2 p3)))]), (1, .ints .u8 p0.wait.length p0.wait), (2, .ints .u8 p0.got.length p0.got), (3, .vec .row p0.out)])
                                960 (by kernel_rfl) rfl (by kernel_rfl) (⟨tt, trivial⟩) ?_
                            refine Tri.seq ?_
                            refine Tri.seq_region [] none [168, 12, 0] [0, 4, 1, 2, 3] (TT ∧ True)
                                ([(168, .sc (.b false)), (12, .sc (.i .u8 100)), (0, .sc (.p 0 0))], [(0, .cells [.b p0.server, .i .i64 p0.state, .i .u32 p0.peer, .i .i64 p0.window, .i .i64 p0.most, .i .i64 p0.room, .sl 1 0 p0.wait.length 1 none, .sl 2 0 p0.got.length 1 none, .b true, .b p0.e0, .b p0.e1, .b p0.c0, .b p0.c1, .sl 3 0 p0.out.length 1 none]), (4, .cells [.ro .u8 (FwText_1 (FwFlag_1 (FwText_1 p2 p3) (FwText_2 p2 p3)) (FwFlag_2 (FwText_1 p2 p3) (FwText_2 p2 p3))), .b (FwText_2 (FwFlag_1 (FwText_1 p2 p3) (FwText_2 p2 p3)) (FwFlag_2 (FwText_1 p2 p3) (FwText_2 p2 p3)))]), (1, .ints .u8 p0.wait.length p0.wait), (2, .ints .u8 p0.got.length p0.got), (3, .vec .row p0.out)])
                                976 (by kernel_rfl) rfl (by kernel_rfl) (⟨tt, trivial⟩) ?_
                            refine Tri.cond_false (by kernel_rfl) ?_
                            refine Tri.skip ?_
                            change Tri _ _ _ _ _ _
                            refine Tri.region' [] none [] [1042, 1041, 1040, 0, 4] (TT ∧ (TT ∧ (TT ∧ ((((True ∧ ((chLens (({p0 with ready := true} : Ch).wait.length) (({p0 with ready := true} : Ch).got.length) (({p0 with ready := true} : Ch).out.length) (({p0 with ready := true} : Ch).wait.length) (({p0 with ready := true} : Ch).got.length) ({p0 with ready := true} : Ch)) ∧ True)) ∧ (([some (.cells [.b p0.server, .i .i64 p0.state, .i .u32 p0.peer, .i .i64 p0.window, .i .i64 p0.most, .i .i64 p0.room, .sl 1 0 p0.wait.length 1 none, .sl 2 0 p0.got.length 1 none, .b true, .b p0.e0, .b p0.e1, .b p0.c0, .b p0.c1, .sl 3 0 p0.out.length 1 none]), some (.ints .u8 p0.wait.length p0.wait), some (.ints .u8 p0.got.length p0.got), some (.vec .row p0.out)] : List (Option Blk)) = [some (.cells [.b p0.server, .i .i64 p0.state, .i .u32 p0.peer, .i .i64 p0.window, .i .i64 p0.most, .i .i64 p0.room, .sl 1 0 p0.wait.length 1 none, .sl 2 0 p0.got.length 1 none, .b true, .b p0.e0, .b p0.e1, .b p0.c0, .b p0.c1, .sl 3 0 p0.out.length 1 none]), some (.ints .u8 p0.wait.length p0.wait), some (.ints .u8 p0.got.length p0.got), some (.vec .row p0.out)])) ∧ True) ∧ (((TT ∧ ((chLens (({p0 with ready := true} : Ch).wait.length) (({p0 with ready := true} : Ch).got.length) (({p0 with ready := true} : Ch).out.length) (({p0 with ready := true} : Ch).wait.length) (({p0 with ready := true} : Ch).got.length) ({p0 with ready := true} : Ch)) ∧ (({p0 with ready := true} : Ch).out.length ≤ 1000000000))) ∧ True) ∧ True)))))
                                ([], [(1042, .vec .row ((Fconv3 p0).out)), (1041, .ints .u8 ((Fconv3 p0).got.length) ((Fconv3 p0).got)), (1040, .ints .u8 ((Fconv3 p0).wait.length) ((Fconv3 p0).wait)), (0, chC 1040 1041 1042 (Fconv3 p0)), (4, .cells [.ro .u8 (FwText_1 (FwFlag_1 (FwText_1 p2 p3) (FwText_2 p2 p3)) (FwFlag_2 (FwText_1 p2 p3) (FwText_2 p2 p3))), .b (FwText_2 (FwFlag_1 (FwText_1 p2 p3) (FwText_2 p2 p3)) (FwFlag_2 (FwText_1 p2 p3) (FwText_2 p2 p3)))])])
                                1056 (by kernel_rfl) rfl (by kernel_rfl) (⟨tt, ⟨tt, ⟨tt, ⟨⟨⟨⟨trivial, ⟨(chLens_self _), trivial⟩⟩, (rfl)⟩, trivial⟩, ⟨⟨⟨tt, ⟨(chLens_self _), (by first | omega | (dsimp only; omega) | decide | (simp only [Fconv0, Fconv1, Fconv2, Fconv3, Fconv4, Fconv5, len_say]; omega))⟩⟩, trivial⟩, trivial⟩⟩⟩⟩⟩) ?_
                            change Tri _ _ _ _ _ _
                            refine Tri.seq_region [] none [6] [1042, 1041, 1040, 0, 4] (TT ∧ True)
                                ([(6, .sc (.i .i64 0))], [(1042, .vec .row ((Fconv3 p0).out)), (1041, .ints .u8 ((Fconv3 p0).got.length) ((Fconv3 p0).got)), (1040, .ints .u8 ((Fconv3 p0).wait.length) ((Fconv3 p0).wait)), (0, chC 1040 1041 1042 (Fconv3 p0)), (4, .cells [.ro .u8 (FwText_1 (FwFlag_1 (FwText_1 p2 p3) (FwText_2 p2 p3)) (FwFlag_2 (FwText_1 p2 p3) (FwText_2 p2 p3))), .b (FwText_2 (FwFlag_1 (FwText_1 p2 p3) (FwText_2 p2 p3)) (FwFlag_2 (FwText_1 p2 p3) (FwText_2 p2 p3)))])])
                                1072 (by kernel_rfl) rfl (by kernel_rfl) (⟨tt, trivial⟩) ?_
                            refine Tri.ret ?_
                            repeat (first | refine thenP_ret ?_ | refine blkP_ret ?_ | refine countP_ret ?_ | refine joinP_ret ?_ | refine iterP_ret ?_)
                            refine subP_done ?_
                            refine endP.conv (r' := ⟨.sc (.i .i64 0), [some (chC 5 6 7 (Fconv3 p0)), none, none, none, some (.cells [.ro .u8 (FwText_1 (FwFlag_1 (FwText_1 p2 p3) (FwText_2 p2 p3)) (FwFlag_2 (FwText_1 p2 p3) (FwText_2 p2 p3))), .b (FwText_2 (FwFlag_1 (FwText_1 p2 p3) (FwText_2 p2 p3)) (FwFlag_2 (FwText_1 p2 p3) (FwText_2 p2 p3)))]), some (.ints .u8 ((Fconv3 p0).wait.length) ((Fconv3 p0).wait)), some (.ints .u8 ((Fconv3 p0).got.length) ((Fconv3 p0).got)), some (.vec .row ((Fconv3 p0).out))]⟩) (by simp only [chC, Fcon, Fcon_1, Fcon_2, Fcon_3, h1, h4, h9, h12, h15, h16, h17, h18, h19, h26, h27, h28, sel_true, sel_false]) ?_
                            exact endP.ret [(0, 0), (4, 4), (1040, 5), (1041, 6), (1042, 7)] TT (by kernel_rfl) (by kernel_rfl) tt
                          ·
                            refine Tri.skip ?_
                            change Tri _ _ _ _ _ _
                            refine Tri.seq_region [] none [6] [0, 4, 1, 2, 3] (TT ∧ True)
                                ([(6, .sc (.i .i64 0))], [(0, .cells [.b p0.server, .i .i64 p0.state, .i .u32 p0.peer, .i .i64 p0.window, .i .i64 p0.most, .i .i64 p0.room, .sl 1 0 p0.wait.length 1 none, .sl 2 0 p0.got.length 1 none, .b true, .b p0.e0, .b p0.e1, .b p0.c0, .b p0.c1, .sl 3 0 p0.out.length 1 none]), (4, .cells [.ro .u8 (FwText_1 (FwFlag_1 (FwText_1 p2 p3) (FwText_2 p2 p3)) (FwFlag_2 (FwText_1 p2 p3) (FwText_2 p2 p3))), .b (FwText_2 (FwFlag_1 (FwText_1 p2 p3) (FwText_2 p2 p3)) (FwFlag_2 (FwText_1 p2 p3) (FwText_2 p2 p3)))]), (1, .ints .u8 p0.wait.length p0.wait), (2, .ints .u8 p0.got.length p0.got), (3, .vec .row p0.out)])
                                960 (by kernel_rfl) rfl (by kernel_rfl) (⟨tt, trivial⟩) ?_
                            refine Tri.ret ?_
                            repeat (first | refine thenP_ret ?_ | refine blkP_ret ?_ | refine countP_ret ?_ | refine joinP_ret ?_ | refine iterP_ret ?_)
                            refine subP_done ?_
                            refine endP.conv (r' := ⟨.sc (.i .i64 0), [some (.cells [.b p0.server, .i .i64 p0.state, .i .u32 p0.peer, .i .i64 p0.window, .i .i64 p0.most, .i .i64 p0.room, .sl 5 0 p0.wait.length 1 none, .sl 6 0 p0.got.length 1 none, .b true, .b p0.e0, .b p0.e1, .b p0.c0, .b p0.c1, .sl 7 0 p0.out.length 1 none]), none, none, none, some (.cells [.ro .u8 (FwText_1 (FwFlag_1 (FwText_1 p2 p3) (FwText_2 p2 p3)) (FwFlag_2 (FwText_1 p2 p3) (FwText_2 p2 p3))), .b (FwText_2 (FwFlag_1 (FwText_1 p2 p3) (FwText_2 p2 p3)) (FwFlag_2 (FwText_1 p2 p3) (FwText_2 p2 p3)))]), some (.ints .u8 p0.wait.length p0.wait), some (.ints .u8 p0.got.length p0.got), some (.vec .row p0.out)]⟩) (by simp only [chC, Fcon, Fcon_1, Fcon_2, Fcon_3, h1, h4, h9, h12, h15, h16, h17, h18, h19, h26, h27, h28, sel_true, sel_false]) ?_
                            exact endP.ret [(0, 0), (4, 4), (1, 5), (2, 6), (3, 7)] TT (by kernel_rfl) (by kernel_rfl) tt
                        ·
                          refine Tri.seq_region [(162, qb false)] none [11, 10, 0] [0, 4, 1, 2, 3] (TT ∧ (TT ∧ (TT ∧ (TT ∧ (((8 < 14) ∧ True) ∧ ((True ∧ (p0.ready = false)) ∧ (TT ∧ (TT ∧ (TT ∧ (TT ∧ ((((8 < 14) ∧ (1 = 1)) ∧ True) ∧ True)))))))))))
                              ([(11, .sc (.b false)), (10, .sc (.b (FwFlag (FwText_1 p2 p3) (FwText_2 p2 p3)))), (0, .sc (.p 0 0))], [(0, .cells [.b p0.server, .i .i64 p0.state, .i .u32 p0.peer, .i .i64 p0.window, .i .i64 p0.most, .i .i64 p0.room, .sl 1 0 p0.wait.length 1 none, .sl 2 0 p0.got.length 1 none, .b false, .b p0.e0, .b p0.e1, .b p0.c0, .b p0.c1, .sl 3 0 p0.out.length 1 none]), (4, .cells [.ro .u8 (FwText_1 (FwFlag_1 (FwText_1 p2 p3) (FwText_2 p2 p3)) (FwFlag_2 (FwText_1 p2 p3) (FwText_2 p2 p3))), .b (FwText_2 (FwFlag_1 (FwText_1 p2 p3) (FwText_2 p2 p3)) (FwFlag_2 (FwText_1 p2 p3) (FwText_2 p2 p3)))]), (1, .ints .u8 p0.wait.length p0.wait), (2, .ints .u8 p0.got.length p0.got), (3, .vec .row p0.out)])
                              928 (by kernel_rfl) rfl (by kernel_rfl) (⟨tt, ⟨tt, ⟨tt, ⟨tt, ⟨⟨(by first | omega | (dsimp only; omega) | decide | (simp only [Fconv0, Fconv1, Fconv2, Fconv3, Fconv4, Fconv5, len_say]; omega)), trivial⟩, ⟨⟨trivial, (h27)⟩, ⟨tt, ⟨tt, ⟨tt, ⟨tt, ⟨⟨⟨(by first | omega | (dsimp only; omega) | decide | (simp only [Fconv0, Fconv1, Fconv2, Fconv3, Fconv4, Fconv5, len_say]; omega)), (rfl)⟩, trivial⟩, trivial⟩⟩⟩⟩⟩⟩⟩⟩⟩⟩⟩) ?_
                          refine Tri.seq_region [] none [167, 11, 0] [0, 4, 1, 2, 3] (TT ∧ True)
                              ([(167, .sc (.b (FwFlag (FwText_1 p2 p3) (FwText_2 p2 p3)))), (11, .sc (.b false)), (0, .sc (.p 0 0))], [(0, .cells [.b p0.server, .i .i64 p0.state, .i .u32 p0.peer, .i .i64 p0.window, .i .i64 p0.most, .i .i64 p0.room, .sl 1 0 p0.wait.length 1 none, .sl 2 0 p0.got.length 1 none, .b false, .b p0.e0, .b p0.e1, .b p0.c0, .b p0.c1, .sl 3 0 p0.out.length 1 none]), (4, .cells [.ro .u8 (FwText_1 (FwFlag_1 (FwText_1 p2 p3) (FwText_2 p2 p3)) (FwFlag_2 (FwText_1 p2 p3) (FwText_2 p2 p3))), .b (FwText_2 (FwFlag_1 (FwText_1 p2 p3) (FwText_2 p2 p3)) (FwFlag_2 (FwText_1 p2 p3) (FwText_2 p2 p3)))]), (1, .ints .u8 p0.wait.length p0.wait), (2, .ints .u8 p0.got.length p0.got), (3, .vec .row p0.out)])
                              944 (by kernel_rfl) rfl (by kernel_rfl) (⟨tt, trivial⟩) ?_
                          refine Tri.cond (x := (FwFlag (FwText_1 p2 p3) (FwText_2 p2 p3))) (by kernel_rfl) (fun h29 => ?_) (fun h29 => ?_)
                          ·
                            refine Tri.seq_region [] none [12, 11, 0] [0, 4, 1, 2, 3] (TT ∧ True)
                                ([(12, .sc (.i .u8 100)), (11, .sc (.b false)), (0, .sc (.p 0 0))], [(0, .cells [.b p0.server, .i .i64 p0.state, .i .u32 p0.peer, .i .i64 p0.window, .i .i64 p0.most, .i .i64 p0.room, .sl 1 0 p0.wait.length 1 none, .sl 2 0 p0.got.length 1 none, .b false, .b p0.e0, .b p0.e1, .b p0.c0, .b p0.c1, .sl 3 0 p0.out.length 1 none]), (4, .cells [.ro .u8 (FwText_1 (FwFlag_1 (FwText_1 p2 p3) (FwText_2 p2 p3)) (FwFlag_2 (FwText_1 p2 p3) (FwText_2 p2 p3))), .b (FwText_2 (FwFlag_1 (FwText_1 p2 p3) (FwText_2 p2 p3)) (FwFlag_2 (FwText_1 p2 p3) (FwText_2 p2 p3)))]), (1, .ints .u8 p0.wait.length p0.wait), (2, .ints .u8 p0.got.length p0.got), (3, .vec .row p0.out)])
                                960 (by kernel_rfl) rfl (by kernel_rfl) (⟨tt, trivial⟩) ?_
                            refine Tri.seq ?_
                            refine Tri.seq_region [] none [168, 12, 0] [0, 4, 1, 2, 3] (TT ∧ True)
                                ([(168, .sc (.b false)), (12, .sc (.i .u8 100)), (0, .sc (.p 0 0))], [(0, .cells [.b p0.server, .i .i64 p0.state, .i .u32 p0.peer, .i .i64 p0.window, .i .i64 p0.most, .i .i64 p0.room, .sl 1 0 p0.wait.length 1 none, .sl 2 0 p0.got.length 1 none, .b false, .b p0.e0, .b p0.e1, .b p0.c0, .b p0.c1, .sl 3 0 p0.out.length 1 none]), (4, .cells [.ro .u8 (FwText_1 (FwFlag_1 (FwText_1 p2 p3) (FwText_2 p2 p3)) (FwFlag_2 (FwText_1 p2 p3) (FwText_2 p2 p3))), .b (FwText_2 (FwFlag_1 (FwText_1 p2 p3) (FwText_2 p2 p3)) (FwFlag_2 (FwText_1 p2 p3) (FwText_2 p2 p3)))]), (1, .ints .u8 p0.wait.length p0.wait), (2, .ints .u8 p0.got.length p0.got), (3, .vec .row p0.out)])
                                976 (by kernel_rfl) rfl (by kernel_rfl) (⟨tt, trivial⟩) ?_
                            refine Tri.cond_false (by kernel_rfl) ?_
                            refine Tri.skip ?_
                            change Tri _ _ _ _ _ _
                            refine Tri.region' [] none [] [1042, 1041, 1040, 0, 4] (TT ∧ (TT ∧ (TT ∧ ((((True ∧ ((chLens (({p0 with ready := false} : Ch).wait.length) (({p0 with ready := false} : Ch).got.length) (({p0 with ready := false} : Ch).out.length) (({p0 with ready := false} : Ch).wait.length) (({p0 with ready := false} : Ch).got.length) ({p0 with ready := false} : Ch)) ∧ True)) ∧ (([some (.cells [.b p0.server, .i .i64 p0.state, .i .u32 p0.peer, .i .i64 p0.window, .i .i64 p0.most, .i .i64 p0.room, .sl 1 0 p0.wait.length 1 none, .sl 2 0 p0.got.length 1 none, .b false, .b p0.e0, .b p0.e1, .b p0.c0, .b p0.c1, .sl 3 0 p0.out.length 1 none]), some (.ints .u8 p0.wait.length p0.wait), some (.ints .u8 p0.got.length p0.got), some (.vec .row p0.out)] : List (Option Blk)) = [some (.cells [.b p0.server, .i .i64 p0.state, .i .u32 p0.peer, .i .i64 p0.window, .i .i64 p0.most, .i .i64 p0.room, .sl 1 0 p0.wait.length 1 none, .sl 2 0 p0.got.length 1 none, .b false, .b p0.e0, .b p0.e1, .b p0.c0, .b p0.c1, .sl 3 0 p0.out.length 1 none]), some (.ints .u8 p0.wait.length p0.wait), some (.ints .u8 p0.got.length p0.got), some (.vec .row p0.out)])) ∧ True) ∧ (((TT ∧ ((chLens (({p0 with ready := false} : Ch).wait.length) (({p0 with ready := false} : Ch).got.length) (({p0 with ready := false} : Ch).out.length) (({p0 with ready := false} : Ch).wait.length) (({p0 with ready := false} : Ch).got.length) ({p0 with ready := false} : Ch)) ∧ (({p0 with ready := false} : Ch).out.length ≤ 1000000000))) ∧ True) ∧ True)))))
                                ([], [(1042, .vec .row ((Fconv4 p0).out)), (1041, .ints .u8 ((Fconv4 p0).got.length) ((Fconv4 p0).got)), (1040, .ints .u8 ((Fconv4 p0).wait.length) ((Fconv4 p0).wait)), (0, chC 1040 1041 1042 (Fconv4 p0)), (4, .cells [.ro .u8 (FwText_1 (FwFlag_1 (FwText_1 p2 p3) (FwText_2 p2 p3)) (FwFlag_2 (FwText_1 p2 p3) (FwText_2 p2 p3))), .b (FwText_2 (FwFlag_1 (FwText_1 p2 p3) (FwText_2 p2 p3)) (FwFlag_2 (FwText_1 p2 p3) (FwText_2 p2 p3)))])])
                                1056 (by kernel_rfl) rfl (by kernel_rfl) (⟨tt, ⟨tt, ⟨tt, ⟨⟨⟨⟨trivial, ⟨(chLens_self _), trivial⟩⟩, (rfl)⟩, trivial⟩, ⟨⟨⟨tt, ⟨(chLens_self _), (by first | omega | (dsimp only; omega) | decide | (simp only [Fconv0, Fconv1, Fconv2, Fconv3, Fconv4, Fconv5, len_say]; omega))⟩⟩, trivial⟩, trivial⟩⟩⟩⟩⟩) ?_
                            change Tri _ _ _ _ _ _
                            refine Tri.seq_region [] none [6] [1042, 1041, 1040, 0, 4] (TT ∧ True)
                                ([(6, .sc (.i .i64 0))], [(1042, .vec .row ((Fconv4 p0).out)), (1041, .ints .u8 ((Fconv4 p0).got.length) ((Fconv4 p0).got)), (1040, .ints .u8 ((Fconv4 p0).wait.length) ((Fconv4 p0).wait)), (0, chC 1040 1041 1042 (Fconv4 p0)), (4, .cells [.ro .u8 (FwText_1 (FwFlag_1 (FwText_1 p2 p3) (FwText_2 p2 p3)) (FwFlag_2 (FwText_1 p2 p3) (FwText_2 p2 p3))), .b (FwText_2 (FwFlag_1 (FwText_1 p2 p3) (FwText_2 p2 p3)) (FwFlag_2 (FwText_1 p2 p3) (FwText_2 p2 p3)))])])
                                1072 (by kernel_rfl) rfl (by kernel_rfl) (⟨tt, trivial⟩) ?_
                            refine Tri.ret ?_
                            repeat (first | refine thenP_ret ?_ | refine blkP_ret ?_ | refine countP_ret ?_ | refine joinP_ret ?_ | refine iterP_ret ?_)
                            refine subP_done ?_
                            refine endP.conv (r' := ⟨.sc (.i .i64 0), [some (chC 5 6 7 (Fconv4 p0)), none, none, none, some (.cells [.ro .u8 (FwText_1 (FwFlag_1 (FwText_1 p2 p3) (FwText_2 p2 p3)) (FwFlag_2 (FwText_1 p2 p3) (FwText_2 p2 p3))), .b (FwText_2 (FwFlag_1 (FwText_1 p2 p3) (FwText_2 p2 p3)) (FwFlag_2 (FwText_1 p2 p3) (FwText_2 p2 p3)))]), some (.ints .u8 ((Fconv4 p0).wait.length) ((Fconv4 p0).wait)), some (.ints .u8 ((Fconv4 p0).got.length) ((Fconv4 p0).got)), some (.vec .row ((Fconv4 p0).out))]⟩) (by simp only [chC, Fcon, Fcon_1, Fcon_2, Fcon_3, h1, h4, h9, h12, h15, h16, h17, h18, h19, h26, h27, h29, sel_true, sel_false]) ?_
                            exact endP.ret [(0, 0), (4, 4), (1040, 5), (1041, 6), (1042, 7)] TT (by kernel_rfl) (by kernel_rfl) tt
                          ·
                            refine Tri.skip ?_
                            change Tri _ _ _ _ _ _
                            refine Tri.seq_region [] none [6] [0, 4, 1, 2, 3] (TT ∧ True)
                                ([(6, .sc (.i .i64 0))], [(0, .cells [.b p0.server, .i .i64 p0.state, .i .u32 p0.peer, .i .i64 p0.window, .i .i64 p0.most, .i .i64 p0.room, .sl 1 0 p0.wait.length 1 none, .sl 2 0 p0.got.length 1 none, .b false, .b p0.e0, .b p0.e1, .b p0.c0, .b p0.c1, .sl 3 0 p0.out.length 1 none]), (4, .cells [.ro .u8 (FwText_1 (FwFlag_1 (FwText_1 p2 p3) (FwText_2 p2 p3)) (FwFlag_2 (FwText_1 p2 p3) (FwText_2 p2 p3))), .b (FwText_2 (FwFlag_1 (FwText_1 p2 p3) (FwText_2 p2 p3)) (FwFlag_2 (FwText_1 p2 p3) (FwText_2 p2 p3)))]), (1, .ints .u8 p0.wait.length p0.wait), (2, .ints .u8 p0.got.length p0.got), (3, .vec .row p0.out)])
                                960 (by kernel_rfl) rfl (by kernel_rfl) (⟨tt, trivial⟩) ?_
                            refine Tri.ret ?_
                            repeat (first | refine thenP_ret ?_ | refine blkP_ret ?_ | refine countP_ret ?_ | refine joinP_ret ?_ | refine iterP_ret ?_)
                            refine subP_done ?_
                            refine endP.conv (r' := ⟨.sc (.i .i64 0), [some (.cells [.b p0.server, .i .i64 p0.state, .i .u32 p0.peer, .i .i64 p0.window, .i .i64 p0.most, .i .i64 p0.room, .sl 5 0 p0.wait.length 1 none, .sl 6 0 p0.got.length 1 none, .b false, .b p0.e0, .b p0.e1, .b p0.c0, .b p0.c1, .sl 7 0 p0.out.length 1 none]), none, none, none, some (.cells [.ro .u8 (FwText_1 (FwFlag_1 (FwText_1 p2 p3) (FwText_2 p2 p3)) (FwFlag_2 (FwText_1 p2 p3) (FwText_2 p2 p3))), .b (FwText_2 (FwFlag_1 (FwText_1 p2 p3) (FwText_2 p2 p3)) (FwFlag_2 (FwText_1 p2 p3) (FwText_2 p2 p3)))]), some (.ints .u8 p0.wait.length p0.wait), some (.ints .u8 p0.got.length p0.got), some (.vec .row p0.out)]⟩) (by simp only [chC, Fcon, Fcon_1, Fcon_2, Fcon_3, h1, h4, h9, h12, h15, h16, h17, h18, h19, h26, h27, h29, sel_true, sel_false]) ?_
                            exact endP.ret [(0, 0), (4, 4), (1, 5), (2, 6), (3, 7)] TT (by kernel_rfl) (by kernel_rfl) tt
                  ·
                    refine Tri.seq_region [(132, qb true), (137, qb true), (141, qb false)] none [11, 10, 0, 2] [4, 0, 1, 2, 3] (TT ∧ (TT ∧ ((True ∧ ((strEq (FwText p2 p3) (⟨#[115, 117, 98, 115, 121, 115, 116, 101, 109]⟩ : ByteArray)) = true)) ∧ (TT ∧ ((TT ∧ True) ∧ (TT ∧ (TT ∧ ((True ∧ ((strEq (FwText (FwFlag_1 (FwText_1 p2 p3) (FwText_2 p2 p3)) (FwFlag_2 (FwText_1 p2 p3) (FwText_2 p2 p3))) (⟨#[110, 101, 116, 99, 111, 110, 102]⟩ : ByteArray)) = true)) ∧ (TT ∧ ((TT ∧ True) ∧ (TT ∧ ((True ∧ ((FwEnd (FwText_1 (FwFlag_1 (FwText_1 p2 p3) (FwText_2 p2 p3)) (FwFlag_2 (FwText_1 p2 p3) (FwText_2 p2 p3))) (FwText_2 (FwFlag_1 (FwText_1 p2 p3) (FwText_2 p2 p3)) (FwFlag_2 (FwText_1 p2 p3) (FwText_2 p2 p3)))) = false)) ∧ (TT ∧ (TT ∧ (TT ∧ (TT ∧ (TT ∧ (TT ∧ (TT ∧ (TT ∧ (TT ∧ (TT ∧ (TT ∧ (TT ∧ (TT ∧ True)))))))))))))))))))))))))
                        ([(11, .sc (.b false)), (10, .sc (.b (FwFlag (FwText_1 p2 p3) (FwText_2 p2 p3)))), (0, .sc (.p 0 0)), (2, .sc (.p 4 0))], [(4, .cells [.ro .u8 (FwText_1 (FwFlag_1 (FwText_1 p2 p3) (FwText_2 p2 p3)) (FwFlag_2 (FwText_1 p2 p3) (FwText_2 p2 p3))), .b (FwText_2 (FwFlag_1 (FwText_1 p2 p3) (FwText_2 p2 p3)) (FwFlag_2 (FwText_1 p2 p3) (FwText_2 p2 p3)))]), (0, chC 1 2 3 p0), (1, .ints .u8 p0.wait.length p0.wait), (2, .ints .u8 p0.got.length p0.got), (3, .vec .row p0.out)])
                        704 (by kernel_rfl) rfl (by kernel_rfl) (⟨tt, ⟨tt, ⟨⟨trivial, (h16)⟩, ⟨tt, ⟨⟨tt, trivial⟩, ⟨tt, ⟨tt, ⟨⟨trivial, (h17)⟩, ⟨tt, ⟨⟨tt, trivial⟩, ⟨tt, ⟨⟨trivial, (h18)⟩, ⟨tt, ⟨tt, ⟨tt, ⟨tt, ⟨tt, ⟨tt, ⟨tt, ⟨tt, ⟨tt, ⟨tt, ⟨tt, ⟨tt, ⟨tt, trivial⟩⟩⟩⟩⟩⟩⟩⟩⟩⟩⟩⟩⟩⟩⟩⟩⟩⟩⟩⟩⟩⟩⟩⟩⟩) ?_
                    refine Tri.seq ?_
                    refine Tri.seq_region [] none [156, 11, 10, 0] [4, 0, 1, 2, 3] (TT ∧ ((TT ∧ True) ∧ (TT ∧ True)))
                        ([(156, .sc (.b (!(FwOk (FwText_1 (FwFlag_1 (FwText_1 p2 p3) (FwText_2 p2 p3)) (FwFlag_2 (FwText_1 p2 p3) (FwText_2 p2 p3))) (FwText_2 (FwFlag_1 (FwText_1 p2 p3) (FwText_2 p2 p3)) (FwFlag_2 (FwText_1 p2 p3) (FwText_2 p2 p3))))))), (11, .sc (.b false)), (10, .sc (.b (FwFlag (FwText_1 p2 p3) (FwText_2 p2 p3)))), (0, .sc (.p 0 0))], [(4, .cells [.ro .u8 (FwText_1 (FwFlag_1 (FwText_1 p2 p3) (FwText_2 p2 p3)) (FwFlag_2 (FwText_1 p2 p3) (FwText_2 p2 p3))), .b (FwText_2 (FwFlag_1 (FwText_1 p2 p3) (FwText_2 p2 p3)) (FwFlag_2 (FwText_1 p2 p3) (FwText_2 p2 p3)))]), (0, chC 1 2 3 p0), (1, .ints .u8 p0.wait.length p0.wait), (2, .ints .u8 p0.got.length p0.got), (3, .vec .row p0.out)])
                        752 (by kernel_rfl) rfl (by kernel_rfl) (⟨tt, ⟨⟨tt, trivial⟩, ⟨tt, trivial⟩⟩⟩) ?_
                    refine Tri.cond (x := (!(FwOk (FwText_1 (FwFlag_1 (FwText_1 p2 p3) (FwText_2 p2 p3)) (FwFlag_2 (FwText_1 p2 p3) (FwText_2 p2 p3))) (FwText_2 (FwFlag_1 (FwText_1 p2 p3) (FwText_2 p2 p3)) (FwFlag_2 (FwText_1 p2 p3) (FwText_2 p2 p3)))))) (by kernel_rfl) (fun h30 => ?_) (fun h30 => ?_)
                    ·
                      refine Tri.seq_region [] none [6] [4, 0, 1, 2, 3] (TT ∧ True)
                          ([(6, .sc (.i .i64 3))], [(4, .cells [.ro .u8 (FwText_1 (FwFlag_1 (FwText_1 p2 p3) (FwText_2 p2 p3)) (FwFlag_2 (FwText_1 p2 p3) (FwText_2 p2 p3))), .b (FwText_2 (FwFlag_1 (FwText_1 p2 p3) (FwText_2 p2 p3)) (FwFlag_2 (FwText_1 p2 p3) (FwText_2 p2 p3)))]), (0, chC 1 2 3 p0), (1, .ints .u8 p0.wait.length p0.wait), (2, .ints .u8 p0.got.length p0.got), (3, .vec .row p0.out)])
                          768 (by kernel_rfl) rfl (by kernel_rfl) (⟨tt, trivial⟩) ?_
                      refine Tri.ret ?_
                      repeat (first | refine thenP_ret ?_ | refine blkP_ret ?_ | refine countP_ret ?_ | refine joinP_ret ?_ | refine iterP_ret ?_)
                      refine subP_done ?_
                      refine endP.conv (r' := ⟨.sc (.i .i64 3), [some (chC 5 6 7 p0), none, none, none, some (.cells [.ro .u8 (FwText_1 (FwFlag_1 (FwText_1 p2 p3) (FwText_2 p2 p3)) (FwFlag_2 (FwText_1 p2 p3) (FwText_2 p2 p3))), .b (FwText_2 (FwFlag_1 (FwText_1 p2 p3) (FwText_2 p2 p3)) (FwFlag_2 (FwText_1 p2 p3) (FwText_2 p2 p3)))]), some (.ints .u8 p0.wait.length p0.wait), some (.ints .u8 p0.got.length p0.got), some (.vec .row p0.out)]⟩) (by simp only [chC, Fcon, Fcon_1, Fcon_2, Fcon_3, h1, h4, h9, h12, h15, h16, h17, h18, h30, sel_true, sel_false]) ?_
                      exact endP.ret [(0, 0), (4, 4), (1, 5), (2, 6), (3, 7)] TT (by kernel_rfl) (by kernel_rfl) tt
                    ·
                      refine Tri.skip ?_
                      change Tri _ _ _ _ _ _
                      refine Tri.split p0.ready (fun h31 => ?_) (fun h31 => ?_)
                      ·
                        refine Tri.seq_region [(162, qb true)] none [11, 10, 0] [0, 4, 1, 2, 3] (TT ∧ (TT ∧ (TT ∧ (TT ∧ (((8 < 14) ∧ True) ∧ ((True ∧ (p0.ready = true)) ∧ (TT ∧ (TT ∧ (TT ∧ (TT ∧ ((((8 < 14) ∧ (1 = 1)) ∧ True) ∧ True)))))))))))
                            ([(11, .sc (.b false)), (10, .sc (.b (FwFlag (FwText_1 p2 p3) (FwText_2 p2 p3)))), (0, .sc (.p 0 0))], [(0, .cells [.b p0.server, .i .i64 p0.state, .i .u32 p0.peer, .i .i64 p0.window, .i .i64 p0.most, .i .i64 p0.room, .sl 1 0 p0.wait.length 1 none, .sl 2 0 p0.got.length 1 none, .b true, .b p0.e0, .b p0.e1, .b p0.c0, .b p0.c1, .sl 3 0 p0.out.length 1 none]), (4, .cells [.ro .u8 (FwText_1 (FwFlag_1 (FwText_1 p2 p3) (FwText_2 p2 p3)) (FwFlag_2 (FwText_1 p2 p3) (FwText_2 p2 p3))), .b (FwText_2 (FwFlag_1 (FwText_1 p2 p3) (FwText_2 p2 p3)) (FwFlag_2 (FwText_1 p2 p3) (FwText_2 p2 p3)))]), (1, .ints .u8 p0.wait.length p0.wait), (2, .ints .u8 p0.got.length p0.got), (3, .vec .row p0.out)])
                            928 (by kernel_rfl) rfl (by kernel_rfl) (⟨tt, ⟨tt, ⟨tt, ⟨tt, ⟨⟨(by first | omega | (dsimp only; omega) | decide | (simp only [Fconv0, Fconv1, Fconv2, Fconv3, Fconv4, Fconv5, len_say]; omega)), trivial⟩, ⟨⟨trivial, (h31)⟩, ⟨tt, ⟨tt, ⟨tt, ⟨tt, ⟨⟨⟨(by first | omega | (dsimp only; omega) | decide | (simp only [Fconv0, Fconv1, Fconv2, Fconv3, Fconv4, Fconv5, len_say]; omega)), (rfl)⟩, trivial⟩, trivial⟩⟩⟩⟩⟩⟩⟩⟩⟩⟩⟩) ?_
                        refine Tri.seq_region [] none [167, 11, 0] [0, 4, 1, 2, 3] (TT ∧ True)
                            ([(167, .sc (.b (FwFlag (FwText_1 p2 p3) (FwText_2 p2 p3)))), (11, .sc (.b false)), (0, .sc (.p 0 0))], [(0, .cells [.b p0.server, .i .i64 p0.state, .i .u32 p0.peer, .i .i64 p0.window, .i .i64 p0.most, .i .i64 p0.room, .sl 1 0 p0.wait.length 1 none, .sl 2 0 p0.got.length 1 none, .b true, .b p0.e0, .b p0.e1, .b p0.c0, .b p0.c1, .sl 3 0 p0.out.length 1 none]), (4, .cells [.ro .u8 (FwText_1 (FwFlag_1 (FwText_1 p2 p3) (FwText_2 p2 p3)) (FwFlag_2 (FwText_1 p2 p3) (FwText_2 p2 p3))), .b (FwText_2 (FwFlag_1 (FwText_1 p2 p3) (FwText_2 p2 p3)) (FwFlag_2 (FwText_1 p2 p3) (FwText_2 p2 p3)))]), (1, .ints .u8 p0.wait.length p0.wait), (2, .ints .u8 p0.got.length p0.got), (3, .vec .row p0.out)])
                            944 (by kernel_rfl) rfl (by kernel_rfl) (⟨tt, trivial⟩) ?_
                        refine Tri.cond (x := (FwFlag (FwText_1 p2 p3) (FwText_2 p2 p3))) (by kernel_rfl) (fun h32 => ?_) (fun h32 => ?_)
                        ·
                          refine Tri.seq_region [] none [12, 11, 0] [0, 4, 1, 2, 3] (TT ∧ True)
                              ([(12, .sc (.i .u8 100)), (11, .sc (.b false)), (0, .sc (.p 0 0))], [(0, .cells [.b p0.server, .i .i64 p0.state, .i .u32 p0.peer, .i .i64 p0.window, .i .i64 p0.most, .i .i64 p0.room, .sl 1 0 p0.wait.length 1 none, .sl 2 0 p0.got.length 1 none, .b true, .b p0.e0, .b p0.e1, .b p0.c0, .b p0.c1, .sl 3 0 p0.out.length 1 none]), (4, .cells [.ro .u8 (FwText_1 (FwFlag_1 (FwText_1 p2 p3) (FwText_2 p2 p3)) (FwFlag_2 (FwText_1 p2 p3) (FwText_2 p2 p3))), .b (FwText_2 (FwFlag_1 (FwText_1 p2 p3) (FwText_2 p2 p3)) (FwFlag_2 (FwText_1 p2 p3) (FwText_2 p2 p3)))]), (1, .ints .u8 p0.wait.length p0.wait), (2, .ints .u8 p0.got.length p0.got), (3, .vec .row p0.out)])
                              960 (by kernel_rfl) rfl (by kernel_rfl) (⟨tt, trivial⟩) ?_
                          refine Tri.seq ?_
                          refine Tri.seq_region [] none [168, 12, 0] [0, 4, 1, 2, 3] (TT ∧ True)
                              ([(168, .sc (.b false)), (12, .sc (.i .u8 100)), (0, .sc (.p 0 0))], [(0, .cells [.b p0.server, .i .i64 p0.state, .i .u32 p0.peer, .i .i64 p0.window, .i .i64 p0.most, .i .i64 p0.room, .sl 1 0 p0.wait.length 1 none, .sl 2 0 p0.got.length 1 none, .b true, .b p0.e0, .b p0.e1, .b p0.c0, .b p0.c1, .sl 3 0 p0.out.length 1 none]), (4, .cells [.ro .u8 (FwText_1 (FwFlag_1 (FwText_1 p2 p3) (FwText_2 p2 p3)) (FwFlag_2 (FwText_1 p2 p3) (FwText_2 p2 p3))), .b (FwText_2 (FwFlag_1 (FwText_1 p2 p3) (FwText_2 p2 p3)) (FwFlag_2 (FwText_1 p2 p3) (FwText_2 p2 p3)))]), (1, .ints .u8 p0.wait.length p0.wait), (2, .ints .u8 p0.got.length p0.got), (3, .vec .row p0.out)])
                              976 (by kernel_rfl) rfl (by kernel_rfl) (⟨tt, trivial⟩) ?_
                          refine Tri.cond_false (by kernel_rfl) ?_
                          refine Tri.skip ?_
                          change Tri _ _ _ _ _ _
                          refine Tri.region' [] none [] [1042, 1041, 1040, 0, 4] (TT ∧ (TT ∧ (TT ∧ ((((True ∧ ((chLens (({p0 with ready := true} : Ch).wait.length) (({p0 with ready := true} : Ch).got.length) (({p0 with ready := true} : Ch).out.length) (({p0 with ready := true} : Ch).wait.length) (({p0 with ready := true} : Ch).got.length) ({p0 with ready := true} : Ch)) ∧ True)) ∧ (([some (.cells [.b p0.server, .i .i64 p0.state, .i .u32 p0.peer, .i .i64 p0.window, .i .i64 p0.most, .i .i64 p0.room, .sl 1 0 p0.wait.length 1 none, .sl 2 0 p0.got.length 1 none, .b true, .b p0.e0, .b p0.e1, .b p0.c0, .b p0.c1, .sl 3 0 p0.out.length 1 none]), some (.ints .u8 p0.wait.length p0.wait), some (.ints .u8 p0.got.length p0.got), some (.vec .row p0.out)] : List (Option Blk)) = [some (.cells [.b p0.server, .i .i64 p0.state, .i .u32 p0.peer, .i .i64 p0.window, .i .i64 p0.most, .i .i64 p0.room, .sl 1 0 p0.wait.length 1 none, .sl 2 0 p0.got.length 1 none, .b true, .b p0.e0, .b p0.e1, .b p0.c0, .b p0.c1, .sl 3 0 p0.out.length 1 none]), some (.ints .u8 p0.wait.length p0.wait), some (.ints .u8 p0.got.length p0.got), some (.vec .row p0.out)])) ∧ True) ∧ (((TT ∧ ((chLens (({p0 with ready := true} : Ch).wait.length) (({p0 with ready := true} : Ch).got.length) (({p0 with ready := true} : Ch).out.length) (({p0 with ready := true} : Ch).wait.length) (({p0 with ready := true} : Ch).got.length) ({p0 with ready := true} : Ch)) ∧ (({p0 with ready := true} : Ch).out.length ≤ 1000000000))) ∧ True) ∧ True)))))
                              ([], [(1042, .vec .row ((Fconv3 p0).out)), (1041, .ints .u8 ((Fconv3 p0).got.length) ((Fconv3 p0).got)), (1040, .ints .u8 ((Fconv3 p0).wait.length) ((Fconv3 p0).wait)), (0, chC 1040 1041 1042 (Fconv3 p0)), (4, .cells [.ro .u8 (FwText_1 (FwFlag_1 (FwText_1 p2 p3) (FwText_2 p2 p3)) (FwFlag_2 (FwText_1 p2 p3) (FwText_2 p2 p3))), .b (FwText_2 (FwFlag_1 (FwText_1 p2 p3) (FwText_2 p2 p3)) (FwFlag_2 (FwText_1 p2 p3) (FwText_2 p2 p3)))])])
                              1056 (by kernel_rfl) rfl (by kernel_rfl) (⟨tt, ⟨tt, ⟨tt, ⟨⟨⟨⟨trivial, ⟨(chLens_self _), trivial⟩⟩, (rfl)⟩, trivial⟩, ⟨⟨⟨tt, ⟨(chLens_self _), (by first | omega | (dsimp only; omega) | decide | (simp only [Fconv0, Fconv1, Fconv2, Fconv3, Fconv4, Fconv5, len_say]; omega))⟩⟩, trivial⟩, trivial⟩⟩⟩⟩⟩) ?_
                          change Tri _ _ _ _ _ _
                          refine Tri.seq_region [] none [6] [1042, 1041, 1040, 0, 4] (TT ∧ True)
                              ([(6, .sc (.i .i64 0))], [(1042, .vec .row ((Fconv3 p0).out)), (1041, .ints .u8 ((Fconv3 p0).got.length) ((Fconv3 p0).got)), (1040, .ints .u8 ((Fconv3 p0).wait.length) ((Fconv3 p0).wait)), (0, chC 1040 1041 1042 (Fconv3 p0)), (4, .cells [.ro .u8 (FwText_1 (FwFlag_1 (FwText_1 p2 p3) (FwText_2 p2 p3)) (FwFlag_2 (FwText_1 p2 p3) (FwText_2 p2 p3))), .b (FwText_2 (FwFlag_1 (FwText_1 p2 p3) (FwText_2 p2 p3)) (FwFlag_2 (FwText_1 p2 p3) (FwText_2 p2 p3)))])])
                              1072 (by kernel_rfl) rfl (by kernel_rfl) (⟨tt, trivial⟩) ?_
                          refine Tri.ret ?_
                          repeat (first | refine thenP_ret ?_ | refine blkP_ret ?_ | refine countP_ret ?_ | refine joinP_ret ?_ | refine iterP_ret ?_)
                          refine subP_done ?_
                          refine endP.conv (r' := ⟨.sc (.i .i64 0), [some (chC 5 6 7 (Fconv3 p0)), none, none, none, some (.cells [.ro .u8 (FwText_1 (FwFlag_1 (FwText_1 p2 p3) (FwText_2 p2 p3)) (FwFlag_2 (FwText_1 p2 p3) (FwText_2 p2 p3))), .b (FwText_2 (FwFlag_1 (FwText_1 p2 p3) (FwText_2 p2 p3)) (FwFlag_2 (FwText_1 p2 p3) (FwText_2 p2 p3)))]), some (.ints .u8 ((Fconv3 p0).wait.length) ((Fconv3 p0).wait)), some (.ints .u8 ((Fconv3 p0).got.length) ((Fconv3 p0).got)), some (.vec .row ((Fconv3 p0).out))]⟩) (by simp only [chC, Fcon, Fcon_1, Fcon_2, Fcon_3, h1, h4, h9, h12, h15, h16, h17, h18, h30, h31, h32, sel_true, sel_false]) ?_
                          exact endP.ret [(0, 0), (4, 4), (1040, 5), (1041, 6), (1042, 7)] TT (by kernel_rfl) (by kernel_rfl) tt
                        ·
                          refine Tri.skip ?_
                          change Tri _ _ _ _ _ _
                          refine Tri.seq_region [] none [6] [0, 4, 1, 2, 3] (TT ∧ True)
                              ([(6, .sc (.i .i64 0))], [(0, .cells [.b p0.server, .i .i64 p0.state, .i .u32 p0.peer, .i .i64 p0.window, .i .i64 p0.most, .i .i64 p0.room, .sl 1 0 p0.wait.length 1 none, .sl 2 0 p0.got.length 1 none, .b true, .b p0.e0, .b p0.e1, .b p0.c0, .b p0.c1, .sl 3 0 p0.out.length 1 none]), (4, .cells [.ro .u8 (FwText_1 (FwFlag_1 (FwText_1 p2 p3) (FwText_2 p2 p3)) (FwFlag_2 (FwText_1 p2 p3) (FwText_2 p2 p3))), .b (FwText_2 (FwFlag_1 (FwText_1 p2 p3) (FwText_2 p2 p3)) (FwFlag_2 (FwText_1 p2 p3) (FwText_2 p2 p3)))]), (1, .ints .u8 p0.wait.length p0.wait), (2, .ints .u8 p0.got.length p0.got), (3, .vec .row p0.out)])
                              960 (by kernel_rfl) rfl (by kernel_rfl) (⟨tt, trivial⟩) ?_
                          refine Tri.ret ?_
                          repeat (first | refine thenP_ret ?_ | refine blkP_ret ?_ | refine countP_ret ?_ | refine joinP_ret ?_ | refine iterP_ret ?_)
                          refine subP_done ?_
                          refine endP.conv (r' := ⟨.sc (.i .i64 0), [some (.cells [.b p0.server, .i .i64 p0.state, .i .u32 p0.peer, .i .i64 p0.window, .i .i64 p0.most, .i .i64 p0.room, .sl 5 0 p0.wait.length 1 none, .sl 6 0 p0.got.length 1 none, .b true, .b p0.e0, .b p0.e1, .b p0.c0, .b p0.c1, .sl 7 0 p0.out.length 1 none]), none, none, none, some (.cells [.ro .u8 (FwText_1 (FwFlag_1 (FwText_1 p2 p3) (FwText_2 p2 p3)) (FwFlag_2 (FwText_1 p2 p3) (FwText_2 p2 p3))), .b (FwText_2 (FwFlag_1 (FwText_1 p2 p3) (FwText_2 p2 p3)) (FwFlag_2 (FwText_1 p2 p3) (FwText_2 p2 p3)))]), some (.ints .u8 p0.wait.length p0.wait), some (.ints .u8 p0.got.length p0.got), some (.vec .row p0.out)]⟩) (by simp only [chC, Fcon, Fcon_1, Fcon_2, Fcon_3, h1, h4, h9, h12, h15, h16, h17, h18, h30, h31, h32, sel_true, sel_false]) ?_
                          exact endP.ret [(0, 0), (4, 4), (1, 5), (2, 6), (3, 7)] TT (by kernel_rfl) (by kernel_rfl) tt
                      ·
                        refine Tri.seq_region [(162, qb false)] none [11, 10, 0] [0, 4, 1, 2, 3] (TT ∧ (TT ∧ (TT ∧ (TT ∧ (((8 < 14) ∧ True) ∧ ((True ∧ (p0.ready = false)) ∧ (TT ∧ (TT ∧ (TT ∧ (TT ∧ ((((8 < 14) ∧ (1 = 1)) ∧ True) ∧ True)))))))))))
                            ([(11, .sc (.b false)), (10, .sc (.b (FwFlag (FwText_1 p2 p3) (FwText_2 p2 p3)))), (0, .sc (.p 0 0))], [(0, .cells [.b p0.server, .i .i64 p0.state, .i .u32 p0.peer, .i .i64 p0.window, .i .i64 p0.most, .i .i64 p0.room, .sl 1 0 p0.wait.length 1 none, .sl 2 0 p0.got.length 1 none, .b false, .b p0.e0, .b p0.e1, .b p0.c0, .b p0.c1, .sl 3 0 p0.out.length 1 none]), (4, .cells [.ro .u8 (FwText_1 (FwFlag_1 (FwText_1 p2 p3) (FwText_2 p2 p3)) (FwFlag_2 (FwText_1 p2 p3) (FwText_2 p2 p3))), .b (FwText_2 (FwFlag_1 (FwText_1 p2 p3) (FwText_2 p2 p3)) (FwFlag_2 (FwText_1 p2 p3) (FwText_2 p2 p3)))]), (1, .ints .u8 p0.wait.length p0.wait), (2, .ints .u8 p0.got.length p0.got), (3, .vec .row p0.out)])
                            928 (by kernel_rfl) rfl (by kernel_rfl) (⟨tt, ⟨tt, ⟨tt, ⟨tt, ⟨⟨(by first | omega | (dsimp only; omega) | decide | (simp only [Fconv0, Fconv1, Fconv2, Fconv3, Fconv4, Fconv5, len_say]; omega)), trivial⟩, ⟨⟨trivial, (h31)⟩, ⟨tt, ⟨tt, ⟨tt, ⟨tt, ⟨⟨⟨(by first | omega | (dsimp only; omega) | decide | (simp only [Fconv0, Fconv1, Fconv2, Fconv3, Fconv4, Fconv5, len_say]; omega)), (rfl)⟩, trivial⟩, trivial⟩⟩⟩⟩⟩⟩⟩⟩⟩⟩⟩) ?_
                        refine Tri.seq_region [] none [167, 11, 0] [0, 4, 1, 2, 3] (TT ∧ True)
                            ([(167, .sc (.b (FwFlag (FwText_1 p2 p3) (FwText_2 p2 p3)))), (11, .sc (.b false)), (0, .sc (.p 0 0))], [(0, .cells [.b p0.server, .i .i64 p0.state, .i .u32 p0.peer, .i .i64 p0.window, .i .i64 p0.most, .i .i64 p0.room, .sl 1 0 p0.wait.length 1 none, .sl 2 0 p0.got.length 1 none, .b false, .b p0.e0, .b p0.e1, .b p0.c0, .b p0.c1, .sl 3 0 p0.out.length 1 none]), (4, .cells [.ro .u8 (FwText_1 (FwFlag_1 (FwText_1 p2 p3) (FwText_2 p2 p3)) (FwFlag_2 (FwText_1 p2 p3) (FwText_2 p2 p3))), .b (FwText_2 (FwFlag_1 (FwText_1 p2 p3) (FwText_2 p2 p3)) (FwFlag_2 (FwText_1 p2 p3) (FwText_2 p2 p3)))]), (1, .ints .u8 p0.wait.length p0.wait), (2, .ints .u8 p0.got.length p0.got), (3, .vec .row p0.out)])
                            944 (by kernel_rfl) rfl (by kernel_rfl) (⟨tt, trivial⟩) ?_
                        refine Tri.cond (x := (FwFlag (FwText_1 p2 p3) (FwText_2 p2 p3))) (by kernel_rfl) (fun h33 => ?_) (fun h33 => ?_)
                        ·
                          refine Tri.seq_region [] none [12, 11, 0] [0, 4, 1, 2, 3] (TT ∧ True)
                              ([(12, .sc (.i .u8 100)), (11, .sc (.b false)), (0, .sc (.p 0 0))], [(0, .cells [.b p0.server, .i .i64 p0.state, .i .u32 p0.peer, .i .i64 p0.window, .i .i64 p0.most, .i .i64 p0.room, .sl 1 0 p0.wait.length 1 none, .sl 2 0 p0.got.length 1 none, .b false, .b p0.e0, .b p0.e1, .b p0.c0, .b p0.c1, .sl 3 0 p0.out.length 1 none]), (4, .cells [.ro .u8 (FwText_1 (FwFlag_1 (FwText_1 p2 p3) (FwText_2 p2 p3)) (FwFlag_2 (FwText_1 p2 p3) (FwText_2 p2 p3))), .b (FwText_2 (FwFlag_1 (FwText_1 p2 p3) (FwText_2 p2 p3)) (FwFlag_2 (FwText_1 p2 p3) (FwText_2 p2 p3)))]), (1, .ints .u8 p0.wait.length p0.wait), (2, .ints .u8 p0.got.length p0.got), (3, .vec .row p0.out)])
                              960 (by kernel_rfl) rfl (by kernel_rfl) (⟨tt, trivial⟩) ?_
                          refine Tri.seq ?_
                          refine Tri.seq_region [] none [168, 12, 0] [0, 4, 1, 2, 3] (TT ∧ True)
                              ([(168, .sc (.b false)), (12, .sc (.i .u8 100)), (0, .sc (.p 0 0))], [(0, .cells [.b p0.server, .i .i64 p0.state, .i .u32 p0.peer, .i .i64 p0.window, .i .i64 p0.most, .i .i64 p0.room, .sl 1 0 p0.wait.length 1 none, .sl 2 0 p0.got.length 1 none, .b false, .b p0.e0, .b p0.e1, .b p0.c0, .b p0.c1, .sl 3 0 p0.out.length 1 none]), (4, .cells [.ro .u8 (FwText_1 (FwFlag_1 (FwText_1 p2 p3) (FwText_2 p2 p3)) (FwFlag_2 (FwText_1 p2 p3) (FwText_2 p2 p3))), .b (FwText_2 (FwFlag_1 (FwText_1 p2 p3) (FwText_2 p2 p3)) (FwFlag_2 (FwText_1 p2 p3) (FwText_2 p2 p3)))]), (1, .ints .u8 p0.wait.length p0.wait), (2, .ints .u8 p0.got.length p0.got), (3, .vec .row p0.out)])
                              976 (by kernel_rfl) rfl (by kernel_rfl) (⟨tt, trivial⟩) ?_
                          refine Tri.cond_false (by kernel_rfl) ?_
                          refine Tri.skip ?_
                          change Tri _ _ _ _ _ _
                          refine Tri.region' [] none [] [1042, 1041, 1040, 0, 4] (TT ∧ (TT ∧ (TT ∧ ((((True ∧ ((chLens (({p0 with ready := false} : Ch).wait.length) (({p0 with ready := false} : Ch).got.length) (({p0 with ready := false} : Ch).out.length) (({p0 with ready := false} : Ch).wait.length) (({p0 with ready := false} : Ch).got.length) ({p0 with ready := false} : Ch)) ∧ True)) ∧ (([some (.cells [.b p0.server, .i .i64 p0.state, .i .u32 p0.peer, .i .i64 p0.window, .i .i64 p0.most, .i .i64 p0.room, .sl 1 0 p0.wait.length 1 none, .sl 2 0 p0.got.length 1 none, .b false, .b p0.e0, .b p0.e1, .b p0.c0, .b p0.c1, .sl 3 0 p0.out.length 1 none]), some (.ints .u8 p0.wait.length p0.wait), some (.ints .u8 p0.got.length p0.got), some (.vec .row p0.out)] : List (Option Blk)) = [some (.cells [.b p0.server, .i .i64 p0.state, .i .u32 p0.peer, .i .i64 p0.window, .i .i64 p0.most, .i .i64 p0.room, .sl 1 0 p0.wait.length 1 none, .sl 2 0 p0.got.length 1 none, .b false, .b p0.e0, .b p0.e1, .b p0.c0, .b p0.c1, .sl 3 0 p0.out.length 1 none]), some (.ints .u8 p0.wait.length p0.wait), some (.ints .u8 p0.got.length p0.got), some (.vec .row p0.out)])) ∧ True) ∧ (((TT ∧ ((chLens (({p0 with ready := false} : Ch).wait.length) (({p0 with ready := false} : Ch).got.length) (({p0 with ready := false} : Ch).out.length) (({p0 with ready := false} : Ch).wait.length) (({p0 with ready := false} : Ch).got.length) ({p0 with ready := false} : Ch)) ∧ (({p0 with ready := false} : Ch).out.length ≤ 1000000000))) ∧ True) ∧ True)))))
                              ([], [(1042, .vec .row ((Fconv4 p0).out)), (1041, .ints .u8 ((Fconv4 p0).got.length) ((Fconv4 p0).got)), (1040, .ints .u8 ((Fconv4 p0).wait.length) ((Fconv4 p0).wait)), (0, chC 1040 1041 1042 (Fconv4 p0)), (4, .cells [.ro .u8 (FwText_1 (FwFlag_1 (FwText_1 p2 p3) (FwText_2 p2 p3)) (FwFlag_2 (FwText_1 p2 p3) (FwText_2 p2 p3))), .b (FwText_2 (FwFlag_1 (FwText_1 p2 p3) (FwText_2 p2 p3)) (FwFlag_2 (FwText_1 p2 p3) (FwText_2 p2 p3)))])])
                              1056 (by kernel_rfl) rfl (by kernel_rfl) (⟨tt, ⟨tt, ⟨tt, ⟨⟨⟨⟨trivial, ⟨(chLens_self _), trivial⟩⟩, (rfl)⟩, trivial⟩, ⟨⟨⟨tt, ⟨(chLens_self _), (by first | omega | (dsimp only; omega) | decide | (simp only [Fconv0, Fconv1, Fconv2, Fconv3, Fconv4, Fconv5, len_say]; omega))⟩⟩, trivial⟩, trivial⟩⟩⟩⟩⟩) ?_
                          change Tri _ _ _ _ _ _
                          refine Tri.seq_region [] none [6] [1042, 1041, 1040, 0, 4] (TT ∧ True)
                              ([(6, .sc (.i .i64 0))], [(1042, .vec .row ((Fconv4 p0).out)), (1041, .ints .u8 ((Fconv4 p0).got.length) ((Fconv4 p0).got)), (1040, .ints .u8 ((Fconv4 p0).wait.length) ((Fconv4 p0).wait)), (0, chC 1040 1041 1042 (Fconv4 p0)), (4, .cells [.ro .u8 (FwText_1 (FwFlag_1 (FwText_1 p2 p3) (FwText_2 p2 p3)) (FwFlag_2 (FwText_1 p2 p3) (FwText_2 p2 p3))), .b (FwText_2 (FwFlag_1 (FwText_1 p2 p3) (FwText_2 p2 p3)) (FwFlag_2 (FwText_1 p2 p3) (FwText_2 p2 p3)))])])
                              1072 (by kernel_rfl) rfl (by kernel_rfl) (⟨tt, trivial⟩) ?_
                          refine Tri.ret ?_
                          repeat (first | refine thenP_ret ?_ | refine blkP_ret ?_ | refine countP_ret ?_ | refine joinP_ret ?_ | refine iterP_ret ?_)
                          refine subP_done ?_
                          refine endP.conv (r' := ⟨.sc (.i .i64 0), [some (chC 5 6 7 (Fconv4 p0)), none, none, none, some (.cells [.ro .u8 (FwText_1 (FwFlag_1 (FwText_1 p2 p3) (FwText_2 p2 p3)) (FwFlag_2 (FwText_1 p2 p3) (FwText_2 p2 p3))), .b (FwText_2 (FwFlag_1 (FwText_1 p2 p3) (FwText_2 p2 p3)) (FwFlag_2 (FwText_1 p2 p3) (FwText_2 p2 p3)))]), some (.ints .u8 ((Fconv4 p0).wait.length) ((Fconv4 p0).wait)), some (.ints .u8 ((Fconv4 p0).got.length) ((Fconv4 p0).got)), some (.vec .row ((Fconv4 p0).out))]⟩) (by simp only [chC, Fcon, Fcon_1, Fcon_2, Fcon_3, h1, h4, h9, h12, h15, h16, h17, h18, h30, h31, h33, sel_true, sel_false]) ?_
                          exact endP.ret [(0, 0), (4, 4), (1040, 5), (1041, 6), (1042, 7)] TT (by kernel_rfl) (by kernel_rfl) tt
                        ·
                          refine Tri.skip ?_
                          change Tri _ _ _ _ _ _
                          refine Tri.seq_region [] none [6] [0, 4, 1, 2, 3] (TT ∧ True)
                              ([(6, .sc (.i .i64 0))], [(0, .cells [.b p0.server, .i .i64 p0.state, .i .u32 p0.peer, .i .i64 p0.window, .i .i64 p0.most, .i .i64 p0.room, .sl 1 0 p0.wait.length 1 none, .sl 2 0 p0.got.length 1 none, .b false, .b p0.e0, .b p0.e1, .b p0.c0, .b p0.c1, .sl 3 0 p0.out.length 1 none]), (4, .cells [.ro .u8 (FwText_1 (FwFlag_1 (FwText_1 p2 p3) (FwText_2 p2 p3)) (FwFlag_2 (FwText_1 p2 p3) (FwText_2 p2 p3))), .b (FwText_2 (FwFlag_1 (FwText_1 p2 p3) (FwText_2 p2 p3)) (FwFlag_2 (FwText_1 p2 p3) (FwText_2 p2 p3)))]), (1, .ints .u8 p0.wait.length p0.wait), (2, .ints .u8 p0.got.length p0.got), (3, .vec .row p0.out)])
                              960 (by kernel_rfl) rfl (by kernel_rfl) (⟨tt, trivial⟩) ?_
                          refine Tri.ret ?_
                          repeat (first | refine thenP_ret ?_ | refine blkP_ret ?_ | refine countP_ret ?_ | refine joinP_ret ?_ | refine iterP_ret ?_)
                          refine subP_done ?_
                          refine endP.conv (r' := ⟨.sc (.i .i64 0), [some (.cells [.b p0.server, .i .i64 p0.state, .i .u32 p0.peer, .i .i64 p0.window, .i .i64 p0.most, .i .i64 p0.room, .sl 5 0 p0.wait.length 1 none, .sl 6 0 p0.got.length 1 none, .b false, .b p0.e0, .b p0.e1, .b p0.c0, .b p0.c1, .sl 7 0 p0.out.length 1 none]), none, none, none, some (.cells [.ro .u8 (FwText_1 (FwFlag_1 (FwText_1 p2 p3) (FwText_2 p2 p3)) (FwFlag_2 (FwText_1 p2 p3) (FwText_2 p2 p3))), .b (FwText_2 (FwFlag_1 (FwText_1 p2 p3) (FwText_2 p2 p3)) (FwFlag_2 (FwText_1 p2 p3) (FwText_2 p2 p3)))]), some (.ints .u8 p0.wait.length p0.wait), some (.ints .u8 p0.got.length p0.got), some (.vec .row p0.out)]⟩) (by simp only [chC, Fcon, Fcon_1, Fcon_2, Fcon_3, h1, h4, h9, h12, h15, h16, h17, h18, h30, h31, h33, sel_true, sel_false]) ?_
                          exact endP.ret [(0, 0), (4, 4), (1, 5), (2, 6), (3, 7)] TT (by kernel_rfl) (by kernel_rfl) tt
                ·
                  refine Tri.seq_region [(132, qb true), (137, qb false)] none [11, 10, 0, 2] [4, 0, 1, 2, 3] (TT ∧ (TT ∧ ((True ∧ ((strEq (FwText p2 p3) (⟨#[115, 117, 98, 115, 121, 115, 116, 101, 109]⟩ : ByteArray)) = true)) ∧ (TT ∧ ((TT ∧ True) ∧ (TT ∧ (TT ∧ ((True ∧ ((strEq (FwText (FwFlag_1 (FwText_1 p2 p3) (FwText_2 p2 p3)) (FwFlag_2 (FwText_1 p2 p3) (FwText_2 p2 p3))) (⟨#[110, 101, 116, 99, 111, 110, 102]⟩ : ByteArray)) = false)) ∧ (TT ∧ (TT ∧ (TT ∧ (TT ∧ (TT ∧ (TT ∧ (TT ∧ (TT ∧ (TT ∧ (TT ∧ (TT ∧ (TT ∧ (TT ∧ (TT ∧ (TT ∧ (TT ∧ (TT ∧ True)))))))))))))))))))))))))
                      ([(11, .sc (.b false)), (10, .sc (.b (FwFlag (FwText_1 p2 p3) (FwText_2 p2 p3)))), (0, .sc (.p 0 0)), (2, .sc (.p 4 0))], [(4, .cells [.ro .u8 (FwText_1 (FwFlag_1 (FwText_1 p2 p3) (FwText_2 p2 p3)) (FwFlag_2 (FwText_1 p2 p3) (FwText_2 p2 p3))), .b (FwText_2 (FwFlag_1 (FwText_1 p2 p3) (FwText_2 p2 p3)) (FwFlag_2 (FwText_1 p2 p3) (FwText_2 p2 p3)))]), (0, chC 1 2 3 p0), (1, .ints .u8 p0.wait.length p0.wait), (2, .ints .u8 p0.got.length p0.got), (3, .vec .row p0.out)])
                      704 (by kernel_rfl) rfl (by kernel_rfl) (⟨tt, ⟨tt, ⟨⟨trivial, (h16)⟩, ⟨tt, ⟨⟨tt, trivial⟩, ⟨tt, ⟨tt, ⟨⟨trivial, (h17)⟩, ⟨tt, ⟨tt, ⟨tt, ⟨tt, ⟨tt, ⟨tt, ⟨tt, ⟨tt, ⟨tt, ⟨tt, ⟨tt, ⟨tt, ⟨tt, ⟨tt, ⟨tt, ⟨tt, ⟨tt, trivial⟩⟩⟩⟩⟩⟩⟩⟩⟩⟩⟩⟩⟩⟩⟩⟩⟩⟩⟩⟩⟩⟩⟩⟩⟩) ?_
                  refine Tri.seq ?_
                  refine Tri.seq_region [] none [156, 11, 10, 0] [4, 0, 1, 2, 3] (TT ∧ ((TT ∧ True) ∧ (TT ∧ True)))
                      ([(156, .sc (.b (!(FwOk (FwText_1 (FwFlag_1 (FwText_1 p2 p3) (FwText_2 p2 p3)) (FwFlag_2 (FwText_1 p2 p3) (FwText_2 p2 p3))) (FwText_2 (FwFlag_1 (FwText_1 p2 p3) (FwText_2 p2 p3)) (FwFlag_2 (FwText_1 p2 p3) (FwText_2 p2 p3))))))), (11, .sc (.b false)), (10, .sc (.b (FwFlag (FwText_1 p2 p3) (FwText_2 p2 p3)))), (0, .sc (.p 0 0))], [(4, .cells [.ro .u8 (FwText_1 (FwFlag_1 (FwText_1 p2 p3) (FwText_2 p2 p3)) (FwFlag_2 (FwText_1 p2 p3) (FwText_2 p2 p3))), .b (FwText_2 (FwFlag_1 (FwText_1 p2 p3) (FwText_2 p2 p3)) (FwFlag_2 (FwText_1 p2 p3) (FwText_2 p2 p3)))]), (0, chC 1 2 3 p0), (1, .ints .u8 p0.wait.length p0.wait), (2, .ints .u8 p0.got.length p0.got), (3, .vec .row p0.out)])
                      752 (by kernel_rfl) rfl (by kernel_rfl) (⟨tt, ⟨⟨tt, trivial⟩, ⟨tt, trivial⟩⟩⟩) ?_
                  refine Tri.cond (x := (!(FwOk (FwText_1 (FwFlag_1 (FwText_1 p2 p3) (FwText_2 p2 p3)) (FwFlag_2 (FwText_1 p2 p3) (FwText_2 p2 p3))) (FwText_2 (FwFlag_1 (FwText_1 p2 p3) (FwText_2 p2 p3)) (FwFlag_2 (FwText_1 p2 p3) (FwText_2 p2 p3)))))) (by kernel_rfl) (fun h34 => ?_) (fun h34 => ?_)
                  ·
                    refine Tri.seq_region [] none [6] [4, 0, 1, 2, 3] (TT ∧ True)
                        ([(6, .sc (.i .i64 3))], [(4, .cells [.ro .u8 (FwText_1 (FwFlag_1 (FwText_1 p2 p3) (FwText_2 p2 p3)) (FwFlag_2 (FwText_1 p2 p3) (FwText_2 p2 p3))), .b (FwText_2 (FwFlag_1 (FwText_1 p2 p3) (FwText_2 p2 p3)) (FwFlag_2 (FwText_1 p2 p3) (FwText_2 p2 p3)))]), (0, chC 1 2 3 p0), (1, .ints .u8 p0.wait.length p0.wait), (2, .ints .u8 p0.got.length p0.got), (3, .vec .row p0.out)])
                        768 (by kernel_rfl) rfl (by kernel_rfl) (⟨tt, trivial⟩) ?_
                    refine Tri.ret ?_
                    repeat (first | refine thenP_ret ?_ | refine blkP_ret ?_ | refine countP_ret ?_ | refine joinP_ret ?_ | refine iterP_ret ?_)
                    refine subP_done ?_
                    refine endP.conv (r' := ⟨.sc (.i .i64 3), [some (chC 5 6 7 p0), none, none, none, some (.cells [.ro .u8 (FwText_1 (FwFlag_1 (FwText_1 p2 p3) (FwText_2 p2 p3)) (FwFlag_2 (FwText_1 p2 p3) (FwText_2 p2 p3))), .b (FwText_2 (FwFlag_1 (FwText_1 p2 p3) (FwText_2 p2 p3)) (FwFlag_2 (FwText_1 p2 p3) (FwText_2 p2 p3)))]), some (.ints .u8 p0.wait.length p0.wait), some (.ints .u8 p0.got.length p0.got), some (.vec .row p0.out)]⟩) (by simp only [chC, Fcon, Fcon_1, Fcon_2, Fcon_3, h1, h4, h9, h12, h15, h16, h17, h34, sel_true, sel_false]) ?_
                    exact endP.ret [(0, 0), (4, 4), (1, 5), (2, 6), (3, 7)] TT (by kernel_rfl) (by kernel_rfl) tt
                  ·
                    refine Tri.skip ?_
                    change Tri _ _ _ _ _ _
                    refine Tri.split p0.ready (fun h35 => ?_) (fun h35 => ?_)
                    ·
                      refine Tri.seq_region [(162, qb true)] none [11, 10, 0] [0, 4, 1, 2, 3] (TT ∧ (TT ∧ (TT ∧ (TT ∧ (((8 < 14) ∧ True) ∧ ((True ∧ (p0.ready = true)) ∧ (TT ∧ (TT ∧ (TT ∧ (TT ∧ ((((8 < 14) ∧ (1 = 1)) ∧ True) ∧ True)))))))))))
                          ([(11, .sc (.b false)), (10, .sc (.b (FwFlag (FwText_1 p2 p3) (FwText_2 p2 p3)))), (0, .sc (.p 0 0))], [(0, .cells [.b p0.server, .i .i64 p0.state, .i .u32 p0.peer, .i .i64 p0.window, .i .i64 p0.most, .i .i64 p0.room, .sl 1 0 p0.wait.length 1 none, .sl 2 0 p0.got.length 1 none, .b true, .b p0.e0, .b p0.e1, .b p0.c0, .b p0.c1, .sl 3 0 p0.out.length 1 none]), (4, .cells [.ro .u8 (FwText_1 (FwFlag_1 (FwText_1 p2 p3) (FwText_2 p2 p3)) (FwFlag_2 (FwText_1 p2 p3) (FwText_2 p2 p3))), .b (FwText_2 (FwFlag_1 (FwText_1 p2 p3) (FwText_2 p2 p3)) (FwFlag_2 (FwText_1 p2 p3) (FwText_2 p2 p3)))]), (1, .ints .u8 p0.wait.length p0.wait), (2, .ints .u8 p0.got.length p0.got), (3, .vec .row p0.out)])
                          928 (by kernel_rfl) rfl (by kernel_rfl) (⟨tt, ⟨tt, ⟨tt, ⟨tt, ⟨⟨(by first | omega | (dsimp only; omega) | decide | (simp only [Fconv0, Fconv1, Fconv2, Fconv3, Fconv4, Fconv5, len_say]; omega)), trivial⟩, ⟨⟨trivial, (h35)⟩, ⟨tt, ⟨tt, ⟨tt, ⟨tt, ⟨⟨⟨(by first | omega | (dsimp only; omega) | decide | (simp only [Fconv0, Fconv1, Fconv2, Fconv3, Fconv4, Fconv5, len_say]; omega)), (rfl)⟩, trivial⟩, trivial⟩⟩⟩⟩⟩⟩⟩⟩⟩⟩⟩) ?_
                      refine Tri.seq_region [] none [167, 11, 0] [0, 4, 1, 2, 3] (TT ∧ True)
                          ([(167, .sc (.b (FwFlag (FwText_1 p2 p3) (FwText_2 p2 p3)))), (11, .sc (.b false)), (0, .sc (.p 0 0))], [(0, .cells [.b p0.server, .i .i64 p0.state, .i .u32 p0.peer, .i .i64 p0.window, .i .i64 p0.most, .i .i64 p0.room, .sl 1 0 p0.wait.length 1 none, .sl 2 0 p0.got.length 1 none, .b true, .b p0.e0, .b p0.e1, .b p0.c0, .b p0.c1, .sl 3 0 p0.out.length 1 none]), (4, .cells [.ro .u8 (FwText_1 (FwFlag_1 (FwText_1 p2 p3) (FwText_2 p2 p3)) (FwFlag_2 (FwText_1 p2 p3) (FwText_2 p2 p3))), .b (FwText_2 (FwFlag_1 (FwText_1 p2 p3) (FwText_2 p2 p3)) (FwFlag_2 (FwText_1 p2 p3) (FwText_2 p2 p3)))]), (1, .ints .u8 p0.wait.length p0.wait), (2, .ints .u8 p0.got.length p0.got), (3, .vec .row p0.out)])
                          944 (by kernel_rfl) rfl (by kernel_rfl) (⟨tt, trivial⟩) ?_
                      refine Tri.cond (x := (FwFlag (FwText_1 p2 p3) (FwText_2 p2 p3))) (by kernel_rfl) (fun h36 => ?_) (fun h36 => ?_)
                      ·
                        refine Tri.seq_region [] none [12, 11, 0] [0, 4, 1, 2, 3] (TT ∧ True)
                            ([(12, .sc (.i .u8 100)), (11, .sc (.b false)), (0, .sc (.p 0 0))], [(0, .cells [.b p0.server, .i .i64 p0.state, .i .u32 p0.peer, .i .i64 p0.window, .i .i64 p0.most, .i .i64 p0.room, .sl 1 0 p0.wait.length 1 none, .sl 2 0 p0.got.length 1 none, .b true, .b p0.e0, .b p0.e1, .b p0.c0, .b p0.c1, .sl 3 0 p0.out.length 1 none]), (4, .cells [.ro .u8 (FwText_1 (FwFlag_1 (FwText_1 p2 p3) (FwText_2 p2 p3)) (FwFlag_2 (FwText_1 p2 p3) (FwText_2 p2 p3))), .b (FwText_2 (FwFlag_1 (FwText_1 p2 p3) (FwText_2 p2 p3)) (FwFlag_2 (FwText_1 p2 p3) (FwText_2 p2 p3)))]), (1, .ints .u8 p0.wait.length p0.wait), (2, .ints .u8 p0.got.length p0.got), (3, .vec .row p0.out)])
                            960 (by kernel_rfl) rfl (by kernel_rfl) (⟨tt, trivial⟩) ?_
                        refine Tri.seq ?_
                        refine Tri.seq_region [] none [168, 12, 0] [0, 4, 1, 2, 3] (TT ∧ True)
                            ([(168, .sc (.b false)), (12, .sc (.i .u8 100)), (0, .sc (.p 0 0))], [(0, .cells [.b p0.server, .i .i64 p0.state, .i .u32 p0.peer, .i .i64 p0.window, .i .i64 p0.most, .i .i64 p0.room, .sl 1 0 p0.wait.length 1 none, .sl 2 0 p0.got.length 1 none, .b true, .b p0.e0, .b p0.e1, .b p0.c0, .b p0.c1, .sl 3 0 p0.out.length 1 none]), (4, .cells [.ro .u8 (FwText_1 (FwFlag_1 (FwText_1 p2 p3) (FwText_2 p2 p3)) (FwFlag_2 (FwText_1 p2 p3) (FwText_2 p2 p3))), .b (FwText_2 (FwFlag_1 (FwText_1 p2 p3) (FwText_2 p2 p3)) (FwFlag_2 (FwText_1 p2 p3) (FwText_2 p2 p3)))]), (1, .ints .u8 p0.wait.length p0.wait), (2, .ints .u8 p0.got.length p0.got), (3, .vec .row p0.out)])
                            976 (by kernel_rfl) rfl (by kernel_rfl) (⟨tt, trivial⟩) ?_
                        refine Tri.cond_false (by kernel_rfl) ?_
                        refine Tri.skip ?_
                        change Tri _ _ _ _ _ _
                        refine Tri.region' [] none [] [1042, 1041, 1040, 0, 4] (TT ∧ (TT ∧ (TT ∧ ((((True ∧ ((chLens (({p0 with ready := true} : Ch).wait.length) (({p0 with ready := true} : Ch).got.length) (({p0 with ready := true} : Ch).out.length) (({p0 with ready := true} : Ch).wait.length) (({p0 with ready := true} : Ch).got.length) ({p0 with ready := true} : Ch)) ∧ True)) ∧ (([some (.cells [.b p0.server, .i .i64 p0.state, .i .u32 p0.peer, .i .i64 p0.window, .i .i64 p0.most, .i .i64 p0.room, .sl 1 0 p0.wait.length 1 none, .sl 2 0 p0.got.length 1 none, .b true, .b p0.e0, .b p0.e1, .b p0.c0, .b p0.c1, .sl 3 0 p0.out.length 1 none]), some (.ints .u8 p0.wait.length p0.wait), some (.ints .u8 p0.got.length p0.got), some (.vec .row p0.out)] : List (Option Blk)) = [some (.cells [.b p0.server, .i .i64 p0.state, .i .u32 p0.peer, .i .i64 p0.window, .i .i64 p0.most, .i .i64 p0.room, .sl 1 0 p0.wait.length 1 none, .sl 2 0 p0.got.length 1 none, .b true, .b p0.e0, .b p0.e1, .b p0.c0, .b p0.c1, .sl 3 0 p0.out.length 1 none]), some (.ints .u8 p0.wait.length p0.wait), some (.ints .u8 p0.got.length p0.got), some (.vec .row p0.out)])) ∧ True) ∧ (((TT ∧ ((chLens (({p0 with ready := true} : Ch).wait.length) (({p0 with ready := true} : Ch).got.length) (({p0 with ready := true} : Ch).out.length) (({p0 with ready := true} : Ch).wait.length) (({p0 with ready := true} : Ch).got.length) ({p0 with ready := true} : Ch)) ∧ (({p0 with ready := true} : Ch).out.length ≤ 1000000000))) ∧ True) ∧ True)))))
                            ([], [(1042, .vec .row ((Fconv3 p0).out)), (1041, .ints .u8 ((Fconv3 p0).got.length) ((Fconv3 p0).got)), (1040, .ints .u8 ((Fconv3 p0).wait.length) ((Fconv3 p0).wait)), (0, chC 1040 1041 1042 (Fconv3 p0)), (4, .cells [.ro .u8 (FwText_1 (FwFlag_1 (FwText_1 p2 p3) (FwText_2 p2 p3)) (FwFlag_2 (FwText_1 p2 p3) (FwText_2 p2 p3))), .b (FwText_2 (FwFlag_1 (FwText_1 p2 p3) (FwText_2 p2 p3)) (FwFlag_2 (FwText_1 p2 p3) (FwText_2 p2 p3)))])])
                            1056 (by kernel_rfl) rfl (by kernel_rfl) (⟨tt, ⟨tt, ⟨tt, ⟨⟨⟨⟨trivial, ⟨(chLens_self _), trivial⟩⟩, (rfl)⟩, trivial⟩, ⟨⟨⟨tt, ⟨(chLens_self _), (by first | omega | (dsimp only; omega) | decide | (simp only [Fconv0, Fconv1, Fconv2, Fconv3, Fconv4, Fconv5, len_say]; omega))⟩⟩, trivial⟩, trivial⟩⟩⟩⟩⟩) ?_
                        change Tri _ _ _ _ _ _
                        refine Tri.seq_region [] none [6] [1042, 1041, 1040, 0, 4] (TT ∧ True)
                            ([(6, .sc (.i .i64 0))], [(1042, .vec .row ((Fconv3 p0).out)), (1041, .ints .u8 ((Fconv3 p0).got.length) ((Fconv3 p0).got)), (1040, .ints .u8 ((Fconv3 p0).wait.length) ((Fconv3 p0).wait)), (0, chC 1040 1041 1042 (Fconv3 p0)), (4, .cells [.ro .u8 (FwText_1 (FwFlag_1 (FwText_1 p2 p3) (FwText_2 p2 p3)) (FwFlag_2 (FwText_1 p2 p3) (FwText_2 p2 p3))), .b (FwText_2 (FwFlag_1 (FwText_1 p2 p3) (FwText_2 p2 p3)) (FwFlag_2 (FwText_1 p2 p3) (FwText_2 p2 p3)))])])
                            1072 (by kernel_rfl) rfl (by kernel_rfl) (⟨tt, trivial⟩) ?_
                        refine Tri.ret ?_
                        repeat (first | refine thenP_ret ?_ | refine blkP_ret ?_ | refine countP_ret ?_ | refine joinP_ret ?_ | refine iterP_ret ?_)
                        refine subP_done ?_
                        refine endP.conv (r' := ⟨.sc (.i .i64 0), [some (chC 5 6 7 (Fconv3 p0)), none, none, none, some (.cells [.ro .u8 (FwText_1 (FwFlag_1 (FwText_1 p2 p3) (FwText_2 p2 p3)) (FwFlag_2 (FwText_1 p2 p3) (FwText_2 p2 p3))), .b (FwText_2 (FwFlag_1 (FwText_1 p2 p3) (FwText_2 p2 p3)) (FwFlag_2 (FwText_1 p2 p3) (FwText_2 p2 p3)))]), some (.ints .u8 ((Fconv3 p0).wait.length) ((Fconv3 p0).wait)), some (.ints .u8 ((Fconv3 p0).got.length) ((Fconv3 p0).got)), some (.vec .row ((Fconv3 p0).out))]⟩) (by simp only [chC, Fcon, Fcon_1, Fcon_2, Fcon_3, h1, h4, h9, h12, h15, h16, h17, h34, h35, h36, sel_true, sel_false]) ?_
                        exact endP.ret [(0, 0), (4, 4), (1040, 5), (1041, 6), (1042, 7)] TT (by kernel_rfl) (by kernel_rfl) tt
                      ·
                        refine Tri.skip ?_
                        change Tri _ _ _ _ _ _
                        refine Tri.seq_region [] none [6] [0, 4, 1, 2, 3] (TT ∧ True)
                            ([(6, .sc (.i .i64 0))], [(0, .cells [.b p0.server, .i .i64 p0.state, .i .u32 p0.peer, .i .i64 p0.window, .i .i64 p0.most, .i .i64 p0.room, .sl 1 0 p0.wait.length 1 none, .sl 2 0 p0.got.length 1 none, .b true, .b p0.e0, .b p0.e1, .b p0.c0, .b p0.c1, .sl 3 0 p0.out.length 1 none]), (4, .cells [.ro .u8 (FwText_1 (FwFlag_1 (FwText_1 p2 p3) (FwText_2 p2 p3)) (FwFlag_2 (FwText_1 p2 p3) (FwText_2 p2 p3))), .b (FwText_2 (FwFlag_1 (FwText_1 p2 p3) (FwText_2 p2 p3)) (FwFlag_2 (FwText_1 p2 p3) (FwText_2 p2 p3)))]), (1, .ints .u8 p0.wait.length p0.wait), (2, .ints .u8 p0.got.length p0.got), (3, .vec .row p0.out)])
                            960 (by kernel_rfl) rfl (by kernel_rfl) (⟨tt, trivial⟩) ?_
                        refine Tri.ret ?_
                        repeat (first | refine thenP_ret ?_ | refine blkP_ret ?_ | refine countP_ret ?_ | refine joinP_ret ?_ | refine iterP_ret ?_)
                        refine subP_done ?_
                        refine endP.conv (r' := ⟨.sc (.i .i64 0), [some (.cells [.b p0.server, .i .i64 p0.state, .i .u32 p0.peer, .i .i64 p0.window, .i .i64 p0.most, .i .i64 p0.room, .sl 5 0 p0.wait.length 1 none, .sl 6 0 p0.got.length 1 none, .b true, .b p0.e0, .b p0.e1, .b p0.c0, .b p0.c1, .sl 7 0 p0.out.length 1 none]), none, none, none, some (.cells [.ro .u8 (FwText_1 (FwFlag_1 (FwText_1 p2 p3) (FwText_2 p2 p3)) (FwFlag_2 (FwText_1 p2 p3) (FwText_2 p2 p3))), .b (FwText_2 (FwFlag_1 (FwText_1 p2 p3) (FwText_2 p2 p3)) (FwFlag_2 (FwText_1 p2 p3) (FwText_2 p2 p3)))]), some (.ints .u8 p0.wait.length p0.wait), some (.ints .u8 p0.got.length p0.got), some (.vec .row p0.out)]⟩) (by simp only [chC, Fcon, Fcon_1, Fcon_2, Fcon_3, h1, h4, h9, h12, h15, h16, h17, h34, h35, h36, sel_true, sel_false]) ?_
                        exact endP.ret [(0, 0), (4, 4), (1, 5), (2, 6), (3, 7)] TT (by kernel_rfl) (by kernel_rfl) tt
                    ·
                      refine Tri.seq_region [(162, qb false)] none [11, 10, 0] [0, 4, 1, 2, 3] (TT ∧ (TT ∧ (TT ∧ (TT ∧ (((8 < 14) ∧ True) ∧ ((True ∧ (p0.ready = false)) ∧ (TT ∧ (TT ∧ (TT ∧ (TT ∧ ((((8 < 14) ∧ (1 = 1)) ∧ True) ∧ True)))))))))))
                          ([(11, .sc (.b false)), (10, .sc (.b (FwFlag (FwText_1 p2 p3) (FwText_2 p2 p3)))), (0, .sc (.p 0 0))], [(0, .cells [.b p0.server, .i .i64 p0.state, .i .u32 p0.peer, .i .i64 p0.window, .i .i64 p0.most, .i .i64 p0.room, .sl 1 0 p0.wait.length 1 none, .sl 2 0 p0.got.length 1 none, .b false, .b p0.e0, .b p0.e1, .b p0.c0, .b p0.c1, .sl 3 0 p0.out.length 1 none]), (4, .cells [.ro .u8 (FwText_1 (FwFlag_1 (FwText_1 p2 p3) (FwText_2 p2 p3)) (FwFlag_2 (FwText_1 p2 p3) (FwText_2 p2 p3))), .b (FwText_2 (FwFlag_1 (FwText_1 p2 p3) (FwText_2 p2 p3)) (FwFlag_2 (FwText_1 p2 p3) (FwText_2 p2 p3)))]), (1, .ints .u8 p0.wait.length p0.wait), (2, .ints .u8 p0.got.length p0.got), (3, .vec .row p0.out)])
                          928 (by kernel_rfl) rfl (by kernel_rfl) (⟨tt, ⟨tt, ⟨tt, ⟨tt, ⟨⟨(by first | omega | (dsimp only; omega) | decide | (simp only [Fconv0, Fconv1, Fconv2, Fconv3, Fconv4, Fconv5, len_say]; omega)), trivial⟩, ⟨⟨trivial, (h35)⟩, ⟨tt, ⟨tt, ⟨tt, ⟨tt, ⟨⟨⟨(by first | omega | (dsimp only; omega) | decide | (simp only [Fconv0, Fconv1, Fconv2, Fconv3, Fconv4, Fconv5, len_say]; omega)), (rfl)⟩, trivial⟩, trivial⟩⟩⟩⟩⟩⟩⟩⟩⟩⟩⟩) ?_
                      refine Tri.seq_region [] none [167, 11, 0] [0, 4, 1, 2, 3] (TT ∧ True)
                          ([(167, .sc (.b (FwFlag (FwText_1 p2 p3) (FwText_2 p2 p3)))), (11, .sc (.b false)), (0, .sc (.p 0 0))], [(0, .cells [.b p0.server, .i .i64 p0.state, .i .u32 p0.peer, .i .i64 p0.window, .i .i64 p0.most, .i .i64 p0.room, .sl 1 0 p0.wait.length 1 none, .sl 2 0 p0.got.length 1 none, .b false, .b p0.e0, .b p0.e1, .b p0.c0, .b p0.c1, .sl 3 0 p0.out.length 1 none]), (4, .cells [.ro .u8 (FwText_1 (FwFlag_1 (FwText_1 p2 p3) (FwText_2 p2 p3)) (FwFlag_2 (FwText_1 p2 p3) (FwText_2 p2 p3))), .b (FwText_2 (FwFlag_1 (FwText_1 p2 p3) (FwText_2 p2 p3)) (FwFlag_2 (FwText_1 p2 p3) (FwText_2 p2 p3)))]), (1, .ints .u8 p0.wait.length p0.wait), (2, .ints .u8 p0.got.length p0.got), (3, .vec .row p0.out)])
                          944 (by kernel_rfl) rfl (by kernel_rfl) (⟨tt, trivial⟩) ?_
                      refine Tri.cond (x := (FwFlag (FwText_1 p2 p3) (FwText_2 p2 p3))) (by kernel_rfl) (fun h37 => ?_) (fun h37 => ?_)
                      ·
                        refine Tri.seq_region [] none [12, 11, 0] [0, 4, 1, 2, 3] (TT ∧ True)
                            ([(12, .sc (.i .u8 100)), (11, .sc (.b false)), (0, .sc (.p 0 0))], [(0, .cells [.b p0.server, .i .i64 p0.state, .i .u32 p0.peer, .i .i64 p0.window, .i .i64 p0.most, .i .i64 p0.room, .sl 1 0 p0.wait.length 1 none, .sl 2 0 p0.got.length 1 none, .b false, .b p0.e0, .b p0.e1, .b p0.c0, .b p0.c1, .sl 3 0 p0.out.length 1 none]), (4, .cells [.ro .u8 (FwText_1 (FwFlag_1 (FwText_1 p2 p3) (FwText_2 p2 p3)) (FwFlag_2 (FwText_1 p2 p3) (FwText_2 p2 p3))), .b (FwText_2 (FwFlag_1 (FwText_1 p2 p3) (FwText_2 p2 p3)) (FwFlag_2 (FwText_1 p2 p3) (FwText_2 p2 p3)))]), (1, .ints .u8 p0.wait.length p0.wait), (2, .ints .u8 p0.got.length p0.got), (3, .vec .row p0.out)])
                            960 (by kernel_rfl) rfl (by kernel_rfl) (⟨tt, trivial⟩) ?_
                        refine Tri.seq ?_
                        refine Tri.seq_region [] none [168, 12, 0] [0, 4, 1, 2, 3] (TT ∧ True)
                            ([(168, .sc (.b false)), (12, .sc (.i .u8 100)), (0, .sc (.p 0 0))], [(0, .cells [.b p0.server, .i .i64 p0.state, .i .u32 p0.peer, .i .i64 p0.window, .i .i64 p0.most, .i .i64 p0.room, .sl 1 0 p0.wait.length 1 none, .sl 2 0 p0.got.length 1 none, .b false, .b p0.e0, .b p0.e1, .b p0.c0, .b p0.c1, .sl 3 0 p0.out.length 1 none]), (4, .cells [.ro .u8 (FwText_1 (FwFlag_1 (FwText_1 p2 p3) (FwText_2 p2 p3)) (FwFlag_2 (FwText_1 p2 p3) (FwText_2 p2 p3))), .b (FwText_2 (FwFlag_1 (FwText_1 p2 p3) (FwText_2 p2 p3)) (FwFlag_2 (FwText_1 p2 p3) (FwText_2 p2 p3)))]), (1, .ints .u8 p0.wait.length p0.wait), (2, .ints .u8 p0.got.length p0.got), (3, .vec .row p0.out)])
                            976 (by kernel_rfl) rfl (by kernel_rfl) (⟨tt, trivial⟩) ?_
                        refine Tri.cond_false (by kernel_rfl) ?_
                        refine Tri.skip ?_
                        change Tri _ _ _ _ _ _
                        refine Tri.region' [] none [] [1042, 1041, 1040, 0, 4] (TT ∧ (TT ∧ (TT ∧ ((((True ∧ ((chLens (({p0 with ready := false} : Ch).wait.length) (({p0 with ready := false} : Ch).got.length) (({p0 with ready := false} : Ch).out.length) (({p0 with ready := false} : Ch).wait.length) (({p0 with ready := false} : Ch).got.length) ({p0 with ready := false} : Ch)) ∧ True)) ∧ (([some (.cells [.b p0.server, .i .i64 p0.state, .i .u32 p0.peer, .i .i64 p0.window, .i .i64 p0.most, .i .i64 p0.room, .sl 1 0 p0.wait.length 1 none, .sl 2 0 p0.got.length 1 none, .b false, .b p0.e0, .b p0.e1, .b p0.c0, .b p0.c1, .sl 3 0 p0.out.length 1 none]), some (.ints .u8 p0.wait.length p0.wait), some (.ints .u8 p0.got.length p0.got), some (.vec .row p0.out)] : List (Option Blk)) = [some (.cells [.b p0.server, .i .i64 p0.state, .i .u32 p0.peer, .i .i64 p0.window, .i .i64 p0.most, .i .i64 p0.room, .sl 1 0 p0.wait.length 1 none, .sl 2 0 p0.got.length 1 none, .b false, .b p0.e0, .b p0.e1, .b p0.c0, .b p0.c1, .sl 3 0 p0.out.length 1 none]), some (.ints .u8 p0.wait.length p0.wait), some (.ints .u8 p0.got.length p0.got), some (.vec .row p0.out)])) ∧ True) ∧ (((TT ∧ ((chLens (({p0 with ready := false} : Ch).wait.length) (({p0 with ready := false} : Ch).got.length) (({p0 with ready := false} : Ch).out.length) (({p0 with ready := false} : Ch).wait.length) (({p0 with ready := false} : Ch).got.length) ({p0 with ready := false} : Ch)) ∧ (({p0 with ready := false} : Ch).out.length ≤ 1000000000))) ∧ True) ∧ True)))))
                            ([], [(1042, .vec .row ((Fconv4 p0).out)), (1041, .ints .u8 ((Fconv4 p0).got.length) ((Fconv4 p0).got)), (1040, .ints .u8 ((Fconv4 p0).wait.length) ((Fconv4 p0).wait)), (0, chC 1040 1041 1042 (Fconv4 p0)), (4, .cells [.ro .u8 (FwText_1 (FwFlag_1 (FwText_1 p2 p3) (FwText_2 p2 p3)) (FwFlag_2 (FwText_1 p2 p3) (FwText_2 p2 p3))), .b (FwText_2 (FwFlag_1 (FwText_1 p2 p3) (FwText_2 p2 p3)) (FwFlag_2 (FwText_1 p2 p3) (FwText_2 p2 p3)))])])
                            1056 (by kernel_rfl) rfl (by kernel_rfl) (⟨tt, ⟨tt, ⟨tt, ⟨⟨⟨⟨trivial, ⟨(chLens_self _), trivial⟩⟩, (rfl)⟩, trivial⟩, ⟨⟨⟨tt, ⟨(chLens_self _), (by first | omega | (dsimp only; omega) | decide | (simp only [Fconv0, Fconv1, Fconv2, Fconv3, Fconv4, Fconv5, len_say]; omega))⟩⟩, trivial⟩, trivial⟩⟩⟩⟩⟩) ?_
                        change Tri _ _ _ _ _ _
                        refine Tri.seq_region [] none [6] [1042, 1041, 1040, 0, 4] (TT ∧ True)
                            ([(6, .sc (.i .i64 0))], [(1042, .vec .row ((Fconv4 p0).out)), (1041, .ints .u8 ((Fconv4 p0).got.length) ((Fconv4 p0).got)), (1040, .ints .u8 ((Fconv4 p0).wait.length) ((Fconv4 p0).wait)), (0, chC 1040 1041 1042 (Fconv4 p0)), (4, .cells [.ro .u8 (FwText_1 (FwFlag_1 (FwText_1 p2 p3) (FwText_2 p2 p3)) (FwFlag_2 (FwText_1 p2 p3) (FwText_2 p2 p3))), .b (FwText_2 (FwFlag_1 (FwText_1 p2 p3) (FwText_2 p2 p3)) (FwFlag_2 (FwText_1 p2 p3) (FwText_2 p2 p3)))])])
                            1072 (by kernel_rfl) rfl (by kernel_rfl) (⟨tt, trivial⟩) ?_
                        refine Tri.ret ?_
                        repeat (first | refine thenP_ret ?_ | refine blkP_ret ?_ | refine countP_ret ?_ | refine joinP_ret ?_ | refine iterP_ret ?_)
                        refine subP_done ?_
                        refine endP.conv (r' := ⟨.sc (.i .i64 0), [some (chC 5 6 7 (Fconv4 p0)), none, none, none, some (.cells [.ro .u8 (FwText_1 (FwFlag_1 (FwText_1 p2 p3) (FwText_2 p2 p3)) (FwFlag_2 (FwText_1 p2 p3) (FwText_2 p2 p3))), .b (FwText_2 (FwFlag_1 (FwText_1 p2 p3) (FwText_2 p2 p3)) (FwFlag_2 (FwText_1 p2 p3) (FwText_2 p2 p3)))]), some (.ints .u8 ((Fconv4 p0).wait.length) ((Fconv4 p0).wait)), some (.ints .u8 ((Fconv4 p0).got.length) ((Fconv4 p0).got)), some (.vec .row ((Fconv4 p0).out))]⟩) (by simp only [chC, Fcon, Fcon_1, Fcon_2, Fcon_3, h1, h4, h9, h12, h15, h16, h17, h34, h35, h37, sel_true, sel_false]) ?_
                        exact endP.ret [(0, 0), (4, 4), (1040, 5), (1041, 6), (1042, 7)] TT (by kernel_rfl) (by kernel_rfl) tt
                      ·
                        refine Tri.skip ?_
                        change Tri _ _ _ _ _ _
                        refine Tri.seq_region [] none [6] [0, 4, 1, 2, 3] (TT ∧ True)
                            ([(6, .sc (.i .i64 0))], [(0, .cells [.b p0.server, .i .i64 p0.state, .i .u32 p0.peer, .i .i64 p0.window, .i .i64 p0.most, .i .i64 p0.room, .sl 1 0 p0.wait.length 1 none, .sl 2 0 p0.got.length 1 none, .b false, .b p0.e0, .b p0.e1, .b p0.c0, .b p0.c1, .sl 3 0 p0.out.length 1 none]), (4, .cells [.ro .u8 (FwText_1 (FwFlag_1 (FwText_1 p2 p3) (FwText_2 p2 p3)) (FwFlag_2 (FwText_1 p2 p3) (FwText_2 p2 p3))), .b (FwText_2 (FwFlag_1 (FwText_1 p2 p3) (FwText_2 p2 p3)) (FwFlag_2 (FwText_1 p2 p3) (FwText_2 p2 p3)))]), (1, .ints .u8 p0.wait.length p0.wait), (2, .ints .u8 p0.got.length p0.got), (3, .vec .row p0.out)])
                            960 (by kernel_rfl) rfl (by kernel_rfl) (⟨tt, trivial⟩) ?_
                        refine Tri.ret ?_
                        repeat (first | refine thenP_ret ?_ | refine blkP_ret ?_ | refine countP_ret ?_ | refine joinP_ret ?_ | refine iterP_ret ?_)
                        refine subP_done ?_
                        refine endP.conv (r' := ⟨.sc (.i .i64 0), [some (.cells [.b p0.server, .i .i64 p0.state, .i .u32 p0.peer, .i .i64 p0.window, .i .i64 p0.most, .i .i64 p0.room, .sl 5 0 p0.wait.length 1 none, .sl 6 0 p0.got.length 1 none, .b false, .b p0.e0, .b p0.e1, .b p0.c0, .b p0.c1, .sl 7 0 p0.out.length 1 none]), none, none, none, some (.cells [.ro .u8 (FwText_1 (FwFlag_1 (FwText_1 p2 p3) (FwText_2 p2 p3)) (FwFlag_2 (FwText_1 p2 p3) (FwText_2 p2 p3))), .b (FwText_2 (FwFlag_1 (FwText_1 p2 p3) (FwText_2 p2 p3)) (FwFlag_2 (FwText_1 p2 p3) (FwText_2 p2 p3)))]), some (.ints .u8 p0.wait.length p0.wait), some (.ints .u8 p0.got.length p0.got), some (.vec .row p0.out)]⟩) (by simp only [chC, Fcon, Fcon_1, Fcon_2, Fcon_3, h1, h4, h9, h12, h15, h16, h17, h34, h35, h37, sel_true, sel_false]) ?_
                        exact endP.ret [(0, 0), (4, 4), (1, 5), (2, 6), (3, 7)] TT (by kernel_rfl) (by kernel_rfl) tt
              ·
                refine Tri.seq_region [(132, qb false)] none [11, 10, 0, 2] [4, 0, 1, 2, 3] (TT ∧ (TT ∧ ((True ∧ ((strEq (FwText p2 p3) (⟨#[115, 117, 98, 115, 121, 115, 116, 101, 109]⟩ : ByteArray)) = false)) ∧ (TT ∧ (TT ∧ (TT ∧ (TT ∧ (TT ∧ (TT ∧ (TT ∧ (TT ∧ (TT ∧ (TT ∧ (TT ∧ (TT ∧ (TT ∧ (TT ∧ (TT ∧ (TT ∧ (TT ∧ (TT ∧ (TT ∧ (TT ∧ (TT ∧ (TT ∧ True)))))))))))))))))))))))))
                    ([(11, .sc (.b false)), (10, .sc (.b (FwFlag (FwText_1 p2 p3) (FwText_2 p2 p3)))), (0, .sc (.p 0 0)), (2, .sc (.p 4 0))], [(4, .cells [.ro .u8 (FwFlag_1 (FwText_1 p2 p3) (FwText_2 p2 p3)), .b (FwFlag_2 (FwText_1 p2 p3) (FwText_2 p2 p3))]), (0, chC 1 2 3 p0), (1, .ints .u8 p0.wait.length p0.wait), (2, .ints .u8 p0.got.length p0.got), (3, .vec .row p0.out)])
                    704 (by kernel_rfl) rfl (by kernel_rfl) (⟨tt, ⟨tt, ⟨⟨trivial, (h16)⟩, ⟨tt, ⟨tt, ⟨tt, ⟨tt, ⟨tt, ⟨tt, ⟨tt, ⟨tt, ⟨tt, ⟨tt, ⟨tt, ⟨tt, ⟨tt, ⟨tt, ⟨tt, ⟨tt, ⟨tt, ⟨tt, ⟨tt, ⟨tt, ⟨tt, ⟨tt, trivial⟩⟩⟩⟩⟩⟩⟩⟩⟩⟩⟩⟩⟩⟩⟩⟩⟩⟩⟩⟩⟩⟩⟩⟩⟩) ?_
                refine Tri.seq ?_
                refine Tri.seq_region [] none [156, 11, 10, 0] [4, 0, 1, 2, 3] (TT ∧ ((TT ∧ True) ∧ (TT ∧ True)))
                    ([(156, .sc (.b (!(FwOk (FwFlag_1 (FwText_1 p2 p3) (FwText_2 p2 p3)) (FwFlag_2 (FwText_1 p2 p3) (FwText_2 p2 p3)))))), (11, .sc (.b false)), (10, .sc (.b (FwFlag (FwText_1 p2 p3) (FwText_2 p2 p3)))), (0, .sc (.p 0 0))], [(4, .cells [.ro .u8 (FwFlag_1 (FwText_1 p2 p3) (FwText_2 p2 p3)), .b (FwFlag_2 (FwText_1 p2 p3) (FwText_2 p2 p3))]), (0, chC 1 2 3 p0), (1, .ints .u8 p0.wait.length p0.wait), (2, .ints .u8 p0.got.length p0.got), (3, .vec .row p0.out)])
                    752 (by kernel_rfl) rfl (by kernel_rfl) (⟨tt, ⟨⟨tt, trivial⟩, ⟨tt, trivial⟩⟩⟩) ?_
                refine Tri.cond (x := (!(FwOk (FwFlag_1 (FwText_1 p2 p3) (FwText_2 p2 p3)) (FwFlag_2 (FwText_1 p2 p3) (FwText_2 p2 p3))))) (by kernel_rfl) (fun h38 => ?_) (fun h38 => ?_)
                ·
                  refine Tri.seq_region [] none [6] [4, 0, 1, 2, 3] (TT ∧ True)
                      ([(6, .sc (.i .i64 3))], [(4, .cells [.ro .u8 (FwFlag_1 (FwText_1 p2 p3) (FwText_2 p2 p3)), .b (FwFlag_2 (FwText_1 p2 p3) (FwText_2 p2 p3))]), (0, chC 1 2 3 p0), (1, .ints .u8 p0.wait.length p0.wait), (2, .ints .u8 p0.got.length p0.got), (3, .vec .row p0.out)])
                      768 (by kernel_rfl) rfl (by kernel_rfl) (⟨tt, trivial⟩) ?_
                  refine Tri.ret ?_
                  repeat (first | refine thenP_ret ?_ | refine blkP_ret ?_ | refine countP_ret ?_ | refine joinP_ret ?_ | refine iterP_ret ?_)
                  refine subP_done ?_
                  refine endP.conv (r' := ⟨.sc (.i .i64 3), [some (chC 5 6 7 p0), none, none, none, some (.cells [.ro .u8 (FwFlag_1 (FwText_1 p2 p3) (FwText_2 p2 p3)), .b (FwFlag_2 (FwText_1 p2 p3) (FwText_2 p2 p3))]), some (.ints .u8 p0.wait.length p0.wait), some (.ints .u8 p0.got.length p0.got), some (.vec .row p0.out)]⟩) (by simp only [chC, Fcon, Fcon_1, Fcon_2, Fcon_3, h1, h4, h9, h12, h15, h16, h38, sel_true, sel_false]) ?_
                  exact endP.ret [(0, 0), (4, 4), (1, 5), (2, 6), (3, 7)] TT (by kernel_rfl) (by kernel_rfl) tt
                ·
                  refine Tri.skip ?_
                  change Tri _ _ _ _ _ _
                  refine Tri.split p0.ready (fun h39 => ?_) (fun h39 => ?_)
                  ·
                    refine Tri.seq_region [(162, qb true)] none [11, 10, 0] [0, 4, 1, 2, 3] (TT ∧ (TT ∧ (TT ∧ (TT ∧ (((8 < 14) ∧ True) ∧ ((True ∧ (p0.ready = true)) ∧ (TT ∧ (TT ∧ (TT ∧ (TT ∧ ((((8 < 14) ∧ (1 = 1)) ∧ True) ∧ True)))))))))))
                        ([(11, .sc (.b false)), (10, .sc (.b (FwFlag (FwText_1 p2 p3) (FwText_2 p2 p3)))), (0, .sc (.p 0 0))], [(0, .cells [.b p0.server, .i .i64 p0.state, .i .u32 p0.peer, .i .i64 p0.window, .i .i64 p0.most, .i .i64 p0.room, .sl 1 0 p0.wait.length 1 none, .sl 2 0 p0.got.length 1 none, .b true, .b p0.e0, .b p0.e1, .b p0.c0, .b p0.c1, .sl 3 0 p0.out.length 1 none]), (4, .cells [.ro .u8 (FwFlag_1 (FwText_1 p2 p3) (FwText_2 p2 p3)), .b (FwFlag_2 (FwText_1 p2 p3) (FwText_2 p2 p3))]), (1, .ints .u8 p0.wait.length p0.wait), (2, .ints .u8 p0.got.length p0.got), (3, .vec .row p0.out)])
                        928 (by kernel_rfl) rfl (by kernel_rfl) (⟨tt, ⟨tt, ⟨tt, ⟨tt, ⟨⟨(by first | omega | (dsimp only; omega) | decide | (simp only [Fconv0, Fconv1, Fconv2, Fconv3, Fconv4, Fconv5, len_say]; omega)), trivial⟩, ⟨⟨trivial, (h39)⟩, ⟨tt, ⟨tt, ⟨tt, ⟨tt, ⟨⟨⟨(by first | omega | (dsimp only; omega) | decide | (simp only [Fconv0, Fconv1, Fconv2, Fconv3, Fconv4, Fconv5, len_say]; omega)), (rfl)⟩, trivial⟩, trivial⟩⟩⟩⟩⟩⟩⟩⟩⟩⟩⟩) ?_
                    refine Tri.seq_region [] none [167, 11, 0] [0, 4, 1, 2, 3] (TT ∧ True)
                        ([(167, .sc (.b (FwFlag (FwText_1 p2 p3) (FwText_2 p2 p3)))), (11, .sc (.b false)), (0, .sc (.p 0 0))], [(0, .cells [.b p0.server, .i .i64 p0.state, .i .u32 p0.peer, .i .i64 p0.window, .i .i64 p0.most, .i .i64 p0.room, .sl 1 0 p0.wait.length 1 none, .sl 2 0 p0.got.length 1 none, .b true, .b p0.e0, .b p0.e1, .b p0.c0, .b p0.c1, .sl 3 0 p0.out.length 1 none]), (4, .cells [.ro .u8 (FwFlag_1 (FwText_1 p2 p3) (FwText_2 p2 p3)), .b (FwFlag_2 (FwText_1 p2 p3) (FwText_2 p2 p3))]), (1, .ints .u8 p0.wait.length p0.wait), (2, .ints .u8 p0.got.length p0.got), (3, .vec .row p0.out)])
                        944 (by kernel_rfl) rfl (by kernel_rfl) (⟨tt, trivial⟩) ?_
                    refine Tri.cond (x := (FwFlag (FwText_1 p2 p3) (FwText_2 p2 p3))) (by kernel_rfl) (fun h40 => ?_) (fun h40 => ?_)
                    ·
                      refine Tri.seq_region [] none [12, 11, 0] [0, 4, 1, 2, 3] (TT ∧ True)
                          ([(12, .sc (.i .u8 100)), (11, .sc (.b false)), (0, .sc (.p 0 0))], [(0, .cells [.b p0.server, .i .i64 p0.state, .i .u32 p0.peer, .i .i64 p0.window, .i .i64 p0.most, .i .i64 p0.room, .sl 1 0 p0.wait.length 1 none, .sl 2 0 p0.got.length 1 none, .b true, .b p0.e0, .b p0.e1, .b p0.c0, .b p0.c1, .sl 3 0 p0.out.length 1 none]), (4, .cells [.ro .u8 (FwFlag_1 (FwText_1 p2 p3) (FwText_2 p2 p3)), .b (FwFlag_2 (FwText_1 p2 p3) (FwText_2 p2 p3))]), (1, .ints .u8 p0.wait.length p0.wait), (2, .ints .u8 p0.got.length p0.got), (3, .vec .row p0.out)])
                          960 (by kernel_rfl) rfl (by kernel_rfl) (⟨tt, trivial⟩) ?_
                      refine Tri.seq ?_
                      refine Tri.seq_region [] none [168, 12, 0] [0, 4, 1, 2, 3] (TT ∧ True)
                          ([(168, .sc (.b false)), (12, .sc (.i .u8 100)), (0, .sc (.p 0 0))], [(0, .cells [.b p0.server, .i .i64 p0.state, .i .u32 p0.peer, .i .i64 p0.window, .i .i64 p0.most, .i .i64 p0.room, .sl 1 0 p0.wait.length 1 none, .sl 2 0 p0.got.length 1 none, .b true, .b p0.e0, .b p0.e1, .b p0.c0, .b p0.c1, .sl 3 0 p0.out.length 1 none]), (4, .cells [.ro .u8 (FwFlag_1 (FwText_1 p2 p3) (FwText_2 p2 p3)), .b (FwFlag_2 (FwText_1 p2 p3) (FwText_2 p2 p3))]), (1, .ints .u8 p0.wait.length p0.wait), (2, .ints .u8 p0.got.length p0.got), (3, .vec .row p0.out)])
                          976 (by kernel_rfl) rfl (by kernel_rfl) (⟨tt, trivial⟩) ?_
                      refine Tri.cond_false (by kernel_rfl) ?_
                      refine Tri.skip ?_
                      change Tri _ _ _ _ _ _
                      refine Tri.region' [] none [] [1042, 1041, 1040, 0, 4] (TT ∧ (TT ∧ (TT ∧ ((((True ∧ ((chLens (({p0 with ready := true} : Ch).wait.length) (({p0 with ready := true} : Ch).got.length) (({p0 with ready := true} : Ch).out.length) (({p0 with ready := true} : Ch).wait.length) (({p0 with ready := true} : Ch).got.length) ({p0 with ready := true} : Ch)) ∧ True)) ∧ (([some (.cells [.b p0.server, .i .i64 p0.state, .i .u32 p0.peer, .i .i64 p0.window, .i .i64 p0.most, .i .i64 p0.room, .sl 1 0 p0.wait.length 1 none, .sl 2 0 p0.got.length 1 none, .b true, .b p0.e0, .b p0.e1, .b p0.c0, .b p0.c1, .sl 3 0 p0.out.length 1 none]), some (.ints .u8 p0.wait.length p0.wait), some (.ints .u8 p0.got.length p0.got), some (.vec .row p0.out)] : List (Option Blk)) = [some (.cells [.b p0.server, .i .i64 p0.state, .i .u32 p0.peer, .i .i64 p0.window, .i .i64 p0.most, .i .i64 p0.room, .sl 1 0 p0.wait.length 1 none, .sl 2 0 p0.got.length 1 none, .b true, .b p0.e0, .b p0.e1, .b p0.c0, .b p0.c1, .sl 3 0 p0.out.length 1 none]), some (.ints .u8 p0.wait.length p0.wait), some (.ints .u8 p0.got.length p0.got), some (.vec .row p0.out)])) ∧ True) ∧ (((TT ∧ ((chLens (({p0 with ready := true} : Ch).wait.length) (({p0 with ready := true} : Ch).got.length) (({p0 with ready := true} : Ch).out.length) (({p0 with ready := true} : Ch).wait.length) (({p0 with ready := true} : Ch).got.length) ({p0 with ready := true} : Ch)) ∧ (({p0 with ready := true} : Ch).out.length ≤ 1000000000))) ∧ True) ∧ True)))))
                          ([], [(1042, .vec .row ((Fconv3 p0).out)), (1041, .ints .u8 ((Fconv3 p0).got.length) ((Fconv3 p0).got)), (1040, .ints .u8 ((Fconv3 p0).wait.length) ((Fconv3 p0).wait)), (0, chC 1040 1041 1042 (Fconv3 p0)), (4, .cells [.ro .u8 (FwFlag_1 (FwText_1 p2 p3) (FwText_2 p2 p3)), .b (FwFlag_2 (FwText_1 p2 p3) (FwText_2 p2 p3))])])
                          1056 (by kernel_rfl) rfl (by kernel_rfl) (⟨tt, ⟨tt, ⟨tt, ⟨⟨⟨⟨trivial, ⟨(chLens_self _), trivial⟩⟩, (rfl)⟩, trivial⟩, ⟨⟨⟨tt, ⟨(chLens_self _), (by first | omega | (dsimp only; omega) | decide | (simp only [Fconv0, Fconv1, Fconv2, Fconv3, Fconv4, Fconv5, len_say]; omega))⟩⟩, trivial⟩, trivial⟩⟩⟩⟩⟩) ?_
                      change Tri _ _ _ _ _ _
                      refine Tri.seq_region [] none [6] [1042, 1041, 1040, 0, 4] (TT ∧ True)
                          ([(6, .sc (.i .i64 0))], [(1042, .vec .row ((Fconv3 p0).out)), (1041, .ints .u8 ((Fconv3 p0).got.length) ((Fconv3 p0).got)), (1040, .ints .u8 ((Fconv3 p0).wait.length) ((Fconv3 p0).wait)), (0, chC 1040 1041 1042 (Fconv3 p0)), (4, .cells [.ro .u8 (FwFlag_1 (FwText_1 p2 p3) (FwText_2 p2 p3)), .b (FwFlag_2 (FwText_1 p2 p3) (FwText_2 p2 p3))])])
                          1072 (by kernel_rfl) rfl (by kernel_rfl) (⟨tt, trivial⟩) ?_
                      refine Tri.ret ?_
                      repeat (first | refine thenP_ret ?_ | refine blkP_ret ?_ | refine countP_ret ?_ | refine joinP_ret ?_ | refine iterP_ret ?_)
                      refine subP_done ?_
                      refine endP.conv (r' := ⟨.sc (.i .i64 0), [some (chC 5 6 7 (Fconv3 p0)), none, none, none, some (.cells [.ro .u8 (FwFlag_1 (FwText_1 p2 p3) (FwText_2 p2 p3)), .b (FwFlag_2 (FwText_1 p2 p3) (FwText_2 p2 p3))]), some (.ints .u8 ((Fconv3 p0).wait.length) ((Fconv3 p0).wait)), some (.ints .u8 ((Fconv3 p0).got.length) ((Fconv3 p0).got)), some (.vec .row ((Fconv3 p0).out))]⟩) (by simp only [chC, Fcon, Fcon_1, Fcon_2, Fcon_3, h1, h4, h9, h12, h15, h16, h38, h39, h40, sel_true, sel_false]) ?_
                      exact endP.ret [(0, 0), (4, 4), (1040, 5), (1041, 6), (1042, 7)] TT (by kernel_rfl) (by kernel_rfl) tt
                    ·
                      refine Tri.skip ?_
                      change Tri _ _ _ _ _ _
                      refine Tri.seq_region [] none [6] [0, 4, 1, 2, 3] (TT ∧ True)
                          ([(6, .sc (.i .i64 0))], [(0, .cells [.b p0.server, .i .i64 p0.state, .i .u32 p0.peer, .i .i64 p0.window, .i .i64 p0.most, .i .i64 p0.room, .sl 1 0 p0.wait.length 1 none, .sl 2 0 p0.got.length 1 none, .b true, .b p0.e0, .b p0.e1, .b p0.c0, .b p0.c1, .sl 3 0 p0.out.length 1 none]), (4, .cells [.ro .u8 (FwFlag_1 (FwText_1 p2 p3) (FwText_2 p2 p3)), .b (FwFlag_2 (FwText_1 p2 p3) (FwText_2 p2 p3))]), (1, .ints .u8 p0.wait.length p0.wait), (2, .ints .u8 p0.got.length p0.got), (3, .vec .row p0.out)])
                          960 (by kernel_rfl) rfl (by kernel_rfl) (⟨tt, trivial⟩) ?_
                      refine Tri.ret ?_
                      repeat (first | refine thenP_ret ?_ | refine blkP_ret ?_ | refine countP_ret ?_ | refine joinP_ret ?_ | refine iterP_ret ?_)
                      refine subP_done ?_
                      refine endP.conv (r' := ⟨.sc (.i .i64 0), [some (.cells [.b p0.server, .i .i64 p0.state, .i .u32 p0.peer, .i .i64 p0.window, .i .i64 p0.most, .i .i64 p0.room, .sl 5 0 p0.wait.length 1 none, .sl 6 0 p0.got.length 1 none, .b true, .b p0.e0, .b p0.e1, .b p0.c0, .b p0.c1, .sl 7 0 p0.out.length 1 none]), none, none, none, some (.cells [.ro .u8 (FwFlag_1 (FwText_1 p2 p3) (FwText_2 p2 p3)), .b (FwFlag_2 (FwText_1 p2 p3) (FwText_2 p2 p3))]), some (.ints .u8 p0.wait.length p0.wait), some (.ints .u8 p0.got.length p0.got), some (.vec .row p0.out)]⟩) (by simp only [chC, Fcon, Fcon_1, Fcon_2, Fcon_3, h1, h4, h9, h12, h15, h16, h38, h39, h40, sel_true, sel_false]) ?_
                      exact endP.ret [(0, 0), (4, 4), (1, 5), (2, 6), (3, 7)] TT (by kernel_rfl) (by kernel_rfl) tt
                  ·
                    refine Tri.seq_region [(162, qb false)] none [11, 10, 0] [0, 4, 1, 2, 3] (TT ∧ (TT ∧ (TT ∧ (TT ∧ (((8 < 14) ∧ True) ∧ ((True ∧ (p0.ready = false)) ∧ (TT ∧ (TT ∧ (TT ∧ (TT ∧ ((((8 < 14) ∧ (1 = 1)) ∧ True) ∧ True)))))))))))
                        ([(11, .sc (.b false)), (10, .sc (.b (FwFlag (FwText_1 p2 p3) (FwText_2 p2 p3)))), (0, .sc (.p 0 0))], [(0, .cells [.b p0.server, .i .i64 p0.state, .i .u32 p0.peer, .i .i64 p0.window, .i .i64 p0.most, .i .i64 p0.room, .sl 1 0 p0.wait.length 1 none, .sl 2 0 p0.got.length 1 none, .b false, .b p0.e0, .b p0.e1, .b p0.c0, .b p0.c1, .sl 3 0 p0.out.length 1 none]), (4, .cells [.ro .u8 (FwFlag_1 (FwText_1 p2 p3) (FwText_2 p2 p3)), .b (FwFlag_2 (FwText_1 p2 p3) (FwText_2 p2 p3))]), (1, .ints .u8 p0.wait.length p0.wait), (2, .ints .u8 p0.got.length p0.got), (3, .vec .row p0.out)])
                        928 (by kernel_rfl) rfl (by kernel_rfl) (⟨tt, ⟨tt, ⟨tt, ⟨tt, ⟨⟨(by first | omega | (dsimp only; omega) | decide | (simp only [Fconv0, Fconv1, Fconv2, Fconv3, Fconv4, Fconv5, len_say]; omega)), trivial⟩, ⟨⟨trivial, (h39)⟩, ⟨tt, ⟨tt, ⟨tt, ⟨tt, ⟨⟨⟨(by first | omega | (dsimp only; omega) | decide | (simp only [Fconv0, Fconv1, Fconv2, Fconv3, Fconv4, Fconv5, len_say]; omega)), (rfl)⟩, trivial⟩, trivial⟩⟩⟩⟩⟩⟩⟩⟩⟩⟩⟩) ?_
                    refine Tri.seq_region [] none [167, 11, 0] [0, 4, 1, 2, 3] (TT ∧ True)
                        ([(167, .sc (.b (FwFlag (FwText_1 p2 p3) (FwText_2 p2 p3)))), (11, .sc (.b false)), (0, .sc (.p 0 0))], [(0, .cells [.b p0.server, .i .i64 p0.state, .i .u32 p0.peer, .i .i64 p0.window, .i .i64 p0.most, .i .i64 p0.room, .sl 1 0 p0.wait.length 1 none, .sl 2 0 p0.got.length 1 none, .b false, .b p0.e0, .b p0.e1, .b p0.c0, .b p0.c1, .sl 3 0 p0.out.length 1 none]), (4, .cells [.ro .u8 (FwFlag_1 (FwText_1 p2 p3) (FwText_2 p2 p3)), .b (FwFlag_2 (FwText_1 p2 p3) (FwText_2 p2 p3))]), (1, .ints .u8 p0.wait.length p0.wait), (2, .ints .u8 p0.got.length p0.got), (3, .vec .row p0.out)])
                        944 (by kernel_rfl) rfl (by kernel_rfl) (⟨tt, trivial⟩) ?_
                    refine Tri.cond (x := (FwFlag (FwText_1 p2 p3) (FwText_2 p2 p3))) (by kernel_rfl) (fun h41 => ?_) (fun h41 => ?_)
                    ·
                      refine Tri.seq_region [] none [12, 11, 0] [0, 4, 1, 2, 3] (TT ∧ True)
                          ([(12, .sc (.i .u8 100)), (11, .sc (.b false)), (0, .sc (.p 0 0))], [(0, .cells [.b p0.server, .i .i64 p0.state, .i .u32 p0.peer, .i .i64 p0.window, .i .i64 p0.most, .i .i64 p0.room, .sl 1 0 p0.wait.length 1 none, .sl 2 0 p0.got.length 1 none, .b false, .b p0.e0, .b p0.e1, .b p0.c0, .b p0.c1, .sl 3 0 p0.out.length 1 none]), (4, .cells [.ro .u8 (FwFlag_1 (FwText_1 p2 p3) (FwText_2 p2 p3)), .b (FwFlag_2 (FwText_1 p2 p3) (FwText_2 p2 p3))]), (1, .ints .u8 p0.wait.length p0.wait), (2, .ints .u8 p0.got.length p0.got), (3, .vec .row p0.out)])
                          960 (by kernel_rfl) rfl (by kernel_rfl) (⟨tt, trivial⟩) ?_
                      refine Tri.seq ?_
                      refine Tri.seq_region [] none [168, 12, 0] [0, 4, 1, 2, 3] (TT ∧ True)
                          ([(168, .sc (.b false)), (12, .sc (.i .u8 100)), (0, .sc (.p 0 0))], [(0, .cells [.b p0.server, .i .i64 p0.state, .i .u32 p0.peer, .i .i64 p0.window, .i .i64 p0.most, .i .i64 p0.room, .sl 1 0 p0.wait.length 1 none, .sl 2 0 p0.got.length 1 none, .b false, .b p0.e0, .b p0.e1, .b p0.c0, .b p0.c1, .sl 3 0 p0.out.length 1 none]), (4, .cells [.ro .u8 (FwFlag_1 (FwText_1 p2 p3) (FwText_2 p2 p3)), .b (FwFlag_2 (FwText_1 p2 p3) (FwText_2 p2 p3))]), (1, .ints .u8 p0.wait.length p0.wait), (2, .ints .u8 p0.got.length p0.got), (3, .vec .row p0.out)])
                          976 (by kernel_rfl) rfl (by kernel_rfl) (⟨tt, trivial⟩) ?_
                      refine Tri.cond_false (by kernel_rfl) ?_
                      refine Tri.skip ?_
                      change Tri _ _ _ _ _ _
                      refine Tri.region' [] none [] [1042, 1041, 1040, 0, 4] (TT ∧ (TT ∧ (TT ∧ ((((True ∧ ((chLens (({p0 with ready := false} : Ch).wait.length) (({p0 with ready := false} : Ch).got.length) (({p0 with ready := false} : Ch).out.length) (({p0 with ready := false} : Ch).wait.length) (({p0 with ready := false} : Ch).got.length) ({p0 with ready := false} : Ch)) ∧ True)) ∧ (([some (.cells [.b p0.server, .i .i64 p0.state, .i .u32 p0.peer, .i .i64 p0.window, .i .i64 p0.most, .i .i64 p0.room, .sl 1 0 p0.wait.length 1 none, .sl 2 0 p0.got.length 1 none, .b false, .b p0.e0, .b p0.e1, .b p0.c0, .b p0.c1, .sl 3 0 p0.out.length 1 none]), some (.ints .u8 p0.wait.length p0.wait), some (.ints .u8 p0.got.length p0.got), some (.vec .row p0.out)] : List (Option Blk)) = [some (.cells [.b p0.server, .i .i64 p0.state, .i .u32 p0.peer, .i .i64 p0.window, .i .i64 p0.most, .i .i64 p0.room, .sl 1 0 p0.wait.length 1 none, .sl 2 0 p0.got.length 1 none, .b false, .b p0.e0, .b p0.e1, .b p0.c0, .b p0.c1, .sl 3 0 p0.out.length 1 none]), some (.ints .u8 p0.wait.length p0.wait), some (.ints .u8 p0.got.length p0.got), some (.vec .row p0.out)])) ∧ True) ∧ (((TT ∧ ((chLens (({p0 with ready := false} : Ch).wait.length) (({p0 with ready := false} : Ch).got.length) (({p0 with ready := false} : Ch).out.length) (({p0 with ready := false} : Ch).wait.length) (({p0 with ready := false} : Ch).got.length) ({p0 with ready := false} : Ch)) ∧ (({p0 with ready := false} : Ch).out.length ≤ 1000000000))) ∧ True) ∧ True)))))
                          ([], [(1042, .vec .row ((Fconv4 p0).out)), (1041, .ints .u8 ((Fconv4 p0).got.length) ((Fconv4 p0).got)), (1040, .ints .u8 ((Fconv4 p0).wait.length) ((Fconv4 p0).wait)), (0, chC 1040 1041 1042 (Fconv4 p0)), (4, .cells [.ro .u8 (FwFlag_1 (FwText_1 p2 p3) (FwText_2 p2 p3)), .b (FwFlag_2 (FwText_1 p2 p3) (FwText_2 p2 p3))])])
                          1056 (by kernel_rfl) rfl (by kernel_rfl) (⟨tt, ⟨tt, ⟨tt, ⟨⟨⟨⟨trivial, ⟨(chLens_self _), trivial⟩⟩, (rfl)⟩, trivial⟩, ⟨⟨⟨tt, ⟨(chLens_self _), (by first | omega | (dsimp only; omega) | decide | (simp only [Fconv0, Fconv1, Fconv2, Fconv3, Fconv4, Fconv5, len_say]; omega))⟩⟩, trivial⟩, trivial⟩⟩⟩⟩⟩) ?_
                      change Tri _ _ _ _ _ _
                      refine Tri.seq_region [] none [6] [1042, 1041, 1040, 0, 4] (TT ∧ True)
                          ([(6, .sc (.i .i64 0))], [(1042, .vec .row ((Fconv4 p0).out)), (1041, .ints .u8 ((Fconv4 p0).got.length) ((Fconv4 p0).got)), (1040, .ints .u8 ((Fconv4 p0).wait.length) ((Fconv4 p0).wait)), (0, chC 1040 1041 1042 (Fconv4 p0)), (4, .cells [.ro .u8 (FwFlag_1 (FwText_1 p2 p3) (FwText_2 p2 p3)), .b (FwFlag_2 (FwText_1 p2 p3) (FwText_2 p2 p3))])])
                          1072 (by kernel_rfl) rfl (by kernel_rfl) (⟨tt, trivial⟩) ?_
                      refine Tri.ret ?_
                      repeat (first | refine thenP_ret ?_ | refine blkP_ret ?_ | refine countP_ret ?_ | refine joinP_ret ?_ | refine iterP_ret ?_)
                      refine subP_done ?_
                      refine endP.conv (r' := ⟨.sc (.i .i64 0), [some (chC 5 6 7 (Fconv4 p0)), none, none, none, some (.cells [.ro .u8 (FwFlag_1 (FwText_1 p2 p3) (FwText_2 p2 p3)), .b (FwFlag_2 (FwText_1 p2 p3) (FwText_2 p2 p3))]), some (.ints .u8 ((Fconv4 p0).wait.length) ((Fconv4 p0).wait)), some (.ints .u8 ((Fconv4 p0).got.length) ((Fconv4 p0).got)), some (.vec .row ((Fconv4 p0).out))]⟩) (by simp only [chC, Fcon, Fcon_1, Fcon_2, Fcon_3, h1, h4, h9, h12, h15, h16, h38, h39, h41, sel_true, sel_false]) ?_
                      exact endP.ret [(0, 0), (4, 4), (1040, 5), (1041, 6), (1042, 7)] TT (by kernel_rfl) (by kernel_rfl) tt
                    ·
                      refine Tri.skip ?_
                      change Tri _ _ _ _ _ _
                      refine Tri.seq_region [] none [6] [0, 4, 1, 2, 3] (TT ∧ True)
                          ([(6, .sc (.i .i64 0))], [(0, .cells [.b p0.server, .i .i64 p0.state, .i .u32 p0.peer, .i .i64 p0.window, .i .i64 p0.most, .i .i64 p0.room, .sl 1 0 p0.wait.length 1 none, .sl 2 0 p0.got.length 1 none, .b false, .b p0.e0, .b p0.e1, .b p0.c0, .b p0.c1, .sl 3 0 p0.out.length 1 none]), (4, .cells [.ro .u8 (FwFlag_1 (FwText_1 p2 p3) (FwText_2 p2 p3)), .b (FwFlag_2 (FwText_1 p2 p3) (FwText_2 p2 p3))]), (1, .ints .u8 p0.wait.length p0.wait), (2, .ints .u8 p0.got.length p0.got), (3, .vec .row p0.out)])
                          960 (by kernel_rfl) rfl (by kernel_rfl) (⟨tt, trivial⟩) ?_
                      refine Tri.ret ?_
                      repeat (first | refine thenP_ret ?_ | refine blkP_ret ?_ | refine countP_ret ?_ | refine joinP_ret ?_ | refine iterP_ret ?_)
                      refine subP_done ?_
                      refine endP.conv (r' := ⟨.sc (.i .i64 0), [some (.cells [.b p0.server, .i .i64 p0.state, .i .u32 p0.peer, .i .i64 p0.window, .i .i64 p0.most, .i .i64 p0.room, .sl 5 0 p0.wait.length 1 none, .sl 6 0 p0.got.length 1 none, .b false, .b p0.e0, .b p0.e1, .b p0.c0, .b p0.c1, .sl 7 0 p0.out.length 1 none]), none, none, none, some (.cells [.ro .u8 (FwFlag_1 (FwText_1 p2 p3) (FwText_2 p2 p3)), .b (FwFlag_2 (FwText_1 p2 p3) (FwText_2 p2 p3))]), some (.ints .u8 p0.wait.length p0.wait), some (.ints .u8 p0.got.length p0.got), some (.vec .row p0.out)]⟩) (by simp only [chC, Fcon, Fcon_1, Fcon_2, Fcon_3, h1, h4, h9, h12, h15, h16, h38, h39, h41, sel_true, sel_false]) ?_
                      exact endP.ret [(0, 0), (4, 4), (1, 5), (2, 6), (3, 7)] TT (by kernel_rfl) (by kernel_rfl) tt
            ·
              have h15' := eq_false_i h15
              refine Tri.seq ?_
              refine Tri.seq_region [] none [174, 13, 0, 1, 2] [0, 1, 2, 3, 4] (TT ∧ (TT ∧ True))
                  ([(174, .sc (.b ((p1 : Int) == 99))), (13, .sc (.i .u8 p1)), (0, .sc (.p 0 0)), (1, .sc (.i .u8 p1)), (2, .sc (.p 4 0))], [(0, chC 1 2 3 p0), (1, .ints .u8 p0.wait.length p0.wait), (2, .ints .u8 p0.got.length p0.got), (3, .vec .row p0.out), (4, .cells [.ro .u8 p2, .b p3])])
                  240 (by kernel_rfl) rfl (by kernel_rfl) (⟨tt, ⟨tt, trivial⟩⟩) ?_
              refine Tri.join (x := ((p1 : Int) == 99)) (fun bb => ([(174, .sc (.b (sel bb ((p1 : Int) == 99) ((p1 : Int) == 100)))), (0, .sc (.p 0 0)), (1, .sc (.i .u8 p1)), (2, .sc (.p 4 0))], [(0, chC 1 2 3 p0), (1, .ints .u8 p0.wait.length p0.wait), (2, .ints .u8 p0.got.length p0.got), (3, .vec .row p0.out), (4, .cells [.ro .u8 p2, .b p3])])) 272 (by kernel_rfl) (fun h42 => ?_) (fun h42 => ?_) ?_
              ·
                have h42' := eq_true_i h42
                refine Tri.skip ?_
                exact (Sub.ren (ns := [(0, 0), (1, 1), (2, 2), (3, 3), (4, 4)]) (kf := [174, 0, 1, 2]) (s' := ([(174, .sc (.b ((p1 : Int) == 99))), (0, .sc (.p 0 0)), (1, .sc (.i .u8 p1)), (2, .sc (.p 4 0))], [(0, chC 1 2 3 p0), (1, .ints .u8 p0.wait.length p0.wait), (2, .ints .u8 p0.got.length p0.got), (3, .vec .row p0.out), (4, .cells [.ro .u8 p2, .b p3])])) (by kernel_rfl) (by kernel_rfl)).trans (Sub.of_eq (by simp only [chC, sel_true, sel_false]))
              ·
                have h42' := eq_false_i h42
                refine Tri.region' [] none [174, 0, 1, 2] [0, 1, 2, 3, 4] (TT ∧ (TT ∧ True))
                    ([(174, .sc (.b ((p1 : Int) == 100))), (0, .sc (.p 0 0)), (1, .sc (.i .u8 p1)), (2, .sc (.p 4 0))], [(0, chC 1 2 3 p0), (1, .ints .u8 p0.wait.length p0.wait), (2, .ints .u8 p0.got.length p0.got), (3, .vec .row p0.out), (4, .cells [.ro .u8 p2, .b p3])])
                    272 (by kernel_rfl) rfl (by kernel_rfl) (⟨tt, ⟨tt, trivial⟩⟩) ?_
                exact (Sub.ren (ns := [(0, 0), (1, 1), (2, 2), (3, 3), (4, 4)]) (kf := [174, 0, 1, 2]) (s' := ([(174, .sc (.b ((p1 : Int) == 100))), (0, .sc (.p 0 0)), (1, .sc (.i .u8 p1)), (2, .sc (.p 4 0))], [(0, chC 1 2 3 p0), (1, .ints .u8 p0.wait.length p0.wait), (2, .ints .u8 p0.got.length p0.got), (3, .vec .row p0.out), (4, .cells [.ro .u8 p2, .b p3])])) (by kernel_rfl) (by kernel_rfl)).trans (Sub.of_eq (by simp only [chC, sel_true, sel_false]))
              ·
                change Tri _ _ _ _ _ _
                refine Tri.cond (x := (sel ((p1 : Int) == 99) ((p1 : Int) == 99) ((p1 : Int) == 100))) (by kernel_rfl) (fun h43 => ?_) (fun h43 => ?_)
                ·
                  refine Tri.seq ?_
                  refine Tri.split (!(FwEnd p2 p3)) (fun h44 => ?_) (fun h44 => ?_)
                  ·
                    refine Tri.seq_region [(180, qb true)] none [191, 0, 1] [4, 0, 1, 2, 3] (TT ∧ ((TT ∧ True) ∧ (TT ∧ ((True ∧ ((!(FwEnd p2 p3)) = true)) ∧ (TT ∧ (TT ∧ (TT ∧ (TT ∧ (TT ∧ (TT ∧ (TT ∧ (TT ∧ (TT ∧ (TT ∧ (TT ∧ True)))))))))))))))
                        ([(191, .sc (.b true)), (0, .sc (.p 0 0)), (1, .sc (.i .u8 p1))], [(4, .cells [.ro .u8 p2, .b p3]), (0, chC 1 2 3 p0), (1, .ints .u8 p0.wait.length p0.wait), (2, .ints .u8 p0.got.length p0.got), (3, .vec .row p0.out)])
                        512 (by kernel_rfl) rfl (by kernel_rfl) (⟨tt, ⟨⟨tt, trivial⟩, ⟨tt, ⟨⟨trivial, (h44)⟩, ⟨tt, ⟨tt, ⟨tt, ⟨tt, ⟨tt, ⟨tt, ⟨tt, ⟨tt, ⟨tt, ⟨tt, ⟨tt, trivial⟩⟩⟩⟩⟩⟩⟩⟩⟩⟩⟩⟩⟩⟩⟩) ?_
                    refine Tri.cond_true (by kernel_rfl) ?_
                    refine Tri.seq_region [] none [6] [4, 0, 1, 2, 3] (TT ∧ True)
                        ([(6, .sc (.i .i64 3))], [(4, .cells [.ro .u8 p2, .b p3]), (0, chC 1 2 3 p0), (1, .ints .u8 p0.wait.length p0.wait), (2, .ints .u8 p0.got.length p0.got), (3, .vec .row p0.out)])
                        528 (by kernel_rfl) rfl (by kernel_rfl) (⟨tt, trivial⟩) ?_
                    refine Tri.ret ?_
                    repeat (first | refine thenP_ret ?_ | refine blkP_ret ?_ | refine countP_ret ?_ | refine joinP_ret ?_ | refine iterP_ret ?_)
                    refine subP_done ?_
                    refine endP.conv (r' := ⟨.sc (.i .i64 3), [some (chC 5 6 7 p0), none, none, none, some (.cells [.ro .u8 p2, .b p3]), some (.ints .u8 p0.wait.length p0.wait), some (.ints .u8 p0.got.length p0.got), some (.vec .row p0.out)]⟩) (by simp only [chC, Fcon, Fcon_1, Fcon_2, Fcon_3, h1, h4, h9, h12, h15, h43, h44, sel_true, sel_false]) ?_
                    exact endP.ret [(0, 0), (4, 4), (1, 5), (2, 6), (3, 7)] TT (by kernel_rfl) (by kernel_rfl) tt
                  ·
                    refine Tri.split p0.server (fun h45 => ?_) (fun h45 => ?_)
                    ·
                      refine Tri.seq_region [(180, qb false), (186, qb true)] none [191, 0, 1] [4, 0, 1, 2, 3] (TT ∧ ((TT ∧ True) ∧ (TT ∧ ((True ∧ ((!(FwEnd p2 p3)) = false)) ∧ (TT ∧ (TT ∧ (TT ∧ (((0 < 14) ∧ True) ∧ (TT ∧ ((True ∧ (p0.server = true)) ∧ (TT ∧ (TT ∧ (TT ∧ (TT ∧ (TT ∧ True)))))))))))))))
                          ([(191, .sc (.b true)), (0, .sc (.p 0 0)), (1, .sc (.i .u8 p1))], [(4, .cells [.ro .u8 p2, .b p3]), (0, chC 1 2 3 p0), (1, .ints .u8 p0.wait.length p0.wait), (2, .ints .u8 p0.got.length p0.got), (3, .vec .row p0.out)])
                          512 (by kernel_rfl) rfl (by kernel_rfl) (⟨tt, ⟨⟨tt, trivial⟩, ⟨tt, ⟨⟨trivial, (h44)⟩, ⟨tt, ⟨tt, ⟨tt, ⟨⟨(by first | omega | (dsimp only; omega) | decide | (simp only [Fconv0, Fconv1, Fconv2, Fconv3, Fconv4, Fconv5, len_say]; omega)), trivial⟩, ⟨tt, ⟨⟨trivial, (h45)⟩, ⟨tt, ⟨tt, ⟨tt, ⟨tt, ⟨tt, trivial⟩⟩⟩⟩⟩⟩⟩⟩⟩⟩⟩⟩⟩⟩⟩) ?_
                      refine Tri.cond_true (by kernel_rfl) ?_
                      refine Tri.seq_region [] none [6] [4, 0, 1, 2, 3] (TT ∧ True)
                          ([(6, .sc (.i .i64 3))], [(4, .cells [.ro .u8 p2, .b p3]), (0, chC 1 2 3 p0), (1, .ints .u8 p0.wait.length p0.wait), (2, .ints .u8 p0.got.length p0.got), (3, .vec .row p0.out)])
                          528 (by kernel_rfl) rfl (by kernel_rfl) (⟨tt, trivial⟩) ?_
                      refine Tri.ret ?_
                      repeat (first | refine thenP_ret ?_ | refine blkP_ret ?_ | refine countP_ret ?_ | refine joinP_ret ?_ | refine iterP_ret ?_)
                      refine subP_done ?_
                      refine endP.conv (r' := ⟨.sc (.i .i64 3), [some (chC 5 6 7 p0), none, none, none, some (.cells [.ro .u8 p2, .b p3]), some (.ints .u8 p0.wait.length p0.wait), some (.ints .u8 p0.got.length p0.got), some (.vec .row p0.out)]⟩) (by simp only [chC, Fcon, Fcon_1, Fcon_2, Fcon_3, h1, h4, h9, h12, h15, h43, h44, h45, sel_true, sel_false]) ?_
                      exact endP.ret [(0, 0), (4, 4), (1, 5), (2, 6), (3, 7)] TT (by kernel_rfl) (by kernel_rfl) tt
                    ·
                      refine Tri.seq_region [(180, qb false), (186, qb false)] none [191, 0, 1] [4, 0, 1, 2, 3] (TT ∧ ((TT ∧ True) ∧ (TT ∧ ((True ∧ ((!(FwEnd p2 p3)) = false)) ∧ (TT ∧ (TT ∧ (TT ∧ (((0 < 14) ∧ True) ∧ (TT ∧ ((True ∧ (p0.server = false)) ∧ (TT ∧ (TT ∧ (TT ∧ (((8 < 14) ∧ True) ∧ (TT ∧ True)))))))))))))))
                          ([(191, .sc (.b p0.ready)), (0, .sc (.p 0 0)), (1, .sc (.i .u8 p1))], [(4, .cells [.ro .u8 p2, .b p3]), (0, chC 1 2 3 p0), (1, .ints .u8 p0.wait.length p0.wait), (2, .ints .u8 p0.got.length p0.got), (3, .vec .row p0.out)])
                          512 (by kernel_rfl) rfl (by kernel_rfl) (⟨tt, ⟨⟨tt, trivial⟩, ⟨tt, ⟨⟨trivial, (h44)⟩, ⟨tt, ⟨tt, ⟨tt, ⟨⟨(by first | omega | (dsimp only; omega) | decide | (simp only [Fconv0, Fconv1, Fconv2, Fconv3, Fconv4, Fconv5, len_say]; omega)), trivial⟩, ⟨tt, ⟨⟨trivial, (h45)⟩, ⟨tt, ⟨tt, ⟨tt, ⟨⟨(by first | omega | (dsimp only; omega) | decide | (simp only [Fconv0, Fconv1, Fconv2, Fconv3, Fconv4, Fconv5, len_say]; omega)), trivial⟩, ⟨tt, trivial⟩⟩⟩⟩⟩⟩⟩⟩⟩⟩⟩⟩⟩⟩⟩) ?_
                      refine Tri.cond (x := p0.ready) (by kernel_rfl) (fun h46 => ?_) (fun h46 => ?_)
                      ·
                        refine Tri.seq_region [] none [6] [4, 0, 1, 2, 3] (TT ∧ True)
                            ([(6, .sc (.i .i64 3))], [(4, .cells [.ro .u8 p2, .b p3]), (0, chC 1 2 3 p0), (1, .ints .u8 p0.wait.length p0.wait), (2, .ints .u8 p0.got.length p0.got), (3, .vec .row p0.out)])
                            528 (by kernel_rfl) rfl (by kernel_rfl) (⟨tt, trivial⟩) ?_
                        refine Tri.ret ?_
                        repeat (first | refine thenP_ret ?_ | refine blkP_ret ?_ | refine countP_ret ?_ | refine joinP_ret ?_ | refine iterP_ret ?_)
                        refine subP_done ?_
                        refine endP.conv (r' := ⟨.sc (.i .i64 3), [some (chC 5 6 7 p0), none, none, none, some (.cells [.ro .u8 p2, .b p3]), some (.ints .u8 p0.wait.length p0.wait), some (.ints .u8 p0.got.length p0.got), some (.vec .row p0.out)]⟩) (by simp only [chC, Fcon, Fcon_1, Fcon_2, Fcon_3, h1, h4, h9, h12, h15, h43, h44, h45, h46, sel_true, sel_false]) ?_
                        exact endP.ret [(0, 0), (4, 4), (1, 5), (2, 6), (3, 7)] TT (by kernel_rfl) (by kernel_rfl) tt
                      ·
                        refine Tri.skip ?_
                        change Tri _ _ _ _ _ _
                        refine Tri.seq_region [] none [0] [0, 4, 1, 2, 3] (TT ∧ (TT ∧ (TT ∧ (TT ∧ (TT ∧ ((((8 < 14) ∧ (1 = 1)) ∧ True) ∧ True))))))
                            ([(0, .sc (.p 0 0))], [(0, .cells [.b p0.server, .i .i64 p0.state, .i .u32 p0.peer, .i .i64 p0.window, .i .i64 p0.most, .i .i64 p0.room, .sl 1 0 p0.wait.length 1 none, .sl 2 0 p0.got.length 1 none, .b ((p1 : Int) == 99), .b p0.e0, .b p0.e1, .b p0.c0, .b p0.c1, .sl 3 0 p0.out.length 1 none]), (4, .cells [.ro .u8 p2, .b p3]), (1, .ints .u8 p0.wait.length p0.wait), (2, .ints .u8 p0.got.length p0.got), (3, .vec .row p0.out)])
                            608 (by kernel_rfl) rfl (by kernel_rfl) (⟨tt, ⟨tt, ⟨tt, ⟨tt, ⟨tt, ⟨⟨⟨(by first | omega | (dsimp only; omega) | decide | (simp only [Fconv0, Fconv1, Fconv2, Fconv3, Fconv4, Fconv5, len_say]; omega)), (rfl)⟩, trivial⟩, trivial⟩⟩⟩⟩⟩⟩) ?_
                        refine Tri.split (!((p1 : Int) == 99)) (fun h47 => ?_) (fun h47 => ?_)
                        ·
                          refine Tri.seq_region [(202, qb true)] none [209, 0] [0, 4, 1, 2, 3] (TT ∧ (TT ∧ (TT ∧ (((8 < 14) ∧ True) ∧ (TT ∧ ((True ∧ ((!((p1 : Int) == 99)) = true)) ∧ (TT ∧ (TT ∧ (TT ∧ ((((0 : Int) ≤ 0 ∧ 0 < ((2 : Nat) : Int)) ∧ True) ∧ (((11 < 14) ∧ True) ∧ (TT ∧ (TT ∧ True)))))))))))))
                              ([(209, .sc (.b (!p0.c0))), (0, .sc (.p 0 0))], [(0, .cells [.b p0.server, .i .i64 p0.state, .i .u32 p0.peer, .i .i64 p0.window, .i .i64 p0.most, .i .i64 p0.room, .sl 1 0 p0.wait.length 1 none, .sl 2 0 p0.got.length 1 none, .b ((p1 : Int) == 99), .b p0.e0, .b p0.e1, .b p0.c0, .b p0.c1, .sl 3 0 p0.out.length 1 none]), (4, .cells [.ro .u8 p2, .b p3]), (1, .ints .u8 p0.wait.length p0.wait), (2, .ints .u8 p0.got.length p0.got), (3, .vec .row p0.out)])
                              816 (by kernel_rfl) rfl (by kernel_rfl) (⟨tt, ⟨tt, ⟨tt, ⟨⟨(by first | omega | (dsimp only; omega) | decide | (simp only [Fconv0, Fconv1, Fconv2, Fconv3, Fconv4, Fconv5, len_say]; omega)), trivial⟩, ⟨tt, ⟨⟨trivial, (h47)⟩, ⟨tt, ⟨tt, ⟨tt, ⟨⟨(by first | omega | (dsimp only; omega) | decide | (simp only [Fconv0, Fconv1, Fconv2, Fconv3, Fconv4, Fconv5, len_say]; omega)), trivial⟩, ⟨⟨(by first | omega | (dsimp only; omega) | decide | (simp only [Fconv0, Fconv1, Fconv2, Fconv3, Fconv4, Fconv5, len_say]; omega)), trivial⟩, ⟨tt, ⟨tt, trivial⟩⟩⟩⟩⟩⟩⟩⟩⟩⟩⟩⟩⟩) ?_
                          refine Tri.cond (x := (!p0.c0)) (by kernel_rfl) (fun h48 => ?_) (fun h48 => ?_)
                          ·
                            refine Tri.region' [] none [] [834, 833, 832, 0, 4] (TT ∧ (((True ∧ ((chLens (({p0 with ready := ((p1 : Int) == 99)} : Ch).wait.length) (({p0 with ready := ((p1 : Int) == 99)} : Ch).got.length) (({p0 with ready := ((p1 : Int) == 99)} : Ch).out.length) (({p0 with ready := ((p1 : Int) == 99)} : Ch).wait.length) (({p0 with ready := ((p1 : Int) == 99)} : Ch).got.length) ({p0 with ready := ((p1 : Int) == 99)} : Ch)) ∧ (({p0 with ready := ((p1 : Int) == 99)} : Ch).out.length ≤ 900000000))) ∧ True) ∧ True))
                                ([], [(834, .vec .row ((Fconv5 p0 p1).out)), (833, .ints .u8 ((Fconv5 p0 p1).got.length) ((Fconv5 p0 p1).got)), (832, .ints .u8 ((Fconv5 p0 p1).wait.length) ((Fconv5 p0 p1).wait)), (0, chC 832 833 834 (Fconv5 p0 p1)), (4, .cells [.ro .u8 p2, .b p3])])
                                848 (by kernel_rfl) rfl (by kernel_rfl) (⟨tt, ⟨⟨⟨trivial, ⟨(chLens_self _), (by first | omega | (dsimp only; omega) | decide | (simp only [Fconv0, Fconv1, Fconv2, Fconv3, Fconv4, Fconv5, len_say]; omega))⟩⟩, trivial⟩, trivial⟩⟩) ?_
                            change Tri _ _ _ _ _ _
                            refine Tri.seq_region [] none [6] [834, 833, 832, 0, 4] (TT ∧ True)
                                ([(6, .sc (.i .i64 0))], [(834, .vec .row ((Fconv5 p0 p1).out)), (833, .ints .u8 ((Fconv5 p0 p1).got.length) ((Fconv5 p0 p1).got)), (832, .ints .u8 ((Fconv5 p0 p1).wait.length) ((Fconv5 p0 p1).wait)), (0, chC 832 833 834 (Fconv5 p0 p1)), (4, .cells [.ro .u8 p2, .b p3])])
                                864 (by kernel_rfl) rfl (by kernel_rfl) (⟨tt, trivial⟩) ?_
                            refine Tri.ret ?_
                            repeat (first | refine thenP_ret ?_ | refine blkP_ret ?_ | refine countP_ret ?_ | refine joinP_ret ?_ | refine iterP_ret ?_)
                            refine subP_done ?_
                            refine endP.conv (r' := ⟨.sc (.i .i64 0), [some (chC 5 6 7 (Fconv5 p0 p1)), none, none, none, some (.cells [.ro .u8 p2, .b p3]), some (.ints .u8 ((Fconv5 p0 p1).wait.length) ((Fconv5 p0 p1).wait)), some (.ints .u8 ((Fconv5 p0 p1).got.length) ((Fconv5 p0 p1).got)), some (.vec .row ((Fconv5 p0 p1).out))]⟩) (by simp only [chC, Fcon, Fcon_1, Fcon_2, Fcon_3, h1, h4, h9, h12, h15, h43, h44, h45, h46, h47, h48, sel_true, sel_false]) ?_
                            exact endP.ret [(0, 0), (4, 4), (832, 5), (833, 6), (834, 7)] TT (by kernel_rfl) (by kernel_rfl) tt
                          ·
                            refine Tri.skip ?_
                            change Tri _ _ _ _ _ _
                            refine Tri.seq_region [] none [6] [0, 4, 1, 2, 3] (TT ∧ True)
                                ([(6, .sc (.i .i64 0))], [(0, .cells [.b p0.server, .i .i64 p0.state, .i .u32 p0.peer, .i .i64 p0.window, .i .i64 p0.most, .i .i64 p0.room, .sl 1 0 p0.wait.length 1 none, .sl 2 0 p0.got.length 1 none, .b ((p1 : Int) == 99), .b p0.e0, .b p0.e1, .b p0.c0, .b p0.c1, .sl 3 0 p0.out.length 1 none]), (4, .cells [.ro .u8 p2, .b p3]), (1, .ints .u8 p0.wait.length p0.wait), (2, .ints .u8 p0.got.length p0.got), (3, .vec .row p0.out)])
                                832 (by kernel_rfl) rfl (by kernel_rfl) (⟨tt, trivial⟩) ?_
                            refine Tri.ret ?_
                            repeat (first | refine thenP_ret ?_ | refine blkP_ret ?_ | refine countP_ret ?_ | refine joinP_ret ?_ | refine iterP_ret ?_)
                            refine subP_done ?_
                            refine endP.conv (r' := ⟨.sc (.i .i64 0), [some (.cells [.b p0.server, .i .i64 p0.state, .i .u32 p0.peer, .i .i64 p0.window, .i .i64 p0.most, .i .i64 p0.room, .sl 5 0 p0.wait.length 1 none, .sl 6 0 p0.got.length 1 none, .b ((p1 : Int) == 99), .b p0.e0, .b p0.e1, .b p0.c0, .b p0.c1, .sl 7 0 p0.out.length 1 none]), none, none, none, some (.cells [.ro .u8 p2, .b p3]), some (.ints .u8 p0.wait.length p0.wait), some (.ints .u8 p0.got.length p0.got), some (.vec .row p0.out)]⟩) (by simp only [chC, Fcon, Fcon_1, Fcon_2, Fcon_3, h1, h4, h9, h12, h15, h43, h44, h45, h46, h47, h48, sel_true, sel_false]) ?_
                            exact endP.ret [(0, 0), (4, 4), (1, 5), (2, 6), (3, 7)] TT (by kernel_rfl) (by kernel_rfl) tt
                        ·
                          refine Tri.seq_region [(202, qb false)] none [209, 0] [0, 4, 1, 2, 3] (TT ∧ (TT ∧ (TT ∧ (((8 < 14) ∧ True) ∧ (TT ∧ ((True ∧ ((!((p1 : Int) == 99)) = false)) ∧ (TT ∧ (TT ∧ (TT ∧ (TT ∧ (TT ∧ (TT ∧ (TT ∧ True)))))))))))))
                              ([(209, .sc (.b false)), (0, .sc (.p 0 0))], [(0, .cells [.b p0.server, .i .i64 p0.state, .i .u32 p0.peer, .i .i64 p0.window, .i .i64 p0.most, .i .i64 p0.room, .sl 1 0 p0.wait.length 1 none, .sl 2 0 p0.got.length 1 none, .b ((p1 : Int) == 99), .b p0.e0, .b p0.e1, .b p0.c0, .b p0.c1, .sl 3 0 p0.out.length 1 none]), (4, .cells [.ro .u8 p2, .b p3]), (1, .ints .u8 p0.wait.length p0.wait), (2, .ints .u8 p0.got.length p0.got), (3, .vec .row p0.out)])
                              816 (by kernel_rfl) rfl (by kernel_rfl) (⟨tt, ⟨tt, ⟨tt, ⟨⟨(by first | omega | (dsimp only; omega) | decide | (simp only [Fconv0, Fconv1, Fconv2, Fconv3, Fconv4, Fconv5, len_say]; omega)), trivial⟩, ⟨tt, ⟨⟨trivial, (h47)⟩, ⟨tt, ⟨tt, ⟨tt, ⟨tt, ⟨tt, ⟨tt, ⟨tt, trivial⟩⟩⟩⟩⟩⟩⟩⟩⟩⟩⟩⟩⟩) ?_
                          refine Tri.cond_false (by kernel_rfl) ?_
                          refine Tri.skip ?_
                          change Tri _ _ _ _ _ _
                          refine Tri.seq_region [] none [6] [0, 4, 1, 2, 3] (TT ∧ True)
                              ([(6, .sc (.i .i64 0))], [(0, .cells [.b p0.server, .i .i64 p0.state, .i .u32 p0.peer, .i .i64 p0.window, .i .i64 p0.most, .i .i64 p0.room, .sl 1 0 p0.wait.length 1 none, .sl 2 0 p0.got.length 1 none, .b ((p1 : Int) == 99), .b p0.e0, .b p0.e1, .b p0.c0, .b p0.c1, .sl 3 0 p0.out.length 1 none]), (4, .cells [.ro .u8 p2, .b p3]), (1, .ints .u8 p0.wait.length p0.wait), (2, .ints .u8 p0.got.length p0.got), (3, .vec .row p0.out)])
                              832 (by kernel_rfl) rfl (by kernel_rfl) (⟨tt, trivial⟩) ?_
                          refine Tri.ret ?_
                          repeat (first | refine thenP_ret ?_ | refine blkP_ret ?_ | refine countP_ret ?_ | refine joinP_ret ?_ | refine iterP_ret ?_)
                          refine subP_done ?_
                          refine endP.conv (r' := ⟨.sc (.i .i64 0), [some (.cells [.b p0.server, .i .i64 p0.state, .i .u32 p0.peer, .i .i64 p0.window, .i .i64 p0.most, .i .i64 p0.room, .sl 5 0 p0.wait.length 1 none, .sl 6 0 p0.got.length 1 none, .b ((p1 : Int) == 99), .b p0.e0, .b p0.e1, .b p0.c0, .b p0.c1, .sl 7 0 p0.out.length 1 none]), none, none, none, some (.cells [.ro .u8 p2, .b p3]), some (.ints .u8 p0.wait.length p0.wait), some (.ints .u8 p0.got.length p0.got), some (.vec .row p0.out)]⟩) (by simp only [chC, Fcon, Fcon_1, Fcon_2, Fcon_3, h1, h4, h9, h12, h15, h43, h44, h45, h46, h47, sel_true, sel_false]) ?_
                          exact endP.ret [(0, 0), (4, 4), (1, 5), (2, 6), (3, 7)] TT (by kernel_rfl) (by kernel_rfl) tt
                ·
                  refine Tri.seq_region [] none [6] [0, 1, 2, 3, 4] (TT ∧ True)
                      ([(6, .sc (.i .i64 3))], [(0, chC 1 2 3 p0), (1, .ints .u8 p0.wait.length p0.wait), (2, .ints .u8 p0.got.length p0.got), (3, .vec .row p0.out), (4, .cells [.ro .u8 p2, .b p3])])
                      288 (by kernel_rfl) rfl (by kernel_rfl) (⟨tt, trivial⟩) ?_
                  refine Tri.ret ?_
                  repeat (first | refine thenP_ret ?_ | refine blkP_ret ?_ | refine countP_ret ?_ | refine joinP_ret ?_ | refine iterP_ret ?_)
                  refine subP_done ?_
                  refine endP.conv (r' := ⟨.sc (.i .i64 3), [some (chC 5 6 7 p0), none, none, none, some (.cells [.ro .u8 p2, .b p3]), some (.ints .u8 p0.wait.length p0.wait), some (.ints .u8 p0.got.length p0.got), some (.vec .row p0.out)]⟩) (by simp only [chC, Fcon, Fcon_1, Fcon_2, Fcon_3, h1, h4, h9, h12, h15, h43, sel_true, sel_false]) ?_
                  exact endP.ret [(0, 0), (4, 4), (1, 5), (2, 6), (3, 7)] TT (by kernel_rfl) (by kernel_rfl) tt




noncomputable def FcTakev0 (p0 : Ch) (p1 : List Int) : Ch :=
  (Fcopen_1 p0 (FwByte_1 p1 false) (FwByte_2 p1 false))

noncomputable def FcTakev1 (p0 : Ch) (p1 : List Int) : Ch :=
  (Fcconfirm_1 p0 (FwByte_1 p1 false) (FwByte_2 p1 false))

noncomputable def FcTakev2 (p0 : Ch) (p1 : List Int) : Ch :=
  (Fcon_1 p0 (FwByte p1 false) (FwU32_1 (FwByte_1 p1 false) (FwByte_2 p1 false)) (FwU32_2 (FwByte_1 p1 false) (FwByte_2 p1 false)))

noncomputable def FcTake (p0 : Ch) (p1 : List Int) : Int :=
  (sel ((((p1.length : Nat) : Int) : Int) == 0) 3 (sel (((FwByte p1 false) : Int) == 90) (Fcopen p0 (FwByte_1 p1 false) (FwByte_2 p1 false)) (sel (((FwByte p1 false) : Int) == 91) (Fcconfirm p0 (FwByte_1 p1 false) (FwByte_2 p1 false)) (sel (((FwByte p1 false) : Int) == 92) (sel (!(FwOk (FwU32_1 (FwByte_1 p1 false) (FwByte_2 p1 false)) (FwU32_2 (FwByte_1 p1 false) (FwByte_2 p1 false)))) 3 (sel ((p0.state : Int) != 1) 3 0)) (sel (((FwU32 (FwByte_1 p1 false) (FwByte_2 p1 false)) : Int) != 0) 3 (sel ((p0.state : Int) != 2) 3 (sel p0.c1 3 (Fcon p0 (FwByte p1 false) (FwU32_1 (FwByte_1 p1 false) (FwByte_2 p1 false)) (FwU32_2 (FwByte_1 p1 false) (FwByte_2 p1 false))))))))))

noncomputable def FcTake_1 (p0 : Ch) (p1 : List Int) : Ch :=
  (sel ((((p1.length : Nat) : Int) : Int) == 0) p0 (sel (((FwByte p1 false) : Int) == 90) (FcTakev0 p0 p1) (sel (((FwByte p1 false) : Int) == 91) (FcTakev1 p0 p1) (sel (((FwByte p1 false) : Int) == 92) (sel (!(FwOk (FwU32_1 (FwByte_1 p1 false) (FwByte_2 p1 false)) (FwU32_2 (FwByte_1 p1 false) (FwByte_2 p1 false)))) p0 (sel ((p0.state : Int) != 1) p0 ({p0 with state := 3} : Ch))) (sel (((FwU32 (FwByte_1 p1 false) (FwByte_2 p1 false)) : Int) != 0) p0 (sel ((p0.state : Int) != 2) p0 (sel p0.c1 p0 (FcTakev2 p0 p1))))))))

noncomputable def ScTakec (p0 : Ch) (y0_n1 : Nat) (y0_n2 : Nat) (y0_n3 : Nat) (y0_m1 : Nat) (y0_m2 : Nat) (p1 : List Int) : Option (Prop × Ret) :=
  some ((chLens y0_n1 y0_n2 y0_n3 y0_m1 y0_m2 p0 ∧ (chOk 900000000 p0)), ⟨.sc (.i .i64 (FcTake p0 p1)), [some (chC 4 5 6 (FcTake_1 p0 p1)), none, none, none, some (.ints .u8 ((FcTake_1 p0 p1).wait.length) ((FcTake_1 p0 p1).wait)), some (.ints .u8 ((FcTake_1 p0 p1).got.length) ((FcTake_1 p0 p1).got)), some (.vec .row ((FcTake_1 p0 p1).out))]⟩)

noncomputable def ScTake : List AV → List Blk → Option (Prop × Ret)
  | [.sc (.p 0 0), .sc (.ro .u8 p1)], [.cells [.b y0_server, .i .i64 y0_state, .i .u32 y0_peer, .i .i64 y0_window, .i .i64 y0_most, .i .i64 y0_room, .sl 1 0 y0_n1 1 none, .sl 2 0 y0_n2 1 none, .b y0_ready, .b y0_e0, .b y0_e1, .b y0_c0, .b y0_c1, .sl 3 0 y0_n3 1 none], .ints .u8 y0_m1 y0_wait, .ints .u8 y0_m2 y0_got, .vec .row y0_out] => ScTakec ⟨y0_server, y0_state, y0_peer, y0_window, y0_most, y0_room, y0_wait, y0_got, y0_ready, y0_e0, y0_e1, y0_c0, y0_c1, y0_out⟩ y0_n1 y0_n2 y0_n3 y0_m1 y0_m2 p1
  | _, _ => none

noncomputable def BcTake : Bs := { P := Go.Proofs.Try.prog, G := noG, tab := tabOf [⟨31, 160, [.ro .u8], [], [], ⟨0, 1, SwFrom⟩, false⟩, ⟨32, 208, [.io], [], [160], ⟨1, 0, SwByte⟩, false⟩, ⟨33, 320, [.io, .io], [], [0, 1, 2, 3, 160], ⟨5, 3, Scopen⟩, false⟩, ⟨34, 352, [.io, .io], [], [0, 1, 2, 3, 160], ⟨5, 3, Scconfirm⟩, false⟩, ⟨35, 368, [.io], [], [160], ⟨1, 0, SwU32⟩, false⟩, ⟨36, 400, [.io], [], [160], ⟨1, 0, SwOk⟩, false⟩, ⟨37, 704, [.io, .val, .io], [], [0, 1, 2, 3, 160], ⟨5, 3, Scon⟩, false⟩], n := 69 }

theorem BcTake.ok : BcTake.Ok := ⟨tabOk (P := Go.Proofs.Try.prog) (G := noG) (l := [⟨31, 160, [.ro .u8], [], [], ⟨0, 1, SwFrom⟩, false⟩, ⟨32, 208, [.io], [], [160], ⟨1, 0, SwByte⟩, false⟩, ⟨33, 320, [.io, .io], [], [0, 1, 2, 3, 160], ⟨5, 3, Scopen⟩, false⟩, ⟨34, 352, [.io, .io], [], [0, 1, 2, 3, 160], ⟨5, 3, Scconfirm⟩, false⟩, ⟨35, 368, [.io], [], [160], ⟨1, 0, SwU32⟩, false⟩, ⟨36, 400, [.io], [], [160], ⟨1, 0, SwOk⟩, false⟩, ⟨37, 704, [.io, .val, .io], [], [0, 1, 2, 3, 160], ⟨5, 3, Scon⟩, false⟩]) (And.intro KwFrom (And.intro KwByte (And.intro Kcopen (And.intro Kcconfirm (And.intro KwU32 (And.intro KwOk (And.intro Kcon True.intro))))))), mixed⟩

theorem KcTake : Known Go.Proofs.Try.prog noG 12 ⟨4, 3, ScTake⟩ := by
  refine Known.walk (B := BcTake) (fn := Go.Proofs.Try.f12) BcTake.ok (by kernel_rfl) rfl (by kernel_rfl) (by kernel_rfl) (by decide) (by decide) ?_
  · intro E args ks C r h hC hlen
    simp only at h
    unfold ScTake at h
    split at h
    rotate_left
    · cases h
    rename_i p1 y0_server y0_state y0_peer y0_window y0_most y0_room y0_n1 y0_n2 y0_ready y0_e0 y0_e1 y0_c0 y0_c1 y0_n3 y0_m1 y0_wait y0_m2 y0_got y0_out
    generalize hp0 : (⟨y0_server, y0_state, y0_peer, y0_window, y0_most, y0_room, y0_wait, y0_got, y0_ready, y0_e0, y0_e1, y0_c0, y0_c1, y0_out⟩ : Ch) = p0 at h
    obtain rfl : y0_server = p0.server := by rw [← hp0]
    obtain rfl : y0_state = p0.state := by rw [← hp0]
    obtain rfl : y0_peer = p0.peer := by rw [← hp0]
    obtain rfl : y0_window = p0.window := by rw [← hp0]
    obtain rfl : y0_most = p0.most := by rw [← hp0]
    obtain rfl : y0_room = p0.room := by rw [← hp0]
    obtain rfl : y0_wait = p0.wait := by rw [← hp0]
    obtain rfl : y0_got = p0.got := by rw [← hp0]
    obtain rfl : y0_ready = p0.ready := by rw [← hp0]
    obtain rfl : y0_e0 = p0.e0 := by rw [← hp0]
    obtain rfl : y0_e1 = p0.e1 := by rw [← hp0]
    obtain rfl : y0_c0 = p0.c0 := by rw [← hp0]
    obtain rfl : y0_c1 = p0.c1 := by rw [← hp0]
    obtain rfl : y0_out = p0.out := by rw [← hp0]
    clear hp0
    unfold ScTakec at h
    cases h
    obtain ⟨⟨rfl, rfl, rfl, rfl, rfl⟩, hC⟩ := hC
    simp only [lens] at hlen
    obtain ⟨⟨hq1, hq2⟩, hq3, hq4, ⟨hq5, hq5b⟩, hq6⟩ := id hC
    refine ⟨show 2 ≤ 69 from by decide, ?_⟩
    refine Tri.sub (Sub.of_eq (show _ = ([(0, .sc (.p 0 0)), (1, .sc (.ro .u8 p1))], [(0, chC 1 2 3 p0), (1, .ints .u8 p0.wait.length p0.wait), (2, .ints .u8 p0.got.length p0.got), (3, .vec .row p0.out)]) from rfl)) ?_
    refine Tri.subP ?_
    refine Tri.seq_region [] none [0, 1] [0, 1, 2, 3] (TT ∧ True)
        ([(0, .sc (.p 0 0)), (1, .sc (.ro .u8 p1))], [(0, chC 1 2 3 p0), (1, .ints .u8 p0.wait.length p0.wait), (2, .ints .u8 p0.got.length p0.got), (3, .vec .row p0.out)])
        32 (by kernel_rfl) rfl (by kernel_rfl) (⟨tt, trivial⟩) ?_
    refine Tri.seq ?_
    refine Tri.seq_region [] none [14, 0, 1] [0, 1, 2, 3] (TT ∧ (TT ∧ (TT ∧ (TT ∧ (TT ∧ (TT ∧ (TT ∧ True)))))))
        ([(14, .sc (.b ((((p1.length : Nat) : Int) : Int) == 0))), (0, .sc (.p 0 0)), (1, .sc (.ro .u8 p1))], [(0, chC 1 2 3 p0), (1, .ints .u8 p0.wait.length p0.wait), (2, .ints .u8 p0.got.length p0.got), (3, .vec .row p0.out)])
        144 (by kernel_rfl) rfl (by kernel_rfl) (⟨tt, ⟨tt, ⟨tt, ⟨tt, ⟨tt, ⟨tt, ⟨tt, trivial⟩⟩⟩⟩⟩⟩⟩) ?_
    refine Tri.cond (x := ((((p1.length : Nat) : Int) : Int) == 0)) (by kernel_rfl) (fun h1 => ?_) (fun h1 => ?_)
    ·
      have h1' := eq_true_i h1
      refine Tri.seq_region [] none [4] [0, 1, 2, 3] (TT ∧ True)
          ([(4, .sc (.i .i64 3))], [(0, chC 1 2 3 p0), (1, .ints .u8 p0.wait.length p0.wait), (2, .ints .u8 p0.got.length p0.got), (3, .vec .row p0.out)])
          160 (by kernel_rfl) rfl (by kernel_rfl) (⟨tt, trivial⟩) ?_
      refine Tri.ret ?_
      repeat (first | refine thenP_ret ?_ | refine blkP_ret ?_ | refine countP_ret ?_ | refine joinP_ret ?_ | refine iterP_ret ?_)
      refine subP_done ?_
      refine endP.conv (r' := ⟨.sc (.i .i64 3), [some (chC 4 5 6 p0), none, none, none, some (.ints .u8 p0.wait.length p0.wait), some (.ints .u8 p0.got.length p0.got), some (.vec .row p0.out)]⟩) (by simp only [chC, FcTake, FcTake_1, h1, sel_true, sel_false]) ?_
      exact endP.ret [(0, 0), (1, 4), (2, 5), (3, 6)] TT (by kernel_rfl) (by kernel_rfl) tt
    ·
      have h1' := eq_false_i h1
      refine Tri.skip ?_
      change Tri _ _ _ _ _ _
      refine Tri.seq_region [] none [5, 0] [160, 0, 1, 2, 3] (TT ∧ (((TT ∧ True) ∧ True) ∧ (TT ∧ True)))
          ([(5, .sc (.p 160 0)), (0, .sc (.p 0 0))], [(160, .cells [.ro .u8 p1, .b false]), (0, chC 1 2 3 p0), (1, .ints .u8 p0.wait.length p0.wait), (2, .ints .u8 p0.got.length p0.got), (3, .vec .row p0.out)])
          192 (by kernel_rfl) rfl (by kernel_rfl) (⟨tt, ⟨⟨⟨tt, trivial⟩, trivial⟩, ⟨tt, trivial⟩⟩⟩) ?_
      refine Tri.seq_region [] none [6, 5, 0] [160, 0, 1, 2, 3] (TT ∧ ((TT ∧ True) ∧ (TT ∧ True)))
          ([(6, .sc (.i .u8 (FwByte p1 false))), (5, .sc (.p 160 0)), (0, .sc (.p 0 0))], [(160, .cells [.ro .u8 (FwByte_1 p1 false), .b (FwByte_2 p1 false)]), (0, chC 1 2 3 p0), (1, .ints .u8 p0.wait.length p0.wait), (2, .ints .u8 p0.got.length p0.got), (3, .vec .row p0.out)])
          240 (by kernel_rfl) rfl (by kernel_rfl) (⟨tt, ⟨⟨tt, trivial⟩, ⟨tt, trivial⟩⟩⟩) ?_
      refine Tri.seq_region [] none [19, 6, 5, 0] [160, 0, 1, 2, 3] (TT ∧ True)
          ([(19, .sc (.i .u8 (FwByte p1 false))), (6, .sc (.i .u8 (FwByte p1 false))), (5, .sc (.p 160 0)), (0, .sc (.p 0 0))], [(160, .cells [.ro .u8 (FwByte_1 p1 false), .b (FwByte_2 p1 false)]), (0, chC 1 2 3 p0), (1, .ints .u8 p0.wait.length p0.wait), (2, .ints .u8 p0.got.length p0.got), (3, .vec .row p0.out)])
          256 (by kernel_rfl) rfl (by kernel_rfl) (⟨tt, trivial⟩) ?_
      refine Tri.block ?_
      refine Tri.seq_region [] none [42, 19, 6, 5, 0] [160, 0, 1, 2, 3] (TT ∧ (TT ∧ True))
          ([(42, .sc (.b (((FwByte p1 false) : Int) == 90))), (19, .sc (.i .u8 (FwByte p1 false))), (6, .sc (.i .u8 (FwByte p1 false))), (5, .sc (.p 160 0)), (0, .sc (.p 0 0))], [(160, .cells [.ro .u8 (FwByte_1 p1 false), .b (FwByte_2 p1 false)]), (0, chC 1 2 3 p0), (1, .ints .u8 p0.wait.length p0.wait), (2, .ints .u8 p0.got.length p0.got), (3, .vec .row p0.out)])
          288 (by kernel_rfl) rfl (by kernel_rfl) (⟨tt, ⟨tt, trivial⟩⟩) ?_
      refine Tri.cond (x := (((FwByte p1 false) : Int) == 90)) (by kernel_rfl) (fun h2 => ?_) (fun h2 => ?_)
      ·
        have h2' := eq_true_i h2
        refine Tri.seq_region [] none [4] [322, 321, 320, 0] (TT ∧ (TT ∧ (((True ∧ ((chLens p0.wait.length p0.got.length p0.out.length p0.wait.length p0.got.length p0) ∧ (p0.out.length ≤ 900000000))) ∧ True) ∧ (TT ∧ True))))
            ([(4, .sc (.i .i64 (Fcopen p0 (FwByte_1 p1 false) (FwByte_2 p1 false))))], [(322, .vec .row ((FcTakev0 p0 p1).out)), (321, .ints .u8 ((FcTakev0 p0 p1).got.length) ((FcTakev0 p0 p1).got)), (320, .ints .u8 ((FcTakev0 p0 p1).wait.length) ((FcTakev0 p0 p1).wait)), (0, chC 320 321 322 (FcTakev0 p0 p1))])
            352 (by kernel_rfl) rfl (by kernel_rfl) (⟨tt, ⟨tt, ⟨⟨⟨trivial, ⟨(chLens_self _), (by first | omega | (dsimp only; omega) | decide | (simp only [FcTakev0, FcTakev1, FcTakev2, len_say]; omega))⟩⟩, trivial⟩, ⟨tt, trivial⟩⟩⟩⟩) ?_
        refine Tri.ret ?_
        repeat (first | refine thenP_ret ?_ | refine blkP_ret ?_ | refine countP_ret ?_ | refine joinP_ret ?_ | refine iterP_ret ?_)
        refine subP_done ?_
        refine endP.conv (r' := ⟨.sc (.i .i64 (Fcopen p0 (FwByte_1 p1 false) (FwByte_2 p1 false))), [some (chC 4 5 6 (FcTakev0 p0 p1)), none, none, none, some (.ints .u8 ((FcTakev0 p0 p1).wait.length) ((FcTakev0 p0 p1).wait)), some (.ints .u8 ((FcTakev0 p0 p1).got.length) ((FcTakev0 p0 p1).got)), some (.vec .row ((FcTakev0 p0 p1).out))]⟩) (by simp only [chC, FcTake, FcTake_1, h1, h2, sel_true, sel_false]) ?_
        exact endP.ret [(0, 0), (320, 4), (321, 5), (322, 6)] TT (by kernel_rfl) (by kernel_rfl) tt
      ·
        have h2' := eq_false_i h2
        refine Tri.seq_region [] none [47, 19, 6, 5, 0] [160, 0, 1, 2, 3] (TT ∧ (TT ∧ True))
            ([(47, .sc (.b (((FwByte p1 false) : Int) == 91))), (19, .sc (.i .u8 (FwByte p1 false))), (6, .sc (.i .u8 (FwByte p1 false))), (5, .sc (.p 160 0)), (0, .sc (.p 0 0))], [(160, .cells [.ro .u8 (FwByte_1 p1 false), .b (FwByte_2 p1 false)]), (0, chC 1 2 3 p0), (1, .ints .u8 p0.wait.length p0.wait), (2, .ints .u8 p0.got.length p0.got), (3, .vec .row p0.out)])
            320 (by kernel_rfl) rfl (by kernel_rfl) (⟨tt, ⟨tt, trivial⟩⟩) ?_
        refine Tri.cond (x := (((FwByte p1 false) : Int) == 91)) (by kernel_rfl) (fun h3 => ?_) (fun h3 => ?_)
        ·
          have h3' := eq_true_i h3
          refine Tri.seq_region [] none [4] [354, 353, 352, 0] (TT ∧ (TT ∧ (((True ∧ ((chLens p0.wait.length p0.got.length p0.out.length p0.wait.length p0.got.length p0) ∧ (p0.out.length ≤ 900000000))) ∧ True) ∧ (TT ∧ True))))
              ([(4, .sc (.i .i64 (Fcconfirm p0 (FwByte_1 p1 false) (FwByte_2 p1 false))))], [(354, .vec .row ((FcTakev1 p0 p1).out)), (353, .ints .u8 ((FcTakev1 p0 p1).got.length) ((FcTakev1 p0 p1).got)), (352, .ints .u8 ((FcTakev1 p0 p1).wait.length) ((FcTakev1 p0 p1).wait)), (0, chC 352 353 354 (FcTakev1 p0 p1))])
              384 (by kernel_rfl) rfl (by kernel_rfl) (⟨tt, ⟨tt, ⟨⟨⟨trivial, ⟨(chLens_self _), (by first | omega | (dsimp only; omega) | decide | (simp only [FcTakev0, FcTakev1, FcTakev2, len_say]; omega))⟩⟩, trivial⟩, ⟨tt, trivial⟩⟩⟩⟩) ?_
          refine Tri.ret ?_
          repeat (first | refine thenP_ret ?_ | refine blkP_ret ?_ | refine countP_ret ?_ | refine joinP_ret ?_ | refine iterP_ret ?_)
          refine subP_done ?_
          refine endP.conv (r' := ⟨.sc (.i .i64 (Fcconfirm p0 (FwByte_1 p1 false) (FwByte_2 p1 false))), [some (chC 4 5 6 (FcTakev1 p0 p1)), none, none, none, some (.ints .u8 ((FcTakev1 p0 p1).wait.length) ((FcTakev1 p0 p1).wait)), some (.ints .u8 ((FcTakev1 p0 p1).got.length) ((FcTakev1 p0 p1).got)), some (.vec .row ((FcTakev1 p0 p1).out))]⟩) (by simp only [chC, FcTake, FcTake_1, h1, h2, h3, sel_true, sel_false]) ?_
          exact endP.ret [(0, 0), (352, 4), (353, 5), (354, 6)] TT (by kernel_rfl) (by kernel_rfl) tt
        ·
          have h3' := eq_false_i h3
          refine Tri.seq_region [] none [52, 6, 5, 0] [160, 0, 1, 2, 3] (TT ∧ (TT ∧ True))
              ([(52, .sc (.b (((FwByte p1 false) : Int) == 92))), (6, .sc (.i .u8 (FwByte p1 false))), (5, .sc (.p 160 0)), (0, .sc (.p 0 0))], [(160, .cells [.ro .u8 (FwByte_1 p1 false), .b (FwByte_2 p1 false)]), (0, chC 1 2 3 p0), (1, .ints .u8 p0.wait.length p0.wait), (2, .ints .u8 p0.got.length p0.got), (3, .vec .row p0.out)])
              352 (by kernel_rfl) rfl (by kernel_rfl) (⟨tt, ⟨tt, trivial⟩⟩) ?_
          refine Tri.cond (x := (((FwByte p1 false) : Int) == 92)) (by kernel_rfl) (fun h4 => ?_) (fun h4 => ?_)
          ·
            have h4' := eq_true_i h4
            refine Tri.seq ?_
            refine Tri.seq_region [] none [5, 0] [160, 0, 1, 2, 3] (TT ∧ ((TT ∧ True) ∧ True))
                ([(5, .sc (.p 160 0)), (0, .sc (.p 0 0))], [(160, .cells [.ro .u8 (FwU32_1 (FwByte_1 p1 false) (FwByte_2 p1 false)), .b (FwU32_2 (FwByte_1 p1 false) (FwByte_2 p1 false))]), (0, chC 1 2 3 p0), (1, .ints .u8 p0.wait.length p0.wait), (2, .ints .u8 p0.got.length p0.got), (3, .vec .row p0.out)])
                384 (by kernel_rfl) rfl (by kernel_rfl) (⟨tt, ⟨⟨tt, trivial⟩, trivial⟩⟩) ?_
            refine Tri.split (!(FwOk (FwU32_1 (FwByte_1 p1 false) (FwByte_2 p1 false)) (FwU32_2 (FwByte_1 p1 false) (FwByte_2 p1 false)))) (fun h5 => ?_) (fun h5 => ?_)
            ·
              refine Tri.seq_region [(59, qb true)] none [65, 0] [0, 1, 2, 3] (TT ∧ ((TT ∧ True) ∧ (TT ∧ ((True ∧ ((!(FwOk (FwU32_1 (FwByte_1 p1 false) (FwByte_2 p1 false)) (FwU32_2 (FwByte_1 p1 false) (FwByte_2 p1 false)))) = true)) ∧ (TT ∧ (TT ∧ (TT ∧ (TT ∧ (TT ∧ (TT ∧ True))))))))))
                  ([(65, .sc (.b true)), (0, .sc (.p 0 0))], [(0, chC 1 2 3 p0), (1, .ints .u8 p0.wait.length p0.wait), (2, .ints .u8 p0.got.length p0.got), (3, .vec .row p0.out)])
                  544 (by kernel_rfl) rfl (by kernel_rfl) (⟨tt, ⟨⟨tt, trivial⟩, ⟨tt, ⟨⟨trivial, (h5)⟩, ⟨tt, ⟨tt, ⟨tt, ⟨tt, ⟨tt, ⟨tt, trivial⟩⟩⟩⟩⟩⟩⟩⟩⟩⟩) ?_
              refine Tri.cond_true (by kernel_rfl) ?_
              refine Tri.seq_region [] none [4] [0, 1, 2, 3] (TT ∧ True)
                  ([(4, .sc (.i .i64 3))], [(0, chC 1 2 3 p0), (1, .ints .u8 p0.wait.length p0.wait), (2, .ints .u8 p0.got.length p0.got), (3, .vec .row p0.out)])
                  560 (by kernel_rfl) rfl (by kernel_rfl) (⟨tt, trivial⟩) ?_
              refine Tri.ret ?_
              repeat (first | refine thenP_ret ?_ | refine blkP_ret ?_ | refine countP_ret ?_ | refine joinP_ret ?_ | refine iterP_ret ?_)
              refine subP_done ?_
              refine endP.conv (r' := ⟨.sc (.i .i64 3), [some (chC 4 5 6 p0), none, none, none, some (.ints .u8 p0.wait.length p0.wait), some (.ints .u8 p0.got.length p0.got), some (.vec .row p0.out)]⟩) (by simp only [chC, FcTake, FcTake_1, h1, h2, h3, h4, h5, sel_true, sel_false]) ?_
              exact endP.ret [(0, 0), (1, 4), (2, 5), (3, 6)] TT (by kernel_rfl) (by kernel_rfl) tt
            ·
              refine Tri.seq_region [(59, qb false)] none [65, 0] [0, 1, 2, 3] (TT ∧ ((TT ∧ True) ∧ (TT ∧ ((True ∧ ((!(FwOk (FwU32_1 (FwByte_1 p1 false) (FwByte_2 p1 false)) (FwU32_2 (FwByte_1 p1 false) (FwByte_2 p1 false)))) = false)) ∧ (TT ∧ (TT ∧ (TT ∧ (((1 < 14) ∧ True) ∧ (TT ∧ (TT ∧ True))))))))))
                  ([(65, .sc (.b ((p0.state : Int) != 1))), (0, .sc (.p 0 0))], [(0, chC 1 2 3 p0), (1, .ints .u8 p0.wait.length p0.wait), (2, .ints .u8 p0.got.length p0.got), (3, .vec .row p0.out)])
                  544 (by kernel_rfl) rfl (by kernel_rfl) (⟨tt, ⟨⟨tt, trivial⟩, ⟨tt, ⟨⟨trivial, (h5)⟩, ⟨tt, ⟨tt, ⟨tt, ⟨⟨(by first | omega | (dsimp only; omega) | decide | (simp only [FcTakev0, FcTakev1, FcTakev2, len_say]; omega)), trivial⟩, ⟨tt, ⟨tt, trivial⟩⟩⟩⟩⟩⟩⟩⟩⟩⟩) ?_
              refine Tri.cond (x := ((p0.state : Int) != 1)) (by kernel_rfl) (fun h6 => ?_) (fun h6 => ?_)
              ·
                have h6' := ne_true_i h6
                refine Tri.seq_region [] none [4] [0, 1, 2, 3] (TT ∧ True)
                    ([(4, .sc (.i .i64 3))], [(0, chC 1 2 3 p0), (1, .ints .u8 p0.wait.length p0.wait), (2, .ints .u8 p0.got.length p0.got), (3, .vec .row p0.out)])
                    560 (by kernel_rfl) rfl (by kernel_rfl) (⟨tt, trivial⟩) ?_
                refine Tri.ret ?_
                repeat (first | refine thenP_ret ?_ | refine blkP_ret ?_ | refine countP_ret ?_ | refine joinP_ret ?_ | refine iterP_ret ?_)
                refine subP_done ?_
                refine endP.conv (r' := ⟨.sc (.i .i64 3), [some (chC 4 5 6 p0), none, none, none, some (.ints .u8 p0.wait.length p0.wait), some (.ints .u8 p0.got.length p0.got), some (.vec .row p0.out)]⟩) (by simp only [chC, FcTake, FcTake_1, h1, h2, h3, h4, h5, h6, sel_true, sel_false]) ?_
                exact endP.ret [(0, 0), (1, 4), (2, 5), (3, 6)] TT (by kernel_rfl) (by kernel_rfl) tt
              ·
                have h6' := ne_false_i h6
                refine Tri.skip ?_
                change Tri _ _ _ _ _ _
                refine Tri.seq_region [] none [] [0, 1, 2, 3] (TT ∧ (TT ∧ (TT ∧ ((((1 < 14) ∧ (1 = 1)) ∧ True) ∧ True))))
                    ([], [(0, .cells [.b p0.server, .i .i64 3, .i .u32 p0.peer, .i .i64 p0.window, .i .i64 p0.most, .i .i64 p0.room, .sl 1 0 p0.wait.length 1 none, .sl 2 0 p0.got.length 1 none, .b p0.ready, .b p0.e0, .b p0.e1, .b p0.c0, .b p0.c1, .sl 3 0 p0.out.length 1 none]), (1, .ints .u8 p0.wait.length p0.wait), (2, .ints .u8 p0.got.length p0.got), (3, .vec .row p0.out)])
                    608 (by kernel_rfl) rfl (by kernel_rfl) (⟨tt, ⟨tt, ⟨tt, ⟨⟨⟨(by first | omega | (dsimp only; omega) | decide | (simp only [FcTakev0, FcTakev1, FcTakev2, len_say]; omega)), (rfl)⟩, trivial⟩, trivial⟩⟩⟩⟩) ?_
                refine Tri.seq_region [] none [4] [0, 1, 2, 3] (TT ∧ True)
                    ([(4, .sc (.i .i64 0))], [(0, .cells [.b p0.server, .i .i64 3, .i .u32 p0.peer, .i .i64 p0.window, .i .i64 p0.most, .i .i64 p0.room, .sl 1 0 p0.wait.length 1 none, .sl 2 0 p0.got.length 1 none, .b p0.ready, .b p0.e0, .b p0.e1, .b p0.c0, .b p0.c1, .sl 3 0 p0.out.length 1 none]), (1, .ints .u8 p0.wait.length p0.wait), (2, .ints .u8 p0.got.length p0.got), (3, .vec .row p0.out)])
                    624 (by kernel_rfl) rfl (by kernel_rfl) (⟨tt, trivial⟩) ?_
                refine Tri.ret ?_
                repeat (first | refine thenP_ret ?_ | refine blkP_ret ?_ | refine countP_ret ?_ | refine joinP_ret ?_ | refine iterP_ret ?_)
                refine subP_done ?_
                refine endP.conv (r' := ⟨.sc (.i .i64 0), [some (.cells [.b p0.server, .i .i64 3, .i .u32 p0.peer, .i .i64 p0.window, .i .i64 p0.most, .i .i64 p0.room, .sl 4 0 p0.wait.length 1 none, .sl 5 0 p0.got.length 1 none, .b p0.ready, .b p0.e0, .b p0.e1, .b p0.c0, .b p0.c1, .sl 6 0 p0.out.length 1 none]), none, none, none, some (.ints .u8 p0.wait.length p0.wait), some (.ints .u8 p0.got.length p0.got), some (.vec .row p0.out)]⟩) (by simp only [chC, FcTake, FcTake_1, h1, h2, h3, h4, h5, h6, sel_true, sel_false]) ?_
                exact endP.ret [(0, 0), (1, 4), (2, 5), (3, 6)] TT (by kernel_rfl) (by kernel_rfl) tt
          ·
            have h4' := eq_false_i h4
            refine Tri.seq ?_
            refine Tri.seq_region [] none [7, 6, 5, 0] [160, 0, 1, 2, 3] (TT ∧ ((TT ∧ True) ∧ (TT ∧ True)))
                ([(7, .sc (.i .u32 (FwU32 (FwByte_1 p1 false) (FwByte_2 p1 false)))), (6, .sc (.i .u8 (FwByte p1 false))), (5, .sc (.p 160 0)), (0, .sc (.p 0 0))], [(160, .cells [.ro .u8 (FwU32_1 (FwByte_1 p1 false) (FwByte_2 p1 false)), .b (FwU32_2 (FwByte_1 p1 false) (FwByte_2 p1 false))]), (0, chC 1 2 3 p0), (1, .ints .u8 p0.wait.length p0.wait), (2, .ints .u8 p0.got.length p0.got), (3, .vec .row p0.out)])
                400 (by kernel_rfl) rfl (by kernel_rfl) (⟨tt, ⟨⟨tt, trivial⟩, ⟨tt, trivial⟩⟩⟩) ?_
            refine Tri.split (((FwU32 (FwByte_1 p1 false) (FwByte_2 p1 false)) : Int) != 0) (fun h7 => ?_) (fun h7 => ?_)
            ·
              have h7' := ne_true_i h7
              refine Tri.seq_region [(24, qb true)] none [37, 6, 5, 0] [160, 0, 1, 2, 3] (TT ∧ (TT ∧ ((True ∧ ((((FwU32 (FwByte_1 p1 false) (FwByte_2 p1 false)) : Int) != 0) = true)) ∧ (TT ∧ (TT ∧ (TT ∧ (TT ∧ (TT ∧ (TT ∧ (TT ∧ (TT ∧ (TT ∧ (TT ∧ (TT ∧ (TT ∧ (TT ∧ True))))))))))))))))
                  ([(37, .sc (.b true)), (6, .sc (.i .u8 (FwByte p1 false))), (5, .sc (.p 160 0)), (0, .sc (.p 0 0))], [(160, .cells [.ro .u8 (FwU32_1 (FwByte_1 p1 false) (FwByte_2 p1 false)), .b (FwU32_2 (FwByte_1 p1 false) (FwByte_2 p1 false))]), (0, chC 1 2 3 p0), (1, .ints .u8 p0.wait.length p0.wait), (2, .ints .u8 p0.got.length p0.got), (3, .vec .row p0.out)])
                  656 (by kernel_rfl) rfl (by kernel_rfl) (⟨tt, ⟨tt, ⟨⟨trivial, (h7)⟩, ⟨tt, ⟨tt, ⟨tt, ⟨tt, ⟨tt, ⟨tt, ⟨tt, ⟨tt, ⟨tt, ⟨tt, ⟨tt, ⟨tt, ⟨tt, trivial⟩⟩⟩⟩⟩⟩⟩⟩⟩⟩⟩⟩⟩⟩⟩⟩) ?_
              refine Tri.cond_true (by kernel_rfl) ?_
              refine Tri.seq_region [] none [4] [0, 1, 2, 3] (TT ∧ True)
                  ([(4, .sc (.i .i64 3))], [(0, chC 1 2 3 p0), (1, .ints .u8 p0.wait.length p0.wait), (2, .ints .u8 p0.got.length p0.got), (3, .vec .row p0.out)])
                  672 (by kernel_rfl) rfl (by kernel_rfl) (⟨tt, trivial⟩) ?_
              refine Tri.ret ?_
              repeat (first | refine thenP_ret ?_ | refine blkP_ret ?_ | refine countP_ret ?_ | refine joinP_ret ?_ | refine iterP_ret ?_)
              refine subP_done ?_
              refine endP.conv (r' := ⟨.sc (.i .i64 3), [some (chC 4 5 6 p0), none, none, none, some (.ints .u8 p0.wait.length p0.wait), some (.ints .u8 p0.got.length p0.got), some (.vec .row p0.out)]⟩) (by simp only [chC, FcTake, FcTake_1, h1, h2, h3, h4, h7, sel_true, sel_false]) ?_
              exact endP.ret [(0, 0), (1, 4), (2, 5), (3, 6)] TT (by kernel_rfl) (by kernel_rfl) tt
            ·
              have h7' := ne_false_i h7
              refine Tri.split ((p0.state : Int) != 2) (fun h8 => ?_) (fun h8 => ?_)
              ·
                have h8' := ne_true_i h8
                refine Tri.seq_region [(24, qb false), (31, qb true)] none [37, 6, 5, 0] [160, 0, 1, 2, 3] (TT ∧ (TT ∧ ((True ∧ ((((FwU32 (FwByte_1 p1 false) (FwByte_2 p1 false)) : Int) != 0) = false)) ∧ (TT ∧ (TT ∧ (TT ∧ (((1 < 14) ∧ True) ∧ (TT ∧ (TT ∧ ((True ∧ (((p0.state : Int) != 2) = true)) ∧ (TT ∧ (TT ∧ (TT ∧ (TT ∧ (TT ∧ (TT ∧ True))))))))))))))))
                    ([(37, .sc (.b true)), (6, .sc (.i .u8 (FwByte p1 false))), (5, .sc (.p 160 0)), (0, .sc (.p 0 0))], [(160, .cells [.ro .u8 (FwU32_1 (FwByte_1 p1 false) (FwByte_2 p1 false)), .b (FwU32_2 (FwByte_1 p1 false) (FwByte_2 p1 false))]), (0, chC 1 2 3 p0), (1, .ints .u8 p0.wait.length p0.wait), (2, .ints .u8 p0.got.length p0.got), (3, .vec .row p0.out)])
                    656 (by kernel_rfl) rfl (by kernel_rfl) (⟨tt, ⟨tt, ⟨⟨trivial, (h7)⟩, ⟨tt, ⟨tt, ⟨tt, ⟨⟨(by first | omega | (dsimp only; omega) | decide | (simp only [FcTakev0, FcTakev1, FcTakev2, len_say]; omega)), trivial⟩, ⟨tt, ⟨tt, ⟨⟨trivial, (h8)⟩, ⟨tt, ⟨tt, ⟨tt, ⟨tt, ⟨tt, ⟨tt, trivial⟩⟩⟩⟩⟩⟩⟩⟩⟩⟩⟩⟩⟩⟩⟩⟩) ?_
                refine Tri.cond_true (by kernel_rfl) ?_
                refine Tri.seq_region [] none [4] [0, 1, 2, 3] (TT ∧ True)
                    ([(4, .sc (.i .i64 3))], [(0, chC 1 2 3 p0), (1, .ints .u8 p0.wait.length p0.wait), (2, .ints .u8 p0.got.length p0.got), (3, .vec .row p0.out)])
                    672 (by kernel_rfl) rfl (by kernel_rfl) (⟨tt, trivial⟩) ?_
                refine Tri.ret ?_
                repeat (first | refine thenP_ret ?_ | refine blkP_ret ?_ | refine countP_ret ?_ | refine joinP_ret ?_ | refine iterP_ret ?_)
                refine subP_done ?_
                refine endP.conv (r' := ⟨.sc (.i .i64 3), [some (chC 4 5 6 p0), none, none, none, some (.ints .u8 p0.wait.length p0.wait), some (.ints .u8 p0.got.length p0.got), some (.vec .row p0.out)]⟩) (by simp only [chC, FcTake, FcTake_1, h1, h2, h3, h4, h7, h8, sel_true, sel_false]) ?_
                exact endP.ret [(0, 0), (1, 4), (2, 5), (3, 6)] TT (by kernel_rfl) (by kernel_rfl) tt
              ·
                have h8' := ne_false_i h8
                refine Tri.seq_region [(24, qb false), (31, qb false)] none [37, 6, 5, 0] [160, 0, 1, 2, 3] (TT ∧ (TT ∧ ((True ∧ ((((FwU32 (FwByte_1 p1 false) (FwByte_2 p1 false)) : Int) != 0) = false)) ∧ (TT ∧ (TT ∧ (TT ∧ (((1 < 14) ∧ True) ∧ (TT ∧ (TT ∧ ((True ∧ (((p0.state : Int) != 2) = false)) ∧ (TT ∧ (TT ∧ (TT ∧ ((((0 : Int) ≤ 1 ∧ 1 < ((2 : Nat) : Int)) ∧ True) ∧ (((12 < 14) ∧ True) ∧ (TT ∧ True))))))))))))))))
                    ([(37, .sc (.b p0.c1)), (6, .sc (.i .u8 (FwByte p1 false))), (5, .sc (.p 160 0)), (0, .sc (.p 0 0))], [(160, .cells [.ro .u8 (FwU32_1 (FwByte_1 p1 false) (FwByte_2 p1 false)), .b (FwU32_2 (FwByte_1 p1 false) (FwByte_2 p1 false))]), (0, chC 1 2 3 p0), (1, .ints .u8 p0.wait.length p0.wait), (2, .ints .u8 p0.got.length p0.got), (3, .vec .row p0.out)])
                    656 (by kernel_rfl) rfl (by kernel_rfl) (⟨tt, ⟨tt, ⟨⟨trivial, (h7)⟩, ⟨tt, ⟨tt, ⟨tt, ⟨⟨(by first | omega | (dsimp only; omega) | decide | (simp only [FcTakev0, FcTakev1, FcTakev2, len_say]; omega)), trivial⟩, ⟨tt, ⟨tt, ⟨⟨trivial, (h8)⟩, ⟨tt, ⟨tt, ⟨tt, ⟨⟨(by first | omega | (dsimp only; omega) | decide | (simp only [FcTakev0, FcTakev1, FcTakev2, len_say]; omega)), trivial⟩, ⟨⟨(by first | omega | (dsimp only; omega) | decide | (simp only [FcTakev0, FcTakev1, FcTakev2, len_say]; omega)), trivial⟩, ⟨tt, trivial⟩⟩⟩⟩⟩⟩⟩⟩⟩⟩⟩⟩⟩⟩⟩⟩) ?_
                refine Tri.cond (x := p0.c1) (by kernel_rfl) (fun h9 => ?_) (fun h9 => ?_)
                ·
                  refine Tri.seq_region [] none [4] [0, 1, 2, 3] (TT ∧ True)
                      ([(4, .sc (.i .i64 3))], [(0, chC 1 2 3 p0), (1, .ints .u8 p0.wait.length p0.wait), (2, .ints .u8 p0.got.length p0.got), (3, .vec .row p0.out)])
                      672 (by kernel_rfl) rfl (by kernel_rfl) (⟨tt, trivial⟩) ?_
                  refine Tri.ret ?_
                  repeat (first | refine thenP_ret ?_ | refine blkP_ret ?_ | refine countP_ret ?_ | refine joinP_ret ?_ | refine iterP_ret ?_)
                  refine subP_done ?_
                  refine endP.conv (r' := ⟨.sc (.i .i64 3), [some (chC 4 5 6 p0), none, none, none, some (.ints .u8 p0.wait.length p0.wait), some (.ints .u8 p0.got.length p0.got), some (.vec .row p0.out)]⟩) (by simp only [chC, FcTake, FcTake_1, h1, h2, h3, h4, h7, h8, h9, sel_true, sel_false]) ?_
                  exact endP.ret [(0, 0), (1, 4), (2, 5), (3, 6)] TT (by kernel_rfl) (by kernel_rfl) tt
                ·
                  refine Tri.skip ?_
                  change Tri _ _ _ _ _ _
                  refine Tri.seq_region [] none [4] [706, 705, 704, 0] (TT ∧ (TT ∧ (TT ∧ (((True ∧ ((chLens p0.wait.length p0.got.length p0.out.length p0.wait.length p0.got.length p0) ∧ (chOk 900000000 p0 ∧ 0 < p0.most))) ∧ True) ∧ (TT ∧ True)))))
                      ([(4, .sc (.i .i64 (Fcon p0 (FwByte p1 false) (FwU32_1 (FwByte_1 p1 false) (FwByte_2 p1 false)) (FwU32_2 (FwByte_1 p1 false) (FwByte_2 p1 false)))))], [(706, .vec .row ((FcTakev2 p0 p1).out)), (705, .ints .u8 ((FcTakev2 p0 p1).got.length) ((FcTakev2 p0 p1).got)), (704, .ints .u8 ((FcTakev2 p0 p1).wait.length) ((FcTakev2 p0 p1).wait)), (0, chC 704 705 706 (FcTakev2 p0 p1))])
                      736 (by kernel_rfl) rfl (by kernel_rfl) (⟨tt, ⟨tt, ⟨tt, ⟨⟨⟨trivial, ⟨(chLens_self _), (⟨hC, hq6 (by assumption)⟩)⟩⟩, trivial⟩, ⟨tt, trivial⟩⟩⟩⟩⟩) ?_
                  refine Tri.ret ?_
                  repeat (first | refine thenP_ret ?_ | refine blkP_ret ?_ | refine countP_ret ?_ | refine joinP_ret ?_ | refine iterP_ret ?_)
                  refine subP_done ?_
                  refine endP.conv (r' := ⟨.sc (.i .i64 (Fcon p0 (FwByte p1 false) (FwU32_1 (FwByte_1 p1 false) (FwByte_2 p1 false)) (FwU32_2 (FwByte_1 p1 false) (FwByte_2 p1 false)))), [some (chC 4 5 6 (FcTakev2 p0 p1)), none, none, none, some (.ints .u8 ((FcTakev2 p0 p1).wait.length) ((FcTakev2 p0 p1).wait)), some (.ints .u8 ((FcTakev2 p0 p1).got.length) ((FcTakev2 p0 p1).got)), some (.vec .row ((FcTakev2 p0 p1).out))]⟩) (by simp only [chC, FcTake, FcTake_1, h1, h2, h3, h4, h7, h8, h9, sel_true, sel_false]) ?_
                  exact endP.ret [(0, 0), (704, 4), (705, 5), (706, 6)] TT (by kernel_rfl) (by kernel_rfl) tt



end Go.Vm
