/- For every input that the row lets in, the law KexReplies returns true and leaves its arguments as they were; the listed variables read as the program's text lays them (the card ties them to it). (pack3) -/
import Derived.Test.YtlmojjnpbpcbcaaGreatDoorRows
import Derived.Test.YtlmojjnpbpcbcaaGreatDoorCards
import Derived.Test.YtlmojjnpbpcbcaaGreatDoorTie
import Derived.Test.YtlmojjnpbpcbcaaGreatDoorQre
import Derived.SizedLaws
import Derived.SliceStrings
import Derived.SevenTiedAt
import Derived.LaidMore
import Derived.Lay
import Derived.Stop.Joined
import Derived.WalkKit
import Derived.ProofKit
import Derived.OpenShut
import Derived.ShutString
import Derived.ChangeOld
import Derived.Below
import Derived.DataShut
namespace Go.Proofs.YtlmojjnpbpcbcaaGreatDoor.kexReplies
open Go Go.ChangeShapes Go.WideShapes Go.ChangeAt Go.RowKit
open Go.ChangeMaps (open_string shut_string)
set_option linter.unusedVariables false

theorem own : ownKnob Tryz.prog.godebug = none := by kernel_rfl
theorem laidOut : laidOutB Tryz.prog = true := by kernel_rfl

theorem walk (v0 : Value) (t0a t0b : ByteArray) (t0c t0d : List Int) (t0e t0f t0g : ByteArray) (t0h : List Int) (a1 : ByteArray) (a2 : Option Addr) (len2 cap2 : Nat) (z2 : List Int) (w : World) (hG : Go.Vm.GlobsOk (Go.Vm.E0 Tryz.prog w) Go.Vm.gD) (w0 : Go.Vm.RowT w v0 t0a t0b t0c t0d t0e t0f t0g t0h) (s0 : Go.Vm.BigT t0a t0b t0c t0d t0e t0f t0g t0h) (w1 : a1.size ≤ maxLen) (s1 : a1.size ≤ 140737488351232) (w2 : Go.Vm.RowI .u8 w a2 len2 cap2 z2) (s2 : z2.length ≤ 140737488351232) :
    Calls Tryz.prog 3 #[v0, .string a1, .slice a2 len2 cap2] w fun e w' => e = .returned (.bool true) ∧ Below w.heap.size w w' := by
  have h0 := Go.Vm.talk_fits w0
  have h2 := w2.fits len2
  exact Go.Vm.calls_trueG Go.Vm.KkKexReplies (by kernel_rfl) w hG [.agg [.s t0a, .s t0b, .ro .u8 t0c, .ro .u8 t0d, .s t0e, .s t0f, .s t0g, .ro .u8 t0h], .sc (.s a1), .sc (.ro .u8 (z2.take len2))] _ _ _ ⟨Go.Vm.talk_row w0, rfl, Go.Vm.ro_row w2, trivial⟩ rfl rfl (⟨s0, Go.Vm.dg_row h0⟩) (Go.Vm.replies_true s0 (Go.Vm.dg_row h0) (Go.Vm.dg_row h2))

set_option maxRecDepth 100000 in
theorem lifted (os : Os) (started : os.Started) (H : Type) (enc : TypeId × Value → H) :
    ReturnsInHanded {} Tryz.checked os 3 .any (fun w args => (Rows.kexRepliesSpec.pre enc Tryz.prog Tryz.f3 [] false w args ∧ laidMetH Tryz.prog Go.Vm.laidW w) ∧ sizedMet enc Tryz.prog Tryz.f3 (OpenSpec.ofChange Rows.kexRepliesSpec) false w args)
      (Rows.kexRepliesSpec.post enc Tryz.prog Tryz.f3 false true false false) := by
  refine returnsInHanded_of_change_and (C := Tryz.checked) (X := fun w _ => laidMetH Tryz.prog Go.Vm.laidW w) (fun _ _ _ hh h => h.of_heap hh) own started (by kernel_rfl) Tryz.func3
    (ChangeSpec.witness_shaped (enc := enc) (C := Tryz.checked) (os := os) (X := fun w _ => laidMetH Tryz.prog Go.Vm.laidW w) false (World.laidAll Tryz.prog os Go.Vm.laidW) #[.agg #[.string ByteArray.empty, .string ByteArray.empty, .slice none 0 0, .slice none 0 0, .string ByteArray.empty, .string ByteArray.empty, .string ByteArray.empty, .slice none 0 0], .string ByteArray.empty, .slice none 0 0] 8 (World.laidAll_os _ _ _) (World.shaped_of_ZipB (by kernel_rfl) (by kernel_rfl)) (by kernel_rfl) (by kernel_rfl) (by kernel_rfl)
      (by rw [MakeChecks.laidMetH_plain _ _ _ (by kernel_rfl)]; exact laidMet_laidAll _ (by kernel_rfl) (by kernel_rfl))) ?_
  intro W base args ds gs before hval0 hW _ hwt hL _
  have hval : ∀ (j : Nat) t v, Tryz.f3.params[j]? = some t → args[j]? = some v → Value.okWide Tryz.prog W .any base t v := hval0
  have hW' := hW
  obtain ⟨p, q, hA0, hV, rfl, hfz, hnd⟩ := hW
  have hA : DataW.TrodAll enc Tryz.prog W 0 (fun _ => true) true Tryz.f3.params.toList args.toList ds p := hA0
  rw [Tryz.params3] at hA hval
  obtain ⟨v0, vs0, d0, ds0, p0, q0, hargs, rfl, rfl, h0, r0⟩ := trodAll_cons hA
  obtain ⟨v1, vs1, d1, ds1, p1, q1, rfl, rfl, rfl, h1, r1⟩ := trodAll_cons r0
  obtain ⟨v2, vs2, d2, ds2, p2, q2, rfl, rfl, rfl, h2, r2⟩ := trodAll_cons r1
  obtain ⟨rfl, rfl, rfl⟩ := trodAll_nil r2
  obtain rfl : args = #[v0, v1, v2] := by cases args; simp_all
  obtain ⟨rfl, rfl⟩ := trodVars_none hV
  have k0 := h0
  have lt0 : ∀ x ∈ p0, x.block < W.heap.size := by obtain ⟨m, hm⟩ := k0; exact DataW.trod_lt m _ _ _ hm
  have q0 : ∀ n ∈ d0.weights Tryz.prog 26, n ≤ reachBytes := fun n hn => of_decide_eq_true (List.all_eq_true.1 hwt n (DataW.weights_mem_each (j := 0) (t := 26) (by kernel_rfl) rfl n hn))
  obtain ⟨t0a, t0b, t0c, t0d, t0e, t0f, t0g, t0h, w0, s0⟩ := Go.Vm.open_talk Tryz.underlying26 (by kernel_rfl) Tryz.underlying22 Tryz.underlying24 Tryz.underlying9 Tryz.underlying23 Tryz.underlying5 (by kernel_rfl) (by kernel_rfl) (by kernel_rfl) (by kernel_rfl) (by kernel_rfl) (of_decide_eq_true (by kernel_rfl)) (by obtain ⟨cs, e1, e2⟩ := Go.Vm.okWide_struct Tryz.underlying26 (hval 0 26 v0 rfl rfl); exact ⟨cs, e1, e2.trans (by kernel_rfl)⟩) h0 q0
  have q1 : ∀ n ∈ d1.weights Tryz.prog 9, n ≤ reachBytes := fun n hn => of_decide_eq_true (List.all_eq_true.1 hwt n (DataW.weights_mem_each (j := 1) (t := 9) (by kernel_rfl) rfl n hn))
  obtain ⟨a1, rfl, rfl, rfl, w1⟩ := open_string Tryz.underlying9 (hval 1 9 v1 rfl rfl) h1
  have s1 : a1.size ≤ 140737488351232 := q1 _ (List.mem_singleton.2 rfl)
  obtain ⟨a2, len2, cap2, rfl⟩ := okWide_slice Tryz.underlying23 (hval 2 23 v2 rfl rfl)
  have k2 := h2
  have lt2 : ∀ x ∈ p2, x.block < W.heap.size := by obtain ⟨m, hm⟩ := k2; exact DataW.trod_lt m _ _ _ hm
  have q2 : ∀ n ∈ d2.weights Tryz.prog 23, n ≤ reachBytes := fun n hn => of_decide_eq_true (List.all_eq_true.1 hwt n (DataW.weights_mem_each (j := 2) (t := 23) (by kernel_rfl) rfl n hn))
  obtain ⟨z2, w2, s2⟩ : ∃ zs, Go.Vm.RowI .u8 W a2 len2 cap2 zs ∧ zs.length ≤ 140737488351232 := by
    obtain ⟨fuel, hf⟩ := h2
    rcases open_ints Tryz.underlying23 Tryz.underlying5 (by kernel_rfl) hf with ⟨hcs, _⟩ | ⟨x, l, c, zs, hcs, _, hl, hm, hz, hx, hcell, hwz⟩
    · simp [Value.cells] at hcs
      obtain ⟨rfl, rfl, rfl⟩ := hcs
      exact ⟨[], .inl ⟨rfl, rfl, rfl, rfl⟩, by decide⟩
    · simp [Value.cells] at hcs
      obtain ⟨rfl, rfl, rfl⟩ := hcs
      exact ⟨zs, .inr ⟨_, rfl, hl, hm, by simpa using hz, hcell, hwz⟩, Go.Vm.sized_ints Tryz.underlying23 (of_decide_eq_true (by kernel_rfl)) hx q2⟩
  clear hA0 hval0
  refine (walk v0 t0a t0b t0c t0d t0e t0f t0g t0h a1 a2 len2 cap2 z2 W (Go.Vm.globs_met hL) w0 s0 w1 s1 w2 s2).mono fun e W' ⟨he, bel⟩ => ?_
  subst he
  exact ⟨_, rfl, _, _, _, [], _, [], hW', trodAll_mk1 (shut_bool Tryz.underlying4 _), (trodAll_cons_mk (Below.trod laidOut (by kernel_rfl) (of_decide_eq_true (by kernel_rfl)) k0 bel lt0) (trodAll_cons_mk (shut_string Tryz.underlying9 w1) (trodAll_cons_mk (Below.trod laidOut (by kernel_rfl) (of_decide_eq_true (by kernel_rfl)) k2 bel lt2) trodAll_mk0))), rfl, bel.frame _, fun h => by cases h⟩

theorem GF : Rows.kexRepliesRow.holds Tryz.pinned (OpenSpec.ofChange Rows.kexRepliesSpec) :=
  OpenClaim.holds_of_wide 3 Tryz.f3 rfl rfl rfl rfl rfl rfl rfl ⟨rfl, rfl, rfl, rfl, rfl⟩ rfl rfl rfl rfl rfl (by kernel_rfl) Tryz.func3 (by kernel_rfl)
    (of_decide_eq_true (by kernel_rfl)) (by unfold Func.isWrapper; first | (rw [if_pos (by decide +kernel)]; kernel_rfl) | (rw [if_neg (by decide +kernel)]; exact ⟨rfl, rfl⟩))
    (fun os started H enc _ => lifted os started H enc)

theorem proved : Rows.KexRepliesCardSaid :=
  Claim7.holds_tied_plain_at .later [] [.data, .data, .data, .data, .pinned] true Rows.kexRepliesCard.stood.harness false
    GF (fun _ h => by cases h) (by kernel_rfl) (fun _ h => by cases h) kexReplies_row_tie rfl ⟨rfl, rfl⟩ (by kernel_rfl) rfl
    (fun f fn hf hfn => by
      obtain rfl : f = 3 := Option.some.inj ((show Tryz.prog.funcNamed Rows.kexRepliesRow.func = some 3 by kernel_rfl).symm.trans hf) |>.symm
      obtain rfl : fn = Tryz.f3 := (Option.some.inj (Tryz.func3.symm.trans hfn)).symm
      exact ⟨by kernel_rfl, fun j t ht => by
        have hm : t ∈ Tryz.f3.params.toList := Array.mem_toList_iff.2 (Array.mem_of_getElem? ht)
        have hall : (Tryz.f3.params.toList.all fun u => !Tryz.prog.wantsStandIn u) = true := by kernel_rfl
        exact (show Tryz.prog.wantsStandIn t = false by simpa using List.all_eq_true.1 hall t hm)⟩)
    (by kernel_rfl)
#print axioms proved
end Go.Proofs.YtlmojjnpbpcbcaaGreatDoor.kexReplies
