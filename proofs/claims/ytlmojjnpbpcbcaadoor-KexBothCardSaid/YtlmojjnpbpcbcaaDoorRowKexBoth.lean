/- For every input that the row lets in, the law KexBoth returns true and leaves its arguments as they were; the listed variables read as the program's text lays them (the card ties them to it). -/
import Derived.Test.YtlmojjnpbpcbcaaDoorRows
import Derived.Test.YtlmojjnpbpcbcaaDoorCards
import Derived.Test.YtlmojjnpbpcbcaaDoorTie
import Derived.Test.YtlmojjnpbpcbcaaDoorQte
import Derived.SizedLaws
import Derived.SliceStrings
import Derived.SevenTiedAt
import Derived.LaidMore
import Derived.Lay
import Derived.Stop.Joined
import Derived.WalkKit
import Derived.ProofKit
import Derived.OpenShut
import Derived.ShutString
import Derived.ChangeOld
import Derived.Below
import Derived.DataShut
namespace Go.Proofs.YtlmojjnpbpcbcaaDoor.kexBoth
open Go Go.ChangeShapes Go.WideShapes Go.ChangeAt Go.RowKit
open Go.ChangeMaps (open_string shut_string)
set_option linter.unusedVariables false

theorem own : ownKnob Tryd.prog.godebug = none := by kernel_rfl
theorem laidOut : laidOutB Tryd.prog = true := by kernel_rfl

theorem walk (v0 : Value) (t0a t0b : ByteArray) (t0c t0d : List Int) (t0e t0f t0g : ByteArray) (t0h : List Int) (a1 : Option Addr) (len1 cap1 : Nat) (z1 : List Int) (w : World) (hG : Go.Vm.GlobsOk (Go.Vm.E0 Tryd.prog w) Go.Vm.gD) (w0 : Go.Vm.RowT w v0 t0a t0b t0c t0d t0e t0f t0g t0h) (s0 : Go.Vm.BigT t0a t0b t0c t0d t0e t0f t0g t0h) (w1 : Go.Vm.RowI .u8 w a1 len1 cap1 z1) (s1 : z1.length ≤ 140737488351232) :
    Calls Tryd.prog 8 #[v0, .slice a1 len1 cap1] w fun e w' => e = .returned (.bool true) ∧ Below w.heap.size w w' := by
  have h0 := Go.Vm.talk_fits w0
  have h1 := w1.fits len1
  exact Go.Vm.calls_trueG Go.Vm.KkKexBoth (by kernel_rfl) w hG [.agg [.s t0a, .s t0b, .ro .u8 t0c, .ro .u8 t0d, .s t0e, .s t0f, .s t0g, .ro .u8 t0h], .sc (.ro .u8 (z1.take len1))] _ _ _ ⟨Go.Vm.talk_row w0, Go.Vm.ro_row w1, trivial⟩ rfl rfl (s0) (Go.Vm.both_true _ _ _ _ _ _ _ _ _)

set_option maxRecDepth 100000 in
theorem lifted (os : Os) (started : os.Started) (H : Type) (enc : TypeId × Value → H) :
    ReturnsInHanded {} Tryd.checked os 8 .any (fun w args => (Rows.kexBothSpec.pre enc Tryd.prog Tryd.f8 [] false w args ∧ laidMetH Tryd.prog Go.Vm.laidW w) ∧ sizedMet enc Tryd.prog Tryd.f8 (OpenSpec.ofChange Rows.kexBothSpec) false w args)
      (Rows.kexBothSpec.post enc Tryd.prog Tryd.f8 false true false false) := by
  refine returnsInHanded_of_change_and (C := Tryd.checked) (X := fun w _ => laidMetH Tryd.prog Go.Vm.laidW w) (fun _ _ _ hh h => h.of_heap hh) own started (by kernel_rfl) Tryd.func8
    (ChangeSpec.witness_shaped (enc := enc) (C := Tryd.checked) (os := os) (X := fun w _ => laidMetH Tryd.prog Go.Vm.laidW w) false (World.laidAll Tryd.prog os Go.Vm.laidW) #[.agg #[.string ByteArray.empty, .string ByteArray.empty, .slice none 0 0, .slice none 0 0, .string ByteArray.empty, .string ByteArray.empty, .string ByteArray.empty, .slice none 0 0], .slice none 0 0] 8 (World.laidAll_os _ _ _) (World.shaped_of_ZipB (by kernel_rfl) (by kernel_rfl)) (by kernel_rfl) (by kernel_rfl) (by kernel_rfl)
      (by rw [MakeChecks.laidMetH_plain _ _ _ (by kernel_rfl)]; exact laidMet_laidAll _ (by kernel_rfl) (by kernel_rfl))) ?_
  intro W base args ds gs before hval0 hW _ hwt hL _
  have hval : ∀ (j : Nat) t v, Tryd.f8.params[j]? = some t → args[j]? = some v → Value.okWide Tryd.prog W .any base t v := hval0
  have hW' := hW
  obtain ⟨p, q, hA0, hV, rfl, hfz, hnd⟩ := hW
  have hA : DataW.TrodAll enc Tryd.prog W 0 (fun _ => true) true Tryd.f8.params.toList args.toList ds p := hA0
  rw [Tryd.params8] at hA hval
  obtain ⟨v0, vs0, d0, ds0, p0, q0, hargs, rfl, rfl, h0, r0⟩ := trodAll_cons hA
  obtain ⟨v1, vs1, d1, ds1, p1, q1, rfl, rfl, rfl, h1, r1⟩ := trodAll_cons r0
  obtain ⟨rfl, rfl, rfl⟩ := trodAll_nil r1
  obtain rfl : args = #[v0, v1] := by cases args; simp_all
  obtain ⟨rfl, rfl⟩ := trodVars_none hV
  have k0 := h0
  have lt0 : ∀ x ∈ p0, x.block < W.heap.size := by obtain ⟨m, hm⟩ := k0; exact DataW.trod_lt m _ _ _ hm
  have q0 : ∀ n ∈ d0.weights Tryd.prog 50, n ≤ reachBytes := fun n hn => of_decide_eq_true (List.all_eq_true.1 hwt n (DataW.weights_mem_each (j := 0) (t := 50) (by kernel_rfl) rfl n hn))
  obtain ⟨t0a, t0b, t0c, t0d, t0e, t0f, t0g, t0h, w0, s0⟩ := Go.Vm.open_talk Tryd.underlying50 (by kernel_rfl) Tryd.underlying47 Tryd.underlying48 Tryd.underlying9 Tryd.underlying24 Tryd.underlying5 (by kernel_rfl) (by kernel_rfl) (by kernel_rfl) (by kernel_rfl) (by kernel_rfl) (of_decide_eq_true (by kernel_rfl)) (by obtain ⟨cs, e1, e2⟩ := Go.Vm.okWide_struct Tryd.underlying50 (hval 0 50 v0 rfl rfl); exact ⟨cs, e1, e2.trans (by kernel_rfl)⟩) h0 q0
  obtain ⟨a1, len1, cap1, rfl⟩ := okWide_slice Tryd.underlying24 (hval 1 24 v1 rfl rfl)
  have k1 := h1
  have lt1 : ∀ x ∈ p1, x.block < W.heap.size := by obtain ⟨m, hm⟩ := k1; exact DataW.trod_lt m _ _ _ hm
  have q1 : ∀ n ∈ d1.weights Tryd.prog 24, n ≤ reachBytes := fun n hn => of_decide_eq_true (List.all_eq_true.1 hwt n (DataW.weights_mem_each (j := 1) (t := 24) (by kernel_rfl) rfl n hn))
  obtain ⟨z1, w1, s1⟩ : ∃ zs, Go.Vm.RowI .u8 W a1 len1 cap1 zs ∧ zs.length ≤ 140737488351232 := by
    obtain ⟨fuel, hf⟩ := h1
    rcases open_ints Tryd.underlying24 Tryd.underlying5 (by kernel_rfl) hf with ⟨hcs, _⟩ | ⟨x, l, c, zs, hcs, _, hl, hm, hz, hx, hcell, hwz⟩
    · simp [Value.cells] at hcs
      obtain ⟨rfl, rfl, rfl⟩ := hcs
      exact ⟨[], .inl ⟨rfl, rfl, rfl, rfl⟩, by decide⟩
    · simp [Value.cells] at hcs
      obtain ⟨rfl, rfl, rfl⟩ := hcs
      exact ⟨zs, .inr ⟨_, rfl, hl, hm, by simpa using hz, hcell, hwz⟩, Go.Vm.sized_ints Tryd.underlying24 (of_decide_eq_true (by kernel_rfl)) hx q1⟩
  clear hA0 hval0
  refine (walk v0 t0a t0b t0c t0d t0e t0f t0g t0h a1 len1 cap1 z1 W (Go.Vm.globs_met hL) w0 s0 w1 s1).mono fun e W' ⟨he, bel⟩ => ?_
  subst he
  exact ⟨_, rfl, _, _, _, [], _, [], hW', trodAll_mk1 (shut_bool Tryd.underlying4 _), (trodAll_cons_mk (Below.trod laidOut (by kernel_rfl) (of_decide_eq_true (by kernel_rfl)) k0 bel lt0) (trodAll_cons_mk (Below.trod laidOut (by kernel_rfl) (of_decide_eq_true (by kernel_rfl)) k1 bel lt1) trodAll_mk0)), rfl, bel.frame _, fun h => by cases h⟩

theorem over : Rows.kexBothRow.holds Tryd.pinned (OpenSpec.ofChange Rows.kexBothSpec) :=
  OpenClaim.holds_of_wide 8 Tryd.f8 rfl rfl rfl rfl rfl rfl rfl ⟨rfl, rfl, rfl, rfl, rfl⟩ rfl rfl rfl rfl rfl (by kernel_rfl) Tryd.func8 (by kernel_rfl)
    (of_decide_eq_true (by kernel_rfl)) (by unfold Func.isWrapper; first | (rw [if_pos (by decide +kernel)]; kernel_rfl) | (rw [if_neg (by decide +kernel)]; exact ⟨rfl, rfl⟩))
    (fun os started H enc _ => lifted os started H enc)

theorem proved : Rows.KexBothCardSaid :=
  Claim7.holds_tied_plain_at .later [] [.data, .data, .data, .pinned] true Rows.kexBothCard.stood.harness false
    over (fun _ h => by cases h) (by kernel_rfl) (fun _ h => by cases h) kexBoth_row_tie rfl ⟨rfl, rfl⟩ (by kernel_rfl) rfl
    (fun f fn hf hfn => by
      obtain rfl : f = 8 := Option.some.inj ((show Tryd.prog.funcNamed Rows.kexBothRow.func = some 8 by kernel_rfl).symm.trans hf) |>.symm
      obtain rfl : fn = Tryd.f8 := (Option.some.inj (Tryd.func8.symm.trans hfn)).symm
      exact ⟨by kernel_rfl, fun j t ht => by
        have hm : t ∈ Tryd.f8.params.toList := Array.mem_toList_iff.2 (Array.mem_of_getElem? ht)
        have hall : (Tryd.f8.params.toList.all fun u => !Tryd.prog.wantsStandIn u) = true := by kernel_rfl
        exact (show Tryd.prog.wantsStandIn t = false by simpa using List.all_eq_true.1 hall t hm)⟩)
    (by kernel_rfl)
#print axioms proved
end Go.Proofs.YtlmojjnpbpcbcaaDoor.kexBoth
