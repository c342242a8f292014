/- A channel that is asked for what it hasn't. -/
import Derived.Test.YtfkmfdjdppjijaaPd6
set_option linter.unusedVariables false
set_option linter.unusedSimpArgs false
namespace Go.Vm
open Go
theorem part_u32_len (x : Int) : (part1 (FwrU32 x) 4 0 4).length = 4 := by
  rw [part1_all (n := 4) rfl]
  rfl
theorem part_text_len (s : ByteArray) : (part1 (FwrText s) (4 + s.size) 0 (4 + s.size)).length = 4 + s.size := by
  have e : (FwrText s).length = 4 + s.size := len_FwrText s
  rw [part1_all e, e]
theorem part_one_len (a : Int) : (part1 [a] 1 0 1).length = 1 := by
  rw [part1_all (n := 1) rfl]
  rfl
theorem size_sess : (⟨#[115, 101, 115, 115, 105, 111, 110]⟩ : ByteArray).size = 7 := rfl
theorem size_subs : (⟨#[115, 117, 98, 115, 121, 115, 116, 101, 109]⟩ : ByteArray).size = 9 := rfl
theorem size_conf : (⟨#[110, 101, 116, 99, 111, 110, 102]⟩ : ByteArray).size = 7 := rfl
/-- Ready to be asked for a subsystem. -/
def chN : Ch := ({server := true, state := 2, peer := 3, window := 9, most := 9, room := 4096, wait := [], got := [], ready := false, e0 := false, e1 := false, c0 := false, c1 := false, out := []} : Ch)
theorem chN_ok : chOk 0 chN := chOk_of (by kernel_rfl)
def asks (s : ByteArray) (b : Bool) : List Int := be4 0 ++ (be4 (bytesI s).length ++ bytesI s ++ [(sel b 1 0)])
noncomputable def answered (b : Bool) : Ch := sel b (Fcsay chN (100 :: be4 3)) chN
theorem flag_read (b : Bool) : FwFlag [(sel b 1 0)] false = b ∧ FwFlag_1 [(sel b 1 0)] false = [] ∧ FwFlag_2 [(sel b 1 0)] false = false := by
  have h := flag_at (some [(sel b 1 0)])
  refine ⟨h.1.trans ?_, h.2.1, h.2.2⟩
  cases b <;> rfl
theorem asks_at {s : ByteArray} (hs : s.size ≤ 300) (hn : strEq s (⟨#[115, 117, 98, 115, 121, 115, 116, 101, 109]⟩ : ByteArray) = false) (b : Bool) :
    FcTake chN (98 :: asks s b) = 0 ∧ FcTake_1 chN (98 :: asks s b) = answered b := by
  obtain ⟨b1, b2, b3⟩ := byte_read 98 (asks s b)
  obtain ⟨u1, u2, u3⟩ := u32_read 0 (by decide) (be4 (bytesI s).length ++ bytesI s ++ [(sel b 1 0)])
  obtain ⟨t1, t2, t3⟩ := text_read (bytesI s) [(sel b 1 0)] (by rw [bytesI_length]; omega)
  obtain ⟨f1, f2, f3⟩ := flag_read b
  rw [bytesOf_bytesI] at t1
  have u1' : FwU32 (asks s b) false = 0 := u1
  have u2' : FwU32_1 (asks s b) false = be4 (bytesI s).length ++ bytesI s ++ [(sel b 1 0)] := u2
  have u3' : FwU32_2 (asks s b) false = false := u3
  have hl : ((((98 :: asks s b).length : Nat) : Int) == 0) = false := by
    rw [beq_eq_false_iff_ne, List.length_cons]
    omega
  have k1 : ((98 : Int) == 90) = false := rfl
  have k2 : ((98 : Int) == 91) = false := rfl
  have k3 : ((98 : Int) == 92) = false := rfl
  have k4 : ((98 : Int) == 93) = false := rfl
  have k5 : ((98 : Int) == 94) = false := rfl
  have k6 : ((98 : Int) == 96) = false := rfl
  have k7 : ((98 : Int) == 97) = false := rfl
  have k8 : ((98 : Int) == 98) = true := rfl
  have k9 : ((0 : Int) != 0) = false := rfl
  have c1 : (chN.state != 2) = false := rfl
  have c2 : chN.c1 = false := rfl
  have c3 : chN.ready = false := rfl
  have o1 : FwOk [] false = true := rfl
  have v4 : Fconv4 chN = Fcsay chN (100 :: be4 3) := by
    unfold Fconv4
    rw [(to_is (p := ({chN with ready := false} : Ch)) (n := 3) rfl (by decide) 100).2]
    rfl
  have r1 : Fcon chN 98 (be4 (bytesI s).length ++ bytesI s ++ [(sel b 1 0)]) false = 0 := by
    unfold Fcon
    simp only [k4, k5, k6, k7, k8, sel_true, sel_false, t1, t2, t3, f1, f2, f3, hn, o1, Bool.not_true]
  have r2 : Fcon_1 chN 98 (be4 (bytesI s).length ++ bytesI s ++ [(sel b 1 0)]) false = answered b := by
    unfold Fcon_1
    simp only [k4, k5, k6, k7, k8, sel_true, sel_false, t1, t2, t3, f1, f2, f3, hn, o1, Bool.not_true, c3, v4]
    rfl
  unfold FcTake FcTake_1 FcTakev2
  simp only [b1, b2, b3, u1', u2', u3', k1, k2, k3, k9, c1, c2]
  rw [hl, sel_false, sel_false, sel_false, sel_false, sel_false, sel_false, sel_false, r1, r2]
  exact ⟨rfl, rfl⟩
theorem asks_join {s : ByteArray} (hs : s.size ≤ 300) (b : Bool) : FwrJoin ([part1 [98] 1 0 1, part1 (FwrU32 0) 4 0 4, part1 (FwrText s) (4 + s.size) 0 (4 + s.size), part1 [(sel b 1 0)] 1 0 1]) = 98 :: asks s b := by
  have e : (FwrText s).length = 4 + s.size := len_FwrText s
  rw [rJoin_is, part1_all e, rText_at _ (by omega), part1_all (xs := FwrU32 0) (n := 4) rfl, show FwrU32 0 = be4 0 from rU32_at 0 (by decide), part1_all (xs := [98]) (n := 1) rfl, part1_all (xs := [(sel b 1 0)]) (n := 1) rfl]
  unfold asks
  rw [bytesI_length]
  simp only [List.flatten_cons, List.flatten_nil, List.append_nil, List.cons_append, List.nil_append, List.append_assoc]
end Go.Vm
