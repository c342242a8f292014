/- A second channel is refused; what isn't asked for by that name isn't there. -/
import Derived.Test.YtfkmfdjdppjijaaPd2
import Derived.Test.YtfkmfdjdppjijaaWk11
set_option linter.unusedVariables false
set_option linter.unusedSimpArgs false
namespace Go.Vm
open Go
theorem second_0 : (sel (((0 : Int) : Int) == 0) (sel (!(FcReady (FcOut (answered false)))) (sel (((FcSend (FcOut (answered false)) ([] : List Int)) : Int) == 8) (sel ((((((answered false).out.length : Nat) : Int) : Int) == 1) == false) (sel (!false) true ((((FcOut_1 (answered false)).getD 0 []).getD 0 0 : Int) == 100)) false) false) false) false) = true := by kernel_rfl
theorem second_1 : (sel (((0 : Int) : Int) == 0) (sel (!(FcReady (FcOut (answered true)))) (sel (((FcSend (FcOut (answered true)) ([] : List Int)) : Int) == 8) (sel ((((((answered true).out.length : Nat) : Int) : Int) == 1) == true) (sel (!true) true ((((FcOut_1 (answered true)).getD 0 []).getD 0 0 : Int) == 100)) false) false) false) false) = true := by kernel_rfl
theorem second_true {p0 : Int} {p1 : ByteArray} {p2 : Bool} (hC : 0 ≤ p0 ∧ p0 < 4294967296) : FcSecond p0 p1 p2 = true := by
  have e0 : IntKind.wrap .i64 p0 = ((p0.toNat : Nat) : Int) := by rw [wrap_small (by omega) (by omega)]; omega
  unfold FcSecond
  rw [cfit_true]
  show sel false _ _ = _
  rw [sel_false]
  cases hs : (decide ((((p1.size : Nat) : Int) : Int) > 300))
  · rw [sel_false, Second_loop]
    have b1 : ((FcBegin (chA, chB).1) != 8) = false := by kernel_rfl
    rw [b1, sel_false]
    show sel (FcTakeO chB _ _ != 0) _ _ = _
    rw [(takeO_join chB _).1, wish_join (id := p0.toNat) (w := 9) (m := 9) (I := IntKind.wrap .i64 p0) (W := 9) (M := 9) (by omega) (by decide) (by decide) e0 rfl rfl, (wish_at chB (by omega) (by decide) (by decide)).1, (open_at chB (by omega) (by decide) (by decide)).1]
    have b2 : ((sel (!chB.server) 3 0 : Int) != 0) = false := by kernel_rfl
    rw [b2, sel_false, Second_rows hC, Second_v5 hC]
    have b3 : ((((Fcsay chB (refuse p0.toNat)).out.length : Nat) : Int) != 1) = false := rfl
    have b4 : ((([refuse p0.toNat].getD 0 []).getD 0 0 : Int) != 92) = false := rfl
    have b5 : strEq (bytesOf (((([refuse p0.toNat].getD 0 []).drop 1)).take 4)) (bytesOf (((FwrU32 (IntKind.wrap .i64 p0)).drop 0).take 4)) = true := by
      rw [e0, rU32_at p0.toNat (by omega)]
      exact strEq_self (bytesOf (be4 p0.toNat))
    have b6 : ((FcState (FcOut (Fcsay chB (refuse p0.toNat)))) != 2) = false := rfl
    rw [b3, sel_false, b4, sel_false, b5]
    show sel false _ _ = _
    rw [sel_false, b6, sel_false]
    cases hn : strEq p1 (⟨#[115, 117, 98, 115, 121, 115, 116, 101, 109]⟩ : ByteArray)
    · have hs' := of_decide_eq_false hs
      rw [sel_false, Second_v10 hs hn, Second_c, (takeO_join chN _).1, asks_join (by omega), (asks_at (by omega) hn p2).1]
      cases p2
      · exact second_0
      · exact second_1
    · rw [sel_true]
  · rw [sel_true]
end Go.Vm
