/- A part of a proof (pack3): the small machine that walks the program, the walks of its functions, and what they compute in plain. -/
import Derived.Test.YtcomenlmambmfaaGreatDoorWdd
import Derived.Test.YtcomenlmambmfaaGreatDoorChecked
set_option maxHeartbeats 2000000
set_option maxRecDepth 100000
set_option linter.unusedVariables false
set_option linter.unusedSimpArgs false
noncomputable section
namespace Go.Vm
open Go Go.Proofs
def dU:List Int :=
 (kW (⟨#[115,115,104,45,117,115,101,114,97,117,116,104]⟩:ByteArray))
def dQ (p5:List Int):ByteArray :=
 (aE p5 (ab p5 (aL p5 0 false) (aM p5 0 false)) (aS p5 (aL p5 0 false) (aM p5 0 false)))
def aF (p5:List Int):Int :=
 (ab p5 (ab p5 (aL p5 0 false) (aM p5 0 false)) (aS p5 (aL p5 0 false) (aM p5 0 false)))
def aG (p5:List Int):Bool :=
 (aS p5 (ab p5 (aL p5 0 false) (aM p5 0 false)) (aS p5 (aL p5 0 false) (aM p5 0 false)))
def ed (p5:List Int):Bool :=
 (kA p5 (ab p5 (aF p5) (aG p5)) (aS p5 (aF p5) (aG p5)))
def aX (p5:List Int):Int :=
 (eY p5 (ab p5 (aF p5) (aG p5)) (aS p5 (aF p5) (aG p5)))
def aO (p5:List Int):Int :=
 (aL p5 (ab p5 (aF p5) (aG p5)) (aS p5 (aF p5) (aG p5)))
def aP (p5:List Int):Bool :=
 (aM p5 (ab p5 (aF p5) (aG p5)) (aS p5 (aF p5) (aG p5)))
def dw (p5:List Int):Bool :=
 (kA p5 (ab p5 (aO p5) (aP p5)) (aS p5 (aO p5) (aP p5)))
def aI (p5:List Int):ByteArray :=
 (aE p5 (ab p5 (aO p5) (aP p5)) (aS p5 (aO p5) (aP p5)))
def aQ (p5:List Int):Int :=
 (ab p5 (ab p5 (aO p5) (aP p5)) (aS p5 (aO p5) (aP p5)))
def aV (p5:List Int):Bool :=
 (aS p5 (ab p5 (aO p5) (aP p5)) (aS p5 (aO p5) (aP p5)))
def bX (p0:List Int) (p5:List Int):Bool :=
 (nc (aH (aR (aJ (aI p5) 32)) ((aJ (aI p5) 32).size) 0 ((aJ (aI p5) 32).size)) (aH (gf p0 ((p5.drop 0).take ((((aQ p5)).toNat)-0))) ((4+(bytesOf p0).size)+((p5.drop 0).take ((((aQ p5)).toNat)-0)).length) 0 ((4+(bytesOf p0).size)+((p5.drop 0).take ((((aQ p5)).toNat)-0)).length)) (aH (aR (aJ (aE p5 (aQ p5) (aV p5)) 64)) ((aJ (aE p5 (aQ p5) (aV p5)) 64).size) 0 ((aJ (aE p5 (aQ p5) (aV p5)) 64).size)))
def cU (p5:List Int):Bool :=
 (kA p5 (sel (((aX p5):Int)==0) (aQ p5) (ab p5 (aQ p5) (aV p5))) (sel (((aX p5):Int)==0) (aV p5) (aS p5 (aQ p5) (aV p5))))
def fI:List Int :=
 (kW (⟨#[115,115,104,45,101,100,50,53,53,49,57]⟩:ByteArray))
def fJ (p6:ByteArray) (p8:ByteArray) (p5:List Int):List Int :=
 (kW (sel (aC (aE p5 (aF p5) (aG p5)) (⟨#[110,111,110,101]⟩:ByteArray)) (⟨#[]⟩:ByteArray) (sel (aC (aE p5 (aF p5) (aG p5)) (⟨#[112,97,115,115,119,111,114,100]⟩:ByteArray)) (⟨#[]⟩:ByteArray) (sel (aC (aE p5 (aF p5) (aG p5)) (⟨#[112,117,98,108,105,99,107,101,121]⟩:ByteArray)) (sel (((aX p5):Int)==0) (sel (sel (aC (aE p5 (aO p5) (aP p5)) (⟨#[115,115,104,45,101,100,50,53,53,49,57]⟩:ByteArray)) (sel (!(aC (aJ (aI p5) 32) (⟨#[]⟩:ByteArray))) (aC (aJ (aI p5) 32) (sel (aC p6 (aE p5 (aL p5 0 false) (aM p5 0 false))) p8 (⟨#[]⟩:ByteArray))) false) false) (aI p5) (⟨#[]⟩:ByteArray)) (⟨#[]⟩:ByteArray)) (⟨#[]⟩:ByteArray)))))
def lc (p6:ByteArray) (p8:ByteArray) (p5:List Int):List Int :=
 (Cp ([aH [60] 1 0 1,aH (fI) (4+(⟨#[115,115,104,45,101,100,50,53,53,49,57]⟩:ByteArray).size) 0 (4+(⟨#[115,115,104,45,101,100,50,53,53,49,57]⟩:ByteArray).size),aH (fJ p6 p8 p5) (4+(sel (aC (aE p5 (aF p5) (aG p5)) (⟨#[110,111,110,101]⟩:ByteArray)) (⟨#[]⟩:ByteArray) (sel (aC (aE p5 (aF p5) (aG p5)) (⟨#[112,97,115,115,119,111,114,100]⟩:ByteArray)) (⟨#[]⟩:ByteArray) (sel (aC (aE p5 (aF p5) (aG p5)) (⟨#[112,117,98,108,105,99,107,101,121]⟩:ByteArray)) (sel (((aX p5):Int)==0) (sel (sel (aC (aE p5 (aO p5) (aP p5)) (⟨#[115,115,104,45,101,100,50,53,53,49,57]⟩:ByteArray)) (sel (!(aC (aJ (aI p5) 32) (⟨#[]⟩:ByteArray))) (aC (aJ (aI p5) 32) (sel (aC p6 (aE p5 (aL p5 0 false) (aM p5 0 false))) p8 (⟨#[]⟩:ByteArray))) false) false) (aI p5) (⟨#[]⟩:ByteArray)) (⟨#[]⟩:ByteArray)) (⟨#[]⟩:ByteArray)))).size) 0 (4+(sel (aC (aE p5 (aF p5) (aG p5)) (⟨#[110,111,110,101]⟩:ByteArray)) (⟨#[]⟩:ByteArray) (sel (aC (aE p5 (aF p5) (aG p5)) (⟨#[112,97,115,115,119,111,114,100]⟩:ByteArray)) (⟨#[]⟩:ByteArray) (sel (aC (aE p5 (aF p5) (aG p5)) (⟨#[112,117,98,108,105,99,107,101,121]⟩:ByteArray)) (sel (((aX p5):Int)==0) (sel (sel (aC (aE p5 (aO p5) (aP p5)) (⟨#[115,115,104,45,101,100,50,53,53,49,57]⟩:ByteArray)) (sel (!(aC (aJ (aI p5) 32) (⟨#[]⟩:ByteArray))) (aC (aJ (aI p5) 32) (sel (aC p6 (aE p5 (aL p5 0 false) (aM p5 0 false))) p8 (⟨#[]⟩:ByteArray))) false) false) (aI p5) (⟨#[]⟩:ByteArray)) (⟨#[]⟩:ByteArray)) (⟨#[]⟩:ByteArray)))).size)]))
def ca:List Int :=
 (nR ([(⟨#[112,117,98,108,105,99,107,101,121]⟩:ByteArray),(⟨#[112,97,115,115,119,111,114,100]⟩:ByteArray)]))
def ge:List Int :=
 (Cp ([aH [51] 1 0 1,aH (ca) (bD ([(⟨#[112,117,98,108,105,99,107,101,121]⟩:ByteArray),(⟨#[112,97,115,115,119,111,114,100]⟩:ByteArray)])) 0 (bD ([(⟨#[112,117,98,108,105,99,107,101,121]⟩:ByteArray),(⟨#[112,97,115,115,119,111,114,100]⟩:ByteArray)])),aH [0] 1 0 1]))
def bv (p0:List Int) (p1:Int) (p2:Bool) (p4:Bool) (p6:ByteArray) (p7:ByteArray) (p8:ByteArray) (p5:List Int):Int :=
 (sel p4 8 (sel (aC (bytesOf p5) (bytesOf ((([5]++(aH (dU) (4+(⟨#[115,115,104,45,117,115,101,114,97,117,116,104]⟩:ByteArray).size) 0 (4+(⟨#[115,115,104,45,117,115,101,114,97,117,116,104]⟩:ByteArray).size))).drop 0).take (1+(4+(⟨#[115,115,104,45,117,115,101,114,97,117,116,104]⟩:ByteArray).size))))) 0 (sel (sel (((eY p5 0 false):Int) != 50) true (sel (!p2) true (!(aC (dQ p5) (⟨#[115,115,104,45,99,111,110,110,101,99,116,105,111,110]⟩:ByteArray))))) 3 (sel (!(sel (aC (aE p5 (aF p5) (aG p5)) (⟨#[110,111,110,101]⟩:ByteArray)) (ed p5) (sel (aC (aE p5 (aF p5) (aG p5)) (⟨#[112,97,115,115,119,111,114,100]⟩:ByteArray)) (sel (dw p5) (((aX p5):Int)==0) false) (sel (aC (aE p5 (aF p5) (aG p5)) (⟨#[112,117,98,108,105,99,107,101,121]⟩:ByteArray)) (cU p5) (!(aS p5 (aF p5) (aG p5))))))) 3 (sel (sel (aC (aE p5 (aF p5) (aG p5)) (⟨#[110,111,110,101]⟩:ByteArray)) false (sel (aC (aE p5 (aF p5) (aG p5)) (⟨#[112,97,115,115,119,111,114,100]⟩:ByteArray)) (sel (!(aC (sel (aC p6 (aE p5 (aL p5 0 false) (aM p5 0 false))) p7 (⟨#[]⟩:ByteArray)) (⟨#[]⟩:ByteArray))) (aC (aE p5 (aO p5) (aP p5)) (sel (aC p6 (aE p5 (aL p5 0 false) (aM p5 0 false))) p7 (⟨#[]⟩:ByteArray))) false) (sel (aC (aE p5 (aF p5) (aG p5)) (⟨#[112,117,98,108,105,99,107,101,121]⟩:ByteArray)) (sel (((aX p5):Int)==0) false (sel (sel (aC (aE p5 (aO p5) (aP p5)) (⟨#[115,115,104,45,101,100,50,53,53,49,57]⟩:ByteArray)) (sel (!(aC (aJ (aI p5) 32) (⟨#[]⟩:ByteArray))) (aC (aJ (aI p5) 32) (sel (aC p6 (aE p5 (aL p5 0 false) (aM p5 0 false))) p8 (⟨#[]⟩:ByteArray))) false) false) (sel (!(aC (aJ (aE p5 (aQ p5) (aV p5)) 64) (⟨#[]⟩:ByteArray))) (sel (!(aS p5 (aQ p5) (aV p5))) (bX p0 p5) false) false) false)) false))) 0 (sel (!(aC (sel (aC (aE p5 (aF p5) (aG p5)) (⟨#[110,111,110,101]⟩:ByteArray)) (⟨#[]⟩:ByteArray) (sel (aC (aE p5 (aF p5) (aG p5)) (⟨#[112,97,115,115,119,111,114,100]⟩:ByteArray)) (⟨#[]⟩:ByteArray) (sel (aC (aE p5 (aF p5) (aG p5)) (⟨#[112,117,98,108,105,99,107,101,121]⟩:ByteArray)) (sel (((aX p5):Int)==0) (sel (sel (aC (aE p5 (aO p5) (aP p5)) (⟨#[115,115,104,45,101,100,50,53,53,49,57]⟩:ByteArray)) (sel (!(aC (aJ (aI p5) 32) (⟨#[]⟩:ByteArray))) (aC (aJ (aI p5) 32) (sel (aC p6 (aE p5 (aL p5 0 false) (aM p5 0 false))) p8 (⟨#[]⟩:ByteArray))) false) false) (aI p5) (⟨#[]⟩:ByteArray)) (⟨#[]⟩:ByteArray)) (⟨#[]⟩:ByteArray)))) (⟨#[]⟩:ByteArray))) 0 (sel (!(aC (aE p5 (aF p5) (aG p5)) (⟨#[110,111,110,101]⟩:ByteArray))) (sel (((ag .i64 (kP p1 1) 1):Int)==0) 9 0) 0)))))))
def cq (p0:List Int) (p1:Int) (p2:Bool) (p4:Bool) (p6:ByteArray) (p7:ByteArray) (p8:ByteArray) (p5:List Int):Int :=
 (sel p4 p1 (sel (aC (bytesOf p5) (bytesOf ((([5]++(aH (dU) (4+(⟨#[115,115,104,45,117,115,101,114,97,117,116,104]⟩:ByteArray).size) 0 (4+(⟨#[115,115,104,45,117,115,101,114,97,117,116,104]⟩:ByteArray).size))).drop 0).take (1+(4+(⟨#[115,115,104,45,117,115,101,114,97,117,116,104]⟩:ByteArray).size))))) p1 (sel (sel (((eY p5 0 false):Int) != 50) true (sel (!p2) true (!(aC (dQ p5) (⟨#[115,115,104,45,99,111,110,110,101,99,116,105,111,110]⟩:ByteArray))))) p1 (sel (!(sel (aC (aE p5 (aF p5) (aG p5)) (⟨#[110,111,110,101]⟩:ByteArray)) (ed p5) (sel (aC (aE p5 (aF p5) (aG p5)) (⟨#[112,97,115,115,119,111,114,100]⟩:ByteArray)) (sel (dw p5) (((aX p5):Int)==0) false) (sel (aC (aE p5 (aF p5) (aG p5)) (⟨#[112,117,98,108,105,99,107,101,121]⟩:ByteArray)) (cU p5) (!(aS p5 (aF p5) (aG p5))))))) p1 (sel (sel (aC (aE p5 (aF p5) (aG p5)) (⟨#[110,111,110,101]⟩:ByteArray)) false (sel (aC (aE p5 (aF p5) (aG p5)) (⟨#[112,97,115,115,119,111,114,100]⟩:ByteArray)) (sel (!(aC (sel (aC p6 (aE p5 (aL p5 0 false) (aM p5 0 false))) p7 (⟨#[]⟩:ByteArray)) (⟨#[]⟩:ByteArray))) (aC (aE p5 (aO p5) (aP p5)) (sel (aC p6 (aE p5 (aL p5 0 false) (aM p5 0 false))) p7 (⟨#[]⟩:ByteArray))) false) (sel (aC (aE p5 (aF p5) (aG p5)) (⟨#[112,117,98,108,105,99,107,101,121]⟩:ByteArray)) (sel (((aX p5):Int)==0) false (sel (sel (aC (aE p5 (aO p5) (aP p5)) (⟨#[115,115,104,45,101,100,50,53,53,49,57]⟩:ByteArray)) (sel (!(aC (aJ (aI p5) 32) (⟨#[]⟩:ByteArray))) (aC (aJ (aI p5) 32) (sel (aC p6 (aE p5 (aL p5 0 false) (aM p5 0 false))) p8 (⟨#[]⟩:ByteArray))) false) false) (sel (!(aC (aJ (aE p5 (aQ p5) (aV p5)) 64) (⟨#[]⟩:ByteArray))) (sel (!(aS p5 (aQ p5) (aV p5))) (bX p0 p5) false) false) false)) false))) p1 (sel (!(aC (sel (aC (aE p5 (aF p5) (aG p5)) (⟨#[110,111,110,101]⟩:ByteArray)) (⟨#[]⟩:ByteArray) (sel (aC (aE p5 (aF p5) (aG p5)) (⟨#[112,97,115,115,119,111,114,100]⟩:ByteArray)) (⟨#[]⟩:ByteArray) (sel (aC (aE p5 (aF p5) (aG p5)) (⟨#[112,117,98,108,105,99,107,101,121]⟩:ByteArray)) (sel (((aX p5):Int)==0) (sel (sel (aC (aE p5 (aO p5) (aP p5)) (⟨#[115,115,104,45,101,100,50,53,53,49,57]⟩:ByteArray)) (sel (!(aC (aJ (aI p5) 32) (⟨#[]⟩:ByteArray))) (aC (aJ (aI p5) 32) (sel (aC p6 (aE p5 (aL p5 0 false) (aM p5 0 false))) p8 (⟨#[]⟩:ByteArray))) false) false) (aI p5) (⟨#[]⟩:ByteArray)) (⟨#[]⟩:ByteArray)) (⟨#[]⟩:ByteArray)))) (⟨#[]⟩:ByteArray))) p1 (sel (!(aC (aE p5 (aF p5) (aG p5)) (⟨#[110,111,110,101]⟩:ByteArray))) (ag .i64 (kP p1 1) 1) p1)))))))
def cp (p2:Bool) (p4:Bool) (p5:List Int):Bool :=
 (sel p4 p2 (sel (aC (bytesOf p5) (bytesOf ((([5]++(aH (dU) (4+(⟨#[115,115,104,45,117,115,101,114,97,117,116,104]⟩:ByteArray).size) 0 (4+(⟨#[115,115,104,45,117,115,101,114,97,117,116,104]⟩:ByteArray).size))).drop 0).take (1+(4+(⟨#[115,115,104,45,117,115,101,114,97,117,116,104]⟩:ByteArray).size))))) true p2))
def dF (p0:List Int) (p2:Bool) (p4:Bool) (p6:ByteArray) (p7:ByteArray) (p8:ByteArray) (p5:List Int):Bool :=
 (sel p4 p4 (sel (aC (bytesOf p5) (bytesOf ((([5]++(aH (dU) (4+(⟨#[115,115,104,45,117,115,101,114,97,117,116,104]⟩:ByteArray).size) 0 (4+(⟨#[115,115,104,45,117,115,101,114,97,117,116,104]⟩:ByteArray).size))).drop 0).take (1+(4+(⟨#[115,115,104,45,117,115,101,114,97,117,116,104]⟩:ByteArray).size))))) p4 (sel (sel (((eY p5 0 false):Int) != 50) true (sel (!p2) true (!(aC (dQ p5) (⟨#[115,115,104,45,99,111,110,110,101,99,116,105,111,110]⟩:ByteArray))))) p4 (sel (!(sel (aC (aE p5 (aF p5) (aG p5)) (⟨#[110,111,110,101]⟩:ByteArray)) (ed p5) (sel (aC (aE p5 (aF p5) (aG p5)) (⟨#[112,97,115,115,119,111,114,100]⟩:ByteArray)) (sel (dw p5) (((aX p5):Int)==0) false) (sel (aC (aE p5 (aF p5) (aG p5)) (⟨#[112,117,98,108,105,99,107,101,121]⟩:ByteArray)) (cU p5) (!(aS p5 (aF p5) (aG p5))))))) p4 (sel (sel (aC (aE p5 (aF p5) (aG p5)) (⟨#[110,111,110,101]⟩:ByteArray)) false (sel (aC (aE p5 (aF p5) (aG p5)) (⟨#[112,97,115,115,119,111,114,100]⟩:ByteArray)) (sel (!(aC (sel (aC p6 (aE p5 (aL p5 0 false) (aM p5 0 false))) p7 (⟨#[]⟩:ByteArray)) (⟨#[]⟩:ByteArray))) (aC (aE p5 (aO p5) (aP p5)) (sel (aC p6 (aE p5 (aL p5 0 false) (aM p5 0 false))) p7 (⟨#[]⟩:ByteArray))) false) (sel (aC (aE p5 (aF p5) (aG p5)) (⟨#[112,117,98,108,105,99,107,101,121]⟩:ByteArray)) (sel (((aX p5):Int)==0) false (sel (sel (aC (aE p5 (aO p5) (aP p5)) (⟨#[115,115,104,45,101,100,50,53,53,49,57]⟩:ByteArray)) (sel (!(aC (aJ (aI p5) 32) (⟨#[]⟩:ByteArray))) (aC (aJ (aI p5) 32) (sel (aC p6 (aE p5 (aL p5 0 false) (aM p5 0 false))) p8 (⟨#[]⟩:ByteArray))) false) false) (sel (!(aC (aJ (aE p5 (aQ p5) (aV p5)) 64) (⟨#[]⟩:ByteArray))) (sel (!(aS p5 (aQ p5) (aV p5))) (bX p0 p5) false) false) false)) false))) true p4)))))
def dt (p0:List Int) (p2:Bool) (p4:Bool) (p3:ByteArray) (p6:ByteArray) (p7:ByteArray) (p8:ByteArray) (p5:List Int):ByteArray :=
 (sel p4 p3 (sel (aC (bytesOf p5) (bytesOf ((([5]++(aH (dU) (4+(⟨#[115,115,104,45,117,115,101,114,97,117,116,104]⟩:ByteArray).size) 0 (4+(⟨#[115,115,104,45,117,115,101,114,97,117,116,104]⟩:ByteArray).size))).drop 0).take (1+(4+(⟨#[115,115,104,45,117,115,101,114,97,117,116,104]⟩:ByteArray).size))))) p3 (sel (sel (((eY p5 0 false):Int) != 50) true (sel (!p2) true (!(aC (dQ p5) (⟨#[115,115,104,45,99,111,110,110,101,99,116,105,111,110]⟩:ByteArray))))) p3 (sel (!(sel (aC (aE p5 (aF p5) (aG p5)) (⟨#[110,111,110,101]⟩:ByteArray)) (ed p5) (sel (aC (aE p5 (aF p5) (aG p5)) (⟨#[112,97,115,115,119,111,114,100]⟩:ByteArray)) (sel (dw p5) (((aX p5):Int)==0) false) (sel (aC (aE p5 (aF p5) (aG p5)) (⟨#[112,117,98,108,105,99,107,101,121]⟩:ByteArray)) (cU p5) (!(aS p5 (aF p5) (aG p5))))))) p3 (sel (sel (aC (aE p5 (aF p5) (aG p5)) (⟨#[110,111,110,101]⟩:ByteArray)) false (sel (aC (aE p5 (aF p5) (aG p5)) (⟨#[112,97,115,115,119,111,114,100]⟩:ByteArray)) (sel (!(aC (sel (aC p6 (aE p5 (aL p5 0 false) (aM p5 0 false))) p7 (⟨#[]⟩:ByteArray)) (⟨#[]⟩:ByteArray))) (aC (aE p5 (aO p5) (aP p5)) (sel (aC p6 (aE p5 (aL p5 0 false) (aM p5 0 false))) p7 (⟨#[]⟩:ByteArray))) false) (sel (aC (aE p5 (aF p5) (aG p5)) (⟨#[112,117,98,108,105,99,107,101,121]⟩:ByteArray)) (sel (((aX p5):Int)==0) false (sel (sel (aC (aE p5 (aO p5) (aP p5)) (⟨#[115,115,104,45,101,100,50,53,53,49,57]⟩:ByteArray)) (sel (!(aC (aJ (aI p5) 32) (⟨#[]⟩:ByteArray))) (aC (aJ (aI p5) 32) (sel (aC p6 (aE p5 (aL p5 0 false) (aM p5 0 false))) p8 (⟨#[]⟩:ByteArray))) false) false) (sel (!(aC (aJ (aE p5 (aQ p5) (aV p5)) 64) (⟨#[]⟩:ByteArray))) (sel (!(aS p5 (aQ p5) (aV p5))) (bX p0 p5) false) false) false)) false))) (aE p5 (aL p5 0 false) (aM p5 0 false)) p3)))))
def ec (p0:List Int) (p1:Int) (p2:Bool) (p4:Bool) (p6:ByteArray) (p7:ByteArray) (p8:ByteArray) (p5:List Int):List Int :=
 (sel p4 ([]:List Int) (sel (aC (bytesOf p5) (bytesOf ((([5]++(aH (dU) (4+(⟨#[115,115,104,45,117,115,101,114,97,117,116,104]⟩:ByteArray).size) 0 (4+(⟨#[115,115,104,45,117,115,101,114,97,117,116,104]⟩:ByteArray).size))).drop 0).take (1+(4+(⟨#[115,115,104,45,117,115,101,114,97,117,116,104]⟩:ByteArray).size))))) ([6]++(aH (dU) (4+(⟨#[115,115,104,45,117,115,101,114,97,117,116,104]⟩:ByteArray).size) 0 (4+(⟨#[115,115,104,45,117,115,101,114,97,117,116,104]⟩:ByteArray).size))) (sel (sel (((eY p5 0 false):Int) != 50) true (sel (!p2) true (!(aC (dQ p5) (⟨#[115,115,104,45,99,111,110,110,101,99,116,105,111,110]⟩:ByteArray))))) ([]:List Int) (sel (!(sel (aC (aE p5 (aF p5) (aG p5)) (⟨#[110,111,110,101]⟩:ByteArray)) (ed p5) (sel (aC (aE p5 (aF p5) (aG p5)) (⟨#[112,97,115,115,119,111,114,100]⟩:ByteArray)) (sel (dw p5) (((aX p5):Int)==0) false) (sel (aC (aE p5 (aF p5) (aG p5)) (⟨#[112,117,98,108,105,99,107,101,121]⟩:ByteArray)) (cU p5) (!(aS p5 (aF p5) (aG p5))))))) ([]:List Int) (sel (sel (aC (aE p5 (aF p5) (aG p5)) (⟨#[110,111,110,101]⟩:ByteArray)) false (sel (aC (aE p5 (aF p5) (aG p5)) (⟨#[112,97,115,115,119,111,114,100]⟩:ByteArray)) (sel (!(aC (sel (aC p6 (aE p5 (aL p5 0 false) (aM p5 0 false))) p7 (⟨#[]⟩:ByteArray)) (⟨#[]⟩:ByteArray))) (aC (aE p5 (aO p5) (aP p5)) (sel (aC p6 (aE p5 (aL p5 0 false) (aM p5 0 false))) p7 (⟨#[]⟩:ByteArray))) false) (sel (aC (aE p5 (aF p5) (aG p5)) (⟨#[112,117,98,108,105,99,107,101,121]⟩:ByteArray)) (sel (((aX p5):Int)==0) false (sel (sel (aC (aE p5 (aO p5) (aP p5)) (⟨#[115,115,104,45,101,100,50,53,53,49,57]⟩:ByteArray)) (sel (!(aC (aJ (aI p5) 32) (⟨#[]⟩:ByteArray))) (aC (aJ (aI p5) 32) (sel (aC p6 (aE p5 (aL p5 0 false) (aM p5 0 false))) p8 (⟨#[]⟩:ByteArray))) false) false) (sel (!(aC (aJ (aE p5 (aQ p5) (aV p5)) 64) (⟨#[]⟩:ByteArray))) (sel (!(aS p5 (aQ p5) (aV p5))) (bX p0 p5) false) false) false)) false))) [52] (sel (!(aC (sel (aC (aE p5 (aF p5) (aG p5)) (⟨#[110,111,110,101]⟩:ByteArray)) (⟨#[]⟩:ByteArray) (sel (aC (aE p5 (aF p5) (aG p5)) (⟨#[112,97,115,115,119,111,114,100]⟩:ByteArray)) (⟨#[]⟩:ByteArray) (sel (aC (aE p5 (aF p5) (aG p5)) (⟨#[112,117,98,108,105,99,107,101,121]⟩:ByteArray)) (sel (((aX p5):Int)==0) (sel (sel (aC (aE p5 (aO p5) (aP p5)) (⟨#[115,115,104,45,101,100,50,53,53,49,57]⟩:ByteArray)) (sel (!(aC (aJ (aI p5) 32) (⟨#[]⟩:ByteArray))) (aC (aJ (aI p5) 32) (sel (aC p6 (aE p5 (aL p5 0 false) (aM p5 0 false))) p8 (⟨#[]⟩:ByteArray))) false) false) (aI p5) (⟨#[]⟩:ByteArray)) (⟨#[]⟩:ByteArray)) (⟨#[]⟩:ByteArray)))) (⟨#[]⟩:ByteArray))) (lc p6 p8 p5) (sel (!(aC (aE p5 (aF p5) (aG p5)) (⟨#[110,111,110,101]⟩:ByteArray))) (sel (((ag .i64 (kP p1 1) 1):Int)==0) ([]:List Int) (ge)) (ge))))))))
def eL (p0:List Int) (p1:Int) (p2:Bool) (p4:Bool) (p6:ByteArray) (p7:ByteArray) (p8:ByteArray) (p5:List Int):Nat :=
 (sel p4 0 (sel (aC (bytesOf p5) (bytesOf ((([5]++(aH (dU) (4+(⟨#[115,115,104,45,117,115,101,114,97,117,116,104]⟩:ByteArray).size) 0 (4+(⟨#[115,115,104,45,117,115,101,114,97,117,116,104]⟩:ByteArray).size))).drop 0).take (1+(4+(⟨#[115,115,104,45,117,115,101,114,97,117,116,104]⟩:ByteArray).size))))) (1+(4+(⟨#[115,115,104,45,117,115,101,114,97,117,116,104]⟩:ByteArray).size)) (sel (sel (((eY p5 0 false):Int) != 50) true (sel (!p2) true (!(aC (dQ p5) (⟨#[115,115,104,45,99,111,110,110,101,99,116,105,111,110]⟩:ByteArray))))) 0 (sel (!(sel (aC (aE p5 (aF p5) (aG p5)) (⟨#[110,111,110,101]⟩:ByteArray)) (ed p5) (sel (aC (aE p5 (aF p5) (aG p5)) (⟨#[112,97,115,115,119,111,114,100]⟩:ByteArray)) (sel (dw p5) (((aX p5):Int)==0) false) (sel (aC (aE p5 (aF p5) (aG p5)) (⟨#[112,117,98,108,105,99,107,101,121]⟩:ByteArray)) (cU p5) (!(aS p5 (aF p5) (aG p5))))))) 0 (sel (sel (aC (aE p5 (aF p5) (aG p5)) (⟨#[110,111,110,101]⟩:ByteArray)) false (sel (aC (aE p5 (aF p5) (aG p5)) (⟨#[112,97,115,115,119,111,114,100]⟩:ByteArray)) (sel (!(aC (sel (aC p6 (aE p5 (aL p5 0 false) (aM p5 0 false))) p7 (⟨#[]⟩:ByteArray)) (⟨#[]⟩:ByteArray))) (aC (aE p5 (aO p5) (aP p5)) (sel (aC p6 (aE p5 (aL p5 0 false) (aM p5 0 false))) p7 (⟨#[]⟩:ByteArray))) false) (sel (aC (aE p5 (aF p5) (aG p5)) (⟨#[112,117,98,108,105,99,107,101,121]⟩:ByteArray)) (sel (((aX p5):Int)==0) false (sel (sel (aC (aE p5 (aO p5) (aP p5)) (⟨#[115,115,104,45,101,100,50,53,53,49,57]⟩:ByteArray)) (sel (!(aC (aJ (aI p5) 32) (⟨#[]⟩:ByteArray))) (aC (aJ (aI p5) 32) (sel (aC p6 (aE p5 (aL p5 0 false) (aM p5 0 false))) p8 (⟨#[]⟩:ByteArray))) false) false) (sel (!(aC (aJ (aE p5 (aQ p5) (aV p5)) 64) (⟨#[]⟩:ByteArray))) (sel (!(aS p5 (aQ p5) (aV p5))) (bX p0 p5) false) false) false)) false))) 1 (sel (!(aC (sel (aC (aE p5 (aF p5) (aG p5)) (⟨#[110,111,110,101]⟩:ByteArray)) (⟨#[]⟩:ByteArray) (sel (aC (aE p5 (aF p5) (aG p5)) (⟨#[112,97,115,115,119,111,114,100]⟩:ByteArray)) (⟨#[]⟩:ByteArray) (sel (aC (aE p5 (aF p5) (aG p5)) (⟨#[112,117,98,108,105,99,107,101,121]⟩:ByteArray)) (sel (((aX p5):Int)==0) (sel (sel (aC (aE p5 (aO p5) (aP p5)) (⟨#[115,115,104,45,101,100,50,53,53,49,57]⟩:ByteArray)) (sel (!(aC (aJ (aI p5) 32) (⟨#[]⟩:ByteArray))) (aC (aJ (aI p5) 32) (sel (aC p6 (aE p5 (aL p5 0 false) (aM p5 0 false))) p8 (⟨#[]⟩:ByteArray))) false) false) (aI p5) (⟨#[]⟩:ByteArray)) (⟨#[]⟩:ByteArray)) (⟨#[]⟩:ByteArray)))) (⟨#[]⟩:ByteArray))) (cS ([aH [60] 1 0 1,aH (fI) (4+(⟨#[115,115,104,45,101,100,50,53,53,49,57]⟩:ByteArray).size) 0 (4+(⟨#[115,115,104,45,101,100,50,53,53,49,57]⟩:ByteArray).size),aH (fJ p6 p8 p5) (4+(sel (aC (aE p5 (aF p5) (aG p5)) (⟨#[110,111,110,101]⟩:ByteArray)) (⟨#[]⟩:ByteArray) (sel (aC (aE p5 (aF p5) (aG p5)) (⟨#[112,97,115,115,119,111,114,100]⟩:ByteArray)) (⟨#[]⟩:ByteArray) (sel (aC (aE p5 (aF p5) (aG p5)) (⟨#[112,117,98,108,105,99,107,101,121]⟩:ByteArray)) (sel (((aX p5):Int)==0) (sel (sel (aC (aE p5 (aO p5) (aP p5)) (⟨#[115,115,104,45,101,100,50,53,53,49,57]⟩:ByteArray)) (sel (!(aC (aJ (aI p5) 32) (⟨#[]⟩:ByteArray))) (aC (aJ (aI p5) 32) (sel (aC p6 (aE p5 (aL p5 0 false) (aM p5 0 false))) p8 (⟨#[]⟩:ByteArray))) false) false) (aI p5) (⟨#[]⟩:ByteArray)) (⟨#[]⟩:ByteArray)) (⟨#[]⟩:ByteArray)))).size) 0 (4+(sel (aC (aE p5 (aF p5) (aG p5)) (⟨#[110,111,110,101]⟩:ByteArray)) (⟨#[]⟩:ByteArray) (sel (aC (aE p5 (aF p5) (aG p5)) (⟨#[112,97,115,115,119,111,114,100]⟩:ByteArray)) (⟨#[]⟩:ByteArray) (sel (aC (aE p5 (aF p5) (aG p5)) (⟨#[112,117,98,108,105,99,107,101,121]⟩:ByteArray)) (sel (((aX p5):Int)==0) (sel (sel (aC (aE p5 (aO p5) (aP p5)) (⟨#[115,115,104,45,101,100,50,53,53,49,57]⟩:ByteArray)) (sel (!(aC (aJ (aI p5) 32) (⟨#[]⟩:ByteArray))) (aC (aJ (aI p5) 32) (sel (aC p6 (aE p5 (aL p5 0 false) (aM p5 0 false))) p8 (⟨#[]⟩:ByteArray))) false) false) (aI p5) (⟨#[]⟩:ByteArray)) (⟨#[]⟩:ByteArray)) (⟨#[]⟩:ByteArray)))).size)])) (sel (!(aC (aE p5 (aF p5) (aG p5)) (⟨#[110,111,110,101]⟩:ByteArray))) (sel (((ag .i64 (kP p1 1) 1):Int)==0) 0 (cS ([aH [51] 1 0 1,aH (ca) (bD ([(⟨#[112,117,98,108,105,99,107,101,121]⟩:ByteArray),(⟨#[112,97,115,115,119,111,114,100]⟩:ByteArray)])) 0 (bD ([(⟨#[112,117,98,108,105,99,107,101,121]⟩:ByteArray),(⟨#[112,97,115,115,119,111,114,100]⟩:ByteArray)])),aH [0] 1 0 1]))) (cS ([aH [51] 1 0 1,aH (ca) (bD ([(⟨#[112,117,98,108,105,99,107,101,121]⟩:ByteArray),(⟨#[112,97,115,115,119,111,114,100]⟩:ByteArray)])) 0 (bD ([(⟨#[112,117,98,108,105,99,107,101,121]⟩:ByteArray),(⟨#[112,97,115,115,119,111,114,100]⟩:ByteArray)])),aH [0] 1 0 1])))))))))
theorem qn {p5:List Int} (h:p5.length≤6000):dD p5 0∧dD p5 (aF p5)∧dD p5 (aO p5)∧dD p5 (aQ p5):=by
 have c0:dD p5 0:=JF (by omega)
 have c2:dD p5 (aF p5):=by unfold aF;exact dO (dO (fV c0))
 have c6:dD p5 (aO p5):=by unfold aO;exact fV (dO c2)
 exact ⟨c0,c2,c6,by unfold aQ;exact dO (dO c6)⟩
theorem AY {p5:List Int} (h:p5.length≤6000) (hb:aS p5 (aQ p5) (aV p5)=false):Dc ((p5.drop 0).take ((((aQ p5)).toNat)-0)):=by
 rw [List.drop_zero,Nat.sub_zero]
 exact (Fi (k7:=aQ p5) (b7:=aV p5) (b8:=true) h rfl rfl rfl rfl rfl rfl rfl rfl rfl rfl rfl rfl rfl rfl hb).1
theorem AU {p5:List Int} (h:p5.length≤6000):(aI p5).size≤16384:=by
 unfold aI
 exact rW _ (dO (qn h).2.2.1)
def vn:List AV→List Blk→Option (Prop × Ret)
 |[.sc (.p 0 0),.sc (.ro .u8 p5)],[.cells [.sl 1 0 1 4 none,.ro .u8 p0,.i .i64 p1,.b p2,.b p4,.s p3],.cells [.s p6,.s p7,.s p8,.nils]]=>some ((p5.length≤6000∧p0.length≤1000),⟨.tup [.sc (.sl 2 0 (eL p0 p1 p2 p4 p6 p7 p8 p5) 1 none),.sc (.i .i64 (bv p0 p1 p2 p4 p6 p7 p8 p5))],[some (.cells [.sl 1 0 1 4 none,.ro .u8 p0,.i .i64 (cq p0 p1 p2 p4 p6 p7 p8 p5),.b (cp p2 p4 p5),.b (dF p0 p2 p4 p6 p7 p8 p5),.s (dt p0 p2 p4 p3 p6 p7 p8 p5)]),some (.cells [.s p6,.s p7,.s p8,.nils]),some (.ints .u8 (eL p0 p1 p2 p4 p6 p7 p8 p5) (ec p0 p1 p2 p4 p6 p7 p8 p5))]⟩)
 |_,_=>none
def Dq:KL Tryz.prog gD:=Zv wR 160 1 <|Zv wR 304 1 <|Zv wR 2672 1 <|Zv wR 2704 1 <|Zc BR 2736 [.rob] [2720,2656,2672,2704] [] <|Zc BR 2768 [.rob] [2752,2688,2720,2736] [] <|Zc BR 3008 [.rob] [2992,2928,2960,2976] [] <|Zc uM 304 [.io] [] [256] <|Zc uM 1472 [.io] [] [256] <|Zc uM 1504 [.io] [] [256] <|Zc jB 352 [.io] [] [256] <|Zc jB 400 [.io] [] [256] <|Zc jB 448 [.io] [] [256] <|Zc jB 1520 [.io] [] [256] <|Zc jB 1552 [.io] [] [256] <|Zc jB 1600 [.io] [] [256] <|Zc jB 2016 [.io] [] [256] <|Zc ug 1440 [.io] [] [256] <|Zc ug 1568 [.io] [] [256] <|Zc ug 2544 [.io] [] [256] <|Zv wT 1648 2 <|Zv wT 2032 2 <|Zc MG 2480 [.ro .u8,.ro .u8,.ro .u8] [2288,2432,2464] [] <|Zc BL 2432 [.ro .u8,.ro .u8,.val] [] [] <|Zc wE 2720 [.ros] [2704] [] <|Zc wE 2960 [.ros] [2944] [] <|Zn
theorem vW:Known Tryz.prog gD 23 ⟨2,1,vn⟩:=by
 refine Xw Tryz.f23 229 Dq mixed <|fun E args ks C r h hC hlen=>?_
 simp only at h
 unfold vn at h
 split at h
 rotate_left
 cases h
 rename_i p5 p0 p1 p2 p4 p3 p6 p7 p8
 cases h
 simp only [bI] at hlen
 obtain ⟨hl,hs⟩:=hC
 obtain ⟨c0,c2,c6,c10⟩:=qn hl
 have hz:=cF p0
 have hv9:=AU hl
 have k1:=c10.2.1
 have k2:=c10.2.2
 have sz0:(⟨#[115,115,104,45,117,115,101,114,97,117,116,104]⟩:ByteArray).size=12:=rfl
 have sz1:(⟨#[115,115,104,45,101,100,50,53,53,49,57]⟩:ByteArray).size=11:=rfl
 refine ⟨rfl,?_⟩
 refine Xs [] [] 48 (v2 pT) <|Tri.seq <|Xs [Eb 28 p4] [] 112 (v3 (pu (Yl 4 6) pT)) <|Xa (fun h1=>?_) (fun h1=>?_)
 exact Xs [Ei 5 8,(4,.sc (.nils))] [28,0,1] 144 (v2 pT) <|Tri.sub (Sub.openNil (U:=144) (U':=160) 4 144 1 .u8 none (.inl rfl) (by decide) (by decide) (by kernel_rfl) (by kernel_rfl)) <|Xy (r':=⟨.tup [.sc (.sl 2 0 0 1 none),.sc (.i .i64 8)],[some (.cells [.sl 1 0 1 4 none,.ro .u8 p0,.i .i64 p1,.b p2,.b p4,.s p3]),some (.cells [.s p6,.s p7,.s p8,.nils]),some (.ints .u8 0 ([]:List Int))]⟩) [(0,0),(1,1),(144,2)] (pa pT pz) (by simp only [bv,cq,cp,dF,dt,ec,eL,h1,aD,aA])
 refine Tri.skip <|Tri.seq <|Xu [] (some [0,1,0,0,12,28,63]) [Eb 35 (aC (bytesOf p5) (bytesOf ((([5]++(aH (dU) (4+(⟨#[115,115,104,45,117,115,101,114,97,117,116,104]⟩:ByteArray).size) 0 (4+(⟨#[115,115,104,45,117,115,101,114,97,117,116,104]⟩:ByteArray).size))).drop 0).take (1+(4+(⟨#[115,115,104,45,117,115,101,114,97,117,116,104]⟩:ByteArray).size)))))] [28] [] [] 224 (v2 (pu (Yf 1) (pu (pa pT (Ye ((⟨#[115,115,104,45,117,115,101,114,97,117,116,104]⟩:ByteArray).size) 1000000)) (pu (Ya (Yw (4+(⟨#[115,115,104,45,117,115,101,114,97,117,116,104]⟩:ByteArray).size)) 1 (1+(4+(⟨#[115,115,104,45,117,115,101,114,97,117,116,104]⟩:ByteArray).size)) (4+(⟨#[115,115,104,45,117,115,101,114,97,117,116,104]⟩:ByteArray).size) (4+(⟨#[115,115,104,45,117,115,101,114,97,117,116,104]⟩:ByteArray).size) 1 1) (pu (Yw (1+(4+(⟨#[115,115,104,45,117,115,101,114,97,117,116,104]⟩:ByteArray).size))) (v1 pT)))))) <|Xa (fun h2=>?_) (fun h2=>?_)
 exact Xt [] [35,0,1] [Mc 0 [.sl 1 0 1 4 none,.ro .u8 p0,.i .i64 p1,.b true,.b p4,.s p3]] [0] 288 (v3 (pu (Ys 3 6) pT)) <|Xt [Ei 5 0,El 4 320 (1+(4+(⟨#[115,115,104,45,117,115,101,114,97,117,116,104]⟩:ByteArray).size))] [] [Mi 320 (1+(4+(⟨#[115,115,104,45,117,115,101,114,97,117,116,104]⟩:ByteArray).size)) ([6]++(aH (dU) (4+(⟨#[115,115,104,45,117,115,101,114,97,117,116,104]⟩:ByteArray).size) 0 (4+(⟨#[115,115,104,45,117,115,101,114,97,117,116,104]⟩:ByteArray).size)))] [] 368 (pu (Yf 1) (pu (pa pT (Ye ((⟨#[115,115,104,45,117,115,101,114,97,117,116,104]⟩:ByteArray).size) 1000000)) (pu (Ya (Yw (4+(⟨#[115,115,104,45,117,115,101,114,97,117,116,104]⟩:ByteArray).size)) 1 (1+(4+(⟨#[115,115,104,45,117,115,101,114,97,117,116,104]⟩:ByteArray).size)) (4+(⟨#[115,115,104,45,117,115,101,114,97,117,116,104]⟩:ByteArray).size) (4+(⟨#[115,115,104,45,117,115,101,114,97,117,116,104]⟩:ByteArray).size) 1 1) (v2 pT)))) <|Xy (r':=⟨.tup [.sc (.sl 2 0 (1+(4+(⟨#[115,115,104,45,117,115,101,114,97,117,116,104]⟩:ByteArray).size)) 1 none),.sc (.i .i64 0)],[some (.cells [.sl 1 0 1 4 none,.ro .u8 p0,.i .i64 p1,.b true,.b p4,.s p3]),some (.cells [.s p6,.s p7,.s p8,.nils]),some (.ints .u8 (1+(4+(⟨#[115,115,104,45,117,115,101,114,97,117,116,104]⟩:ByteArray).size)) ([6]++(aH (dU) (4+(⟨#[115,115,104,45,117,115,101,114,97,117,116,104]⟩:ByteArray).size) 0 (4+(⟨#[115,115,104,45,117,115,101,114,97,117,116,104]⟩:ByteArray).size))))]⟩) [(0,0),(1,1),(320,2)] (pa pT pz) (by simp only [bv,cq,cp,dF,dt,ec,eL,h1,h2,aD,aA])
 refine Tri.skip <|Xt [Ep 6 256] [35] [Mc 256 [.ro .u8 p5,.i .i64 0,.b false]] [] 288 (v1 (pu (pa (Ys 0 3) pT) (v2 pT))) <|Xt [Ei 7 (eY p5 0 false)] [] [Mc 256 [.ro .u8 p5,.i .i64 (aL p5 0 false),.b (aM p5 0 false)]] [256] 336 (v1 (pu (pa pT (lo (p5.length≤1000000000∧(0:Int)≤0∧0≤(p5.length:Int)))) (v1 pT))) <|Xt [Es 8 (aE p5 (aL p5 0 false) (aM p5 0 false))] [] [Mc 256 [.ro .u8 p5,.i .i64 (ab p5 (aL p5 0 false) (aM p5 0 false)),.b (aS p5 (aL p5 0 false) (aM p5 0 false))]] [256] 384 (v1 (pu (pa pT (pl (show p5.length≤1000000000∧(0:Int)≤(aL p5 0 false)∧(aL p5 0 false)≤(p5.length:Int) from by (show dD _ _;(repeat (first|exact c0|exact c2|exact c6|exact c10|refine dO ?_|refine fV ?_)))))) (v1 pT))) ?_
 refine Xt [Es 9 (dQ p5)] [] [Mc 256 [.ro .u8 p5,.i .i64 (aF p5),.b (aG p5)]] [256] 432 (v1 (pu (pa pT (pl (show p5.length≤1000000000∧(0:Int)≤(ab p5 (aL p5 0 false) (aM p5 0 false))∧(ab p5 (aL p5 0 false) (aM p5 0 false))≤(p5.length:Int) from by (show dD _ _;(repeat (first|exact c0|exact c2|exact c6|exact c10|refine dO ?_|refine fV ?_)))))) (v1 pT))) ?_
 refine Xt [Es 10 (aE p5 (aF p5) (aG p5))] [] [Mc 256 [.ro .u8 p5,.i .i64 (ab p5 (aF p5) (aG p5)),.b (aS p5 (aF p5) (aG p5))]] [256] 480 (v1 (pu (pa pT (pl (show p5.length≤1000000000∧(0:Int)≤(aF p5)∧(aF p5)≤(p5.length:Int) from by (show dD _ _;(repeat (first|exact c0|exact c2|exact c6|exact c10|refine dO ?_|refine fV ?_)))))) (v1 pT))) ?_
 refine Tri.seq <|Tri.seq <|Xk (((eY p5 0 false):Int) != 50) (fun bb=>[Eb 65 (sel bb true (sel (!p2) true (!(aC (dQ p5) (⟨#[115,115,104,45,99,111,110,110,101,99,116,105,111,110]⟩:ByteArray)))))]) [9,7] (fun bb=>[]) [] 688 (fun h3=>?_) (fun h3=>?_) ?_
 have h3':=di h3
 exact Wu [Eb 55 true] none [Eb 65 true] [9,7] [] [] 688 (v2 (pg h3 (v1 (v9 pT)))) <|Xe [Eb 65 true] []
 have h3':=bz h3
 refine Xk (!p2) (fun bb=>[Eb 65 (sel bb true (!(aC (dQ p5) (⟨#[115,115,104,45,99,111,110,110,101,99,116,105,111,110]⟩:ByteArray))))]) [9,7] (fun bb=>[]) [] 688 (fun h4=>?_) (fun h4=>?_) ?_
 exact Wu [Eb 55 false,Eb 62 true] none [Eb 65 true] [9,7] [] [] 688 (v2 (pg h3 (v3 (pu (Yl 3 6) (v2 (pg h4 (v3 pT))))))) <|Xe [Eb 65 true] []
 exact Wu [Eb 55 false,Eb 62 false] none [Eb 65 (!(aC (dQ p5) (⟨#[115,115,104,45,99,111,110,110,101,99,116,105,111,110]⟩:ByteArray)))] [9,7] [] [] 688 (v2 (pg h3 (v3 (pu (Yl 3 6) (v2 (pg h4 (v3 pT))))))) <|Xe [Eb 65 (!(aC (dQ p5) (⟨#[115,115,104,45,99,111,110,110,101,99,116,105,111,110]⟩:ByteArray)))] []
 exact Xe [Eb 65 (sel (!p2) true (!(aC (dQ p5) (⟨#[115,115,104,45,99,111,110,110,101,99,116,105,111,110]⟩:ByteArray))))] []
 refine Xa (fun h5=>?_) (fun h5=>?_)
 exact Xt [Ei 5 3,(4,.sc (.nils))] [65,10,8,6,0,1] [] [256] 720 (v2 pT) <|Tri.sub (Sub.openNil (U:=720) (U':=736) 4 720 1 .u8 none (.inl rfl) (by decide) (by decide) (by kernel_rfl) (by kernel_rfl)) <|Xy (r':=⟨.tup [.sc (.sl 2 0 0 1 none),.sc (.i .i64 3)],[some (.cells [.sl 1 0 1 4 none,.ro .u8 p0,.i .i64 p1,.b p2,.b p4,.s p3]),some (.cells [.s p6,.s p7,.s p8,.nils]),some (.ints .u8 0 ([]:List Int))]⟩) [(0,0),(1,1),(720,2)] (pa pT pz) (by simp only [bv,cq,cp,dF,dt,ec,eL,h1,h2,h5,aD,aA])
 refine Tri.skip <|Xt [Ep 11 704] [65] [Mc 704 [.s (⟨#[]⟩:ByteArray),.s (⟨#[]⟩:ByteArray),.s (⟨#[]⟩:ByteArray),.nils]] [] 736 (v2 (pu (pa (Yw 4) (Yr 4)) pT)) <|Tri.seq <|Xs [Ei 12 0] [] 848 (v3 (pu (Yl 0 6) (v3 pT))) <|Tri.block <|Tri.rounds 1 <|Tri.seq <|Xs [Eb 74 true] [] 880 (v2 pT) <|Tri.cond_true (by kernel_rfl) <|Tri.skip <|Tri.seq <|Tri.block <|Xs [Eb 86 (aC p6 (aE p5 (aL p5 0 false) (aM p5 0 false)))] [74] 1040 (v3 (pu (Yl 0 6) (v1 (pu (Yi 0 1) (v1 (pu (Yl 0 4) (v2 pT))))))) <|Xj (x:=(aC p6 (aE p5 (aL p5 0 false) (aM p5 0 false)))) (fun bb=>[]) [86] (fun bb=>[Mc 704 [.s (sel bb p6 (⟨#[]⟩:ByteArray)),.s (sel bb p7 (⟨#[]⟩:ByteArray)),.s (sel bb p8 (⟨#[]⟩:ByteArray)),.nils]]) [704] 1168 (fun h6=>?_) (fun h6=>?_) ?_
 exact Wt [] [86] [Mc 704 [.s p6,.s p7,.s p8,.nils]] [704] 1168 (v3 (pu (Yl 0 6) (v1 (pu (Yi 0 1) (pu (Yw 4) (pu (pa (Yw 4) (Yr 4)) pT)))))) <|Xe [] [Mc 704 [.s p6,.s p7,.s p8,.nils]]
 exact Tri.skip <|Xe [] [Mc 704 [.s (⟨#[]⟩:ByteArray),.s (⟨#[]⟩:ByteArray),.s (⟨#[]⟩:ByteArray),.nils]]
 refine Ws [Ei 12 (-1)] [12] 1216 (v3 pT) <|Tri.seq <|Xs [Eb 74 false] [] 1248 (v2 pT) <|Tri.cond_false (by kernel_rfl) <|Tri.exit <|Xs [Es 14 (⟨#[]⟩:ByteArray),Eb 13 false] [74,12] 1280 (v2 pT) <|Xs [Eb 15 (!(aS p5 (aF p5) (aG p5)))] [] 1376 (v3 (pu (Yl 2 3) (v2 pT))) <|Tri.seq <|Xs [Es 99 (aE p5 (aF p5) (aG p5))] [] 1392 (v1 pT) <|Tri.block <|Xs [Eb 100 (aC (aE p5 (aF p5) (aG p5)) (⟨#[110,111,110,101]⟩:ByteArray))] [] 1424 (v2 pT) <|Xj (x:=(aC (aE p5 (aF p5) (aG p5)) (⟨#[110,111,110,101]⟩:ByteArray))) (fun bb=>[Eb 15 (sel bb (ed p5) (sel (aC (aE p5 (aF p5) (aG p5)) (⟨#[112,97,115,115,119,111,114,100]⟩:ByteArray)) (sel (dw p5) (((aX p5):Int)==0) false) (sel (aC (aE p5 (aF p5) (aG p5)) (⟨#[112,117,98,108,105,99,107,101,121]⟩:ByteArray)) (cU p5) (!(aS p5 (aF p5) (aG p5)))))),Es 14 (sel bb (⟨#[]⟩:ByteArray) (sel (aC (aE p5 (aF p5) (aG p5)) (⟨#[112,97,115,115,119,111,114,100]⟩:ByteArray)) (⟨#[]⟩:ByteArray) (sel (aC (aE p5 (aF p5) (aG p5)) (⟨#[112,117,98,108,105,99,107,101,121]⟩:ByteArray)) (sel (((aX p5):Int)==0) (sel (sel (aC (aE p5 (aO p5) (aP p5)) (⟨#[115,115,104,45,101,100,50,53,53,49,57]⟩:ByteArray)) (sel (!(aC (aJ (aI p5) 32) (⟨#[]⟩:ByteArray))) (aC (aJ (aI p5) 32) (sel (aC p6 (aE p5 (aL p5 0 false) (aM p5 0 false))) p8 (⟨#[]⟩:ByteArray))) false) false) (aI p5) (⟨#[]⟩:ByteArray)) (⟨#[]⟩:ByteArray)) (⟨#[]⟩:ByteArray)))),Eb 13 (sel bb false (sel (aC (aE p5 (aF p5) (aG p5)) (⟨#[112,97,115,115,119,111,114,100]⟩:ByteArray)) (sel (!(aC (sel (aC p6 (aE p5 (aL p5 0 false) (aM p5 0 false))) p7 (⟨#[]⟩:ByteArray)) (⟨#[]⟩:ByteArray))) (aC (aE p5 (aO p5) (aP p5)) (sel (aC p6 (aE p5 (aL p5 0 false) (aM p5 0 false))) p7 (⟨#[]⟩:ByteArray))) false) (sel (aC (aE p5 (aF p5) (aG p5)) (⟨#[112,117,98,108,105,99,107,101,121]⟩:ByteArray)) (sel (((aX p5):Int)==0) false (sel (sel (aC (aE p5 (aO p5) (aP p5)) (⟨#[115,115,104,45,101,100,50,53,53,49,57]⟩:ByteArray)) (sel (!(aC (aJ (aI p5) 32) (⟨#[]⟩:ByteArray))) (aC (aJ (aI p5) 32) (sel (aC p6 (aE p5 (aL p5 0 false) (aM p5 0 false))) p8 (⟨#[]⟩:ByteArray))) false) false) (sel (!(aC (aJ (aE p5 (aQ p5) (aV p5)) 64) (⟨#[]⟩:ByteArray))) (sel (!(aS p5 (aQ p5) (aV p5))) (bX p0 p5) false) false) false)) false)))]) [100,99,15,14,13,11,6,1] (fun bb=>[]) [704,256] 2576 (fun h7=>?_) (fun h7=>?_) ?_
 exact Wt [Eb 15 (ed p5)] [100,99,15,11,6,1] [] [704,256] 1472 (v1 (pu pz (v1 pT))) <|Xe [Eb 15 (ed p5),Es 14 (⟨#[]⟩:ByteArray),Eb 13 false] []
 refine Xs [Eb 104 (aC (aE p5 (aF p5) (aG p5)) (⟨#[112,97,115,115,119,111,114,100]⟩:ByteArray))] [100] 1456 (v2 pT) <|Xj (x:=(aC (aE p5 (aF p5) (aG p5)) (⟨#[112,97,115,115,119,111,114,100]⟩:ByteArray))) (fun bb=>[Eb 13 (sel bb (sel (!(aC (sel (aC p6 (aE p5 (aL p5 0 false) (aM p5 0 false))) p7 (⟨#[]⟩:ByteArray)) (⟨#[]⟩:ByteArray))) (aC (aE p5 (aO p5) (aP p5)) (sel (aC p6 (aE p5 (aL p5 0 false) (aM p5 0 false))) p7 (⟨#[]⟩:ByteArray))) false) (sel (aC (aE p5 (aF p5) (aG p5)) (⟨#[112,117,98,108,105,99,107,101,121]⟩:ByteArray)) (sel (((aX p5):Int)==0) false (sel (sel (aC (aE p5 (aO p5) (aP p5)) (⟨#[115,115,104,45,101,100,50,53,53,49,57]⟩:ByteArray)) (sel (!(aC (aJ (aI p5) 32) (⟨#[]⟩:ByteArray))) (aC (aJ (aI p5) 32) (sel (aC p6 (aE p5 (aL p5 0 false) (aM p5 0 false))) p8 (⟨#[]⟩:ByteArray))) false) false) (sel (!(aC (aJ (aE p5 (aQ p5) (aV p5)) 64) (⟨#[]⟩:ByteArray))) (sel (!(aS p5 (aQ p5) (aV p5))) (bX p0 p5) false) false) false)) false)),Eb 15 (sel bb (sel (dw p5) (((aX p5):Int)==0) false) (sel (aC (aE p5 (aF p5) (aG p5)) (⟨#[112,117,98,108,105,99,107,101,121]⟩:ByteArray)) (cU p5) (!(aS p5 (aF p5) (aG p5))))),Es 14 (sel bb (⟨#[]⟩:ByteArray) (sel (aC (aE p5 (aF p5) (aG p5)) (⟨#[112,117,98,108,105,99,107,101,121]⟩:ByteArray)) (sel (((aX p5):Int)==0) (sel (sel (aC (aE p5 (aO p5) (aP p5)) (⟨#[115,115,104,45,101,100,50,53,53,49,57]⟩:ByteArray)) (sel (!(aC (aJ (aI p5) 32) (⟨#[]⟩:ByteArray))) (aC (aJ (aI p5) 32) (sel (aC p6 (aE p5 (aL p5 0 false) (aM p5 0 false))) p8 (⟨#[]⟩:ByteArray))) false) false) (aI p5) (⟨#[]⟩:ByteArray)) (⟨#[]⟩:ByteArray)) (⟨#[]⟩:ByteArray)))]) [104,99,15,14,13,11,6,1] (fun bb=>[]) [704,256] 2576 (fun h8=>?_) (fun h8=>?_) ?_
 refine Xt [Ei 16 (aX p5)] [104,99,15,13,1] [Mc 256 [.ro .u8 p5,.i .i64 (aO p5),.b (aP p5)]] [256] 1504 (v1 (pu (pa pT (pl (show p5.length≤1000000000∧(0:Int)≤(ab p5 (aF p5) (aG p5))∧(ab p5 (aF p5) (aG p5))≤(p5.length:Int) from by (show dD _ _;(repeat (first|exact c0|exact c2|exact c6|exact c10|refine dO ?_|refine fV ?_)))))) (v1 pT))) ?_
 refine Xt [Es 17 (aE p5 (aO p5) (aP p5))] [] [Mc 256 [.ro .u8 p5,.i .i64 (ab p5 (aO p5) (aP p5)),.b (aS p5 (aO p5) (aP p5))]] [256] 1552 (v1 (pu (pa pT (pl (show p5.length≤1000000000∧(0:Int)≤(aO p5)∧(aO p5)≤(p5.length:Int) from by (show dD _ _;(repeat (first|exact c0|exact c2|exact c6|exact c10|refine dO ?_|refine fV ?_)))))) (v1 pT))) ?_
 refine Tri.seq <|Xk (dw p5) (fun bb=>[Eb 15 (sel bb (((aX p5):Int)==0) false)]) [16,6] (fun bb=>[]) [256] 1664 (fun h9=>?_) (fun h9=>?_) ?_
 exact Wu [Eb 112 true] none [Eb 15 (((aX p5):Int)==0)] [16,6] [] [256] 1664 (v1 (pu pz (pg h9 (v4 pT)))) <|Xe [Eb 15 (((aX p5):Int)==0)] []
 exact Wu [Eb 112 false] none [Eb 15 false] [16,6] [] [256] 1664 (v1 (pu pz (pg h9 (v4 pT)))) <|Xe [Eb 15 false] []
 refine Xk (!(aC (sel (aC p6 (aE p5 (aL p5 0 false) (aM p5 0 false))) p7 (⟨#[]⟩:ByteArray)) (⟨#[]⟩:ByteArray))) (fun bb=>[Eb 13 (sel bb (aC (aE p5 (aO p5) (aP p5)) (sel (aC p6 (aE p5 (aL p5 0 false) (aM p5 0 false))) p7 (⟨#[]⟩:ByteArray))) false)]) [17,11] (fun bb=>[]) [704] 1824 (fun h10=>?_) (fun h10=>?_) ?_
 exact Wu [Eb 119 true] none [Eb 13 (aC (aE p5 (aO p5) (aP p5)) (sel (aC p6 (aE p5 (aL p5 0 false) (aM p5 0 false))) p7 (⟨#[]⟩:ByteArray)))] [17,11] [] [704] 1824 (v1 (pu (Yl 1 4) (v1 (pg h10 (v2 (pu (Yl 1 4) (v3 pT))))))) <|Xe [Eb 13 (aC (aE p5 (aO p5) (aP p5)) (sel (aC p6 (aE p5 (aL p5 0 false) (aM p5 0 false))) p7 (⟨#[]⟩:ByteArray)))] []
 exact Wu [Eb 119 false] none [Eb 13 false] [17,11] [] [704] 1824 (v1 (pu (Yl 1 4) (v1 (pg h10 (v6 pT))))) <|Xe [Eb 13 false] []
 exact Xe [Eb 13 (sel (!(aC (sel (aC p6 (aE p5 (aL p5 0 false) (aM p5 0 false))) p7 (⟨#[]⟩:ByteArray)) (⟨#[]⟩:ByteArray))) (aC (aE p5 (aO p5) (aP p5)) (sel (aC p6 (aE p5 (aL p5 0 false) (aM p5 0 false))) p7 (⟨#[]⟩:ByteArray))) false),Eb 15 (sel (dw p5) (((aX p5):Int)==0) false),Es 14 (⟨#[]⟩:ByteArray)] []
 refine Xs [Eb 125 (aC (aE p5 (aF p5) (aG p5)) (⟨#[112,117,98,108,105,99,107,101,121]⟩:ByteArray))] [104,99] 1488 (v2 pT) <|Xj (x:=(aC (aE p5 (aF p5) (aG p5)) (⟨#[112,117,98,108,105,99,107,101,121]⟩:ByteArray))) (fun bb=>[Eb 15 (sel bb (cU p5) (!(aS p5 (aF p5) (aG p5)))),Es 14 (sel bb (sel (((aX p5):Int)==0) (sel (sel (aC (aE p5 (aO p5) (aP p5)) (⟨#[115,115,104,45,101,100,50,53,53,49,57]⟩:ByteArray)) (sel (!(aC (aJ (aI p5) 32) (⟨#[]⟩:ByteArray))) (aC (aJ (aI p5) 32) (sel (aC p6 (aE p5 (aL p5 0 false) (aM p5 0 false))) p8 (⟨#[]⟩:ByteArray))) false) false) (aI p5) (⟨#[]⟩:ByteArray)) (⟨#[]⟩:ByteArray)) (⟨#[]⟩:ByteArray)),Eb 13 (sel bb (sel (((aX p5):Int)==0) false (sel (sel (aC (aE p5 (aO p5) (aP p5)) (⟨#[115,115,104,45,101,100,50,53,53,49,57]⟩:ByteArray)) (sel (!(aC (aJ (aI p5) 32) (⟨#[]⟩:ByteArray))) (aC (aJ (aI p5) 32) (sel (aC p6 (aE p5 (aL p5 0 false) (aM p5 0 false))) p8 (⟨#[]⟩:ByteArray))) false) false) (sel (!(aC (aJ (aE p5 (aQ p5) (aV p5)) 64) (⟨#[]⟩:ByteArray))) (sel (!(aS p5 (aQ p5) (aV p5))) (bX p0 p5) false) false) false)) false)]) [125,15,14,13,11,6,1] (fun bb=>[]) [704,256] 2576 (fun h11=>?_) (fun h11=>?_) ?_
 refine Xt [Ei 18 (aX p5)] [125,15] [Mc 256 [.ro .u8 p5,.i .i64 (aO p5),.b (aP p5)]] [256] 1536 (v1 (pu (pa pT (pl (show p5.length≤1000000000∧(0:Int)≤(ab p5 (aF p5) (aG p5))∧(ab p5 (aF p5) (aG p5))≤(p5.length:Int) from by (show dD _ _;(repeat (first|exact c0|exact c2|exact c6|exact c10|refine dO ?_|refine fV ?_)))))) (v1 pT))) ?_
 refine Xt [Es 19 (aE p5 (aO p5) (aP p5))] [] [Mc 256 [.ro .u8 p5,.i .i64 (ab p5 (aO p5) (aP p5)),.b (aS p5 (aO p5) (aP p5))]] [256] 1584 (v1 (pu (pa pT (pl (show p5.length≤1000000000∧(0:Int)≤(aO p5)∧(aO p5)≤(p5.length:Int) from by (show dD _ _;(repeat (first|exact c0|exact c2|exact c6|exact c10|refine dO ?_|refine fV ?_)))))) (v1 pT))) ?_
 refine Xt [Es 20 (aI p5)] [] [Mc 256 [.ro .u8 p5,.i .i64 (aQ p5),.b (aV p5)]] [256] 1632 (v1 (pu (pa pT (pl (show p5.length≤1000000000∧(0:Int)≤(ab p5 (aO p5) (aP p5))∧(ab p5 (aO p5) (aP p5))≤(p5.length:Int) from by (show dD _ _;(repeat (first|exact c0|exact c2|exact c6|exact c10|refine dO ?_|refine fV ?_)))))) (v1 pT))) ?_
 refine Xs [Es 21 (aJ (aI p5) 32)] [] 1680 (v1 (pu (pa pT (Ye ((aI p5).size) 1000000000)) (v1 pT))) <|Tri.seq <|Xk (aC (aE p5 (aO p5) (aP p5)) (⟨#[115,115,104,45,101,100,50,53,53,49,57]⟩:ByteArray)) (fun bb=>[Eb 22 (sel bb (sel (!(aC (aJ (aI p5) 32) (⟨#[]⟩:ByteArray))) (aC (aJ (aI p5) 32) (sel (aC p6 (aE p5 (aL p5 0 false) (aM p5 0 false))) p8 (⟨#[]⟩:ByteArray))) false) false)]) [19,11] (fun bb=>[]) [704] 1888 (fun h12=>?_) (fun h12=>?_) ?_
 refine Xk (!(aC (aJ (aI p5) 32) (⟨#[]⟩:ByteArray))) (fun bb=>[Eb 22 (sel bb (aC (aJ (aI p5) 32) (sel (aC p6 (aE p5 (aL p5 0 false) (aM p5 0 false))) p8 (⟨#[]⟩:ByteArray))) false)]) [19,11] (fun bb=>[]) [704] 1888 (fun h13=>?_) (fun h13=>?_) ?_
 exact Wu [Eb 137 true,Eb 141 true] none [Eb 22 (aC (aJ (aI p5) 32) (sel (aC p6 (aE p5 (aL p5 0 false) (aM p5 0 false))) p8 (⟨#[]⟩:ByteArray)))] [19,11] [] [704] 1888 (v2 (pg h12 (v3 (pg h13 (v2 (pu (Yl 2 4) (v3 pT))))))) <|Xe [Eb 22 (aC (aJ (aI p5) 32) (sel (aC p6 (aE p5 (aL p5 0 false) (aM p5 0 false))) p8 (⟨#[]⟩:ByteArray)))] []
 exact Wu [Eb 137 true,Eb 141 false] none [Eb 22 false] [19,11] [] [704] 1888 (v2 (pg h12 (v3 (pg h13 (v6 pT))))) <|Xe [Eb 22 false] []
 exact Xe [Eb 22 (sel (!(aC (aJ (aI p5) 32) (⟨#[]⟩:ByteArray))) (aC (aJ (aI p5) 32) (sel (aC p6 (aE p5 (aL p5 0 false) (aM p5 0 false))) p8 (⟨#[]⟩:ByteArray))) false)] []
 exact Wu [Eb 137 false] none [Eb 22 false] [19,11] [] [704] 1888 (v2 (pg h12 (v1 (v9 pT)))) <|Xe [Eb 22 false] []
 refine Tri.seq <|Xs [Eb 148 (((aX p5):Int)==0)] [] 1920 (v2 pT) <|Xj (x:=(((aX p5):Int)==0)) (fun bb=>[Es 14 (sel bb (sel (sel (aC (aE p5 (aO p5) (aP p5)) (⟨#[115,115,104,45,101,100,50,53,53,49,57]⟩:ByteArray)) (sel (!(aC (aJ (aI p5) 32) (⟨#[]⟩:ByteArray))) (aC (aJ (aI p5) 32) (sel (aC p6 (aE p5 (aL p5 0 false) (aM p5 0 false))) p8 (⟨#[]⟩:ByteArray))) false) false) (aI p5) (⟨#[]⟩:ByteArray)) (⟨#[]⟩:ByteArray)),Eb 13 (sel bb false (sel (sel (aC (aE p5 (aO p5) (aP p5)) (⟨#[115,115,104,45,101,100,50,53,53,49,57]⟩:ByteArray)) (sel (!(aC (aJ (aI p5) 32) (⟨#[]⟩:ByteArray))) (aC (aJ (aI p5) 32) (sel (aC p6 (aE p5 (aL p5 0 false) (aM p5 0 false))) p8 (⟨#[]⟩:ByteArray))) false) false) (sel (!(aC (aJ (aE p5 (aQ p5) (aV p5)) 64) (⟨#[]⟩:ByteArray))) (sel (!(aS p5 (aQ p5) (aV p5))) (bX p0 p5) false) false) false))]) [148,22,21,20,18,14,13,1] (fun bb=>[Mc 256 [.ro .u8 p5,.i .i64 (sel bb (aQ p5) (ab p5 (aQ p5) (aV p5))),.b (sel bb (aV p5) (aS p5 (aQ p5) (aV p5)))]]) [256] 2528 (fun h14=>?_) (fun h14=>?_) ?_
 have h14':=dA h14
 refine Xs [Eb 149 (sel (aC (aE p5 (aO p5) (aP p5)) (⟨#[115,115,104,45,101,100,50,53,53,49,57]⟩:ByteArray)) (sel (!(aC (aJ (aI p5) 32) (⟨#[]⟩:ByteArray))) (aC (aJ (aI p5) 32) (sel (aC p6 (aE p5 (aL p5 0 false) (aM p5 0 false))) p8 (⟨#[]⟩:ByteArray))) false) false)] [148,22,21,18,1] 1936 (v1 pT) <|Xj (x:=(sel (aC (aE p5 (aO p5) (aP p5)) (⟨#[115,115,104,45,101,100,50,53,53,49,57]⟩:ByteArray)) (sel (!(aC (aJ (aI p5) 32) (⟨#[]⟩:ByteArray))) (aC (aJ (aI p5) 32) (sel (aC p6 (aE p5 (aL p5 0 false) (aM p5 0 false))) p8 (⟨#[]⟩:ByteArray))) false) false)) (fun bb=>[Es 14 (sel bb (aI p5) (⟨#[]⟩:ByteArray))]) [149,20,14] (fun bb=>[]) [] 1968 (fun h15=>?_) (fun h15=>?_) ?_
 exact Ws [Es 14 (aI p5)] [149,20,14] 1968 (v2 pT) <|Xe [Es 14 (aI p5)] []
 exact Tri.skip <|Xe [Es 14 (⟨#[]⟩:ByteArray)] []
 exact Xe [Es 14 (sel (sel (aC (aE p5 (aO p5) (aP p5)) (⟨#[115,115,104,45,101,100,50,53,53,49,57]⟩:ByteArray)) (sel (!(aC (aJ (aI p5) 32) (⟨#[]⟩:ByteArray))) (aC (aJ (aI p5) 32) (sel (aC p6 (aE p5 (aL p5 0 false) (aM p5 0 false))) p8 (⟨#[]⟩:ByteArray))) false) false) (aI p5) (⟨#[]⟩:ByteArray)),Eb 13 false] [Mc 256 [.ro .u8 p5,.i .i64 (aQ p5),.b (aV p5)]]
 have h14':=cZ h14
 refine Xs [Ei 23 (aQ p5)] [148,20,13] 2000 (v3 (pu (Yl 1 3) (v1 pT))) <|Xt [Es 24 (aJ (aE p5 (aQ p5) (aV p5)) 64)] [] [Mc 256 [.ro .u8 p5,.i .i64 (ab p5 (aQ p5) (aV p5)),.b (aS p5 (aQ p5) (aV p5))]] [256] 2064 (v1 (pu (pa pT (lo (p5.length≤1000000000∧(0:Int)≤(aQ p5)∧(aQ p5)≤(p5.length:Int)))) (pu (pa pT (pl (show (aE p5 (aQ p5) (aV p5)).size≤1000000000 from Nat.le_trans (rW _ (by (show dD _ _;(repeat (first|exact c0|exact c2|exact c6|exact c10|refine dO ?_|refine fV ?_))))) (by decide)))) (v1 pT)))) ?_
 refine Xk (sel (aC (aE p5 (aO p5) (aP p5)) (⟨#[115,115,104,45,101,100,50,53,53,49,57]⟩:ByteArray)) (sel (!(aC (aJ (aI p5) 32) (⟨#[]⟩:ByteArray))) (aC (aJ (aI p5) 32) (sel (aC p6 (aE p5 (aL p5 0 false) (aM p5 0 false))) p8 (⟨#[]⟩:ByteArray))) false) false) (fun bb=>[Eb 13 (sel bb (sel (!(aC (aJ (aE p5 (aQ p5) (aV p5)) 64) (⟨#[]⟩:ByteArray))) (sel (!(aS p5 (aQ p5) (aV p5))) (bX p0 p5) false) false) false)]) [24,23,22,21,18,1] (fun bb=>[]) [] 2528 (fun h16=>?_) (fun h16=>?_) ?_
 refine Xk (!(aC (aJ (aE p5 (aQ p5) (aV p5)) 64) (⟨#[]⟩:ByteArray))) (fun bb=>[Eb 13 (sel bb (sel (!(aS p5 (aQ p5) (aV p5))) (bX p0 p5) false) false)]) [24,23,22,21,18,1] (fun bb=>[]) [] 2528 (fun h17=>?_) (fun h17=>?_) ?_
 refine Xk (!(aS p5 (aQ p5) (aV p5))) (fun bb=>[Eb 13 (sel bb (bX p0 p5) false)]) [24,23,22,21,18,1] (fun bb=>[]) [] 2528 (fun h18=>?_) (fun h18=>?_) ?_
 exact Wu [Eb 159 true,Eb 163 true,Eb 170 true] (some [0,1,3,7,15,31,63,127,255,511,1023,2047,4095,8191,16383,8191,40959,106495,237567,8191,8191,1581055,8191,8364031,8191,16785407,67108863,134217727,268435455]) [Eb 13 (bX p0 p5)] [24,23,22,21,18,1] [] [] 2528 (v1 (pg h16 (v3 (pg h17 (v3 (pu (Yl 2 3) (v2 (pg h18 (v5 (pu (Yl 1 6) (v2 (pu (lo ((0:Int)≤0∧(0:Int)≤(aQ p5)∧(aQ p5)≤(p5.length:Int))) (v1 (pu (pa (pa pT pz) (pl (show p0.length≤1000∧Dc ((p5.drop 0).take ((((aQ p5)).toNat)-0)) from ⟨hs,AY hl (Lp (by assumption))⟩))) (v2 (pu (pa (pa (Yw ((aJ (aI p5) 32).size)) (pa (Yw ((4+(bytesOf p0).size)+((p5.drop 0).take ((((aQ p5)).toNat)-0)).length)) (pa (Yw ((aJ (aE p5 (aQ p5) (aV p5)) 64).size)) pT))) (pl (show (aH (gf p0 ((p5.drop 0).take ((((aQ p5)).toNat)-0))) ((4+(bytesOf p0).size)+((p5.drop 0).take ((((aQ p5)).toNat)-0)).length) 0 ((4+(bytesOf p0).size)+((p5.drop 0).take ((((aQ p5)).toNat)-0)).length)).length≤10000 from bV (by rw [List.length_take,List.drop_zero];omega) (by rw [pS,List.length_take,List.drop_zero];omega)))) (v2 pT))))))))))))))))) <|Xe [Eb 13 (bX p0 p5)] []
 exact Wu [Eb 159 true,Eb 163 true,Eb 170 false] (some [0,1,3,7,15,31,63,127,255,511,1023,2047,4095,8191,16383,8191,40959,106495,237567,8191,8191,1581055,8191,8364031,8191,16785407,67108863,134217727,268435455]) [Eb 13 false] [24,23,22,21,18,1] [] [] 2528 (v1 (pg h16 (v3 (pg h17 (v3 (pu (Yl 2 3) (v2 (pg h18 (v7 (v9 pT)))))))))) <|Xe [Eb 13 false] []
 exact Xe [Eb 13 (sel (!(aS p5 (aQ p5) (aV p5))) (bX p0 p5) false)] []
 exact Wu [Eb 159 true,Eb 163 false] (some [0,1,3,7,15,31,63,127,255,511,1023,2047,4095,8191,16383,8191,40959,106495,237567,8191,8191,1581055,8191,8364031,8191,16785407,67108863,134217727,268435455]) [Eb 13 false] [24,23,22,21,18,1] [] [] 2528 (v1 (pg h16 (v3 (pg h17 (v5 (v9 (v9 pT))))))) <|Xe [Eb 13 false] []
 exact Xe [Eb 13 (sel (!(aC (aJ (aE p5 (aQ p5) (aV p5)) 64) (⟨#[]⟩:ByteArray))) (sel (!(aS p5 (aQ p5) (aV p5))) (bX p0 p5) false) false)] []
 exact Wu [Eb 159 false] (some [0,1,3,7,15,31,63,127,255,511,1023,2047,4095,8191,16383,8191,40959,106495,237567,8191,8191,1581055,8191,8364031,8191,16785407,67108863,134217727,268435455]) [Eb 13 false] [24,23,22,21,18,1] [] [] 2528 (v1 (pg h16 (v9 (v9 (v9 pT))))) <|Xe [Eb 13 false] []
 exact Xe [Es 14 (⟨#[]⟩:ByteArray),Eb 13 (sel (sel (aC (aE p5 (aO p5) (aP p5)) (⟨#[115,115,104,45,101,100,50,53,53,49,57]⟩:ByteArray)) (sel (!(aC (aJ (aI p5) 32) (⟨#[]⟩:ByteArray))) (aC (aJ (aI p5) 32) (sel (aC p6 (aE p5 (aL p5 0 false) (aM p5 0 false))) p8 (⟨#[]⟩:ByteArray))) false) false) (sel (!(aC (aJ (aE p5 (aQ p5) (aV p5)) 64) (⟨#[]⟩:ByteArray))) (sel (!(aS p5 (aQ p5) (aV p5))) (bX p0 p5) false) false) false)] [Mc 256 [.ro .u8 p5,.i .i64 (ab p5 (aQ p5) (aV p5)),.b (aS p5 (aQ p5) (aV p5))]]
 exact Wt [Eb 15 (cU p5)] [6] [] [256] 2576 (v1 (pu pz (v1 pT))) <|Xe [Eb 15 (cU p5),Es 14 (sel (((aX p5):Int)==0) (sel (sel (aC (aE p5 (aO p5) (aP p5)) (⟨#[115,115,104,45,101,100,50,53,53,49,57]⟩:ByteArray)) (sel (!(aC (aJ (aI p5) 32) (⟨#[]⟩:ByteArray))) (aC (aJ (aI p5) 32) (sel (aC p6 (aE p5 (aL p5 0 false) (aM p5 0 false))) p8 (⟨#[]⟩:ByteArray))) false) false) (aI p5) (⟨#[]⟩:ByteArray)) (⟨#[]⟩:ByteArray)),Eb 13 (sel (((aX p5):Int)==0) false (sel (sel (aC (aE p5 (aO p5) (aP p5)) (⟨#[115,115,104,45,101,100,50,53,53,49,57]⟩:ByteArray)) (sel (!(aC (aJ (aI p5) 32) (⟨#[]⟩:ByteArray))) (aC (aJ (aI p5) 32) (sel (aC p6 (aE p5 (aL p5 0 false) (aM p5 0 false))) p8 (⟨#[]⟩:ByteArray))) false) false) (sel (!(aC (aJ (aE p5 (aQ p5) (aV p5)) 64) (⟨#[]⟩:ByteArray))) (sel (!(aS p5 (aQ p5) (aV p5))) (bX p0 p5) false) false) false))] []
 exact Tri.skip <|Xe [Eb 15 (!(aS p5 (aF p5) (aG p5))),Es 14 (⟨#[]⟩:ByteArray),Eb 13 false] []
 exact Xe [Eb 13 (sel (aC (aE p5 (aF p5) (aG p5)) (⟨#[112,117,98,108,105,99,107,101,121]⟩:ByteArray)) (sel (((aX p5):Int)==0) false (sel (sel (aC (aE p5 (aO p5) (aP p5)) (⟨#[115,115,104,45,101,100,50,53,53,49,57]⟩:ByteArray)) (sel (!(aC (aJ (aI p5) 32) (⟨#[]⟩:ByteArray))) (aC (aJ (aI p5) 32) (sel (aC p6 (aE p5 (aL p5 0 false) (aM p5 0 false))) p8 (⟨#[]⟩:ByteArray))) false) false) (sel (!(aC (aJ (aE p5 (aQ p5) (aV p5)) 64) (⟨#[]⟩:ByteArray))) (sel (!(aS p5 (aQ p5) (aV p5))) (bX p0 p5) false) false) false)) false),Eb 15 (sel (aC (aE p5 (aF p5) (aG p5)) (⟨#[112,117,98,108,105,99,107,101,121]⟩:ByteArray)) (cU p5) (!(aS p5 (aF p5) (aG p5)))),Es 14 (sel (aC (aE p5 (aF p5) (aG p5)) (⟨#[112,117,98,108,105,99,107,101,121]⟩:ByteArray)) (sel (((aX p5):Int)==0) (sel (sel (aC (aE p5 (aO p5) (aP p5)) (⟨#[115,115,104,45,101,100,50,53,53,49,57]⟩:ByteArray)) (sel (!(aC (aJ (aI p5) 32) (⟨#[]⟩:ByteArray))) (aC (aJ (aI p5) 32) (sel (aC p6 (aE p5 (aL p5 0 false) (aM p5 0 false))) p8 (⟨#[]⟩:ByteArray))) false) false) (aI p5) (⟨#[]⟩:ByteArray)) (⟨#[]⟩:ByteArray)) (⟨#[]⟩:ByteArray))] []
 exact Xe [Eb 15 (sel (aC (aE p5 (aF p5) (aG p5)) (⟨#[112,97,115,115,119,111,114,100]⟩:ByteArray)) (sel (dw p5) (((aX p5):Int)==0) false) (sel (aC (aE p5 (aF p5) (aG p5)) (⟨#[112,117,98,108,105,99,107,101,121]⟩:ByteArray)) (cU p5) (!(aS p5 (aF p5) (aG p5))))),Es 14 (sel (aC (aE p5 (aF p5) (aG p5)) (⟨#[112,97,115,115,119,111,114,100]⟩:ByteArray)) (⟨#[]⟩:ByteArray) (sel (aC (aE p5 (aF p5) (aG p5)) (⟨#[112,117,98,108,105,99,107,101,121]⟩:ByteArray)) (sel (((aX p5):Int)==0) (sel (sel (aC (aE p5 (aO p5) (aP p5)) (⟨#[115,115,104,45,101,100,50,53,53,49,57]⟩:ByteArray)) (sel (!(aC (aJ (aI p5) 32) (⟨#[]⟩:ByteArray))) (aC (aJ (aI p5) 32) (sel (aC p6 (aE p5 (aL p5 0 false) (aM p5 0 false))) p8 (⟨#[]⟩:ByteArray))) false) false) (aI p5) (⟨#[]⟩:ByteArray)) (⟨#[]⟩:ByteArray)) (⟨#[]⟩:ByteArray))),Eb 13 (sel (aC (aE p5 (aF p5) (aG p5)) (⟨#[112,97,115,115,119,111,114,100]⟩:ByteArray)) (sel (!(aC (sel (aC p6 (aE p5 (aL p5 0 false) (aM p5 0 false))) p7 (⟨#[]⟩:ByteArray)) (⟨#[]⟩:ByteArray))) (aC (aE p5 (aO p5) (aP p5)) (sel (aC p6 (aE p5 (aL p5 0 false) (aM p5 0 false))) p7 (⟨#[]⟩:ByteArray))) false) (sel (aC (aE p5 (aF p5) (aG p5)) (⟨#[112,117,98,108,105,99,107,101,121]⟩:ByteArray)) (sel (((aX p5):Int)==0) false (sel (sel (aC (aE p5 (aO p5) (aP p5)) (⟨#[115,115,104,45,101,100,50,53,53,49,57]⟩:ByteArray)) (sel (!(aC (aJ (aI p5) 32) (⟨#[]⟩:ByteArray))) (aC (aJ (aI p5) 32) (sel (aC p6 (aE p5 (aL p5 0 false) (aM p5 0 false))) p8 (⟨#[]⟩:ByteArray))) false) false) (sel (!(aC (aJ (aE p5 (aQ p5) (aV p5)) 64) (⟨#[]⟩:ByteArray))) (sel (!(aS p5 (aQ p5) (aV p5))) (bX p0 p5) false) false) false)) false))] []
 refine Tri.seq <|Xs [Eb 189 (!(sel (aC (aE p5 (aF p5) (aG p5)) (⟨#[110,111,110,101]⟩:ByteArray)) (ed p5) (sel (aC (aE p5 (aF p5) (aG p5)) (⟨#[112,97,115,115,119,111,114,100]⟩:ByteArray)) (sel (dw p5) (((aX p5):Int)==0) false) (sel (aC (aE p5 (aF p5) (aG p5)) (⟨#[112,117,98,108,105,99,107,101,121]⟩:ByteArray)) (cU p5) (!(aS p5 (aF p5) (aG p5)))))))] [15] 2608 (v2 pT) <|Xa (fun h19=>?_) (fun h19=>?_)
 exact Xs [Ei 5 3,(4,.sc (.nils))] [189,14,13,10,8,0] 2640 (v2 pT) <|Tri.sub (Sub.openNil (U:=2640) (U':=2656) 4 2640 1 .u8 none (.inl rfl) (by decide) (by decide) (by kernel_rfl) (by kernel_rfl)) <|Xy (r':=⟨.tup [.sc (.sl 2 0 0 1 none),.sc (.i .i64 3)],[some (.cells [.sl 1 0 1 4 none,.ro .u8 p0,.i .i64 p1,.b p2,.b p4,.s p3]),some (.cells [.s p6,.s p7,.s p8,.nils]),some (.ints .u8 0 ([]:List Int))]⟩) [(0,0),(1,1),(2640,2)] (pa pT pz) (by simp only [bv,cq,cp,dF,dt,ec,eL,h1,h2,h5,h19,aD,aA])
 refine Tri.skip <|Tri.seq <|Xs [Eb 190 (sel (aC (aE p5 (aF p5) (aG p5)) (⟨#[110,111,110,101]⟩:ByteArray)) false (sel (aC (aE p5 (aF p5) (aG p5)) (⟨#[112,97,115,115,119,111,114,100]⟩:ByteArray)) (sel (!(aC (sel (aC p6 (aE p5 (aL p5 0 false) (aM p5 0 false))) p7 (⟨#[]⟩:ByteArray)) (⟨#[]⟩:ByteArray))) (aC (aE p5 (aO p5) (aP p5)) (sel (aC p6 (aE p5 (aL p5 0 false) (aM p5 0 false))) p7 (⟨#[]⟩:ByteArray))) false) (sel (aC (aE p5 (aF p5) (aG p5)) (⟨#[112,117,98,108,105,99,107,101,121]⟩:ByteArray)) (sel (((aX p5):Int)==0) false (sel (sel (aC (aE p5 (aO p5) (aP p5)) (⟨#[115,115,104,45,101,100,50,53,53,49,57]⟩:ByteArray)) (sel (!(aC (aJ (aI p5) 32) (⟨#[]⟩:ByteArray))) (aC (aJ (aI p5) 32) (sel (aC p6 (aE p5 (aL p5 0 false) (aM p5 0 false))) p8 (⟨#[]⟩:ByteArray))) false) false) (sel (!(aC (aJ (aE p5 (aQ p5) (aV p5)) 64) (⟨#[]⟩:ByteArray))) (sel (!(aS p5 (aQ p5) (aV p5))) (bX p0 p5) false) false) false)) false)))] [189,13] 2624 (v1 pT) <|Xa (fun h20=>?_) (fun h20=>?_)
 exact Xt [] [190,14,10] [Mc 0 [.sl 1 0 1 4 none,.ro .u8 p0,.i .i64 p1,.b p2,.b true,.s p3]] [0] 2688 (v3 (pu (Ys 4 6) pT)) <|Xt [] [8,0] [Mc 0 [.sl 1 0 1 4 none,.ro .u8 p0,.i .i64 p1,.b p2,.b true,.s (aE p5 (aL p5 0 false) (aM p5 0 false))]] [0] 2768 (v4 (pu (Ys 5 6) pT)) <|Xt [Ei 5 0,El 4 2768 1] [] [Mi 2768 1 [52]] [] 2816 (pu (Yf 1) (v2 pT)) <|Xy [(0,0),(1,1),(2768,2)] (pa pT pz) (by simp only [bv,cq,cp,dF,dt,ec,eL,h1,h2,h5,h19,h20,aD,aA] <;> rfl)
 refine Tri.skip <|Tri.seq <|Xs [Eb 200 (!(aC (sel (aC (aE p5 (aF p5) (aG p5)) (⟨#[110,111,110,101]⟩:ByteArray)) (⟨#[]⟩:ByteArray) (sel (aC (aE p5 (aF p5) (aG p5)) (⟨#[112,97,115,115,119,111,114,100]⟩:ByteArray)) (⟨#[]⟩:ByteArray) (sel (aC (aE p5 (aF p5) (aG p5)) (⟨#[112,117,98,108,105,99,107,101,121]⟩:ByteArray)) (sel (((aX p5):Int)==0) (sel (sel (aC (aE p5 (aO p5) (aP p5)) (⟨#[115,115,104,45,101,100,50,53,53,49,57]⟩:ByteArray)) (sel (!(aC (aJ (aI p5) 32) (⟨#[]⟩:ByteArray))) (aC (aJ (aI p5) 32) (sel (aC p6 (aE p5 (aL p5 0 false) (aM p5 0 false))) p8 (⟨#[]⟩:ByteArray))) false) false) (aI p5) (⟨#[]⟩:ByteArray)) (⟨#[]⟩:ByteArray)) (⟨#[]⟩:ByteArray)))) (⟨#[]⟩:ByteArray)))] [190,8] 2656 (v2 pT) <|Xa (fun h21=>?_) (fun h21=>?_)
 refine Xt [Ei 5 0,El 4 2736 (cS ([aH [60] 1 0 1,aH (fI) (4+(⟨#[115,115,104,45,101,100,50,53,53,49,57]⟩:ByteArray).size) 0 (4+(⟨#[115,115,104,45,101,100,50,53,53,49,57]⟩:ByteArray).size),aH (fJ p6 p8 p5) (4+(sel (aC (aE p5 (aF p5) (aG p5)) (⟨#[110,111,110,101]⟩:ByteArray)) (⟨#[]⟩:ByteArray) (sel (aC (aE p5 (aF p5) (aG p5)) (⟨#[112,97,115,115,119,111,114,100]⟩:ByteArray)) (⟨#[]⟩:ByteArray) (sel (aC (aE p5 (aF p5) (aG p5)) (⟨#[112,117,98,108,105,99,107,101,121]⟩:ByteArray)) (sel (((aX p5):Int)==0) (sel (sel (aC (aE p5 (aO p5) (aP p5)) (⟨#[115,115,104,45,101,100,50,53,53,49,57]⟩:ByteArray)) (sel (!(aC (aJ (aI p5) 32) (⟨#[]⟩:ByteArray))) (aC (aJ (aI p5) 32) (sel (aC p6 (aE p5 (aL p5 0 false) (aM p5 0 false))) p8 (⟨#[]⟩:ByteArray))) false) false) (aI p5) (⟨#[]⟩:ByteArray)) (⟨#[]⟩:ByteArray)) (⟨#[]⟩:ByteArray)))).size) 0 (4+(sel (aC (aE p5 (aF p5) (aG p5)) (⟨#[110,111,110,101]⟩:ByteArray)) (⟨#[]⟩:ByteArray) (sel (aC (aE p5 (aF p5) (aG p5)) (⟨#[112,97,115,115,119,111,114,100]⟩:ByteArray)) (⟨#[]⟩:ByteArray) (sel (aC (aE p5 (aF p5) (aG p5)) (⟨#[112,117,98,108,105,99,107,101,121]⟩:ByteArray)) (sel (((aX p5):Int)==0) (sel (sel (aC (aE p5 (aO p5) (aP p5)) (⟨#[115,115,104,45,101,100,50,53,53,49,57]⟩:ByteArray)) (sel (!(aC (aJ (aI p5) 32) (⟨#[]⟩:ByteArray))) (aC (aJ (aI p5) 32) (sel (aC p6 (aE p5 (aL p5 0 false) (aM p5 0 false))) p8 (⟨#[]⟩:ByteArray))) false) false) (aI p5) (⟨#[]⟩:ByteArray)) (⟨#[]⟩:ByteArray)) (⟨#[]⟩:ByteArray)))).size)]))] [200,14,10,0] [Mi 2736 (cS ([aH [60] 1 0 1,aH (fI) (4+(⟨#[115,115,104,45,101,100,50,53,53,49,57]⟩:ByteArray).size) 0 (4+(⟨#[115,115,104,45,101,100,50,53,53,49,57]⟩:ByteArray).size),aH (fJ p6 p8 p5) (4+(sel (aC (aE p5 (aF p5) (aG p5)) (⟨#[110,111,110,101]⟩:ByteArray)) (⟨#[]⟩:ByteArray) (sel (aC (aE p5 (aF p5) (aG p5)) (⟨#[112,97,115,115,119,111,114,100]⟩:ByteArray)) (⟨#[]⟩:ByteArray) (sel (aC (aE p5 (aF p5) (aG p5)) (⟨#[112,117,98,108,105,99,107,101,121]⟩:ByteArray)) (sel (((aX p5):Int)==0) (sel (sel (aC (aE p5 (aO p5) (aP p5)) (⟨#[115,115,104,45,101,100,50,53,53,49,57]⟩:ByteArray)) (sel (!(aC (aJ (aI p5) 32) (⟨#[]⟩:ByteArray))) (aC (aJ (aI p5) 32) (sel (aC p6 (aE p5 (aL p5 0 false) (aM p5 0 false))) p8 (⟨#[]⟩:ByteArray))) false) false) (aI p5) (⟨#[]⟩:ByteArray)) (⟨#[]⟩:ByteArray)) (⟨#[]⟩:ByteArray)))).size) 0 (4+(sel (aC (aE p5 (aF p5) (aG p5)) (⟨#[110,111,110,101]⟩:ByteArray)) (⟨#[]⟩:ByteArray) (sel (aC (aE p5 (aF p5) (aG p5)) (⟨#[112,97,115,115,119,111,114,100]⟩:ByteArray)) (⟨#[]⟩:ByteArray) (sel (aC (aE p5 (aF p5) (aG p5)) (⟨#[112,117,98,108,105,99,107,101,121]⟩:ByteArray)) (sel (((aX p5):Int)==0) (sel (sel (aC (aE p5 (aO p5) (aP p5)) (⟨#[115,115,104,45,101,100,50,53,53,49,57]⟩:ByteArray)) (sel (!(aC (aJ (aI p5) 32) (⟨#[]⟩:ByteArray))) (aC (aJ (aI p5) 32) (sel (aC p6 (aE p5 (aL p5 0 false) (aM p5 0 false))) p8 (⟨#[]⟩:ByteArray))) false) false) (aI p5) (⟨#[]⟩:ByteArray)) (⟨#[]⟩:ByteArray)) (⟨#[]⟩:ByteArray)))).size)])) (lc p6 p8 p5)] [] 2784 (pu (Yf 1) (pu (pa pT (Ye ((⟨#[115,115,104,45,101,100,50,53,53,49,57]⟩:ByteArray).size) 1000000)) (v1 (pu (pa pT (pl (show (sel (aC (aE p5 (aF p5) (aG p5)) (⟨#[110,111,110,101]⟩:ByteArray)) (⟨#[]⟩:ByteArray) (sel (aC (aE p5 (aF p5) (aG p5)) (⟨#[112,97,115,115,119,111,114,100]⟩:ByteArray)) (⟨#[]⟩:ByteArray) (sel (aC (aE p5 (aF p5) (aG p5)) (⟨#[112,117,98,108,105,99,107,101,121]⟩:ByteArray)) (sel (((aX p5):Int)==0) (sel (sel (aC (aE p5 (aO p5) (aP p5)) (⟨#[115,115,104,45,101,100,50,53,53,49,57]⟩:ByteArray)) (sel (!(aC (aJ (aI p5) 32) (⟨#[]⟩:ByteArray))) (aC (aJ (aI p5) 32) (sel (aC p6 (aE p5 (aL p5 0 false) (aM p5 0 false))) p8 (⟨#[]⟩:ByteArray))) false) false) (aI p5) (⟨#[]⟩:ByteArray)) (⟨#[]⟩:ByteArray)) (⟨#[]⟩:ByteArray)))).size≤1000000 from by (repeat (first|exact Nat.zero_le _|exact Nat.le_trans hv9 (by decide)|refine cg ?_ ?_))))) (pu (Yf 3) (pu (pa (pa (pa (ld (0+3≤3)) (pa (Yw 1) (pa (Yw (4+(⟨#[115,115,104,45,101,100,50,53,53,49,57]⟩:ByteArray).size)) (pa (lo (0+(4+(sel (aC (aE p5 (aF p5) (aG p5)) (⟨#[110,111,110,101]⟩:ByteArray)) (⟨#[]⟩:ByteArray) (sel (aC (aE p5 (aF p5) (aG p5)) (⟨#[112,97,115,115,119,111,114,100]⟩:ByteArray)) (⟨#[]⟩:ByteArray) (sel (aC (aE p5 (aF p5) (aG p5)) (⟨#[112,117,98,108,105,99,107,101,121]⟩:ByteArray)) (sel (((aX p5):Int)==0) (sel (sel (aC (aE p5 (aO p5) (aP p5)) (⟨#[115,115,104,45,101,100,50,53,53,49,57]⟩:ByteArray)) (sel (!(aC (aJ (aI p5) 32) (⟨#[]⟩:ByteArray))) (aC (aJ (aI p5) 32) (sel (aC p6 (aE p5 (aL p5 0 false) (aM p5 0 false))) p8 (⟨#[]⟩:ByteArray))) false) false) (aI p5) (⟨#[]⟩:ByteArray)) (⟨#[]⟩:ByteArray)) (⟨#[]⟩:ByteArray)))).size)≤4+(sel (aC (aE p5 (aF p5) (aG p5)) (⟨#[110,111,110,101]⟩:ByteArray)) (⟨#[]⟩:ByteArray) (sel (aC (aE p5 (aF p5) (aG p5)) (⟨#[112,97,115,115,119,111,114,100]⟩:ByteArray)) (⟨#[]⟩:ByteArray) (sel (aC (aE p5 (aF p5) (aG p5)) (⟨#[112,117,98,108,105,99,107,101,121]⟩:ByteArray)) (sel (((aX p5):Int)==0) (sel (sel (aC (aE p5 (aO p5) (aP p5)) (⟨#[115,115,104,45,101,100,50,53,53,49,57]⟩:ByteArray)) (sel (!(aC (aJ (aI p5) 32) (⟨#[]⟩:ByteArray))) (aC (aJ (aI p5) 32) (sel (aC p6 (aE p5 (aL p5 0 false) (aM p5 0 false))) p8 (⟨#[]⟩:ByteArray))) false) false) (aI p5) (⟨#[]⟩:ByteArray)) (⟨#[]⟩:ByteArray)) (⟨#[]⟩:ByteArray)))).size)) pT)))) pT) (pl (show ([aH [60] 1 0 1,aH (fI) (4+(⟨#[115,115,104,45,101,100,50,53,53,49,57]⟩:ByteArray).size) 0 (4+(⟨#[115,115,104,45,101,100,50,53,53,49,57]⟩:ByteArray).size),aH (fJ p6 p8 p5) (4+(sel (aC (aE p5 (aF p5) (aG p5)) (⟨#[110,111,110,101]⟩:ByteArray)) (⟨#[]⟩:ByteArray) (sel (aC (aE p5 (aF p5) (aG p5)) (⟨#[112,97,115,115,119,111,114,100]⟩:ByteArray)) (⟨#[]⟩:ByteArray) (sel (aC (aE p5 (aF p5) (aG p5)) (⟨#[112,117,98,108,105,99,107,101,121]⟩:ByteArray)) (sel (((aX p5):Int)==0) (sel (sel (aC (aE p5 (aO p5) (aP p5)) (⟨#[115,115,104,45,101,100,50,53,53,49,57]⟩:ByteArray)) (sel (!(aC (aJ (aI p5) 32) (⟨#[]⟩:ByteArray))) (aC (aJ (aI p5) 32) (sel (aC p6 (aE p5 (aL p5 0 false) (aM p5 0 false))) p8 (⟨#[]⟩:ByteArray))) false) false) (aI p5) (⟨#[]⟩:ByteArray)) (⟨#[]⟩:ByteArray)) (⟨#[]⟩:ByteArray)))).size) 0 (4+(sel (aC (aE p5 (aF p5) (aG p5)) (⟨#[110,111,110,101]⟩:ByteArray)) (⟨#[]⟩:ByteArray) (sel (aC (aE p5 (aF p5) (aG p5)) (⟨#[112,97,115,115,119,111,114,100]⟩:ByteArray)) (⟨#[]⟩:ByteArray) (sel (aC (aE p5 (aF p5) (aG p5)) (⟨#[112,117,98,108,105,99,107,101,121]⟩:ByteArray)) (sel (((aX p5):Int)==0) (sel (sel (aC (aE p5 (aO p5) (aP p5)) (⟨#[115,115,104,45,101,100,50,53,53,49,57]⟩:ByteArray)) (sel (!(aC (aJ (aI p5) 32) (⟨#[]⟩:ByteArray))) (aC (aJ (aI p5) 32) (sel (aC p6 (aE p5 (aL p5 0 false) (aM p5 0 false))) p8 (⟨#[]⟩:ByteArray))) false) false) (aI p5) (⟨#[]⟩:ByteArray)) (⟨#[]⟩:ByteArray)) (⟨#[]⟩:ByteArray)))).size)]).flatten.length≤1000000∧([aH [60] 1 0 1,aH (fI) (4+(⟨#[115,115,104,45,101,100,50,53,53,49,57]⟩:ByteArray).size) 0 (4+(⟨#[115,115,104,45,101,100,50,53,53,49,57]⟩:ByteArray).size),aH (fJ p6 p8 p5) (4+(sel (aC (aE p5 (aF p5) (aG p5)) (⟨#[110,111,110,101]⟩:ByteArray)) (⟨#[]⟩:ByteArray) (sel (aC (aE p5 (aF p5) (aG p5)) (⟨#[112,97,115,115,119,111,114,100]⟩:ByteArray)) (⟨#[]⟩:ByteArray) (sel (aC (aE p5 (aF p5) (aG p5)) (⟨#[112,117,98,108,105,99,107,101,121]⟩:ByteArray)) (sel (((aX p5):Int)==0) (sel (sel (aC (aE p5 (aO p5) (aP p5)) (⟨#[115,115,104,45,101,100,50,53,53,49,57]⟩:ByteArray)) (sel (!(aC (aJ (aI p5) 32) (⟨#[]⟩:ByteArray))) (aC (aJ (aI p5) 32) (sel (aC p6 (aE p5 (aL p5 0 false) (aM p5 0 false))) p8 (⟨#[]⟩:ByteArray))) false) false) (aI p5) (⟨#[]⟩:ByteArray)) (⟨#[]⟩:ByteArray)) (⟨#[]⟩:ByteArray)))).size) 0 (4+(sel (aC (aE p5 (aF p5) (aG p5)) (⟨#[110,111,110,101]⟩:ByteArray)) (⟨#[]⟩:ByteArray) (sel (aC (aE p5 (aF p5) (aG p5)) (⟨#[112,97,115,115,119,111,114,100]⟩:ByteArray)) (⟨#[]⟩:ByteArray) (sel (aC (aE p5 (aF p5) (aG p5)) (⟨#[112,117,98,108,105,99,107,101,121]⟩:ByteArray)) (sel (((aX p5):Int)==0) (sel (sel (aC (aE p5 (aO p5) (aP p5)) (⟨#[115,115,104,45,101,100,50,53,53,49,57]⟩:ByteArray)) (sel (!(aC (aJ (aI p5) 32) (⟨#[]⟩:ByteArray))) (aC (aJ (aI p5) 32) (sel (aC p6 (aE p5 (aL p5 0 false) (aM p5 0 false))) p8 (⟨#[]⟩:ByteArray))) false) false) (aI p5) (⟨#[]⟩:ByteArray)) (⟨#[]⟩:ByteArray)) (⟨#[]⟩:ByteArray)))).size)]).length≤1000000 from qq (qL _) (HS _) (HS _) (Nat.le_trans (Nat.add_le_add_left (Nat.add_le_add_left (show _≤16384 by (repeat (first|exact Nat.zero_le _|exact Nat.le_trans hv9 (by decide)|refine cg ?_ ?_))) 4) _) (by decide))))) (v2 pT))))))) ?_
 exact Xy (r':=⟨.tup [.sc (.sl 2 0 (cS ([aH [60] 1 0 1,aH (fI) (4+(⟨#[115,115,104,45,101,100,50,53,53,49,57]⟩:ByteArray).size) 0 (4+(⟨#[115,115,104,45,101,100,50,53,53,49,57]⟩:ByteArray).size),aH (fJ p6 p8 p5) (4+(sel (aC (aE p5 (aF p5) (aG p5)) (⟨#[110,111,110,101]⟩:ByteArray)) (⟨#[]⟩:ByteArray) (sel (aC (aE p5 (aF p5) (aG p5)) (⟨#[112,97,115,115,119,111,114,100]⟩:ByteArray)) (⟨#[]⟩:ByteArray) (sel (aC (aE p5 (aF p5) (aG p5)) (⟨#[112,117,98,108,105,99,107,101,121]⟩:ByteArray)) (sel (((aX p5):Int)==0) (sel (sel (aC (aE p5 (aO p5) (aP p5)) (⟨#[115,115,104,45,101,100,50,53,53,49,57]⟩:ByteArray)) (sel (!(aC (aJ (aI p5) 32) (⟨#[]⟩:ByteArray))) (aC (aJ (aI p5) 32) (sel (aC p6 (aE p5 (aL p5 0 false) (aM p5 0 false))) p8 (⟨#[]⟩:ByteArray))) false) false) (aI p5) (⟨#[]⟩:ByteArray)) (⟨#[]⟩:ByteArray)) (⟨#[]⟩:ByteArray)))).size) 0 (4+(sel (aC (aE p5 (aF p5) (aG p5)) (⟨#[110,111,110,101]⟩:ByteArray)) (⟨#[]⟩:ByteArray) (sel (aC (aE p5 (aF p5) (aG p5)) (⟨#[112,97,115,115,119,111,114,100]⟩:ByteArray)) (⟨#[]⟩:ByteArray) (sel (aC (aE p5 (aF p5) (aG p5)) (⟨#[112,117,98,108,105,99,107,101,121]⟩:ByteArray)) (sel (((aX p5):Int)==0) (sel (sel (aC (aE p5 (aO p5) (aP p5)) (⟨#[115,115,104,45,101,100,50,53,53,49,57]⟩:ByteArray)) (sel (!(aC (aJ (aI p5) 32) (⟨#[]⟩:ByteArray))) (aC (aJ (aI p5) 32) (sel (aC p6 (aE p5 (aL p5 0 false) (aM p5 0 false))) p8 (⟨#[]⟩:ByteArray))) false) false) (aI p5) (⟨#[]⟩:ByteArray)) (⟨#[]⟩:ByteArray)) (⟨#[]⟩:ByteArray)))).size)])) 1 none),.sc (.i .i64 0)],[some (.cells [.sl 1 0 1 4 none,.ro .u8 p0,.i .i64 p1,.b p2,.b p4,.s p3]),some (.cells [.s p6,.s p7,.s p8,.nils]),some (.ints .u8 (cS ([aH [60] 1 0 1,aH (fI) (4+(⟨#[115,115,104,45,101,100,50,53,53,49,57]⟩:ByteArray).size) 0 (4+(⟨#[115,115,104,45,101,100,50,53,53,49,57]⟩:ByteArray).size),aH (fJ p6 p8 p5) (4+(sel (aC (aE p5 (aF p5) (aG p5)) (⟨#[110,111,110,101]⟩:ByteArray)) (⟨#[]⟩:ByteArray) (sel (aC (aE p5 (aF p5) (aG p5)) (⟨#[112,97,115,115,119,111,114,100]⟩:ByteArray)) (⟨#[]⟩:ByteArray) (sel (aC (aE p5 (aF p5) (aG p5)) (⟨#[112,117,98,108,105,99,107,101,121]⟩:ByteArray)) (sel (((aX p5):Int)==0) (sel (sel (aC (aE p5 (aO p5) (aP p5)) (⟨#[115,115,104,45,101,100,50,53,53,49,57]⟩:ByteArray)) (sel (!(aC (aJ (aI p5) 32) (⟨#[]⟩:ByteArray))) (aC (aJ (aI p5) 32) (sel (aC p6 (aE p5 (aL p5 0 false) (aM p5 0 false))) p8 (⟨#[]⟩:ByteArray))) false) false) (aI p5) (⟨#[]⟩:ByteArray)) (⟨#[]⟩:ByteArray)) (⟨#[]⟩:ByteArray)))).size) 0 (4+(sel (aC (aE p5 (aF p5) (aG p5)) (⟨#[110,111,110,101]⟩:ByteArray)) (⟨#[]⟩:ByteArray) (sel (aC (aE p5 (aF p5) (aG p5)) (⟨#[112,97,115,115,119,111,114,100]⟩:ByteArray)) (⟨#[]⟩:ByteArray) (sel (aC (aE p5 (aF p5) (aG p5)) (⟨#[112,117,98,108,105,99,107,101,121]⟩:ByteArray)) (sel (((aX p5):Int)==0) (sel (sel (aC (aE p5 (aO p5) (aP p5)) (⟨#[115,115,104,45,101,100,50,53,53,49,57]⟩:ByteArray)) (sel (!(aC (aJ (aI p5) 32) (⟨#[]⟩:ByteArray))) (aC (aJ (aI p5) 32) (sel (aC p6 (aE p5 (aL p5 0 false) (aM p5 0 false))) p8 (⟨#[]⟩:ByteArray))) false) false) (aI p5) (⟨#[]⟩:ByteArray)) (⟨#[]⟩:ByteArray)) (⟨#[]⟩:ByteArray)))).size)])) (lc p6 p8 p5))]⟩) [(0,0),(1,1),(2736,2)] (pa pT pz) (by simp only [bv,cq,cp,dF,dt,ec,eL,h1,h2,h5,h19,h20,h21,aD,aA])
 refine Tri.skip <|Tri.seq <|Xs [Eb 208 (!(aC (aE p5 (aF p5) (aG p5)) (⟨#[110,111,110,101]⟩:ByteArray)))] [200,14,10] 2688 (v2 pT) <|Xa (fun h22=>?_) (fun h22=>?_)
 refine Xt [] [208] [Mc 0 [.sl 1 0 1 4 none,.ro .u8 p0,.i .i64 (ag .i64 (kP p1 1) 1),.b p2,.b p4,.s p3]] [0] 2848 (v4 (pu (Yl 2 6) (v4 (pu (Ys 2 6) pT)))) <|Xs [Eb 222 (((ag .i64 (kP p1 1) 1):Int)==0)] [0] 2928 (v3 (pu (Yl 2 6) (v1 pT))) <|Xa (fun h23=>?_) (fun h23=>?_)
 have h23':=dA h23
 exact Xs [Ei 5 9,(4,.sc (.nils))] [222] 2960 (v2 pT) <|Tri.sub (Sub.openNil (U:=2960) (U':=2976) 4 2960 1 .u8 none (.inl rfl) (by decide) (by decide) (by kernel_rfl) (by kernel_rfl)) <|Xy (r':=⟨.tup [.sc (.sl 2 0 0 1 none),.sc (.i .i64 9)],[some (.cells [.sl 1 0 1 4 none,.ro .u8 p0,.i .i64 (ag .i64 (kP p1 1) 1),.b p2,.b p4,.s p3]),some (.cells [.s p6,.s p7,.s p8,.nils]),some (.ints .u8 0 ([]:List Int))]⟩) [(0,0),(1,1),(2960,2)] (pa pT pz) (by simp only [bv,cq,cp,dF,dt,ec,eL,h1,h2,h5,h19,h20,h21,h22,h23,aD,aA])
 have h23':=cZ h23
 exact Tri.skip <|Xt [Ei 5 0,El 4 3008 (cS ([aH [51] 1 0 1,aH (ca) (bD ([(⟨#[112,117,98,108,105,99,107,101,121]⟩:ByteArray),(⟨#[112,97,115,115,119,111,114,100]⟩:ByteArray)])) 0 (bD ([(⟨#[112,117,98,108,105,99,107,101,121]⟩:ByteArray),(⟨#[112,97,115,115,119,111,114,100]⟩:ByteArray)])),aH [0] 1 0 1]))] [222] [Mi 3008 (cS ([aH [51] 1 0 1,aH (ca) (bD ([(⟨#[112,117,98,108,105,99,107,101,121]⟩:ByteArray),(⟨#[112,97,115,115,119,111,114,100]⟩:ByteArray)])) 0 (bD ([(⟨#[112,117,98,108,105,99,107,101,121]⟩:ByteArray),(⟨#[112,97,115,115,119,111,114,100]⟩:ByteArray)])),aH [0] 1 0 1])) (ge)] [] 3056 (pu (Yf 1) (pu (Yf 2) (pu (pa (pa (ld (0+2≤2)) pT) (lo (kB ([(⟨#[112,117,98,108,105,99,107,101,121]⟩:ByteArray),(⟨#[112,97,115,115,119,111,114,100]⟩:ByteArray)])≤500000000∧([(⟨#[112,117,98,108,105,99,107,101,121]⟩:ByteArray),(⟨#[112,97,115,115,119,111,114,100]⟩:ByteArray)]).length≤500000000))) (pu (Yf 1) (pu (Yf 3) (pu (pa (pa (pa (ld (0+3≤3)) (pa (Yw 1) (pa (Yw (bD ([(⟨#[112,117,98,108,105,99,107,101,121]⟩:ByteArray),(⟨#[112,97,115,115,119,111,114,100]⟩:ByteArray)]))) (pa (Yw 1) pT)))) pT) (pl (show ([aH [51] 1 0 1,aH (ca) (bD ([(⟨#[112,117,98,108,105,99,107,101,121]⟩:ByteArray),(⟨#[112,97,115,115,119,111,114,100]⟩:ByteArray)])) 0 (bD ([(⟨#[112,117,98,108,105,99,107,101,121]⟩:ByteArray),(⟨#[112,97,115,115,119,111,114,100]⟩:ByteArray)])),aH [0] 1 0 1]).flatten.length≤1000000∧([aH [51] 1 0 1,aH (ca) (bD ([(⟨#[112,117,98,108,105,99,107,101,121]⟩:ByteArray),(⟨#[112,97,115,115,119,111,114,100]⟩:ByteArray)])) 0 (bD ([(⟨#[112,117,98,108,105,99,107,101,121]⟩:ByteArray),(⟨#[112,97,115,115,119,111,114,100]⟩:ByteArray)])),aH [0] 1 0 1]).length≤1000000 from qq (qL _) (Ba ⟨(jm _).2,(jm _).1⟩) (qL _) (by decide)))) (v2 pT))))))) <|Xy (r':=⟨.tup [.sc (.sl 2 0 (cS ([aH [51] 1 0 1,aH (ca) (bD ([(⟨#[112,117,98,108,105,99,107,101,121]⟩:ByteArray),(⟨#[112,97,115,115,119,111,114,100]⟩:ByteArray)])) 0 (bD ([(⟨#[112,117,98,108,105,99,107,101,121]⟩:ByteArray),(⟨#[112,97,115,115,119,111,114,100]⟩:ByteArray)])),aH [0] 1 0 1])) 1 none),.sc (.i .i64 0)],[some (.cells [.sl 1 0 1 4 none,.ro .u8 p0,.i .i64 (ag .i64 (kP p1 1) 1),.b p2,.b p4,.s p3]),some (.cells [.s p6,.s p7,.s p8,.nils]),some (.ints .u8 (cS ([aH [51] 1 0 1,aH (ca) (bD ([(⟨#[112,117,98,108,105,99,107,101,121]⟩:ByteArray),(⟨#[112,97,115,115,119,111,114,100]⟩:ByteArray)])) 0 (bD ([(⟨#[112,117,98,108,105,99,107,101,121]⟩:ByteArray),(⟨#[112,97,115,115,119,111,114,100]⟩:ByteArray)])),aH [0] 1 0 1])) (ge))]⟩) [(0,0),(1,1),(3008,2)] (pa pT pz) (by simp only [bv,cq,cp,dF,dt,ec,eL,h1,h2,h5,h19,h20,h21,h22,h23,aD,aA])
 exact Tri.skip <|Xt [Ei 5 0,El 4 2768 (cS ([aH [51] 1 0 1,aH (ca) (bD ([(⟨#[112,117,98,108,105,99,107,101,121]⟩:ByteArray),(⟨#[112,97,115,115,119,111,114,100]⟩:ByteArray)])) 0 (bD ([(⟨#[112,117,98,108,105,99,107,101,121]⟩:ByteArray),(⟨#[112,97,115,115,119,111,114,100]⟩:ByteArray)])),aH [0] 1 0 1]))] [208,0] [Mi 2768 (cS ([aH [51] 1 0 1,aH (ca) (bD ([(⟨#[112,117,98,108,105,99,107,101,121]⟩:ByteArray),(⟨#[112,97,115,115,119,111,114,100]⟩:ByteArray)])) 0 (bD ([(⟨#[112,117,98,108,105,99,107,101,121]⟩:ByteArray),(⟨#[112,97,115,115,119,111,114,100]⟩:ByteArray)])),aH [0] 1 0 1])) (ge)] [] 2816 (pu (Yf 1) (pu (Yf 2) (pu (pa (pa (ld (0+2≤2)) pT) (lo (kB ([(⟨#[112,117,98,108,105,99,107,101,121]⟩:ByteArray),(⟨#[112,97,115,115,119,111,114,100]⟩:ByteArray)])≤500000000∧([(⟨#[112,117,98,108,105,99,107,101,121]⟩:ByteArray),(⟨#[112,97,115,115,119,111,114,100]⟩:ByteArray)]).length≤500000000))) (pu (Yf 1) (pu (Yf 3) (pu (pa (pa (pa (ld (0+3≤3)) (pa (Yw 1) (pa (Yw (bD ([(⟨#[112,117,98,108,105,99,107,101,121]⟩:ByteArray),(⟨#[112,97,115,115,119,111,114,100]⟩:ByteArray)]))) (pa (Yw 1) pT)))) pT) (pl (show ([aH [51] 1 0 1,aH (ca) (bD ([(⟨#[112,117,98,108,105,99,107,101,121]⟩:ByteArray),(⟨#[112,97,115,115,119,111,114,100]⟩:ByteArray)])) 0 (bD ([(⟨#[112,117,98,108,105,99,107,101,121]⟩:ByteArray),(⟨#[112,97,115,115,119,111,114,100]⟩:ByteArray)])),aH [0] 1 0 1]).flatten.length≤1000000∧([aH [51] 1 0 1,aH (ca) (bD ([(⟨#[112,117,98,108,105,99,107,101,121]⟩:ByteArray),(⟨#[112,97,115,115,119,111,114,100]⟩:ByteArray)])) 0 (bD ([(⟨#[112,117,98,108,105,99,107,101,121]⟩:ByteArray),(⟨#[112,97,115,115,119,111,114,100]⟩:ByteArray)])),aH [0] 1 0 1]).length≤1000000 from qq (qL _) (Ba ⟨(jm _).2,(jm _).1⟩) (qL _) (by decide)))) (v2 pT))))))) <|Xy (r':=⟨.tup [.sc (.sl 2 0 (cS ([aH [51] 1 0 1,aH (ca) (bD ([(⟨#[112,117,98,108,105,99,107,101,121]⟩:ByteArray),(⟨#[112,97,115,115,119,111,114,100]⟩:ByteArray)])) 0 (bD ([(⟨#[112,117,98,108,105,99,107,101,121]⟩:ByteArray),(⟨#[112,97,115,115,119,111,114,100]⟩:ByteArray)])),aH [0] 1 0 1])) 1 none),.sc (.i .i64 0)],[some (.cells [.sl 1 0 1 4 none,.ro .u8 p0,.i .i64 p1,.b p2,.b p4,.s p3]),some (.cells [.s p6,.s p7,.s p8,.nils]),some (.ints .u8 (cS ([aH [51] 1 0 1,aH (ca) (bD ([(⟨#[112,117,98,108,105,99,107,101,121]⟩:ByteArray),(⟨#[112,97,115,115,119,111,114,100]⟩:ByteArray)])) 0 (bD ([(⟨#[112,117,98,108,105,99,107,101,121]⟩:ByteArray),(⟨#[112,97,115,115,119,111,114,100]⟩:ByteArray)])),aH [0] 1 0 1])) (ge))]⟩) [(0,0),(1,1),(2768,2)] (pa pT pz) (by simp only [bv,cq,cp,dF,dt,ec,eL,h1,h2,h5,h19,h20,h21,h22,aD,aA])
end Go.Vm
namespace Go.Vm
open Go Tabn
theorem uo {a:Nat} (ha:a<9223372036854775808):(BitVec.ofInt 64 (a:Int)).toNat=a:=by
 rw [BitVec.toNat_ofInt]
 omega
theorem wrap_i64 {a:Nat} (ha:a<9223372036854775808):IntKind.wrap .i64 (a:Int)=(a:Int):=bm (by omega) (by omega)
theorem Gs {a b:Nat} (ha:a<9223372036854775808) (hb:b<9223372036854775808):iOr .i64 (a:Int) (b:Int)=((a ||| b:Nat):Int):=by
 show IntKind.wrap .i64 (((BitVec.ofInt 64 (a:Int) ||| BitVec.ofInt 64 (b:Int)).toNat:Nat):Int)=_
 rw [BitVec.toNat_or,uo ha,uo hb,wrap_i64 (Nat.or_lt_two_pow (n:=63) ha hb)]
theorem Cf {a b:Nat} (ha:a<9223372036854775808) (hb:b<9223372036854775808):bM .i64 (a:Int) (b:Int)=((a ^^^ b:Nat):Int):=by
 show IntKind.wrap .i64 (((BitVec.ofInt 64 (a:Int) ^^^ BitVec.ofInt 64 (b:Int)).toNat:Nat):Int)=_
 rw [BitVec.toNat_xor,uo ha,uo hb,wrap_i64 (Nat.xor_lt_two_pow (n:=63) ha hb)]
theorem nP {a b:Nat}:a ^^^ b=0↔a=b:=by
 constructor
 ·intro h
  apply Nat.eq_of_testBit_eq
  intro i
  have:=congrArg (fun n=>n.testBit i) h
  simp only [Nat.testBit_xor,Nat.zero_testBit] at this
  cases ha:a.testBit i <;> cases hb:b.testBit i <;> simp_all
 ·rintro rfl
  exact Nat.xor_self a
theorem wQ {xs:List Int} (h:Dig 256 xs) (j:Nat):DH (xs.getD j 0):=by
 obtain ⟨h1,h2⟩:=bh (i:=j) (by decide) h
 obtain ⟨a,ha⟩:=Int.eq_ofNat_of_zero_le h1
 exact ⟨a,ha,by rw [ha] at h2;omega⟩
theorem HC {x y:List Int} (hx:Dig 256 x) (hy:Dig 256 y) (lx:x.length<9223372036854775808) (ly:y.length<9223372036854775808):FL x y=decide (x=y):=by
 unfold FL
 have key:∀ n,∃ a:Nat,itr (uF x y) n (bM .i64 ((x.length:Nat):Int) ((y.length:Nat):Int))=(a:Int)∧a<9223372036854775808∧(a=0↔x.length=y.length∧∀ j,j<n→x.getD j 0=y.getD j 0):=by
  intro n
  induction n with
  |zero =>
   refine ⟨_,(bB _ _).trans (Cf lx ly),Nat.xor_lt_two_pow (n:=63) lx ly,?_⟩
   rw [nP]
   exact ⟨fun h=>⟨h,fun j hj=>absurd hj (Nat.not_lt_zero j)⟩,fun h=>h.1⟩
  |succ n ih =>
   obtain ⟨a,h1,h2,h3⟩:=ih
   obtain ⟨b,b1,b2⟩:=wQ hx n
   obtain ⟨c,c1,c2⟩:=wQ hy n
   have hbc:b ^^^ c<256:=Nat.xor_lt_two_pow (n:=8) b2 c2
   refine ⟨a ||| (b ^^^ c),?_,Nat.or_lt_two_pow (n:=63) h2 (by omega),?_⟩
   ·rw [aq,h1]
    show iOr .i64 (a:Int) (IntKind.wrap .i64 (bM .u8 (x.getD n 0) (y.getD n 0)))=_
    rw [b1,c1,iC wL b2 c2,wrap_i64 (by omega),Gs h2 (by omega)]
   ·rw [Nat.or_eq_zero_iff,h3,nP]
    constructor
    ·rintro ⟨⟨q1,q2⟩,q3⟩
     refine ⟨q1,fun j hj=>?_⟩
     by_cases h:j=n
     ·subst h;rw [b1,c1,q3]
     ·exact q2 j (by omega)
    ·rintro ⟨q1,q2⟩
     refine ⟨⟨q1,fun j hj=>q2 j (by omega)⟩,?_⟩
     have:=q2 n (by omega)
     rw [b1,c1] at this
     omega
 obtain ⟨a,h1,h2,h3⟩:=key (min x.length y.length)
 rw [h1]
 by_cases hxy:x=y
 ·subst hxy
  have ha:a=0:=h3.2 ⟨rfl,fun _ _=>rfl⟩
  subst ha
  simp
 ·have ha:a≠0:=fun ha=>hxy (by
   obtain ⟨q1,q2⟩:=h3.1 ha
   apply List.ext_getElem q1
   intro j j1 j2
   have:=q2 j (by omega)
   simpa [List.getD_eq_getElem?_getD,j1,j2] using this)
  rw [decide_eq_false hxy]
  apply beq_false_of_ne
  omega
theorem Fu {x:List Int} (hd:Dg x) (hl:x.length=4):be4 (xt x)=x:=by
 match x,hl with
 |[a,b,c,d],_ =>
  have h1:=hd a (by simp)
  have h2:=hd b (by simp)
  have h3:=hd c (by simp)
  have h4:=hd d (by simp)
  unfold xt be4
  simp only [List.cons.injEq,and_true]
  refine ⟨?_,?_,?_,?_⟩ <;> omega
theorem rD {s R:List Int} {n:Nat} (h:nxO (some s) n=some R):n≤s.length∧R=s.drop n:=by
 rw [iA] at h
 split at h
 ·exact ⟨by assumption,(Option.some.inj h).symm⟩
 ·cases h
theorem kl {s R:List Int} (h:nxO (some s) 1=some R):s=fh (some s) :: R:=by
 obtain ⟨h1,h2⟩:=rD h
 cases s with
 |nil=>exact absurd h1 (by decide)
 |cons a t=>rw [h2];rfl
theorem gB {s R:List Int} (hd:Dg s) (h:textN (some s)=some R):s=tx (bytesOf (textV (some s))) R∧Dg R:=by
 unfold textN at h
 by_cases hu:iI (some s)>16384
 ·rw [if_pos hu] at h;cases h
 ·rw [if_neg hu] at h
  cases h4:nxO (some s) 4 with
  |none=>rw [h4] at h;cases h
  |some s4 =>
   rw [h4] at h
   obtain ⟨a1,a2⟩:=rD h4
   obtain ⟨b1,b2⟩:=rD h
   have hk:tkO (some s) 4=s.take 4:=by rw [gW,if_pos a1]
   have hl4:(s.take 4).length=4:=by rw [List.length_take];omega
   have hv:iI (some s)=xt (s.take 4):=by unfold iI;rw [hk]
   have ht:textV (some s)=s4.take (iI (some s)):=by unfold textV;rw [if_neg hu,h4,gW,if_pos b1]
   have hd4:Dg s4:=by rw [a2];exact qB 4 hd
   have hlt:(s4.take (iI (some s))).length=iI (some s):=by rw [List.length_take];omega
   refine ⟨?_,by rw [b2];exact qB _ hd4⟩
   unfold tx
   rw [ht,iH (tw _ hd4),hlt,hv,Fu (tw 4 hd) hl4,b2,← hv,List.append_assoc,List.take_append_drop,a2,List.take_append_drop]
theorem fq {st:Rd} {R:List Int} (h:textN st=some R):∃ s,st=some s:=by
 cases st with
 |none=>cases h
 |some s=>exact ⟨s,rfl⟩
theorem zr {st:Rd} {R:List Int} {n:Nat} (h:nxO st n=some R):∃ s,st=some s:=by
 cases st with
 |none=>cases h
 |some s=>exact ⟨s,rfl⟩
theorem iT {c x:Bool} (h:sel c false x=true):c=false∧x=true:=by
 cases c
 ·exact ⟨rfl,h⟩
 ·cases h
theorem lE {c x:Bool} (h:sel c x false=true):c=true∧x=true:=by
 cases c
 ·cases h
 ·exact ⟨rfl,h⟩
theorem uH {st:Rd} {x:List Int} (h:(st==some x)=true):st=some x:=eq_of_beq h
theorem zo {b:Bool} (h:(!b)=false):b=true:=by cases b;cases h;rfl
theorem zQ {b:Bool} (h:(!b)=true):b=false:=by cases b;rfl;cases h
theorem rT {p r:List Int} (hd:Dg p) (h50:fh (some p)=50) (h4:rq4 p=some r) :
  p=50 :: tx (bytesOf (textV (rq1 p))) (tx (bytesOf (textV (rq2 p))) (tx (bytesOf (textV (rq3 p))) r))∧Dg r:=by
 obtain ⟨s3,e3⟩:=fq (show textN (rq3 p)=some r from h4)
 obtain ⟨s2,e2⟩:=fq (show textN (rq2 p)=some s3 from e3)
 obtain ⟨s1,e1⟩:=fq (show textN (rq1 p)=some s2 from e2)
 have q0:=kl (show nxO (some p) 1=some s1 from e1)
 have d1:Dg s1:=by rw [q0] at hd;exact fun x hx=>hd x (List.mem_cons_of_mem _ hx)
 have t1:textN (some s1)=some s2:=by rw [← e1];exact e2
 obtain ⟨q1,d2⟩:=gB d1 t1
 have t2:textN (some s2)=some s3:=by rw [← e2];exact e3
 obtain ⟨q2,d3⟩:=gB d2 t2
 have t3:textN (some s3)=some r:=by rw [← e3];exact h4
 obtain ⟨q3,d4⟩:=gB d3 t3
 refine ⟨?_,d4⟩
 rw [e1,e2,e3,← q3,← q2,← q1,← h50,← q0]
def HQ (u w:ByteArray):List Int:=50 :: tx u (tx el (tx sPw (0 :: tx w [])))
theorem zL {n:Nat} {s p:List Int} {a:Bool} {N:ByteArray} (hd:Dg p) (hl:p.length≤6000) (hs:s.length=n) (hn:n≤1000) (h:cH n s a false p=true) :
  a=true∧∃ u,cC n s a N false p=u∧((aC (cb u) ik=false∧p=HQ u (cb u))∨∃ B G f,(0<f∧f<256)∧p=gp u B G f∧xn s u B G (cP u)=true):=by
 obtain ⟨v1,v2,v3,v4,v5,v6,v7⟩:=xl hd (show p.length≤1000000000 by omega)
 have ho:gJ (rq4 p):=(CU hd (by omega)).2.2.2
 obtain ⟨w1,w2,w3,w4,w5,w6,w7⟩:=HU ho
 have h0:=h
 unfold cH at h
 rw [aA] at h
 obtain ⟨k5,h⟩:=iT h
 obtain ⟨k50,h⟩:=iT h
 obtain ⟨ka,h⟩:=iT h
 obtain ⟨k7,h⟩:=iT h
 obtain ⟨kc,h⟩:=iT h
 have k5':fD n s p=true:=by
  cases hq:fD n s p
  ·rw [hq,aA] at h;cases h
  ·rfl
 have h50:fh (some p)=50:=by rw [← v1];exact bz k50
 have ha:=zo ka
 have k7':=zo k7
 have kc':=zo kc
 rw [v4] at kc'
 have hconn:bytesOf (textV (rq2 p))=el:=ew kc'
 have h3:cC n s a N false p=bytesOf (textV (rq1 p)):=by
  unfold cC
  rw [aA,k5,aA,k50,aA,ka,aA,k7,aA,kc,aA,k5',aD,v2]
 refine ⟨ha,bytesOf (textV (rq1 p)),h3,?_⟩
 have k5c:=k5'
 unfold fD gU at k5c
 unfold fw dV at k7'
 rw [v2,v5,v6,v7] at k5c
 rw [v5,v6,v7] at k7'
 obtain ⟨m1,k5c⟩:=iT k5c
 rw [m1,aA] at k7'
 cases m2:aC (bytesOf (textV (rq3 p))) (⟨#[112,97,115,115,119,111,114,100]⟩:ByteArray)
 case true =>
  left
  rw [m2,aD] at k5c k7'
  obtain ⟨x1,x2⟩:=lE k5c
  obtain ⟨y1,y2⟩:=lE k7'
  rw [w3] at y1
  rw [w1] at y2
  have hm:bytesOf (textV (rq3 p))=sPw:=ew m2
  have e5:=uH y1
  obtain ⟨s5,z5⟩:=fq e5
  obtain ⟨s4,z4⟩:=zr z5
  have z5':nxO (some s4) 1=some s5:=by rw [← z4];exact z5
  have f0:fh (some s4)=0:=by rw [← z4];have:=zQ y2;exact bz this
  obtain ⟨q,d4⟩:=rT hd h50 z4
  have b4:=kl z5'
  rw [f0] at b4
  have d5:Dg s5:=by rw [b4] at d4;exact fun x hx=>d4 x (List.mem_cons_of_mem _ hx)
  have t5:textN (some s5)=some []:=by rw [← z5];exact e5
  obtain ⟨q5,_⟩:=gB d5 t5
  unfold qJ at x2
  rw [w2,z4,z5',bJ (ap _),bJ (ap _)] at x2
  have hf1:(cb (bytesOf (textV (rq1 p)))).size≤100:=by
   unfold cb
   exact cg (by decide) (cg (by decide) (cg (by decide) (by decide)))
  have hw:(bytesOf (textV (some s5))).size≤16384:=by rw [← z5',← z4,← w2];exact dJ _ _
  rw [HC (gn _) (gn _) (by rw [ap];omega) (by rw [ap];omega)] at x2
  have x3:=of_decide_eq_true x2
  have x4:bytesOf (textV (some s5))=cb (bytesOf (textV (rq1 p))):=by rw [← cJ (bytesOf (textV (some s5))),x3,cJ]
  refine ⟨zQ x1,?_⟩
  rw [hconn,hm,b4,q5,x4] at q
  exact q
 case false =>
  right
  rw [m2,aA] at k5c k7'
  cases m3:aC (bytesOf (textV (rq3 p))) (⟨#[112,117,98,108,105,99,107,101,121]⟩:ByteArray)
  case false=>rw [m3,aA] at k5c;cases k5c
  rw [m3,aD] at k5c k7'
  obtain ⟨x1,k5c⟩:=lE k5c
  obtain ⟨x2,k5c⟩:=lE k5c
  obtain ⟨x3,k5c⟩:=iT k5c
  rw [x3,aA,w7] at k7'
  rw [w1] at x3
  rw [w2] at x1
  have hm:bytesOf (textV (rq3 p))=sPk:=ew m3
  have hal:bytesOf (textV (nxO (rq4 p) 1))=sEd:=ew x1
  have e8:=uH k7'
  obtain ⟨s7,z7⟩:=fq e8
  obtain ⟨s6,z6⟩:=fq z7
  obtain ⟨s5,z5⟩:=fq z6
  obtain ⟨s4,z4⟩:=zr z5
  have z5':nxO (some s4) 1=some s5:=by rw [← z4];exact z5
  obtain ⟨q,d4⟩:=rT hd h50 z4
  have b4:=kl z5'
  have d5:Dg s5:=by rw [b4] at d4;exact fun x hx=>d4 x (List.mem_cons_of_mem _ hx)
  have t5:textN (some s5)=some s6:=by rw [← z5];exact z6
  obtain ⟨q5,d6⟩:=gB d5 t5
  have t6:textN (some s6)=some s7:=by rw [← z6];exact z7
  obtain ⟨q6,d7⟩:=gB d6 t6
  have t7:textN (some s7)=some []:=by rw [← z7];exact e8
  obtain ⟨q7,_⟩:=gB d7 t7
  have hf0:fh (some s4)≠0:=by
   rw [z4] at x3
   have:=zo x3
   simpa using this
  have hfb:0≤fh (some s4)∧fh (some s4)<256:=by
   have:=d4 (fh (some s4)) (by rw [b4];exact List.mem_cons_self)
   exact this
  have hp:p=gp (bytesOf (textV (rq1 p))) (bytesOf (textV (some s6))) (bytesOf (textV (some s7))) (fh (some s4)):=by
   rw [z5] at hal
   rw [hconn,hm,b4,q5,hal,q6,q7] at q
   exact q
  refine ⟨bytesOf (textV (some s6)),bytesOf (textV (some s7)),fh (some s4),⟨by omega,hfb.2⟩,hp,?_⟩
  have:=(EP (u:=bytesOf (textV (rq1 p))) (B:=bytesOf (textV (some s6))) (G:=bytesOf (textV (some s7))) (f:=fh (some s4)) ⟨by omega,hfb.2⟩ (by rw [← hp];exact hl) hs hn).2.2
  rw [← hp,k5'] at this
  exact this.symm
end Go.Vm
namespace Go.Vm
open Go Go.Proofs
theorem zV {p:List (List Int)} {B:Nat} (h:∀ y∈p,y.length≤B) (k:Nat):(p.getD k []).length≤B:=by
 rw [List.getD_eq_getElem?_getD]
 cases hk:p[k]? with
 |none=>exact Nat.zero_le _
 |some x=>exact h x (List.mem_of_getElem? hk)
def fE (p0:List (List Int)) (k0:Nat) (z0:Int):Int :=
 (aN .i64 z0 ((1+(((p0.getD k0 []).length)/100):Nat):Int))
def eu (p0:List (List Int)) (k0:Nat):Bool :=
 (sel (decide (((aN .i64 (itr (fE p0) k0 0) ((1+(((p0.getD k0 []).length)/100):Nat):Int)):Int)>60)) true false)
def jj (p0:List (List Int)):Bool :=
 (sel (Nat.blt (aW (eu p0) p0.length) p0.length) false true)
def zc:List AV→List Blk→Option (Prop × Ret)
 |[.sc (.rob p0)],[]=>some ((p0.length≤140737488351232∧∀ y∈p0,y.length≤140737488351232),⟨.sc (.b (jj p0)),[]⟩)
 |_,_=>none
theorem Fp:Known Tryz.prog gD 17 ⟨0,0,zc⟩:=by
 refine Xw Tryz.f17 21 Zn mixed <|fun E args ks C r h hC hlen=>?_
 simp only at h
 unfold zc at h
 split at h
 rotate_left
 cases h
 rename_i p0
 cases h
 simp only [bI] at hlen
 refine ⟨rfl,?_⟩
 refine Xs [] [] 32 (v1 pT) <|Xs [Ei 3 0] [] 48 (v1 pT) <|Tri.seq <|Xs [Ei 8 0,Ej 7 p0.length,(6,.sc (.rob p0))] [0] 96 (v3 pT) <|Tri.block <|Xc p0.length (fE p0) 0 (fun k0 z0=>(∀ j,j<k0→(eu p0) j=false)) (fun k0 z0=>[Ej 8 k0,Ei 3 z0]) (fun k0 z0=>[]) (fun j hj=>absurd hj (Nat.not_lt_zero j)) <|fun k0 z0 hk0 hz0 hJ0=>?_
 have hy:=zV hC.2 k0
 refine Xs [Eb 9 (decide ((((k0:Nat):Int):Int)<((p0.length:Nat):Int)))] [] 112 (v1 pT) <|Tri.seq <|Xb (fun h1 h1'=>?_) (fun h1 h1'=>?_)
 refine Tri.skip <|Tri.seq <|Tri.block <|Xs [Er 5 (p0.getD k0 [])] [9] 160 (pu (Yj k0 p0.length) (v2 pT)) <|Xu [Ej 15 (((p0.getD k0 []).length)/100),Ej 16 (1+(((p0.getD k0 []).length)/100))] none [Ei 3 (aN .i64 z0 ((1+(((p0.getD k0 []).length)/100):Nat):Int))] [5,3] [] [] 272 (v3 (pv (Yn 100) (pl (dH (a:=(p0.getD k0 []).length) (b:=100) (by omega))) (pv pT (Yp 1 (((p0.getD k0 []).length)/100)) (v2 pT)))) <|Xs [Eb 19 (decide (((aN .i64 z0 ((1+(((p0.getD k0 []).length)/100):Nat):Int)):Int)>60))] [] 304 (v2 pT) <|Xb (fun h2 h2'=>?_) (fun h2 h2'=>?_)
 refine Xs [Eb 2 false] [19,3,8,7,6] 320 (v1 pT) <|?_
 subst hz0
 have hf0:aW (eu p0) p0.length=k0:=ah (by omega) hJ0 (by simp only [eu,h1,h2,aD,aA])
 have hb0:Nat.blt k0 p0.length=true:=ak (by omega)
 have hq0:Nat.blt (aW (eu p0) p0.length) p0.length=true:=by rw [hf0];exact hb0
 exact Xy [] pz (by simp only [jj,hq0,hf0,hb0,aD,aA] <;> rfl)
 exact Tri.skip <|Wu [Ej 20 (k0+1)] none [Ej 8 (k0+1)] [19,8] [] [] 336 (pv pT (Yp k0 1) (v1 pT)) <|Xo [] (ke hJ0 (by subst hz0;simp only [eu,h1,h2,aD,aA]))
 refine Tri.exit <|?_
 obtain rfl:k0=p0.length:=(by omega);subst hz0
 have hf0:aW (eu p0) p0.length=p0.length:=lR hJ0
 have hb0:Nat.blt p0.length p0.length=false:=lp _
 have hq0:Nat.blt (aW (eu p0) p0.length) p0.length=false:=by rw [hf0];exact hb0
 exact Xs [Eb 2 true] [9,8,7,6,3] 128 (v1 pT) <|Xy [] pz (by simp only [jj,hq0,hf0,hb0,aD,aA] <;> rfl)
theorem Dn {S:Nat→Bool}:∀ n,aW S n=n→∀ j,j<n→S j=false:=by
 intro n
 induction n with
 |zero=>intro _ j hj;exact absurd hj (Nat.not_lt_zero j)
 |succ n ih =>
  intro h j hj
  rw [aW] at h
  have hle:=qY S n
  cases hb:Nat.blt (aW S n) n with
  |true=>rw [hb,cond_true] at h;omega
  |false =>
   rw [hb,cond_false] at h
   have hn:aW S n=n:=by
    rcases Nat.lt_or_ge (aW S n) n with hq|hq
    ·rw [ak hq] at hb;cases hb
    ·omega
   cases hq:S n with
   |true=>rw [hq,cond_true] at h;omega
   |false =>
    by_cases hjn:j=n
    ·rw [hjn];exact hq
    ·exact ih hn j (by omega)
theorem tz {S:Nat→Bool} {n:Nat} (h:Nat.blt (aW S n) n=false):∀ j,j<n→S j=false:=by
 have hle:=qY S n
 refine Dn n ?_
 rcases Nat.lt_or_ge (aW S n) n with hq|hq
 ·rw [ak hq] at h;cases h
 ·omega
theorem wA {p:List (List Int)} (hb:p.length≤140737488351232∧∀ y∈p,y.length≤140737488351232) (h:(!(jj p))=false):∀ k:Nat,(p.getD k []).length≤6000:=by
 have h0:Nat.blt (aW (eu p) p.length) p.length=false:=by
  unfold jj at h
  revert h
  cases Nat.blt (aW (eu p) p.length) p.length
  ·intro _;rfl
  ·rw [aD];intro h;cases h
 have hs:=tz h0
 have hl:∀ k:Nat,(p.getD k []).length≤140737488351232:=zV hb.2
 have hi:∀ k:Nat,k≤p.length→0≤itr (fE p) k 0∧itr (fE p) k 0≤60∧∀ j,j<k→(p.getD j []).length≤6000:=by
  intro k
  induction k with
  |zero=>intro _;rw [bB];exact ⟨by decide,by decide,fun j hj=>absurd hj (Nat.not_lt_zero j)⟩
  |succ k ih =>
   intro hk
   obtain ⟨i1,i2,i3⟩:=ih (by omega)
   have hq:=hs k (by omega)
   have h1:=hl k
   have e:aN .i64 (itr (fE p) k 0) ((1+(((p.getD k []).length)/100):Nat):Int)=itr (fE p) k 0+((1+(((p.getD k []).length)/100):Nat):Int):=bq (by omega) (by omega)
   unfold eu at hq
   rw [e] at hq
   have hd:decide ((itr (fE p) k 0+((1+(((p.getD k []).length)/100):Nat):Int))>60)=false:=by
    revert hq
    cases decide ((itr (fE p) k 0+((1+(((p.getD k []).length)/100):Nat):Int))>60)
    ·intro _;rfl
    ·rw [aD];intro h;cases h
   have hd':=of_decide_eq_false hd
   have e2:itr (fE p) (k+1) 0=itr (fE p) k 0+((1+(((p.getD k []).length)/100):Nat):Int):=by rw [aq];unfold fE;exact e
   rw [e2]
   refine ⟨by omega,by omega,fun j hj=>?_⟩
   rcases Nat.lt_or_ge j k with q|q
   ·exact i3 j q
   ·have:j=k:=by omega
    subst this
    omega
 intro k
 rcases Nat.lt_or_ge k p.length with q|q
 ·exact (hi p.length (Nat.le_refl _)).2.2 k q
 ·rw [List.getD_eq_getElem?_getD,List.getElem?_eq_none q];exact Nat.zero_le _
end Go.Vm
namespace Go.Vm
open Go Go.Proofs
theorem fL {n:Nat} {s:List Int} {a b:Bool} {N:ByteArray} {p:List Int} (h:N.size≤16384):(cC n s a N b p).size≤16384:=by
 unfold cC
 exact cg h (cg h (cg h (cg h (cg h (cg h (cg (dJ _ _) h))))))
theorem iS {N:ByteArray} {b:Bool} (h:N.size≤16384):(gS N b).size≤16384:=by
 unfold gS
 exact cg (Nat.zero_le _) h
def aK (p0:List (List Int)) (p1:List Int) (k0:Nat) (z0:Bool × Int × Bool × ByteArray × Bool):ByteArray :=
 (gS (cC p1.length p1 z0.2.2.1 z0.2.2.2.1 z0.2.2.2.2 (p0.getD k0 [])) (cH p1.length p1 z0.2.2.1 z0.2.2.2.2 (p0.getD k0 [])))
def gA:List Int :=
 (mU (⟨#[115,115,104,45,117,115,101,114,97,117,116,104]⟩:ByteArray))
def mB (p0:List (List Int)) (p1:List Int) (k0:Nat) (z0:Bool × Int × Bool × ByteArray × Bool):List Int :=
 (ef (aK p0 p1 k0 z0) (⟨#[115,101,99,114,101,116]⟩:ByteArray))
def fl (p0:List (List Int)) (p1:List Int) (k0:Nat) (z0:Bool × Int × Bool × ByteArray × Bool):Bool :=
 (dF p1 true false (aK p0 p1 k0 z0) (⟨#[]⟩:ByteArray) (cw) (p0.getD k0 []))
def pf (p0:List (List Int)) (p1:List Int) (k0:Nat) (z0:Bool × Int × Bool × ByteArray × Bool):ByteArray :=
 (dt p1 true false (⟨#[]⟩:ByteArray) (aK p0 p1 k0 z0) (⟨#[]⟩:ByteArray) (cw) (p0.getD k0 []))
def dB (p0:List (List Int)) (p1:List Int) (k0:Nat) (z0:Bool × Int × Bool × ByteArray × Bool):List Int :=
 (ef (aK p0 p1 k0 z0) (⟨#[119,111,114,100]⟩:ByteArray))
def dC (p0:List (List Int)) (p1:List Int) (k0:Nat) (z0:Bool × Int × Bool × ByteArray × Bool):Bool :=
 (dF p1 true false (aK p0 p1 k0 z0) (⟨#[]⟩:ByteArray) (ar) (p0.getD k0 []))
def jl (p0:List (List Int)) (p1:List Int) (k0:Nat) (z0:Bool × Int × Bool × ByteArray × Bool):ByteArray :=
 (dt p1 true false (⟨#[]⟩:ByteArray) (aK p0 p1 k0 z0) (⟨#[]⟩:ByteArray) (ar) (p0.getD k0 []))
def ae (p0:List (List Int)) (p1:List Int) (k0:Nat) (z0:Bool × Int × Bool × ByteArray × Bool):Bool × Int × Bool × ByteArray × Bool :=
 ((sel z0.1 true (aC (bytesOf (p0.getD k0 [])) (bytesOf (((gA).drop 0).take ((1+4)+(⟨#[115,115,104,45,117,115,101,114,97,117,116,104]⟩:ByteArray).size))))),(bp p1.length p1 z0.2.1 z0.2.2.1 z0.2.2.2.2 (p0.getD k0 [])),(cm z0.2.2.1 z0.2.2.2.2 (p0.getD k0 [])),(cC p1.length p1 z0.2.2.1 z0.2.2.2.1 z0.2.2.2.2 (p0.getD k0 [])),(cH p1.length p1 z0.2.2.1 z0.2.2.2.2 (p0.getD k0 [])))
def aB (p0:List (List Int)) (p1:List Int) (k0:Nat):Bool :=
 (sel (aC (aK p0 p1 k0 (itr (ae p0 p1) k0 (false,1000,false,(⟨#[]⟩:ByteArray),false))) (⟨#[]⟩:ByteArray)) false true)
def xC (p0:List (List Int)) (p1:List Int):Bool × Int × Bool × ByteArray × Bool :=
 (itr (ae p0 p1) p0.length (false,1000,false,(⟨#[]⟩:ByteArray),false))
def af (p0:List (List Int)) (p1:List Int):Bool :=
 (sel (!(pm)) false (sel (!(jj p0)) true (sel (decide ((((p1.length:Nat):Int):Int)>200)) true (sel (Nat.blt (aW (aB p0 p1) p0.length) p0.length) (sel (!(itr (ae p0 p1) (aW (aB p0 p1) p0.length) (false,1000,false,(⟨#[]⟩:ByteArray),false)).1) false (sel (aC (⟨#[97,110,110]⟩:ByteArray) (aK p0 p1 (aW (aB p0 p1) p0.length) (itr (ae p0 p1) (aW (aB p0 p1) p0.length) (false,1000,false,(⟨#[]⟩:ByteArray),false)))) (sel (aC (bytesOf (p0.getD (aW (aB p0 p1) p0.length) [])) (bytesOf (((mB p0 p1 (aW (aB p0 p1) p0.length) (itr (ae p0 p1) (aW (aB p0 p1) p0.length) (false,1000,false,(⟨#[]⟩:ByteArray),false))).drop 0).take (aU (aK p0 p1 (aW (aB p0 p1) p0.length) (itr (ae p0 p1) (aW (aB p0 p1) p0.length) (false,1000,false,(⟨#[]⟩:ByteArray),false))) (⟨#[115,101,99,114,101,116]⟩:ByteArray))))) true (sel (aC (⟨#[98,111,98]⟩:ByteArray) (aK p0 p1 (aW (aB p0 p1) p0.length) (itr (ae p0 p1) (aW (aB p0 p1) p0.length) (false,1000,false,(⟨#[]⟩:ByteArray),false)))) (sel (!(aC (cw) (⟨#[]⟩:ByteArray))) (sel (decide (((((p0.getD (aW (aB p0 p1) p0.length) []).length:Nat):Int):Int)>100)) (sel (((bv p1 9 true false (aK p0 p1 (aW (aB p0 p1) p0.length) (itr (ae p0 p1) (aW (aB p0 p1) p0.length) (false,1000,false,(⟨#[]⟩:ByteArray),false))) (⟨#[]⟩:ByteArray) (cw) (p0.getD (aW (aB p0 p1) p0.length) [])):Int)==0) (fl p0 p1 (aW (aB p0 p1) p0.length) (itr (ae p0 p1) (aW (aB p0 p1) p0.length) (false,1000,false,(⟨#[]⟩:ByteArray),false))) false) (sel (aC (⟨#[99,121]⟩:ByteArray) (aK p0 p1 (aW (aB p0 p1) p0.length) (itr (ae p0 p1) (aW (aB p0 p1) p0.length) (false,1000,false,(⟨#[]⟩:ByteArray),false)))) (sel (aC (bytesOf (p0.getD (aW (aB p0 p1) p0.length) [])) (bytesOf (((dB p0 p1 (aW (aB p0 p1) p0.length) (itr (ae p0 p1) (aW (aB p0 p1) p0.length) (false,1000,false,(⟨#[]⟩:ByteArray),false))).drop 0).take (aU (aK p0 p1 (aW (aB p0 p1) p0.length) (itr (ae p0 p1) (aW (aB p0 p1) p0.length) (false,1000,false,(⟨#[]⟩:ByteArray),false))) (⟨#[119,111,114,100]⟩:ByteArray))))) true false) false)) (sel (aC (⟨#[99,121]⟩:ByteArray) (aK p0 p1 (aW (aB p0 p1) p0.length) (itr (ae p0 p1) (aW (aB p0 p1) p0.length) (false,1000,false,(⟨#[]⟩:ByteArray),false)))) (sel (aC (bytesOf (p0.getD (aW (aB p0 p1) p0.length) [])) (bytesOf (((dB p0 p1 (aW (aB p0 p1) p0.length) (itr (ae p0 p1) (aW (aB p0 p1) p0.length) (false,1000,false,(⟨#[]⟩:ByteArray),false))).drop 0).take (aU (aK p0 p1 (aW (aB p0 p1) p0.length) (itr (ae p0 p1) (aW (aB p0 p1) p0.length) (false,1000,false,(⟨#[]⟩:ByteArray),false))) (⟨#[119,111,114,100]⟩:ByteArray))))) true (sel (!(aC (ar) (⟨#[]⟩:ByteArray))) (sel (decide (((((p0.getD (aW (aB p0 p1) p0.length) []).length:Nat):Int):Int)>100)) (sel (((bv p1 9 true false (aK p0 p1 (aW (aB p0 p1) p0.length) (itr (ae p0 p1) (aW (aB p0 p1) p0.length) (false,1000,false,(⟨#[]⟩:ByteArray),false))) (⟨#[]⟩:ByteArray) (ar) (p0.getD (aW (aB p0 p1) p0.length) [])):Int)==0) (dC p0 p1 (aW (aB p0 p1) p0.length) (itr (ae p0 p1) (aW (aB p0 p1) p0.length) (false,1000,false,(⟨#[]⟩:ByteArray),false))) false) false) false)) false)) (sel (aC (⟨#[99,121]⟩:ByteArray) (aK p0 p1 (aW (aB p0 p1) p0.length) (itr (ae p0 p1) (aW (aB p0 p1) p0.length) (false,1000,false,(⟨#[]⟩:ByteArray),false)))) (sel (aC (bytesOf (p0.getD (aW (aB p0 p1) p0.length) [])) (bytesOf (((dB p0 p1 (aW (aB p0 p1) p0.length) (itr (ae p0 p1) (aW (aB p0 p1) p0.length) (false,1000,false,(⟨#[]⟩:ByteArray),false))).drop 0).take (aU (aK p0 p1 (aW (aB p0 p1) p0.length) (itr (ae p0 p1) (aW (aB p0 p1) p0.length) (false,1000,false,(⟨#[]⟩:ByteArray),false))) (⟨#[119,111,114,100]⟩:ByteArray))))) true (sel (!(aC (ar) (⟨#[]⟩:ByteArray))) (sel (decide (((((p0.getD (aW (aB p0 p1) p0.length) []).length:Nat):Int):Int)>100)) (sel (((bv p1 9 true false (aK p0 p1 (aW (aB p0 p1) p0.length) (itr (ae p0 p1) (aW (aB p0 p1) p0.length) (false,1000,false,(⟨#[]⟩:ByteArray),false))) (⟨#[]⟩:ByteArray) (ar) (p0.getD (aW (aB p0 p1) p0.length) [])):Int)==0) (dC p0 p1 (aW (aB p0 p1) p0.length) (itr (ae p0 p1) (aW (aB p0 p1) p0.length) (false,1000,false,(⟨#[]⟩:ByteArray),false))) false) false) false)) false))) (sel (aC (⟨#[98,111,98]⟩:ByteArray) (aK p0 p1 (aW (aB p0 p1) p0.length) (itr (ae p0 p1) (aW (aB p0 p1) p0.length) (false,1000,false,(⟨#[]⟩:ByteArray),false)))) (sel (!(aC (cw) (⟨#[]⟩:ByteArray))) (sel (decide (((((p0.getD (aW (aB p0 p1) p0.length) []).length:Nat):Int):Int)>100)) (sel (((bv p1 9 true false (aK p0 p1 (aW (aB p0 p1) p0.length) (itr (ae p0 p1) (aW (aB p0 p1) p0.length) (false,1000,false,(⟨#[]⟩:ByteArray),false))) (⟨#[]⟩:ByteArray) (cw) (p0.getD (aW (aB p0 p1) p0.length) [])):Int)==0) (fl p0 p1 (aW (aB p0 p1) p0.length) (itr (ae p0 p1) (aW (aB p0 p1) p0.length) (false,1000,false,(⟨#[]⟩:ByteArray),false))) false) (sel (aC (⟨#[99,121]⟩:ByteArray) (aK p0 p1 (aW (aB p0 p1) p0.length) (itr (ae p0 p1) (aW (aB p0 p1) p0.length) (false,1000,false,(⟨#[]⟩:ByteArray),false)))) (sel (aC (bytesOf (p0.getD (aW (aB p0 p1) p0.length) [])) (bytesOf (((dB p0 p1 (aW (aB p0 p1) p0.length) (itr (ae p0 p1) (aW (aB p0 p1) p0.length) (false,1000,false,(⟨#[]⟩:ByteArray),false))).drop 0).take (aU (aK p0 p1 (aW (aB p0 p1) p0.length) (itr (ae p0 p1) (aW (aB p0 p1) p0.length) (false,1000,false,(⟨#[]⟩:ByteArray),false))) (⟨#[119,111,114,100]⟩:ByteArray))))) true false) false)) (sel (aC (⟨#[99,121]⟩:ByteArray) (aK p0 p1 (aW (aB p0 p1) p0.length) (itr (ae p0 p1) (aW (aB p0 p1) p0.length) (false,1000,false,(⟨#[]⟩:ByteArray),false)))) (sel (aC (bytesOf (p0.getD (aW (aB p0 p1) p0.length) [])) (bytesOf (((dB p0 p1 (aW (aB p0 p1) p0.length) (itr (ae p0 p1) (aW (aB p0 p1) p0.length) (false,1000,false,(⟨#[]⟩:ByteArray),false))).drop 0).take (aU (aK p0 p1 (aW (aB p0 p1) p0.length) (itr (ae p0 p1) (aW (aB p0 p1) p0.length) (false,1000,false,(⟨#[]⟩:ByteArray),false))) (⟨#[119,111,114,100]⟩:ByteArray))))) true (sel (!(aC (ar) (⟨#[]⟩:ByteArray))) (sel (decide (((((p0.getD (aW (aB p0 p1) p0.length) []).length:Nat):Int):Int)>100)) (sel (((bv p1 9 true false (aK p0 p1 (aW (aB p0 p1) p0.length) (itr (ae p0 p1) (aW (aB p0 p1) p0.length) (false,1000,false,(⟨#[]⟩:ByteArray),false))) (⟨#[]⟩:ByteArray) (ar) (p0.getD (aW (aB p0 p1) p0.length) [])):Int)==0) (dC p0 p1 (aW (aB p0 p1) p0.length) (itr (ae p0 p1) (aW (aB p0 p1) p0.length) (false,1000,false,(⟨#[]⟩:ByteArray),false))) false) false) false)) false)) (sel (aC (⟨#[99,121]⟩:ByteArray) (aK p0 p1 (aW (aB p0 p1) p0.length) (itr (ae p0 p1) (aW (aB p0 p1) p0.length) (false,1000,false,(⟨#[]⟩:ByteArray),false)))) (sel (aC (bytesOf (p0.getD (aW (aB p0 p1) p0.length) [])) (bytesOf (((dB p0 p1 (aW (aB p0 p1) p0.length) (itr (ae p0 p1) (aW (aB p0 p1) p0.length) (false,1000,false,(⟨#[]⟩:ByteArray),false))).drop 0).take (aU (aK p0 p1 (aW (aB p0 p1) p0.length) (itr (ae p0 p1) (aW (aB p0 p1) p0.length) (false,1000,false,(⟨#[]⟩:ByteArray),false))) (⟨#[119,111,114,100]⟩:ByteArray))))) true (sel (!(aC (ar) (⟨#[]⟩:ByteArray))) (sel (decide (((((p0.getD (aW (aB p0 p1) p0.length) []).length:Nat):Int):Int)>100)) (sel (((bv p1 9 true false (aK p0 p1 (aW (aB p0 p1) p0.length) (itr (ae p0 p1) (aW (aB p0 p1) p0.length) (false,1000,false,(⟨#[]⟩:ByteArray),false))) (⟨#[]⟩:ByteArray) (ar) (p0.getD (aW (aB p0 p1) p0.length) [])):Int)==0) (dC p0 p1 (aW (aB p0 p1) p0.length) (itr (ae p0 p1) (aW (aB p0 p1) p0.length) (false,1000,false,(⟨#[]⟩:ByteArray),false))) false) false) false)) false)))) true))))
def tY:List AV→List Blk→Option (Prop × Ret)
 |[.sc (.rob p0),.sc (.ro .u8 p1)],[]=>some ((p0.length≤140737488351232∧∀ y∈p0,y.length≤140737488351232),⟨.sc (.b (af p0 p1)),[]⟩)
 |_,_=>none
theorem KaAuthOwn:Known Tryz.prog gD 4 ⟨0,0,tY⟩:=by
 refine Xw Tryz.f4 114 (Zv KS 32 0 <|Zv nJ 912 2 <|Zv nJ 2192 2 <|Zc Fp 80 [.rob] [] [] <|Zc Hd 224 [.io,.ro .u8,.val] [] [192] <|Zv ud 192 0 <|Zv ud 544 0 <|Zc yS 416 [.io,.ro .u8] [] [224,192,225] <|Zc Db 448 [.io] [] [224,192,225] <|Zv tQ 576 1 <|Zc vW 2016 [.io,.ro .u8] [] [1952,1904] <|Zc vW 2656 [.io,.ro .u8] [] [2592,2544] <|Zn) mixed <|fun E args ks C r h hC hlen=>?_
 simp only at h
 unfold tY at h
 split at h
 rotate_left
 cases h
 rename_i p0 p1
 cases h
 simp only [bI] at hlen
 refine ⟨rfl,?_⟩
 refine Xs [] [] 32 (v1 pT) <|Tri.seq <|Xs [Eb 16 (!(pm))] [] 64 (pu pz (v1 pT)) <|Xa (fun h1=>?_) (fun h1=>?_)
 exact Xs [Eb 4 false] [16,0,1] 80 (v1 pT) <|Xy [] pz (by simp only [af,h1,aD,aA] <;> rfl)
 refine Tri.skip <|Tri.seq <|Tri.split (!(jj p0)) (fun h2=>?_) (fun h2=>?_)
 exact Xu [Eb 20 true] none [Eb 24 true] [16] [] [] 192 (v1 (pu (pa pT (lo (p0.length≤140737488351232∧∀ y∈p0,y.length≤140737488351232))) (v1 (pg h2 (v4 pT))))) <|Tri.cond_true (by kernel_rfl) <|Xs [Eb 4 true] [24,0,1] 208 (v1 pT) <|Xy [] pz (by simp only [af,h1,h2,aD,aA] <;> rfl)
 have hlt:=wA hC h2
 refine Xu [Eb 20 false] none [Eb 24 (decide ((((p1.length:Nat):Int):Int)>200))] [16] [] [] 192 (v1 (pu (pa pT (lo (p0.length≤140737488351232∧∀ y∈p0,y.length≤140737488351232))) (v1 (pg h2 (v4 pT))))) <|Xb (fun h3 h3'=>?_) (fun h3 h3'=>?_)
 exact Xs [Eb 4 true] [24,0,1] 208 (v1 pT) <|Xy [] pz (by simp only [af,h1,h2,h3,aD,aA] <;> rfl)
 refine Tri.skip <|Xt [Ep 5 224] [24] [Mi 225 p1.length p1,Mc 224 [.sl 192 0 4 4 none,.sl 225 0 p1.length 1 none,.i .i64 1000,.b false,.s (⟨#[]⟩:ByteArray),.b false],Mc 192 UA] [] 256 (pu pz (v1 (pu (pa pz (pa (Yr UA) (Ye p1.length 100000))) (v1 pT)))) <|Xs [Eb 6 false] [] 272 (v1 pT) <|Tri.seq <|Xs [Ei 30 0,Ej 29 p0.length,(28,.sc (.rob p0))] [0] 320 (v3 pT) <|Tri.block <|Xc p0.length (ae p0 p1) (false,1000,false,(⟨#[]⟩:ByteArray),false) (fun k0 z0=>z0.2.2.2.1.size≤16384∧(∀ j,j<k0→(aB p0 p1) j=false)) (fun k0 z0=>[Ej 30 k0,Eb 6 z0.1]) (fun k0 z0=>[Mc 224 [.sl 192 0 4 4 none,.sl 225 0 p1.length 1 none,.i .i64 z0.2.1,.b z0.2.2.1,.s z0.2.2.2.1,.b z0.2.2.2.2]]) (⟨(Nat.zero_le _),(fun j hj=>absurd hj (Nat.not_lt_zero j))⟩) <|fun k0 z0 hk0 hz0 hJ0=>Xs [Eb 31 (decide ((((k0:Nat):Int):Int)<((p0.length:Nat):Int)))] [] 336 (v1 pT) <|Tri.seq <|Xb (fun h4 h4'=>?_) (fun h4 h4'=>?_)
 refine Tri.skip <|Tri.seq <|Tri.block <|Xs [Er 8 (p0.getD k0 [])] [31] 384 (pu (Yj k0 p0.length) (v2 pT)) <|Xt [] [] [Mi 225 p1.length p1,Mc 192 UA,Mc 224 [.sl 192 0 4 4 none,.sl 225 0 p1.length 1 none,.i .i64 (bp p1.length p1 z0.2.1 z0.2.2.1 z0.2.2.2.2 (p0.getD k0 [])),.b (cm z0.2.2.1 z0.2.2.2.2 (p0.getD k0 [])),.s (cC p1.length p1 z0.2.2.1 z0.2.2.2.1 z0.2.2.2.2 (p0.getD k0 [])),.b (cH p1.length p1 z0.2.2.1 z0.2.2.2.2 (p0.getD k0 []))]] [225,224,192] 432 (v2 (pu (pa pz (pa (Yr p1.length) (pa (Yr UA) (pl (show (p0.getD k0 []).length≤6000∧p1.length≤1000 from ⟨hlt _,by omega⟩))))) pT)) <|Xs [Es 9 (aK p0 p1 k0 z0)] [] 480 (v1 (pu (pa pT (pa (Yr p1.length) (pa (Yr UA) pT))) (v1 pT))) <|Tri.seq <|Xs [Eb 40 (aC (aK p0 p1 k0 z0) (⟨#[]⟩:ByteArray))] [] 512 (v2 pT) <|Xa (fun h5=>?_) (fun h5=>?_)
 refine Tri.split z0.1 (fun h6=>?_) (fun h6=>?_)
 exact Xu [Eb 42 true] (some [0,1,3,7,3,19,63,127,255]) [Eb 6 true] [40,9,8,6] [] [] 656 (v1 (pg h6 (v7 pT))) <|Tri.exit <|Wu [Ej 113 (k0+1)] none [Ej 30 (k0+1)] [30] [] [] 688 (pv pT (Yp k0 1) (v1 pT)) <|Xp (⟨(by unfold ae;exact fL hJ0.1),(ke hJ0.2 (by subst hz0;simp only [aB,h1,h2,h3,h4,h5,h6,aD,aA]))⟩) [] [Ej 30 (k0+1),Eb 6 true] [Mc 224 [.sl 192 0 4 4 none,.sl 225 0 p1.length 1 none,.i .i64 (bp p1.length p1 z0.2.1 z0.2.2.1 z0.2.2.2.2 (p0.getD k0 [])),.b (cm z0.2.2.1 z0.2.2.2.2 (p0.getD k0 [])),.s (cC p1.length p1 z0.2.2.1 z0.2.2.2.1 z0.2.2.2.2 (p0.getD k0 [])),.b (cH p1.length p1 z0.2.2.1 z0.2.2.2.2 (p0.getD k0 []))]] (by simp only [ae,h1,h2,h3,h4,h5,h6,aD,aA]) (by simp only [ae,h1,h2,h3,h4,h5,h6,aD,aA])
 exact Xu [Eb 42 false] (some [0,1,3,7,3,19,63,127,255]) [Eb 6 (aC (bytesOf (p0.getD k0 [])) (bytesOf (((gA).drop 0).take ((1+4)+(⟨#[115,115,104,45,117,115,101,114,97,117,116,104]⟩:ByteArray).size))))] [40,9,8,6] [] [] 656 (v1 (pg h6 (v2 (pu (pa pT (Ye ((⟨#[115,115,104,45,117,115,101,114,97,117,116,104]⟩:ByteArray).size) 100000)) (pu (Yw ((1+4)+(⟨#[115,115,104,45,117,115,101,114,97,117,116,104]⟩:ByteArray).size)) (v3 pT)))))) <|Tri.exit <|Wu [Ej 113 (k0+1)] none [Ej 30 (k0+1)] [30] [] [] 688 (pv pT (Yp k0 1) (v1 pT)) <|Xp (⟨(by unfold ae;exact fL hJ0.1),(ke hJ0.2 (by subst hz0;simp only [aB,h1,h2,h3,h4,h5,h6,aD,aA]))⟩) [] [Ej 30 (k0+1),Eb 6 (aC (bytesOf (p0.getD k0 [])) (bytesOf (((gA).drop 0).take ((1+4)+(⟨#[115,115,104,45,117,115,101,114,97,117,116,104]⟩:ByteArray).size))))] [Mc 224 [.sl 192 0 4 4 none,.sl 225 0 p1.length 1 none,.i .i64 (bp p1.length p1 z0.2.1 z0.2.2.1 z0.2.2.2.2 (p0.getD k0 [])),.b (cm z0.2.2.1 z0.2.2.2.2 (p0.getD k0 [])),.s (cC p1.length p1 z0.2.2.1 z0.2.2.2.1 z0.2.2.2.2 (p0.getD k0 [])),.b (cH p1.length p1 z0.2.2.1 z0.2.2.2.2 (p0.getD k0 []))]] (by simp only [ae,h1,h2,h3,h4,h5,h6,aD,aA]) (by simp only [ae,h1,h2,h3,h4,h5,h6,aD,aA])
 refine Tri.skip <|Tri.seq <|Xt [Eb 50 (!z0.1)] [40,30,29,28,6,5] [] [225,192,224] 544 (v2 pT) <|Xa (fun h7=>?_) (fun h7=>?_)
 refine Xs [Eb 4 false] [50,9,8,1] 560 (v1 pT) <|?_
 subst hz0
 have hf0:aW (aB p0 p1) p0.length=k0:=ah (by omega) hJ0.2 (by simp only [aB,h1,h2,h3,h4,h5,h7,aD,aA])
 have hb0:Nat.blt k0 p0.length=true:=ak (by omega)
 have hq0:Nat.blt (aW (aB p0 p1) p0.length) p0.length=true:=by rw [hf0];exact hb0
 exact Xy [] pz (by simp only [af,h1,h2,h3,hq0,hf0,hb0,h4,h5,h7,aD,aA] <;> rfl)
 refine Tri.skip <|Tri.seq <|Xt [Ei 53 0,Ei 52 4,(51,.sc (.sl 544 0 4 4 none))] [50] [Mc 544 UA] [] 592 (pu pz (v2 pT)) <|Tri.block <|Tri.rounds 4 <|Xs [Eb 54 true] [] 608 (v1 pT) <|Tri.seq <|Tri.cond_true (by kernel_rfl) <|Tri.skip <|Tri.seq <|Tri.block <|Xt [Ep 11 640] [54] [Mc 640 [.s (⟨#[97,110,110]⟩:ByteArray),.s (⟨#[115,101,99,114,101,116]⟩:ByteArray),.s (⟨#[]⟩:ByteArray),.nils]] [] 672 (pu (Yi 0 4) (pu (Ye (0+4) 16) (v1 (pu (pa (Yw 4) (Yr 4)) pT)))) <|Tri.seq <|Tri.split (aC (⟨#[97,110,110]⟩:ByteArray) (aK p0 p1 k0 z0)) (fun h8=>?_) (fun h8=>?_)
 refine Xu [Eb 61 true,Eb 66 true] (some [0,1,0,7,15,31,63,127,255,511,1023,2047,1023,1023,9215,29695,62463,131071,262143]) [Eb 75 (aC (bytesOf (p0.getD k0 [])) (bytesOf (((mB p0 p1 k0 z0).drop 0).take (aU (aK p0 p1 k0 z0) (⟨#[115,101,99,114,101,116]⟩:ByteArray)))))] [] [] [] 976 (v1 (pu (Yl 0 4) (v2 (pg h8 (v1 (pu (Yl 1 4) (v2 (pv pT (pl (show (!(aC (⟨#[115,101,99,114,101,116]⟩:ByteArray) (⟨#[]⟩:ByteArray)))=true from (by rw [al] <;> decide))) (v4 (pu (Yl 1 4) (pu (pa pT (pl (show (aK p0 p1 k0 z0).size≤100000∧(⟨#[115,101,99,114,101,116]⟩:ByteArray).size≤100000 from ⟨Nat.le_trans (iS (fL hJ0.1)) (by decide),by decide⟩))) (pu (Yw (aU (aK p0 p1 k0 z0) (⟨#[115,101,99,114,101,116]⟩:ByteArray))) (v2 pT))))))))))))) <|Xa (fun h9=>?_) (fun h9=>?_)
 refine Xt [Eb 4 true] [75,11,53,52,51,9,8,1] [] [640,544] 992 (v1 pT) <|?_
 subst hz0
 have hf0:aW (aB p0 p1) p0.length=k0:=ah (by omega) hJ0.2 (by simp only [aB,h1,h2,h3,h4,h5,h7,h8,h9,aD,aA])
 have hb0:Nat.blt k0 p0.length=true:=ak (by omega)
 have hq0:Nat.blt (aW (aB p0 p1) p0.length) p0.length=true:=by rw [hf0];exact hb0
 exact Xy [] pz (by simp only [af,h1,h2,h3,hq0,hf0,hb0,h4,h5,h7,h8,h9,aD,aA] <;> rfl)
 refine Tri.skip <|Xu [Eb 80 true,Eb 85 false] none [Eb 89 false] [75] [] [] 1200 (v1 (pu (Yl 0 4) (v2 (pg h8 (v1 (pu (Yl 2 4) (v2 (pv pT (pl (show (!(aC (⟨#[]⟩:ByteArray) (⟨#[]⟩:ByteArray)))=false from (by rw [al] <;> decide))) (v4 pT))))))))) <|Tri.cond_false (by kernel_rfl) <|Tri.skip <|Wt [Ei 53 1] [89,11,53] [] [640] 1232 (v2 pT) <|Xs [Eb 54 true] [] 1248 (v1 pT) <|Tri.seq <|Tri.cond_true (by kernel_rfl) <|Tri.skip <|Tri.seq <|Tri.block <|Xt [Ep 11 1280] [54] [Mc 1280 [.s (⟨#[98,111,98]⟩:ByteArray),.s (⟨#[]⟩:ByteArray),.s (cw),.nils]] [] 1312 (pu (Yi 1 4) (pu (Ye (4+4) 16) (v1 (pu (pa (Yw 4) (Yr 4)) pT)))) <|Tri.seq <|Tri.split (aC (⟨#[98,111,98]⟩:ByteArray) (aK p0 p1 k0 z0)) (fun h10=>?_) (fun h10=>?_)
 refine Xu [Eb 61 true,Eb 66 false] (some [0,1,0,7,15,31,63,127,255,511,1023,2047,1023,1023,9215,29695,62463,131071,262143]) [Eb 75 false] [] [] [] 1616 (v1 (pu (Yl 0 4) (v2 (pg h10 (v1 (pu (Yl 1 4) (v2 (pv pT (pl (show (!(aC (⟨#[]⟩:ByteArray) (⟨#[]⟩:ByteArray)))=false from (by rw [al] <;> decide))) (v9 pT))))))))) <|Tri.cond_false (by kernel_rfl) <|Tri.skip <|Tri.split (!(aC (cw) (⟨#[]⟩:ByteArray))) (fun h11=>?_) (fun h11=>?_)
 refine Xu [Eb 80 true,Eb 85 true] none [Eb 89 (decide (((((p0.getD k0 []).length:Nat):Int):Int)>100))] [75] [] [] 1840 (v1 (pu (Yl 0 4) (v2 (pg h10 (v1 (pu (Yl 2 4) (v2 (pg h11 (v4 pT))))))))) <|Xb (fun h12 h12'=>?_) (fun h12 h12'=>?_)
 refine Xt [Ep 12 1952] [89,11,53,52,51,9,1] [Mc 1952 [.sl 1904 0 1 4 none,.ro .u8 p1,.i .i64 9,.b true,.b false,.s (⟨#[]⟩:ByteArray)],Mc 1904 [.s (aK p0 p1 k0 z0),.s (⟨#[]⟩:ByteArray),.s (cw),.nils]] [1280,544] 1984 (v2 (pu (Yl 2 4) (pu (pa (Ys 0 4) (pa (Ys 2 4) pT)) (pu (pa (pa (pa (Yw 4) (Yr 4)) pT) (pa (Ye (1*4) 16777216) (Yr 4))) (v1 (pu (pa (Ys 0 6) (pa (Ys 1 6) (pa (Ys 2 6) (pa (Ys 3 6) pT)))) (v2 pT))))))) <|Xt [Ei 14 (bv p1 9 true false (aK p0 p1 k0 z0) (⟨#[]⟩:ByteArray) (cw) (p0.getD k0 []))] [8] [Mc 1904 [.s (aK p0 p1 k0 z0),.s (⟨#[]⟩:ByteArray),.s (cw),.nils],Mc 1952 [.sl 1904 0 1 4 none,.ro .u8 p1,.i .i64 (cq p1 9 true false (aK p0 p1 k0 z0) (⟨#[]⟩:ByteArray) (cw) (p0.getD k0 [])),.b (cp true false (p0.getD k0 [])),.b (fl p0 p1 k0 z0),.s (pf p0 p1 k0 z0)]] [1952,1904] 2112 (v2 (pu (pa pz (pl (show (p0.getD k0 []).length≤6000∧p1.length≤1000 from ⟨hlt _,by omega⟩))) (v5 pT))) <|Tri.split (((bv p1 9 true false (aK p0 p1 k0 z0) (⟨#[]⟩:ByteArray) (cw) (p0.getD k0 [])):Int)==0) (fun h13=>?_) (fun h13=>?_)
 have h13':=dA h13
 refine Xu [Eb 106 true] none [Eb 4 (fl p0 p1 k0 z0)] [14,12] [] [1904,1952] 2256 (v2 (pg h13 (v3 (pu (Yl 4 6) (v2 pT))))) <|?_
 subst hz0
 have hf0:aW (aB p0 p1) p0.length=k0:=ah (by omega) hJ0.2 (by simp only [aB,h1,h2,h3,h4,h5,h7,h8,h9,h10,h11,h12,h13,aD,aA])
 have hb0:Nat.blt k0 p0.length=true:=ak (by omega)
 have hq0:Nat.blt (aW (aB p0 p1) p0.length) p0.length=true:=by rw [hf0];exact hb0
 exact Xy [] pz (by simp only [af,h1,h2,h3,hq0,hf0,hb0,h4,h5,h7,h8,h9,h10,h11,h12,h13,aD,aA] <;> rfl)
 have h13':=cZ h13
 refine Xu [Eb 106 false] none [Eb 4 false] [14,12] [] [1904,1952] 2256 (v2 (pg h13 (v6 pT))) <|?_
 subst hz0
 have hf0:aW (aB p0 p1) p0.length=k0:=ah (by omega) hJ0.2 (by simp only [aB,h1,h2,h3,h4,h5,h7,h8,h9,h10,h11,h12,h13,aD,aA])
 have hb0:Nat.blt k0 p0.length=true:=ak (by omega)
 have hq0:Nat.blt (aW (aB p0 p1) p0.length) p0.length=true:=by rw [hf0];exact hb0
 exact Xy [] pz (by simp only [af,h1,h2,h3,hq0,hf0,hb0,h4,h5,h7,h8,h9,h10,h11,h12,h13,aD,aA] <;> rfl)
 refine Tri.skip <|Wt [Ei 53 2] [89,11,53] [] [1280] 1872 (v2 pT) <|Xs [Eb 54 true] [] 1888 (v1 pT) <|Tri.seq <|Tri.cond_true (by kernel_rfl) <|Tri.skip <|Tri.seq <|Tri.block <|Xt [Ep 11 1920] [54] [Mc 1920 [.s (⟨#[99,121]⟩:ByteArray),.s (⟨#[119,111,114,100]⟩:ByteArray),.s (ar),.nils]] [] 1952 (pu (Yi 2 4) (pu (Ye (8+4) 16) (v1 (pu (pa (Yw 4) (Yr 4)) pT)))) <|Tri.seq <|Tri.split (aC (⟨#[99,121]⟩:ByteArray) (aK p0 p1 k0 z0)) (fun h14=>?_) (fun h14=>?_)
 refine Xu [Eb 61 true,Eb 66 true] (some [0,1,0,7,15,31,63,127,255,511,1023,2047,1023,1023,9215,29695,62463,131071,262143]) [Eb 75 (aC (bytesOf (p0.getD k0 [])) (bytesOf (((dB p0 p1 k0 z0).drop 0).take (aU (aK p0 p1 k0 z0) (⟨#[119,111,114,100]⟩:ByteArray)))))] [] [] [] 2256 (v1 (pu (Yl 0 4) (v2 (pg h14 (v1 (pu (Yl 1 4) (v2 (pv pT (pl (show (!(aC (⟨#[119,111,114,100]⟩:ByteArray) (⟨#[]⟩:ByteArray)))=true from (by rw [al] <;> decide))) (v4 (pu (Yl 1 4) (pu (pa pT (pl (show (aK p0 p1 k0 z0).size≤100000∧(⟨#[119,111,114,100]⟩:ByteArray).size≤100000 from ⟨Nat.le_trans (iS (fL hJ0.1)) (by decide),by decide⟩))) (pu (Yw (aU (aK p0 p1 k0 z0) (⟨#[119,111,114,100]⟩:ByteArray))) (v2 pT))))))))))))) <|Xa (fun h15=>?_) (fun h15=>?_)
 refine Xt [Eb 4 true] [75,11,53,52,51,9,8,1] [] [1920,544] 2272 (v1 pT) <|?_
 subst hz0
 have hf0:aW (aB p0 p1) p0.length=k0:=ah (by omega) hJ0.2 (by simp only [aB,h1,h2,h3,h4,h5,h7,h8,h9,h10,h11,h12,h14,h15,aD,aA])
 have hb0:Nat.blt k0 p0.length=true:=ak (by omega)
 have hq0:Nat.blt (aW (aB p0 p1) p0.length) p0.length=true:=by rw [hf0];exact hb0
 exact Xy [] pz (by simp only [af,h1,h2,h3,hq0,hf0,hb0,h4,h5,h7,h8,h9,h10,h11,h12,h14,h15,aD,aA] <;> rfl)
 refine Tri.skip <|Tri.split (!(aC (ar) (⟨#[]⟩:ByteArray))) (fun h16=>?_) (fun h16=>?_)
 refine Xu [Eb 80 true,Eb 85 true] none [Eb 89 (decide (((((p0.getD k0 []).length:Nat):Int):Int)>100))] [75] [] [] 2480 (v1 (pu (Yl 0 4) (v2 (pg h14 (v1 (pu (Yl 2 4) (v2 (pg h16 (v4 pT))))))))) <|Tri.cond (x:=(decide (((((p0.getD k0 []).length:Nat):Int):Int)>100))) (by kernel_rfl) (fun h=>absurd (h.symm.trans h12) (by decide)) (fun h=>?_)
 refine Tri.skip <|Wt [Ei 53 3] [89,11,53] [] [1920] 2512 (v2 pT) <|Xs [Eb 54 true] [] 2528 (v1 pT) <|Tri.seq <|Tri.cond_true (by kernel_rfl) <|Tri.skip <|Tri.seq <|Tri.block <|Xt [Ep 11 2560] [54] [Mc 2560 [.s (⟨#[110,105,108]⟩:ByteArray),.s (⟨#[]⟩:ByteArray),.s (⟨#[]⟩:ByteArray),.nils]] [] 2592 (pu (Yi 3 4) (pu (Ye (12+4) 16) (v1 (pu (pa (Yw 4) (Yr 4)) pT)))) <|Tri.seq <|Tri.split (aC (⟨#[110,105,108]⟩:ByteArray) (aK p0 p1 k0 z0)) (fun h17=>?_) (fun h17=>?_)
 refine Xu [Eb 61 true,Eb 66 false] (some [0,1,0,7,15,31,63,127,255,511,1023,2047,1023,1023,9215,29695,62463,131071,262143]) [Eb 75 false] [] [] [] 2896 (v1 (pu (Yl 0 4) (v2 (pg h17 (v1 (pu (Yl 1 4) (v2 (pv pT (pl (show (!(aC (⟨#[]⟩:ByteArray) (⟨#[]⟩:ByteArray)))=false from (by rw [al] <;> decide))) (v9 pT))))))))) <|Tri.cond_false (by kernel_rfl) <|Tri.skip <|Xu [Eb 80 true,Eb 85 false] none [Eb 89 false] [75] [] [] 3120 (v1 (pu (Yl 0 4) (v2 (pg h17 (v1 (pu (Yl 2 4) (v2 (pv pT (pl (show (!(aC (⟨#[]⟩:ByteArray) (⟨#[]⟩:ByteArray)))=false from (by rw [al] <;> decide))) (v4 pT))))))))) <|Tri.cond_false (by kernel_rfl) <|Tri.skip <|Wt [Ei 53 4] [89,11,53] [] [2560] 3152 (v2 pT) <|Xs [Eb 54 false] [] 3168 (v1 pT) <|Tri.seq <|Tri.cond_false (by kernel_rfl) <|Tri.exit <|Xt [Eb 4 false] [54,53,52,51,9,8,1] [] [544] 3184 (v1 pT) <|?_
 subst hz0
 have hf0:aW (aB p0 p1) p0.length=k0:=ah (by omega) hJ0.2 (by simp only [aB,h1,h2,h3,h4,h5,h7,h8,h9,h10,h11,h12,h14,h15,h16,h17,aD,aA])
 have hb0:Nat.blt k0 p0.length=true:=ak (by omega)
 have hq0:Nat.blt (aW (aB p0 p1) p0.length) p0.length=true:=by rw [hf0];exact hb0
 exact Xy [] pz (by simp only [af,h1,h2,h3,hq0,hf0,hb0,h4,h5,h7,h8,h9,h10,h11,h12,h14,h15,h16,h17,aD,aA] <;> rfl)
 refine Xu [Eb 61 false] (some [0,1,0,7,15,31,63,127,255,511,1023,2047,1023,1023,9215,29695,62463,131071,262143]) [Eb 75 false] [] [] [] 2896 (v1 (pu (Yl 0 4) (v2 (pg h17 (v5 (v9 pT)))))) <|Tri.cond_false (by kernel_rfl) <|Tri.skip <|Xu [Eb 80 false] none [Eb 89 false] [75] [] [] 3120 (v1 (pu (Yl 0 4) (v2 (pg h17 (v9 pT))))) <|Tri.cond_false (by kernel_rfl) <|Tri.skip <|Wt [Ei 53 4] [89,11,53] [] [2560] 3152 (v2 pT) <|Xs [Eb 54 false] [] 3168 (v1 pT) <|Tri.seq <|Tri.cond_false (by kernel_rfl) <|Tri.exit <|Xt [Eb 4 false] [54,53,52,51,9,8,1] [] [544] 3184 (v1 pT) <|?_
 subst hz0
 have hf0:aW (aB p0 p1) p0.length=k0:=ah (by omega) hJ0.2 (by simp only [aB,h1,h2,h3,h4,h5,h7,h8,h9,h10,h11,h12,h14,h15,h16,h17,aD,aA])
 have hb0:Nat.blt k0 p0.length=true:=ak (by omega)
 have hq0:Nat.blt (aW (aB p0 p1) p0.length) p0.length=true:=by rw [hf0];exact hb0
 exact Xy [] pz (by simp only [af,h1,h2,h3,hq0,hf0,hb0,h4,h5,h7,h8,h9,h10,h11,h12,h14,h15,h16,h17,aD,aA] <;> rfl)
 refine Xu [Eb 80 true,Eb 85 false] none [Eb 89 false] [75] [] [] 2480 (v1 (pu (Yl 0 4) (v2 (pg h14 (v1 (pu (Yl 2 4) (v2 (pg h16 (v4 pT))))))))) <|Tri.cond_false (by kernel_rfl) <|Tri.skip <|Wt [Ei 53 3] [89,11,53] [] [1920] 2512 (v2 pT) <|Xs [Eb 54 true] [] 2528 (v1 pT) <|Tri.seq <|Tri.cond_true (by kernel_rfl) <|Tri.skip <|Tri.seq <|Tri.block <|Xt [Ep 11 2560] [54] [Mc 2560 [.s (⟨#[110,105,108]⟩:ByteArray),.s (⟨#[]⟩:ByteArray),.s (⟨#[]⟩:ByteArray),.nils]] [] 2592 (pu (Yi 3 4) (pu (Ye (12+4) 16) (v1 (pu (pa (Yw 4) (Yr 4)) pT)))) <|Tri.seq <|Tri.split (aC (⟨#[110,105,108]⟩:ByteArray) (aK p0 p1 k0 z0)) (fun h18=>?_) (fun h18=>?_)
 refine Xu [Eb 61 true,Eb 66 false] (some [0,1,0,7,15,31,63,127,255,511,1023,2047,1023,1023,9215,29695,62463,131071,262143]) [Eb 75 false] [] [] [] 2896 (v1 (pu (Yl 0 4) (v2 (pg h18 (v1 (pu (Yl 1 4) (v2 (pv pT (pl (show (!(aC (⟨#[]⟩:ByteArray) (⟨#[]⟩:ByteArray)))=false from (by rw [al] <;> decide))) (v9 pT))))))))) <|Tri.cond_false (by kernel_rfl) <|Tri.skip <|Xu [Eb 80 true,Eb 85 false] none [Eb 89 false] [75] [] [] 3120 (v1 (pu (Yl 0 4) (v2 (pg h18 (v1 (pu (Yl 2 4) (v2 (pv pT (pl (show (!(aC (⟨#[]⟩:ByteArray) (⟨#[]⟩:ByteArray)))=false from (by rw [al] <;> decide))) (v4 pT))))))))) <|Tri.cond_false (by kernel_rfl) <|Tri.skip <|Wt [Ei 53 4] [89,11,53] [] [2560] 3152 (v2 pT) <|Xs [Eb 54 false] [] 3168 (v1 pT) <|Tri.seq <|Tri.cond_false (by kernel_rfl) <|Tri.exit <|Xt [Eb 4 false] [54,53,52,51,9,8,1] [] [544] 3184 (v1 pT) <|?_
 subst hz0
 have hf0:aW (aB p0 p1) p0.length=k0:=ah (by omega) hJ0.2 (by simp only [aB,h1,h2,h3,h4,h5,h7,h8,h9,h10,h11,h12,h14,h15,h16,h18,aD,aA])
 have hb0:Nat.blt k0 p0.length=true:=ak (by omega)
 have hq0:Nat.blt (aW (aB p0 p1) p0.length) p0.length=true:=by rw [hf0];exact hb0
 exact Xy [] pz (by simp only [af,h1,h2,h3,hq0,hf0,hb0,h4,h5,h7,h8,h9,h10,h11,h12,h14,h15,h16,h18,aD,aA] <;> rfl)
 refine Xu [Eb 61 false] (some [0,1,0,7,15,31,63,127,255,511,1023,2047,1023,1023,9215,29695,62463,131071,262143]) [Eb 75 false] [] [] [] 2896 (v1 (pu (Yl 0 4) (v2 (pg h18 (v5 (v9 pT)))))) <|Tri.cond_false (by kernel_rfl) <|Tri.skip <|Xu [Eb 80 false] none [Eb 89 false] [75] [] [] 3120 (v1 (pu (Yl 0 4) (v2 (pg h18 (v9 pT))))) <|Tri.cond_false (by kernel_rfl) <|Tri.skip <|Wt [Ei 53 4] [89,11,53] [] [2560] 3152 (v2 pT) <|Xs [Eb 54 false] [] 3168 (v1 pT) <|Tri.seq <|Tri.cond_false (by kernel_rfl) <|Tri.exit <|Xt [Eb 4 false] [54,53,52,51,9,8,1] [] [544] 3184 (v1 pT) <|?_
 subst hz0
 have hf0:aW (aB p0 p1) p0.length=k0:=ah (by omega) hJ0.2 (by simp only [aB,h1,h2,h3,h4,h5,h7,h8,h9,h10,h11,h12,h14,h15,h16,h18,aD,aA])
 have hb0:Nat.blt k0 p0.length=true:=ak (by omega)
 have hq0:Nat.blt (aW (aB p0 p1) p0.length) p0.length=true:=by rw [hf0];exact hb0
 exact Xy [] pz (by simp only [af,h1,h2,h3,hq0,hf0,hb0,h4,h5,h7,h8,h9,h10,h11,h12,h14,h15,h16,h18,aD,aA] <;> rfl)
 refine Xu [Eb 61 false] (some [0,1,0,7,15,31,63,127,255,511,1023,2047,1023,1023,9215,29695,62463,131071,262143]) [Eb 75 false] [] [] [] 2256 (v1 (pu (Yl 0 4) (v2 (pg h14 (v5 (v9 pT)))))) <|Tri.cond_false (by kernel_rfl) <|Tri.skip <|Xu [Eb 80 false] none [Eb 89 false] [75] [] [] 2480 (v1 (pu (Yl 0 4) (v2 (pg h14 (v9 pT))))) <|Tri.cond_false (by kernel_rfl) <|Tri.skip <|Wt [Ei 53 3] [89,11,53] [] [1920] 2512 (v2 pT) <|Xs [Eb 54 true] [] 2528 (v1 pT) <|Tri.seq <|Tri.cond_true (by kernel_rfl) <|Tri.skip <|Tri.seq <|Tri.block <|Xt [Ep 11 2560] [54] [Mc 2560 [.s (⟨#[110,105,108]⟩:ByteArray),.s (⟨#[]⟩:ByteArray),.s (⟨#[]⟩:ByteArray),.nils]] [] 2592 (pu (Yi 3 4) (pu (Ye (12+4) 16) (v1 (pu (pa (Yw 4) (Yr 4)) pT)))) <|Tri.seq <|?_
 refine Tri.split (aC (⟨#[110,105,108]⟩:ByteArray) (aK p0 p1 k0 z0)) (fun h19=>?_) (fun h19=>?_)
 refine Xu [Eb 61 true,Eb 66 false] (some [0,1,0,7,15,31,63,127,255,511,1023,2047,1023,1023,9215,29695,62463,131071,262143]) [Eb 75 false] [] [] [] 2896 (v1 (pu (Yl 0 4) (v2 (pg h19 (v1 (pu (Yl 1 4) (v2 (pv pT (pl (show (!(aC (⟨#[]⟩:ByteArray) (⟨#[]⟩:ByteArray)))=false from (by rw [al] <;> decide))) (v9 pT))))))))) <|Tri.cond_false (by kernel_rfl) <|Tri.skip <|Xu [Eb 80 true,Eb 85 false] none [Eb 89 false] [75] [] [] 3120 (v1 (pu (Yl 0 4) (v2 (pg h19 (v1 (pu (Yl 2 4) (v2 (pv pT (pl (show (!(aC (⟨#[]⟩:ByteArray) (⟨#[]⟩:ByteArray)))=false from (by rw [al] <;> decide))) (v4 pT))))))))) <|Tri.cond_false (by kernel_rfl) <|Tri.skip <|Wt [Ei 53 4] [89,11,53] [] [2560] 3152 (v2 pT) <|Xs [Eb 54 false] [] 3168 (v1 pT) <|Tri.seq <|Tri.cond_false (by kernel_rfl) <|Tri.exit <|Xt [Eb 4 false] [54,53,52,51,9,8,1] [] [544] 3184 (v1 pT) <|?_
 subst hz0
 have hf0:aW (aB p0 p1) p0.length=k0:=ah (by omega) hJ0.2 (by simp only [aB,h1,h2,h3,h4,h5,h7,h8,h9,h10,h11,h12,h14,h19,aD,aA])
 have hb0:Nat.blt k0 p0.length=true:=ak (by omega)
 have hq0:Nat.blt (aW (aB p0 p1) p0.length) p0.length=true:=by rw [hf0];exact hb0
 exact Xy [] pz (by simp only [af,h1,h2,h3,hq0,hf0,hb0,h4,h5,h7,h8,h9,h10,h11,h12,h14,h19,aD,aA] <;> rfl)
 refine Xu [Eb 61 false] (some [0,1,0,7,15,31,63,127,255,511,1023,2047,1023,1023,9215,29695,62463,131071,262143]) [Eb 75 false] [] [] [] 2896 (v1 (pu (Yl 0 4) (v2 (pg h19 (v5 (v9 pT)))))) <|Tri.cond_false (by kernel_rfl) <|Tri.skip <|Xu [Eb 80 false] none [Eb 89 false] [75] [] [] 3120 (v1 (pu (Yl 0 4) (v2 (pg h19 (v9 pT))))) <|Tri.cond_false (by kernel_rfl) <|Tri.skip <|Wt [Ei 53 4] [89,11,53] [] [2560] 3152 (v2 pT) <|Xs [Eb 54 false] [] 3168 (v1 pT) <|Tri.seq <|Tri.cond_false (by kernel_rfl) <|Tri.exit <|Xt [Eb 4 false] [54,53,52,51,9,8,1] [] [544] 3184 (v1 pT) <|?_
 subst hz0
 have hf0:aW (aB p0 p1) p0.length=k0:=ah (by omega) hJ0.2 (by simp only [aB,h1,h2,h3,h4,h5,h7,h8,h9,h10,h11,h12,h14,h19,aD,aA])
 have hb0:Nat.blt k0 p0.length=true:=ak (by omega)
 have hq0:Nat.blt (aW (aB p0 p1) p0.length) p0.length=true:=by rw [hf0];exact hb0
 exact Xy [] pz (by simp only [af,h1,h2,h3,hq0,hf0,hb0,h4,h5,h7,h8,h9,h10,h11,h12,h14,h19,aD,aA] <;> rfl)
 refine Xu [Eb 80 true,Eb 85 false] none [Eb 89 false] [75] [] [] 1840 (v1 (pu (Yl 0 4) (v2 (pg h10 (v1 (pu (Yl 2 4) (v2 (pg h11 (v4 pT))))))))) <|Tri.cond_false (by kernel_rfl) <|Tri.skip <|Wt [Ei 53 2] [89,11,53] [] [1280] 1872 (v2 pT) <|Xs [Eb 54 true] [] 1888 (v1 pT) <|Tri.seq <|Tri.cond_true (by kernel_rfl) <|Tri.skip <|Tri.seq <|Tri.block <|Xt [Ep 11 1920] [54] [Mc 1920 [.s (⟨#[99,121]⟩:ByteArray),.s (⟨#[119,111,114,100]⟩:ByteArray),.s (ar),.nils]] [] 1952 (pu (Yi 2 4) (pu (Ye (8+4) 16) (v1 (pu (pa (Yw 4) (Yr 4)) pT)))) <|Tri.seq <|Tri.split (aC (⟨#[99,121]⟩:ByteArray) (aK p0 p1 k0 z0)) (fun h20=>?_) (fun h20=>?_)
 refine Xu [Eb 61 true,Eb 66 true] (some [0,1,0,7,15,31,63,127,255,511,1023,2047,1023,1023,9215,29695,62463,131071,262143]) [Eb 75 (aC (bytesOf (p0.getD k0 [])) (bytesOf (((dB p0 p1 k0 z0).drop 0).take (aU (aK p0 p1 k0 z0) (⟨#[119,111,114,100]⟩:ByteArray)))))] [] [] [] 2256 (v1 (pu (Yl 0 4) (v2 (pg h20 (v1 (pu (Yl 1 4) (v2 (pv pT (pl (show (!(aC (⟨#[119,111,114,100]⟩:ByteArray) (⟨#[]⟩:ByteArray)))=true from (by rw [al] <;> decide))) (v4 (pu (Yl 1 4) (pu (pa pT (pl (show (aK p0 p1 k0 z0).size≤100000∧(⟨#[119,111,114,100]⟩:ByteArray).size≤100000 from ⟨Nat.le_trans (iS (fL hJ0.1)) (by decide),by decide⟩))) (pu (Yw (aU (aK p0 p1 k0 z0) (⟨#[119,111,114,100]⟩:ByteArray))) (v2 pT))))))))))))) <|Xa (fun h21=>?_) (fun h21=>?_)
 refine Xt [Eb 4 true] [75,11,53,52,51,9,8,1] [] [1920,544] 2272 (v1 pT) <|?_
 subst hz0
 have hf0:aW (aB p0 p1) p0.length=k0:=ah (by omega) hJ0.2 (by simp only [aB,h1,h2,h3,h4,h5,h7,h8,h9,h10,h11,h20,h21,aD,aA])
 have hb0:Nat.blt k0 p0.length=true:=ak (by omega)
 have hq0:Nat.blt (aW (aB p0 p1) p0.length) p0.length=true:=by rw [hf0];exact hb0
 exact Xy [] pz (by simp only [af,h1,h2,h3,hq0,hf0,hb0,h4,h5,h7,h8,h9,h10,h11,h20,h21,aD,aA] <;> rfl)
 refine Tri.skip <|Tri.split (!(aC (ar) (⟨#[]⟩:ByteArray))) (fun h22=>?_) (fun h22=>?_)
 refine Xu [Eb 80 true,Eb 85 true] none [Eb 89 (decide (((((p0.getD k0 []).length:Nat):Int):Int)>100))] [75] [] [] 2480 (v1 (pu (Yl 0 4) (v2 (pg h20 (v1 (pu (Yl 2 4) (v2 (pg h22 (v4 pT))))))))) <|Xb (fun h23 h23'=>?_) (fun h23 h23'=>?_)
 refine Xt [Ep 12 2592] [89,11,53,52,51,9,1] [Mc 2592 [.sl 2544 0 1 4 none,.ro .u8 p1,.i .i64 9,.b true,.b false,.s (⟨#[]⟩:ByteArray)],Mc 2544 [.s (aK p0 p1 k0 z0),.s (⟨#[]⟩:ByteArray),.s (ar),.nils]] [1920,544] 2624 (v2 (pu (Yl 2 4) (pu (pa (Ys 0 4) (pa (Ys 2 4) pT)) (pu (pa (pa (pa (Yw 4) (Yr 4)) pT) (pa (Ye (1*4) 16777216) (Yr 4))) (v1 (pu (pa (Ys 0 6) (pa (Ys 1 6) (pa (Ys 2 6) (pa (Ys 3 6) pT)))) (v2 pT))))))) <|Xt [Ei 14 (bv p1 9 true false (aK p0 p1 k0 z0) (⟨#[]⟩:ByteArray) (ar) (p0.getD k0 []))] [8] [Mc 2544 [.s (aK p0 p1 k0 z0),.s (⟨#[]⟩:ByteArray),.s (ar),.nils],Mc 2592 [.sl 2544 0 1 4 none,.ro .u8 p1,.i .i64 (cq p1 9 true false (aK p0 p1 k0 z0) (⟨#[]⟩:ByteArray) (ar) (p0.getD k0 [])),.b (cp true false (p0.getD k0 [])),.b (dC p0 p1 k0 z0),.s (jl p0 p1 k0 z0)]] [2592,2544] 2752 (v2 (pu (pa pz (pl (show (p0.getD k0 []).length≤6000∧p1.length≤1000 from ⟨hlt _,by omega⟩))) (v5 pT))) <|Tri.split (((bv p1 9 true false (aK p0 p1 k0 z0) (⟨#[]⟩:ByteArray) (ar) (p0.getD k0 [])):Int)==0) (fun h24=>?_) (fun h24=>?_)
 have h24':=dA h24
 refine Xu [Eb 106 true] none [Eb 4 (dC p0 p1 k0 z0)] [14,12] [] [2544,2592] 2896 (v2 (pg h24 (v3 (pu (Yl 4 6) (v2 pT))))) <|?_
 subst hz0
 have hf0:aW (aB p0 p1) p0.length=k0:=ah (by omega) hJ0.2 (by simp only [aB,h1,h2,h3,h4,h5,h7,h8,h9,h10,h11,h20,h21,h22,h23,h24,aD,aA])
 have hb0:Nat.blt k0 p0.length=true:=ak (by omega)
 have hq0:Nat.blt (aW (aB p0 p1) p0.length) p0.length=true:=by rw [hf0];exact hb0
 exact Xy [] pz (by simp only [af,h1,h2,h3,hq0,hf0,hb0,h4,h5,h7,h8,h9,h10,h11,h20,h21,h22,h23,h24,aD,aA] <;> rfl)
 have h24':=cZ h24
 refine Xu [Eb 106 false] none [Eb 4 false] [14,12] [] [2544,2592] 2896 (v2 (pg h24 (v6 pT))) <|?_
 subst hz0
 have hf0:aW (aB p0 p1) p0.length=k0:=ah (by omega) hJ0.2 (by simp only [aB,h1,h2,h3,h4,h5,h7,h8,h9,h10,h11,h20,h21,h22,h23,h24,aD,aA])
 have hb0:Nat.blt k0 p0.length=true:=ak (by omega)
 have hq0:Nat.blt (aW (aB p0 p1) p0.length) p0.length=true:=by rw [hf0];exact hb0
 exact Xy [] pz (by simp only [af,h1,h2,h3,hq0,hf0,hb0,h4,h5,h7,h8,h9,h10,h11,h20,h21,h22,h23,h24,aD,aA] <;> rfl)
 refine Tri.skip <|Wt [Ei 53 3] [89,11,53] [] [1920] 2512 (v2 pT) <|Xs [Eb 54 true] [] 2528 (v1 pT) <|Tri.seq <|Tri.cond_true (by kernel_rfl) <|Tri.skip <|Tri.seq <|Tri.block <|Xt [Ep 11 2560] [54] [Mc 2560 [.s (⟨#[110,105,108]⟩:ByteArray),.s (⟨#[]⟩:ByteArray),.s (⟨#[]⟩:ByteArray),.nils]] [] 2592 (pu (Yi 3 4) (pu (Ye (12+4) 16) (v1 (pu (pa (Yw 4) (Yr 4)) pT)))) <|Tri.seq <|Tri.split (aC (⟨#[110,105,108]⟩:ByteArray) (aK p0 p1 k0 z0)) (fun h25=>?_) (fun h25=>?_)
 refine Xu [Eb 61 true,Eb 66 false] (some [0,1,0,7,15,31,63,127,255,511,1023,2047,1023,1023,9215,29695,62463,131071,262143]) [Eb 75 false] [] [] [] 2896 (v1 (pu (Yl 0 4) (v2 (pg h25 (v1 (pu (Yl 1 4) (v2 (pv pT (pl (show (!(aC (⟨#[]⟩:ByteArray) (⟨#[]⟩:ByteArray)))=false from (by rw [al] <;> decide))) (v9 pT))))))))) <|Tri.cond_false (by kernel_rfl) <|Tri.skip <|Xu [Eb 80 true,Eb 85 false] none [Eb 89 false] [75] [] [] 3120 (v1 (pu (Yl 0 4) (v2 (pg h25 (v1 (pu (Yl 2 4) (v2 (pv pT (pl (show (!(aC (⟨#[]⟩:ByteArray) (⟨#[]⟩:ByteArray)))=false from (by rw [al] <;> decide))) (v4 pT))))))))) <|Tri.cond_false (by kernel_rfl) <|Tri.skip <|Wt [Ei 53 4] [89,11,53] [] [2560] 3152 (v2 pT) <|Xs [Eb 54 false] [] 3168 (v1 pT) <|Tri.seq <|Tri.cond_false (by kernel_rfl) <|Tri.exit <|Xt [Eb 4 false] [54,53,52,51,9,8,1] [] [544] 3184 (v1 pT) <|?_
 subst hz0
 have hf0:aW (aB p0 p1) p0.length=k0:=ah (by omega) hJ0.2 (by simp only [aB,h1,h2,h3,h4,h5,h7,h8,h9,h10,h11,h20,h21,h22,h23,h25,aD,aA])
 have hb0:Nat.blt k0 p0.length=true:=ak (by omega)
 have hq0:Nat.blt (aW (aB p0 p1) p0.length) p0.length=true:=by rw [hf0];exact hb0
 exact Xy [] pz (by simp only [af,h1,h2,h3,hq0,hf0,hb0,h4,h5,h7,h8,h9,h10,h11,h20,h21,h22,h23,h25,aD,aA] <;> rfl)
 refine Xu [Eb 61 false] (some [0,1,0,7,15,31,63,127,255,511,1023,2047,1023,1023,9215,29695,62463,131071,262143]) [Eb 75 false] [] [] [] 2896 (v1 (pu (Yl 0 4) (v2 (pg h25 (v5 (v9 pT)))))) <|Tri.cond_false (by kernel_rfl) <|Tri.skip <|Xu [Eb 80 false] none [Eb 89 false] [75] [] [] 3120 (v1 (pu (Yl 0 4) (v2 (pg h25 (v9 pT))))) <|Tri.cond_false (by kernel_rfl) <|Tri.skip <|Wt [Ei 53 4] [89,11,53] [] [2560] 3152 (v2 pT) <|Xs [Eb 54 false] [] 3168 (v1 pT) <|Tri.seq <|Tri.cond_false (by kernel_rfl) <|Tri.exit <|Xt [Eb 4 false] [54,53,52,51,9,8,1] [] [544] 3184 (v1 pT) <|?_
 subst hz0
 have hf0:aW (aB p0 p1) p0.length=k0:=ah (by omega) hJ0.2 (by simp only [aB,h1,h2,h3,h4,h5,h7,h8,h9,h10,h11,h20,h21,h22,h23,h25,aD,aA])
 have hb0:Nat.blt k0 p0.length=true:=ak (by omega)
 have hq0:Nat.blt (aW (aB p0 p1) p0.length) p0.length=true:=by rw [hf0];exact hb0
 exact Xy [] pz (by simp only [af,h1,h2,h3,hq0,hf0,hb0,h4,h5,h7,h8,h9,h10,h11,h20,h21,h22,h23,h25,aD,aA] <;> rfl)
 refine Xu [Eb 80 true,Eb 85 false] none [Eb 89 false] [75] [] [] 2480 (v1 (pu (Yl 0 4) (v2 (pg h20 (v1 (pu (Yl 2 4) (v2 (pg h22 (v4 pT))))))))) <|Tri.cond_false (by kernel_rfl) <|Tri.skip <|Wt [Ei 53 3] [89,11,53] [] [1920] 2512 (v2 pT) <|Xs [Eb 54 true] [] 2528 (v1 pT) <|Tri.seq <|Tri.cond_true (by kernel_rfl) <|Tri.skip <|Tri.seq <|Tri.block <|Xt [Ep 11 2560] [54] [Mc 2560 [.s (⟨#[110,105,108]⟩:ByteArray),.s (⟨#[]⟩:ByteArray),.s (⟨#[]⟩:ByteArray),.nils]] [] 2592 (pu (Yi 3 4) (pu (Ye (12+4) 16) (v1 (pu (pa (Yw 4) (Yr 4)) pT)))) <|Tri.seq <|Tri.split (aC (⟨#[110,105,108]⟩:ByteArray) (aK p0 p1 k0 z0)) (fun h26=>?_) (fun h26=>?_)
 refine Xu [Eb 61 true,Eb 66 false] (some [0,1,0,7,15,31,63,127,255,511,1023,2047,1023,1023,9215,29695,62463,131071,262143]) [Eb 75 false] [] [] [] 2896 (v1 (pu (Yl 0 4) (v2 (pg h26 (v1 (pu (Yl 1 4) (v2 (pv pT (pl (show (!(aC (⟨#[]⟩:ByteArray) (⟨#[]⟩:ByteArray)))=false from (by rw [al] <;> decide))) (v9 pT))))))))) <|Tri.cond_false (by kernel_rfl) <|Tri.skip <|Xu [Eb 80 true,Eb 85 false] none [Eb 89 false] [75] [] [] 3120 (v1 (pu (Yl 0 4) (v2 (pg h26 (v1 (pu (Yl 2 4) (v2 (pv pT (pl (show (!(aC (⟨#[]⟩:ByteArray) (⟨#[]⟩:ByteArray)))=false from (by rw [al] <;> decide))) (v4 pT))))))))) <|Tri.cond_false (by kernel_rfl) <|Tri.skip <|Wt [Ei 53 4] [89,11,53] [] [2560] 3152 (v2 pT) <|Xs [Eb 54 false] [] 3168 (v1 pT) <|Tri.seq <|Tri.cond_false (by kernel_rfl) <|Tri.exit <|Xt [Eb 4 false] [54,53,52,51,9,8,1] [] [544] 3184 (v1 pT) <|?_
 subst hz0
 have hf0:aW (aB p0 p1) p0.length=k0:=ah (by omega) hJ0.2 (by simp only [aB,h1,h2,h3,h4,h5,h7,h8,h9,h10,h11,h20,h21,h22,h26,aD,aA])
 have hb0:Nat.blt k0 p0.length=true:=ak (by omega)
 have hq0:Nat.blt (aW (aB p0 p1) p0.length) p0.length=true:=by rw [hf0];exact hb0
 exact Xy [] pz (by simp only [af,h1,h2,h3,hq0,hf0,hb0,h4,h5,h7,h8,h9,h10,h11,h20,h21,h22,h26,aD,aA] <;> rfl)
 refine Xu [Eb 61 false] (some [0,1,0,7,15,31,63,127,255,511,1023,2047,1023,1023,9215,29695,62463,131071,262143]) [Eb 75 false] [] [] [] 2896 (v1 (pu (Yl 0 4) (v2 (pg h26 (v5 (v9 pT)))))) <|Tri.cond_false (by kernel_rfl) <|Tri.skip <|Xu [Eb 80 false] none [Eb 89 false] [75] [] [] 3120 (v1 (pu (Yl 0 4) (v2 (pg h26 (v9 pT))))) <|Tri.cond_false (by kernel_rfl) <|Tri.skip <|Wt [Ei 53 4] [89,11,53] [] [2560] 3152 (v2 pT) <|Xs [Eb 54 false] [] 3168 (v1 pT) <|Tri.seq <|Tri.cond_false (by kernel_rfl) <|Tri.exit <|Xt [Eb 4 false] [54,53,52,51,9,8,1] [] [544] 3184 (v1 pT) <|?_
 subst hz0
 have hf0:aW (aB p0 p1) p0.length=k0:=ah (by omega) hJ0.2 (by simp only [aB,h1,h2,h3,h4,h5,h7,h8,h9,h10,h11,h20,h21,h22,h26,aD,aA])
 have hb0:Nat.blt k0 p0.length=true:=ak (by omega)
 have hq0:Nat.blt (aW (aB p0 p1) p0.length) p0.length=true:=by rw [hf0];exact hb0
 exact Xy [] pz (by simp only [af,h1,h2,h3,hq0,hf0,hb0,h4,h5,h7,h8,h9,h10,h11,h20,h21,h22,h26,aD,aA] <;> rfl)
 refine Xu [Eb 61 false] (some [0,1,0,7,15,31,63,127,255,511,1023,2047,1023,1023,9215,29695,62463,131071,262143]) [Eb 75 false] [] [] [] 2256 (v1 (pu (Yl 0 4) (v2 (pg h20 (v5 (v9 pT)))))) <|Tri.cond_false (by kernel_rfl) <|Tri.skip <|Xu [Eb 80 false] none [Eb 89 false] [75] [] [] 2480 (v1 (pu (Yl 0 4) (v2 (pg h20 (v9 pT))))) <|Tri.cond_false (by kernel_rfl) <|Tri.skip <|Wt [Ei 53 3] [89,11,53] [] [1920] 2512 (v2 pT) <|Xs [Eb 54 true] [] 2528 (v1 pT) <|Tri.seq <|Tri.cond_true (by kernel_rfl) <|Tri.skip <|Tri.seq <|Tri.block <|Xt [Ep 11 2560] [54] [Mc 2560 [.s (⟨#[110,105,108]⟩:ByteArray),.s (⟨#[]⟩:ByteArray),.s (⟨#[]⟩:ByteArray),.nils]] [] 2592 (pu (Yi 3 4) (pu (Ye (12+4) 16) (v1 (pu (pa (Yw 4) (Yr 4)) pT)))) <|Tri.seq <|?_
 refine Tri.split (aC (⟨#[110,105,108]⟩:ByteArray) (aK p0 p1 k0 z0)) (fun h27=>?_) (fun h27=>?_)
 refine Xu [Eb 61 true,Eb 66 false] (some [0,1,0,7,15,31,63,127,255,511,1023,2047,1023,1023,9215,29695,62463,131071,262143]) [Eb 75 false] [] [] [] 2896 (v1 (pu (Yl 0 4) (v2 (pg h27 (v1 (pu (Yl 1 4) (v2 (pv pT (pl (show (!(aC (⟨#[]⟩:ByteArray) (⟨#[]⟩:ByteArray)))=false from (by rw [al] <;> decide))) (v9 pT))))))))) <|Tri.cond_false (by kernel_rfl) <|Tri.skip <|Xu [Eb 80 true,Eb 85 false] none [Eb 89 false] [75] [] [] 3120 (v1 (pu (Yl 0 4) (v2 (pg h27 (v1 (pu (Yl 2 4) (v2 (pv pT (pl (show (!(aC (⟨#[]⟩:ByteArray) (⟨#[]⟩:ByteArray)))=false from (by rw [al] <;> decide))) (v4 pT))))))))) <|Tri.cond_false (by kernel_rfl) <|Tri.skip <|Wt [Ei 53 4] [89,11,53] [] [2560] 3152 (v2 pT) <|Xs [Eb 54 false] [] 3168 (v1 pT) <|Tri.seq <|Tri.cond_false (by kernel_rfl) <|Tri.exit <|Xt [Eb 4 false] [54,53,52,51,9,8,1] [] [544] 3184 (v1 pT) <|?_
 subst hz0
 have hf0:aW (aB p0 p1) p0.length=k0:=ah (by omega) hJ0.2 (by simp only [aB,h1,h2,h3,h4,h5,h7,h8,h9,h10,h11,h20,h27,aD,aA])
 have hb0:Nat.blt k0 p0.length=true:=ak (by omega)
 have hq0:Nat.blt (aW (aB p0 p1) p0.length) p0.length=true:=by rw [hf0];exact hb0
 exact Xy [] pz (by simp only [af,h1,h2,h3,hq0,hf0,hb0,h4,h5,h7,h8,h9,h10,h11,h20,h27,aD,aA] <;> rfl)
 refine Xu [Eb 61 false] (some [0,1,0,7,15,31,63,127,255,511,1023,2047,1023,1023,9215,29695,62463,131071,262143]) [Eb 75 false] [] [] [] 2896 (v1 (pu (Yl 0 4) (v2 (pg h27 (v5 (v9 pT)))))) <|Tri.cond_false (by kernel_rfl) <|Tri.skip <|Xu [Eb 80 false] none [Eb 89 false] [75] [] [] 3120 (v1 (pu (Yl 0 4) (v2 (pg h27 (v9 pT))))) <|Tri.cond_false (by kernel_rfl) <|Tri.skip <|Wt [Ei 53 4] [89,11,53] [] [2560] 3152 (v2 pT) <|Xs [Eb 54 false] [] 3168 (v1 pT) <|Tri.seq <|Tri.cond_false (by kernel_rfl) <|Tri.exit <|Xt [Eb 4 false] [54,53,52,51,9,8,1] [] [544] 3184 (v1 pT) <|?_
 subst hz0
 have hf0:aW (aB p0 p1) p0.length=k0:=ah (by omega) hJ0.2 (by simp only [aB,h1,h2,h3,h4,h5,h7,h8,h9,h10,h11,h20,h27,aD,aA])
 have hb0:Nat.blt k0 p0.length=true:=ak (by omega)
 have hq0:Nat.blt (aW (aB p0 p1) p0.length) p0.length=true:=by rw [hf0];exact hb0
 exact Xy [] pz (by simp only [af,h1,h2,h3,hq0,hf0,hb0,h4,h5,h7,h8,h9,h10,h11,h20,h27,aD,aA] <;> rfl)
 refine Xu [Eb 61 false] (some [0,1,0,7,15,31,63,127,255,511,1023,2047,1023,1023,9215,29695,62463,131071,262143]) [Eb 75 false] [] [] [] 1616 (v1 (pu (Yl 0 4) (v2 (pg h10 (v5 (v9 pT)))))) <|Tri.cond_false (by kernel_rfl) <|Tri.skip <|Xu [Eb 80 false] none [Eb 89 false] [75] [] [] 1840 (v1 (pu (Yl 0 4) (v2 (pg h10 (v9 pT))))) <|Tri.cond_false (by kernel_rfl) <|Tri.skip <|Wt [Ei 53 2] [89,11,53] [] [1280] 1872 (v2 pT) <|Xs [Eb 54 true] [] 1888 (v1 pT) <|Tri.seq <|Tri.cond_true (by kernel_rfl) <|Tri.skip <|Tri.seq <|Tri.block <|Xt [Ep 11 1920] [54] [Mc 1920 [.s (⟨#[99,121]⟩:ByteArray),.s (⟨#[119,111,114,100]⟩:ByteArray),.s (ar),.nils]] [] 1952 (pu (Yi 2 4) (pu (Ye (8+4) 16) (v1 (pu (pa (Yw 4) (Yr 4)) pT)))) <|Tri.seq <|?_
 refine Tri.split (aC (⟨#[99,121]⟩:ByteArray) (aK p0 p1 k0 z0)) (fun h28=>?_) (fun h28=>?_)
 refine Xu [Eb 61 true,Eb 66 true] (some [0,1,0,7,15,31,63,127,255,511,1023,2047,1023,1023,9215,29695,62463,131071,262143]) [Eb 75 (aC (bytesOf (p0.getD k0 [])) (bytesOf (((dB p0 p1 k0 z0).drop 0).take (aU (aK p0 p1 k0 z0) (⟨#[119,111,114,100]⟩:ByteArray)))))] [] [] [] 2256 (v1 (pu (Yl 0 4) (v2 (pg h28 (v1 (pu (Yl 1 4) (v2 (pv pT (pl (show (!(aC (⟨#[119,111,114,100]⟩:ByteArray) (⟨#[]⟩:ByteArray)))=true from (by rw [al] <;> decide))) (v4 (pu (Yl 1 4) (pu (pa pT (pl (show (aK p0 p1 k0 z0).size≤100000∧(⟨#[119,111,114,100]⟩:ByteArray).size≤100000 from ⟨Nat.le_trans (iS (fL hJ0.1)) (by decide),by decide⟩))) (pu (Yw (aU (aK p0 p1 k0 z0) (⟨#[119,111,114,100]⟩:ByteArray))) (v2 pT))))))))))))) <|Xa (fun h29=>?_) (fun h29=>?_)
 refine Xt [Eb 4 true] [75,11,53,52,51,9,8,1] [] [1920,544] 2272 (v1 pT) <|?_
 subst hz0
 have hf0:aW (aB p0 p1) p0.length=k0:=ah (by omega) hJ0.2 (by simp only [aB,h1,h2,h3,h4,h5,h7,h8,h9,h10,h28,h29,aD,aA])
 have hb0:Nat.blt k0 p0.length=true:=ak (by omega)
 have hq0:Nat.blt (aW (aB p0 p1) p0.length) p0.length=true:=by rw [hf0];exact hb0
 exact Xy [] pz (by simp only [af,h1,h2,h3,hq0,hf0,hb0,h4,h5,h7,h8,h9,h10,h28,h29,aD,aA] <;> rfl)
 refine Tri.skip <|Tri.split (!(aC (ar) (⟨#[]⟩:ByteArray))) (fun h30=>?_) (fun h30=>?_)
 refine Xu [Eb 80 true,Eb 85 true] none [Eb 89 (decide (((((p0.getD k0 []).length:Nat):Int):Int)>100))] [75] [] [] 2480 (v1 (pu (Yl 0 4) (v2 (pg h28 (v1 (pu (Yl 2 4) (v2 (pg h30 (v4 pT))))))))) <|Xb (fun h31 h31'=>?_) (fun h31 h31'=>?_)
 refine Xt [Ep 12 2592] [89,11,53,52,51,9,1] [Mc 2592 [.sl 2544 0 1 4 none,.ro .u8 p1,.i .i64 9,.b true,.b false,.s (⟨#[]⟩:ByteArray)],Mc 2544 [.s (aK p0 p1 k0 z0),.s (⟨#[]⟩:ByteArray),.s (ar),.nils]] [1920,544] 2624 (v2 (pu (Yl 2 4) (pu (pa (Ys 0 4) (pa (Ys 2 4) pT)) (pu (pa (pa (pa (Yw 4) (Yr 4)) pT) (pa (Ye (1*4) 16777216) (Yr 4))) (v1 (pu (pa (Ys 0 6) (pa (Ys 1 6) (pa (Ys 2 6) (pa (Ys 3 6) pT)))) (v2 pT))))))) <|Xt [Ei 14 (bv p1 9 true false (aK p0 p1 k0 z0) (⟨#[]⟩:ByteArray) (ar) (p0.getD k0 []))] [8] [Mc 2544 [.s (aK p0 p1 k0 z0),.s (⟨#[]⟩:ByteArray),.s (ar),.nils],Mc 2592 [.sl 2544 0 1 4 none,.ro .u8 p1,.i .i64 (cq p1 9 true false (aK p0 p1 k0 z0) (⟨#[]⟩:ByteArray) (ar) (p0.getD k0 [])),.b (cp true false (p0.getD k0 [])),.b (dC p0 p1 k0 z0),.s (jl p0 p1 k0 z0)]] [2592,2544] 2752 (v2 (pu (pa pz (pl (show (p0.getD k0 []).length≤6000∧p1.length≤1000 from ⟨hlt _,by omega⟩))) (v5 pT))) <|Tri.split (((bv p1 9 true false (aK p0 p1 k0 z0) (⟨#[]⟩:ByteArray) (ar) (p0.getD k0 [])):Int)==0) (fun h32=>?_) (fun h32=>?_)
 have h32':=dA h32
 refine Xu [Eb 106 true] none [Eb 4 (dC p0 p1 k0 z0)] [14,12] [] [2544,2592] 2896 (v2 (pg h32 (v3 (pu (Yl 4 6) (v2 pT))))) <|?_
 subst hz0
 have hf0:aW (aB p0 p1) p0.length=k0:=ah (by omega) hJ0.2 (by simp only [aB,h1,h2,h3,h4,h5,h7,h8,h9,h10,h28,h29,h30,h31,h32,aD,aA])
 have hb0:Nat.blt k0 p0.length=true:=ak (by omega)
 have hq0:Nat.blt (aW (aB p0 p1) p0.length) p0.length=true:=by rw [hf0];exact hb0
 exact Xy [] pz (by simp only [af,h1,h2,h3,hq0,hf0,hb0,h4,h5,h7,h8,h9,h10,h28,h29,h30,h31,h32,aD,aA] <;> rfl)
 have h32':=cZ h32
 refine Xu [Eb 106 false] none [Eb 4 false] [14,12] [] [2544,2592] 2896 (v2 (pg h32 (v6 pT))) <|?_
 subst hz0
 have hf0:aW (aB p0 p1) p0.length=k0:=ah (by omega) hJ0.2 (by simp only [aB,h1,h2,h3,h4,h5,h7,h8,h9,h10,h28,h29,h30,h31,h32,aD,aA])
 have hb0:Nat.blt k0 p0.length=true:=ak (by omega)
 have hq0:Nat.blt (aW (aB p0 p1) p0.length) p0.length=true:=by rw [hf0];exact hb0
 exact Xy [] pz (by simp only [af,h1,h2,h3,hq0,hf0,hb0,h4,h5,h7,h8,h9,h10,h28,h29,h30,h31,h32,aD,aA] <;> rfl)
 refine Tri.skip <|Wt [Ei 53 3] [89,11,53] [] [1920] 2512 (v2 pT) <|Xs [Eb 54 true] [] 2528 (v1 pT) <|Tri.seq <|Tri.cond_true (by kernel_rfl) <|Tri.skip <|Tri.seq <|Tri.block <|Xt [Ep 11 2560] [54] [Mc 2560 [.s (⟨#[110,105,108]⟩:ByteArray),.s (⟨#[]⟩:ByteArray),.s (⟨#[]⟩:ByteArray),.nils]] [] 2592 (pu (Yi 3 4) (pu (Ye (12+4) 16) (v1 (pu (pa (Yw 4) (Yr 4)) pT)))) <|Tri.seq <|Tri.split (aC (⟨#[110,105,108]⟩:ByteArray) (aK p0 p1 k0 z0)) (fun h33=>?_) (fun h33=>?_)
 refine Xu [Eb 61 true,Eb 66 false] (some [0,1,0,7,15,31,63,127,255,511,1023,2047,1023,1023,9215,29695,62463,131071,262143]) [Eb 75 false] [] [] [] 2896 (v1 (pu (Yl 0 4) (v2 (pg h33 (v1 (pu (Yl 1 4) (v2 (pv pT (pl (show (!(aC (⟨#[]⟩:ByteArray) (⟨#[]⟩:ByteArray)))=false from (by rw [al] <;> decide))) (v9 pT))))))))) <|Tri.cond_false (by kernel_rfl) <|Tri.skip <|Xu [Eb 80 true,Eb 85 false] none [Eb 89 false] [75] [] [] 3120 (v1 (pu (Yl 0 4) (v2 (pg h33 (v1 (pu (Yl 2 4) (v2 (pv pT (pl (show (!(aC (⟨#[]⟩:ByteArray) (⟨#[]⟩:ByteArray)))=false from (by rw [al] <;> decide))) (v4 pT))))))))) <|Tri.cond_false (by kernel_rfl) <|Tri.skip <|Wt [Ei 53 4] [89,11,53] [] [2560] 3152 (v2 pT) <|Xs [Eb 54 false] [] 3168 (v1 pT) <|Tri.seq <|Tri.cond_false (by kernel_rfl) <|Tri.exit <|Xt [Eb 4 false] [54,53,52,51,9,8,1] [] [544] 3184 (v1 pT) <|?_
 subst hz0
 have hf0:aW (aB p0 p1) p0.length=k0:=ah (by omega) hJ0.2 (by simp only [aB,h1,h2,h3,h4,h5,h7,h8,h9,h10,h28,h29,h30,h31,h33,aD,aA])
 have hb0:Nat.blt k0 p0.length=true:=ak (by omega)
 have hq0:Nat.blt (aW (aB p0 p1) p0.length) p0.length=true:=by rw [hf0];exact hb0
 exact Xy [] pz (by simp only [af,h1,h2,h3,hq0,hf0,hb0,h4,h5,h7,h8,h9,h10,h28,h29,h30,h31,h33,aD,aA] <;> rfl)
 refine Xu [Eb 61 false] (some [0,1,0,7,15,31,63,127,255,511,1023,2047,1023,1023,9215,29695,62463,131071,262143]) [Eb 75 false] [] [] [] 2896 (v1 (pu (Yl 0 4) (v2 (pg h33 (v5 (v9 pT)))))) <|Tri.cond_false (by kernel_rfl) <|Tri.skip <|Xu [Eb 80 false] none [Eb 89 false] [75] [] [] 3120 (v1 (pu (Yl 0 4) (v2 (pg h33 (v9 pT))))) <|Tri.cond_false (by kernel_rfl) <|Tri.skip <|Wt [Ei 53 4] [89,11,53] [] [2560] 3152 (v2 pT) <|Xs [Eb 54 false] [] 3168 (v1 pT) <|Tri.seq <|Tri.cond_false (by kernel_rfl) <|Tri.exit <|Xt [Eb 4 false] [54,53,52,51,9,8,1] [] [544] 3184 (v1 pT) <|?_
 subst hz0
 have hf0:aW (aB p0 p1) p0.length=k0:=ah (by omega) hJ0.2 (by simp only [aB,h1,h2,h3,h4,h5,h7,h8,h9,h10,h28,h29,h30,h31,h33,aD,aA])
 have hb0:Nat.blt k0 p0.length=true:=ak (by omega)
 have hq0:Nat.blt (aW (aB p0 p1) p0.length) p0.length=true:=by rw [hf0];exact hb0
 exact Xy [] pz (by simp only [af,h1,h2,h3,hq0,hf0,hb0,h4,h5,h7,h8,h9,h10,h28,h29,h30,h31,h33,aD,aA] <;> rfl)
 refine Xu [Eb 80 true,Eb 85 false] none [Eb 89 false] [75] [] [] 2480 (v1 (pu (Yl 0 4) (v2 (pg h28 (v1 (pu (Yl 2 4) (v2 (pg h30 (v4 pT))))))))) <|Tri.cond_false (by kernel_rfl) <|Tri.skip <|Wt [Ei 53 3] [89,11,53] [] [1920] 2512 (v2 pT) <|Xs [Eb 54 true] [] 2528 (v1 pT) <|Tri.seq <|Tri.cond_true (by kernel_rfl) <|Tri.skip <|Tri.seq <|Tri.block <|Xt [Ep 11 2560] [54] [Mc 2560 [.s (⟨#[110,105,108]⟩:ByteArray),.s (⟨#[]⟩:ByteArray),.s (⟨#[]⟩:ByteArray),.nils]] [] 2592 (pu (Yi 3 4) (pu (Ye (12+4) 16) (v1 (pu (pa (Yw 4) (Yr 4)) pT)))) <|Tri.seq <|Tri.split (aC (⟨#[110,105,108]⟩:ByteArray) (aK p0 p1 k0 z0)) (fun h34=>?_) (fun h34=>?_)
 refine Xu [Eb 61 true,Eb 66 false] (some [0,1,0,7,15,31,63,127,255,511,1023,2047,1023,1023,9215,29695,62463,131071,262143]) [Eb 75 false] [] [] [] 2896 (v1 (pu (Yl 0 4) (v2 (pg h34 (v1 (pu (Yl 1 4) (v2 (pv pT (pl (show (!(aC (⟨#[]⟩:ByteArray) (⟨#[]⟩:ByteArray)))=false from (by rw [al] <;> decide))) (v9 pT))))))))) <|Tri.cond_false (by kernel_rfl) <|Tri.skip <|Xu [Eb 80 true,Eb 85 false] none [Eb 89 false] [75] [] [] 3120 (v1 (pu (Yl 0 4) (v2 (pg h34 (v1 (pu (Yl 2 4) (v2 (pv pT (pl (show (!(aC (⟨#[]⟩:ByteArray) (⟨#[]⟩:ByteArray)))=false from (by rw [al] <;> decide))) (v4 pT))))))))) <|Tri.cond_false (by kernel_rfl) <|Tri.skip <|Wt [Ei 53 4] [89,11,53] [] [2560] 3152 (v2 pT) <|Xs [Eb 54 false] [] 3168 (v1 pT) <|Tri.seq <|Tri.cond_false (by kernel_rfl) <|Tri.exit <|Xt [Eb 4 false] [54,53,52,51,9,8,1] [] [544] 3184 (v1 pT) <|?_
 subst hz0
 have hf0:aW (aB p0 p1) p0.length=k0:=ah (by omega) hJ0.2 (by simp only [aB,h1,h2,h3,h4,h5,h7,h8,h9,h10,h28,h29,h30,h34,aD,aA])
 have hb0:Nat.blt k0 p0.length=true:=ak (by omega)
 have hq0:Nat.blt (aW (aB p0 p1) p0.length) p0.length=true:=by rw [hf0];exact hb0
 exact Xy [] pz (by simp only [af,h1,h2,h3,hq0,hf0,hb0,h4,h5,h7,h8,h9,h10,h28,h29,h30,h34,aD,aA] <;> rfl)
 refine Xu [Eb 61 false] (some [0,1,0,7,15,31,63,127,255,511,1023,2047,1023,1023,9215,29695,62463,131071,262143]) [Eb 75 false] [] [] [] 2896 (v1 (pu (Yl 0 4) (v2 (pg h34 (v5 (v9 pT)))))) <|Tri.cond_false (by kernel_rfl) <|Tri.skip <|Xu [Eb 80 false] none [Eb 89 false] [75] [] [] 3120 (v1 (pu (Yl 0 4) (v2 (pg h34 (v9 pT))))) <|Tri.cond_false (by kernel_rfl) <|Tri.skip <|Wt [Ei 53 4] [89,11,53] [] [2560] 3152 (v2 pT) <|Xs [Eb 54 false] [] 3168 (v1 pT) <|Tri.seq <|Tri.cond_false (by kernel_rfl) <|Tri.exit <|Xt [Eb 4 false] [54,53,52,51,9,8,1] [] [544] 3184 (v1 pT) <|?_
 subst hz0
 have hf0:aW (aB p0 p1) p0.length=k0:=ah (by omega) hJ0.2 (by simp only [aB,h1,h2,h3,h4,h5,h7,h8,h9,h10,h28,h29,h30,h34,aD,aA])
 have hb0:Nat.blt k0 p0.length=true:=ak (by omega)
 have hq0:Nat.blt (aW (aB p0 p1) p0.length) p0.length=true:=by rw [hf0];exact hb0
 exact Xy [] pz (by simp only [af,h1,h2,h3,hq0,hf0,hb0,h4,h5,h7,h8,h9,h10,h28,h29,h30,h34,aD,aA] <;> rfl)
 refine Xu [Eb 61 false] (some [0,1,0,7,15,31,63,127,255,511,1023,2047,1023,1023,9215,29695,62463,131071,262143]) [Eb 75 false] [] [] [] 2256 (v1 (pu (Yl 0 4) (v2 (pg h28 (v5 (v9 pT)))))) <|Tri.cond_false (by kernel_rfl) <|Tri.skip <|Xu [Eb 80 false] none [Eb 89 false] [75] [] [] 2480 (v1 (pu (Yl 0 4) (v2 (pg h28 (v9 pT))))) <|Tri.cond_false (by kernel_rfl) <|Tri.skip <|Wt [Ei 53 3] [89,11,53] [] [1920] 2512 (v2 pT) <|Xs [Eb 54 true] [] 2528 (v1 pT) <|Tri.seq <|Tri.cond_true (by kernel_rfl) <|Tri.skip <|Tri.seq <|Tri.block <|Xt [Ep 11 2560] [54] [Mc 2560 [.s (⟨#[110,105,108]⟩:ByteArray),.s (⟨#[]⟩:ByteArray),.s (⟨#[]⟩:ByteArray),.nils]] [] 2592 (pu (Yi 3 4) (pu (Ye (12+4) 16) (v1 (pu (pa (Yw 4) (Yr 4)) pT)))) <|Tri.seq <|?_
 refine Tri.split (aC (⟨#[110,105,108]⟩:ByteArray) (aK p0 p1 k0 z0)) (fun h35=>?_) (fun h35=>?_)
 refine Xu [Eb 61 true,Eb 66 false] (some [0,1,0,7,15,31,63,127,255,511,1023,2047,1023,1023,9215,29695,62463,131071,262143]) [Eb 75 false] [] [] [] 2896 (v1 (pu (Yl 0 4) (v2 (pg h35 (v1 (pu (Yl 1 4) (v2 (pv pT (pl (show (!(aC (⟨#[]⟩:ByteArray) (⟨#[]⟩:ByteArray)))=false from (by rw [al] <;> decide))) (v9 pT))))))))) <|Tri.cond_false (by kernel_rfl) <|Tri.skip <|Xu [Eb 80 true,Eb 85 false] none [Eb 89 false] [75] [] [] 3120 (v1 (pu (Yl 0 4) (v2 (pg h35 (v1 (pu (Yl 2 4) (v2 (pv pT (pl (show (!(aC (⟨#[]⟩:ByteArray) (⟨#[]⟩:ByteArray)))=false from (by rw [al] <;> decide))) (v4 pT))))))))) <|Tri.cond_false (by kernel_rfl) <|Tri.skip <|Wt [Ei 53 4] [89,11,53] [] [2560] 3152 (v2 pT) <|Xs [Eb 54 false] [] 3168 (v1 pT) <|Tri.seq <|Tri.cond_false (by kernel_rfl) <|Tri.exit <|Xt [Eb 4 false] [54,53,52,51,9,8,1] [] [544] 3184 (v1 pT) <|?_
 subst hz0
 have hf0:aW (aB p0 p1) p0.length=k0:=ah (by omega) hJ0.2 (by simp only [aB,h1,h2,h3,h4,h5,h7,h8,h9,h10,h28,h35,aD,aA])
 have hb0:Nat.blt k0 p0.length=true:=ak (by omega)
 have hq0:Nat.blt (aW (aB p0 p1) p0.length) p0.length=true:=by rw [hf0];exact hb0
 exact Xy [] pz (by simp only [af,h1,h2,h3,hq0,hf0,hb0,h4,h5,h7,h8,h9,h10,h28,h35,aD,aA] <;> rfl)
 refine Xu [Eb 61 false] (some [0,1,0,7,15,31,63,127,255,511,1023,2047,1023,1023,9215,29695,62463,131071,262143]) [Eb 75 false] [] [] [] 2896 (v1 (pu (Yl 0 4) (v2 (pg h35 (v5 (v9 pT)))))) <|Tri.cond_false (by kernel_rfl) <|Tri.skip <|Xu [Eb 80 false] none [Eb 89 false] [75] [] [] 3120 (v1 (pu (Yl 0 4) (v2 (pg h35 (v9 pT))))) <|Tri.cond_false (by kernel_rfl) <|Tri.skip <|Wt [Ei 53 4] [89,11,53] [] [2560] 3152 (v2 pT) <|Xs [Eb 54 false] [] 3168 (v1 pT) <|Tri.seq <|Tri.cond_false (by kernel_rfl) <|Tri.exit <|Xt [Eb 4 false] [54,53,52,51,9,8,1] [] [544] 3184 (v1 pT) <|?_
 subst hz0
 have hf0:aW (aB p0 p1) p0.length=k0:=ah (by omega) hJ0.2 (by simp only [aB,h1,h2,h3,h4,h5,h7,h8,h9,h10,h28,h35,aD,aA])
 have hb0:Nat.blt k0 p0.length=true:=ak (by omega)
 have hq0:Nat.blt (aW (aB p0 p1) p0.length) p0.length=true:=by rw [hf0];exact hb0
 exact Xy [] pz (by simp only [af,h1,h2,h3,hq0,hf0,hb0,h4,h5,h7,h8,h9,h10,h28,h35,aD,aA] <;> rfl)
 refine Xu [Eb 61 false] (some [0,1,0,7,15,31,63,127,255,511,1023,2047,1023,1023,9215,29695,62463,131071,262143]) [Eb 75 false] [] [] [] 976 (v1 (pu (Yl 0 4) (v2 (pg h8 (v5 (v9 pT)))))) <|Tri.cond_false (by kernel_rfl) <|Tri.skip <|Xu [Eb 80 false] none [Eb 89 false] [75] [] [] 1200 (v1 (pu (Yl 0 4) (v2 (pg h8 (v9 pT))))) <|Tri.cond_false (by kernel_rfl) <|Tri.skip <|Wt [Ei 53 1] [89,11,53] [] [640] 1232 (v2 pT) <|Xs [Eb 54 true] [] 1248 (v1 pT) <|Tri.seq <|Tri.cond_true (by kernel_rfl) <|Tri.skip <|Tri.seq <|Tri.block <|Xt [Ep 11 1280] [54] [Mc 1280 [.s (⟨#[98,111,98]⟩:ByteArray),.s (⟨#[]⟩:ByteArray),.s (cw),.nils]] [] 1312 (pu (Yi 1 4) (pu (Ye (4+4) 16) (v1 (pu (pa (Yw 4) (Yr 4)) pT)))) <|Tri.seq <|?_
 refine Tri.split (aC (⟨#[98,111,98]⟩:ByteArray) (aK p0 p1 k0 z0)) (fun h36=>?_) (fun h36=>?_)
 refine Xu [Eb 61 true,Eb 66 false] (some [0,1,0,7,15,31,63,127,255,511,1023,2047,1023,1023,9215,29695,62463,131071,262143]) [Eb 75 false] [] [] [] 1616 (v1 (pu (Yl 0 4) (v2 (pg h36 (v1 (pu (Yl 1 4) (v2 (pv pT (pl (show (!(aC (⟨#[]⟩:ByteArray) (⟨#[]⟩:ByteArray)))=false from (by rw [al] <;> decide))) (v9 pT))))))))) <|Tri.cond_false (by kernel_rfl) <|Tri.skip <|Tri.split (!(aC (cw) (⟨#[]⟩:ByteArray))) (fun h37=>?_) (fun h37=>?_)
 refine Xu [Eb 80 true,Eb 85 true] none [Eb 89 (decide (((((p0.getD k0 []).length:Nat):Int):Int)>100))] [75] [] [] 1840 (v1 (pu (Yl 0 4) (v2 (pg h36 (v1 (pu (Yl 2 4) (v2 (pg h37 (v4 pT))))))))) <|Xb (fun h38 h38'=>?_) (fun h38 h38'=>?_)
 refine Xt [Ep 12 1952] [89,11,53,52,51,9,1] [Mc 1952 [.sl 1904 0 1 4 none,.ro .u8 p1,.i .i64 9,.b true,.b false,.s (⟨#[]⟩:ByteArray)],Mc 1904 [.s (aK p0 p1 k0 z0),.s (⟨#[]⟩:ByteArray),.s (cw),.nils]] [1280,544] 1984 (v2 (pu (Yl 2 4) (pu (pa (Ys 0 4) (pa (Ys 2 4) pT)) (pu (pa (pa (pa (Yw 4) (Yr 4)) pT) (pa (Ye (1*4) 16777216) (Yr 4))) (v1 (pu (pa (Ys 0 6) (pa (Ys 1 6) (pa (Ys 2 6) (pa (Ys 3 6) pT)))) (v2 pT))))))) <|Xt [Ei 14 (bv p1 9 true false (aK p0 p1 k0 z0) (⟨#[]⟩:ByteArray) (cw) (p0.getD k0 []))] [8] [Mc 1904 [.s (aK p0 p1 k0 z0),.s (⟨#[]⟩:ByteArray),.s (cw),.nils],Mc 1952 [.sl 1904 0 1 4 none,.ro .u8 p1,.i .i64 (cq p1 9 true false (aK p0 p1 k0 z0) (⟨#[]⟩:ByteArray) (cw) (p0.getD k0 [])),.b (cp true false (p0.getD k0 [])),.b (fl p0 p1 k0 z0),.s (pf p0 p1 k0 z0)]] [1952,1904] 2112 (v2 (pu (pa pz (pl (show (p0.getD k0 []).length≤6000∧p1.length≤1000 from ⟨hlt _,by omega⟩))) (v5 pT))) <|Tri.split (((bv p1 9 true false (aK p0 p1 k0 z0) (⟨#[]⟩:ByteArray) (cw) (p0.getD k0 [])):Int)==0) (fun h39=>?_) (fun h39=>?_)
 have h39':=dA h39
 refine Xu [Eb 106 true] none [Eb 4 (fl p0 p1 k0 z0)] [14,12] [] [1904,1952] 2256 (v2 (pg h39 (v3 (pu (Yl 4 6) (v2 pT))))) <|?_
 subst hz0
 have hf0:aW (aB p0 p1) p0.length=k0:=ah (by omega) hJ0.2 (by simp only [aB,h1,h2,h3,h4,h5,h7,h8,h36,h37,h38,h39,aD,aA])
 have hb0:Nat.blt k0 p0.length=true:=ak (by omega)
 have hq0:Nat.blt (aW (aB p0 p1) p0.length) p0.length=true:=by rw [hf0];exact hb0
 exact Xy [] pz (by simp only [af,h1,h2,h3,hq0,hf0,hb0,h4,h5,h7,h8,h36,h37,h38,h39,aD,aA] <;> rfl)
 have h39':=cZ h39
 refine Xu [Eb 106 false] none [Eb 4 false] [14,12] [] [1904,1952] 2256 (v2 (pg h39 (v6 pT))) <|?_
 subst hz0
 have hf0:aW (aB p0 p1) p0.length=k0:=ah (by omega) hJ0.2 (by simp only [aB,h1,h2,h3,h4,h5,h7,h8,h36,h37,h38,h39,aD,aA])
 have hb0:Nat.blt k0 p0.length=true:=ak (by omega)
 have hq0:Nat.blt (aW (aB p0 p1) p0.length) p0.length=true:=by rw [hf0];exact hb0
 exact Xy [] pz (by simp only [af,h1,h2,h3,hq0,hf0,hb0,h4,h5,h7,h8,h36,h37,h38,h39,aD,aA] <;> rfl)
 refine Tri.skip <|Wt [Ei 53 2] [89,11,53] [] [1280] 1872 (v2 pT) <|Xs [Eb 54 true] [] 1888 (v1 pT) <|Tri.seq <|Tri.cond_true (by kernel_rfl) <|Tri.skip <|Tri.seq <|Tri.block <|Xt [Ep 11 1920] [54] [Mc 1920 [.s (⟨#[99,121]⟩:ByteArray),.s (⟨#[119,111,114,100]⟩:ByteArray),.s (ar),.nils]] [] 1952 (pu (Yi 2 4) (pu (Ye (8+4) 16) (v1 (pu (pa (Yw 4) (Yr 4)) pT)))) <|Tri.seq <|Tri.split (aC (⟨#[99,121]⟩:ByteArray) (aK p0 p1 k0 z0)) (fun h40=>?_) (fun h40=>?_)
 refine Xu [Eb 61 true,Eb 66 true] (some [0,1,0,7,15,31,63,127,255,511,1023,2047,1023,1023,9215,29695,62463,131071,262143]) [Eb 75 (aC (bytesOf (p0.getD k0 [])) (bytesOf (((dB p0 p1 k0 z0).drop 0).take (aU (aK p0 p1 k0 z0) (⟨#[119,111,114,100]⟩:ByteArray)))))] [] [] [] 2256 (v1 (pu (Yl 0 4) (v2 (pg h40 (v1 (pu (Yl 1 4) (v2 (pv pT (pl (show (!(aC (⟨#[119,111,114,100]⟩:ByteArray) (⟨#[]⟩:ByteArray)))=true from (by rw [al] <;> decide))) (v4 (pu (Yl 1 4) (pu (pa pT (pl (show (aK p0 p1 k0 z0).size≤100000∧(⟨#[119,111,114,100]⟩:ByteArray).size≤100000 from ⟨Nat.le_trans (iS (fL hJ0.1)) (by decide),by decide⟩))) (pu (Yw (aU (aK p0 p1 k0 z0) (⟨#[119,111,114,100]⟩:ByteArray))) (v2 pT))))))))))))) <|Xa (fun h41=>?_) (fun h41=>?_)
 refine Xt [Eb 4 true] [75,11,53,52,51,9,8,1] [] [1920,544] 2272 (v1 pT) <|?_
 subst hz0
 have hf0:aW (aB p0 p1) p0.length=k0:=ah (by omega) hJ0.2 (by simp only [aB,h1,h2,h3,h4,h5,h7,h8,h36,h37,h38,h40,h41,aD,aA])
 have hb0:Nat.blt k0 p0.length=true:=ak (by omega)
 have hq0:Nat.blt (aW (aB p0 p1) p0.length) p0.length=true:=by rw [hf0];exact hb0
 exact Xy [] pz (by simp only [af,h1,h2,h3,hq0,hf0,hb0,h4,h5,h7,h8,h36,h37,h38,h40,h41,aD,aA] <;> rfl)
 refine Tri.skip <|Tri.split (!(aC (ar) (⟨#[]⟩:ByteArray))) (fun h42=>?_) (fun h42=>?_)
 refine Xu [Eb 80 true,Eb 85 true] none [Eb 89 (decide (((((p0.getD k0 []).length:Nat):Int):Int)>100))] [75] [] [] 2480 (v1 (pu (Yl 0 4) (v2 (pg h40 (v1 (pu (Yl 2 4) (v2 (pg h42 (v4 pT))))))))) <|Tri.cond (x:=(decide (((((p0.getD k0 []).length:Nat):Int):Int)>100))) (by kernel_rfl) (fun h=>absurd (h.symm.trans h38) (by decide)) (fun h=>?_)
 refine Tri.skip <|Wt [Ei 53 3] [89,11,53] [] [1920] 2512 (v2 pT) <|Xs [Eb 54 true] [] 2528 (v1 pT) <|Tri.seq <|Tri.cond_true (by kernel_rfl) <|Tri.skip <|Tri.seq <|Tri.block <|Xt [Ep 11 2560] [54] [Mc 2560 [.s (⟨#[110,105,108]⟩:ByteArray),.s (⟨#[]⟩:ByteArray),.s (⟨#[]⟩:ByteArray),.nils]] [] 2592 (pu (Yi 3 4) (pu (Ye (12+4) 16) (v1 (pu (pa (Yw 4) (Yr 4)) pT)))) <|Tri.seq <|Tri.split (aC (⟨#[110,105,108]⟩:ByteArray) (aK p0 p1 k0 z0)) (fun h43=>?_) (fun h43=>?_)
 refine Xu [Eb 61 true,Eb 66 false] (some [0,1,0,7,15,31,63,127,255,511,1023,2047,1023,1023,9215,29695,62463,131071,262143]) [Eb 75 false] [] [] [] 2896 (v1 (pu (Yl 0 4) (v2 (pg h43 (v1 (pu (Yl 1 4) (v2 (pv pT (pl (show (!(aC (⟨#[]⟩:ByteArray) (⟨#[]⟩:ByteArray)))=false from (by rw [al] <;> decide))) (v9 pT))))))))) <|Tri.cond_false (by kernel_rfl) <|Tri.skip <|Xu [Eb 80 true,Eb 85 false] none [Eb 89 false] [75] [] [] 3120 (v1 (pu (Yl 0 4) (v2 (pg h43 (v1 (pu (Yl 2 4) (v2 (pv pT (pl (show (!(aC (⟨#[]⟩:ByteArray) (⟨#[]⟩:ByteArray)))=false from (by rw [al] <;> decide))) (v4 pT))))))))) <|Tri.cond_false (by kernel_rfl) <|Tri.skip <|Wt [Ei 53 4] [89,11,53] [] [2560] 3152 (v2 pT) <|Xs [Eb 54 false] [] 3168 (v1 pT) <|Tri.seq <|Tri.cond_false (by kernel_rfl) <|Tri.exit <|Xt [Eb 4 false] [54,53,52,51,9,8,1] [] [544] 3184 (v1 pT) <|?_
 subst hz0
 have hf0:aW (aB p0 p1) p0.length=k0:=ah (by omega) hJ0.2 (by simp only [aB,h1,h2,h3,h4,h5,h7,h8,h36,h37,h38,h40,h41,h42,h43,aD,aA])
 have hb0:Nat.blt k0 p0.length=true:=ak (by omega)
 have hq0:Nat.blt (aW (aB p0 p1) p0.length) p0.length=true:=by rw [hf0];exact hb0
 exact Xy [] pz (by simp only [af,h1,h2,h3,hq0,hf0,hb0,h4,h5,h7,h8,h36,h37,h38,h40,h41,h42,h43,aD,aA] <;> rfl)
 refine Xu [Eb 61 false] (some [0,1,0,7,15,31,63,127,255,511,1023,2047,1023,1023,9215,29695,62463,131071,262143]) [Eb 75 false] [] [] [] 2896 (v1 (pu (Yl 0 4) (v2 (pg h43 (v5 (v9 pT)))))) <|Tri.cond_false (by kernel_rfl) <|Tri.skip <|Xu [Eb 80 false] none [Eb 89 false] [75] [] [] 3120 (v1 (pu (Yl 0 4) (v2 (pg h43 (v9 pT))))) <|Tri.cond_false (by kernel_rfl) <|Tri.skip <|Wt [Ei 53 4] [89,11,53] [] [2560] 3152 (v2 pT) <|Xs [Eb 54 false] [] 3168 (v1 pT) <|Tri.seq <|Tri.cond_false (by kernel_rfl) <|Tri.exit <|Xt [Eb 4 false] [54,53,52,51,9,8,1] [] [544] 3184 (v1 pT) <|?_
 subst hz0
 have hf0:aW (aB p0 p1) p0.length=k0:=ah (by omega) hJ0.2 (by simp only [aB,h1,h2,h3,h4,h5,h7,h8,h36,h37,h38,h40,h41,h42,h43,aD,aA])
 have hb0:Nat.blt k0 p0.length=true:=ak (by omega)
 have hq0:Nat.blt (aW (aB p0 p1) p0.length) p0.length=true:=by rw [hf0];exact hb0
 exact Xy [] pz (by simp only [af,h1,h2,h3,hq0,hf0,hb0,h4,h5,h7,h8,h36,h37,h38,h40,h41,h42,h43,aD,aA] <;> rfl)
 refine Xu [Eb 80 true,Eb 85 false] none [Eb 89 false] [75] [] [] 2480 (v1 (pu (Yl 0 4) (v2 (pg h40 (v1 (pu (Yl 2 4) (v2 (pg h42 (v4 pT))))))))) <|Tri.cond_false (by kernel_rfl) <|Tri.skip <|Wt [Ei 53 3] [89,11,53] [] [1920] 2512 (v2 pT) <|Xs [Eb 54 true] [] 2528 (v1 pT) <|Tri.seq <|Tri.cond_true (by kernel_rfl) <|Tri.skip <|Tri.seq <|Tri.block <|Xt [Ep 11 2560] [54] [Mc 2560 [.s (⟨#[110,105,108]⟩:ByteArray),.s (⟨#[]⟩:ByteArray),.s (⟨#[]⟩:ByteArray),.nils]] [] 2592 (pu (Yi 3 4) (pu (Ye (12+4) 16) (v1 (pu (pa (Yw 4) (Yr 4)) pT)))) <|Tri.seq <|Tri.split (aC (⟨#[110,105,108]⟩:ByteArray) (aK p0 p1 k0 z0)) (fun h44=>?_) (fun h44=>?_)
 refine Xu [Eb 61 true,Eb 66 false] (some [0,1,0,7,15,31,63,127,255,511,1023,2047,1023,1023,9215,29695,62463,131071,262143]) [Eb 75 false] [] [] [] 2896 (v1 (pu (Yl 0 4) (v2 (pg h44 (v1 (pu (Yl 1 4) (v2 (pv pT (pl (show (!(aC (⟨#[]⟩:ByteArray) (⟨#[]⟩:ByteArray)))=false from (by rw [al] <;> decide))) (v9 pT))))))))) <|Tri.cond_false (by kernel_rfl) <|Tri.skip <|Xu [Eb 80 true,Eb 85 false] none [Eb 89 false] [75] [] [] 3120 (v1 (pu (Yl 0 4) (v2 (pg h44 (v1 (pu (Yl 2 4) (v2 (pv pT (pl (show (!(aC (⟨#[]⟩:ByteArray) (⟨#[]⟩:ByteArray)))=false from (by rw [al] <;> decide))) (v4 pT))))))))) <|Tri.cond_false (by kernel_rfl) <|Tri.skip <|Wt [Ei 53 4] [89,11,53] [] [2560] 3152 (v2 pT) <|Xs [Eb 54 false] [] 3168 (v1 pT) <|Tri.seq <|Tri.cond_false (by kernel_rfl) <|Tri.exit <|Xt [Eb 4 false] [54,53,52,51,9,8,1] [] [544] 3184 (v1 pT) <|?_
 subst hz0
 have hf0:aW (aB p0 p1) p0.length=k0:=ah (by omega) hJ0.2 (by simp only [aB,h1,h2,h3,h4,h5,h7,h8,h36,h37,h38,h40,h41,h42,h44,aD,aA])
 have hb0:Nat.blt k0 p0.length=true:=ak (by omega)
 have hq0:Nat.blt (aW (aB p0 p1) p0.length) p0.length=true:=by rw [hf0];exact hb0
 exact Xy [] pz (by simp only [af,h1,h2,h3,hq0,hf0,hb0,h4,h5,h7,h8,h36,h37,h38,h40,h41,h42,h44,aD,aA] <;> rfl)
 refine Xu [Eb 61 false] (some [0,1,0,7,15,31,63,127,255,511,1023,2047,1023,1023,9215,29695,62463,131071,262143]) [Eb 75 false] [] [] [] 2896 (v1 (pu (Yl 0 4) (v2 (pg h44 (v5 (v9 pT)))))) <|Tri.cond_false (by kernel_rfl) <|Tri.skip <|Xu [Eb 80 false] none [Eb 89 false] [75] [] [] 3120 (v1 (pu (Yl 0 4) (v2 (pg h44 (v9 pT))))) <|Tri.cond_false (by kernel_rfl) <|Tri.skip <|Wt [Ei 53 4] [89,11,53] [] [2560] 3152 (v2 pT) <|Xs [Eb 54 false] [] 3168 (v1 pT) <|Tri.seq <|Tri.cond_false (by kernel_rfl) <|Tri.exit <|Xt [Eb 4 false] [54,53,52,51,9,8,1] [] [544] 3184 (v1 pT) <|?_
 subst hz0
 have hf0:aW (aB p0 p1) p0.length=k0:=ah (by omega) hJ0.2 (by simp only [aB,h1,h2,h3,h4,h5,h7,h8,h36,h37,h38,h40,h41,h42,h44,aD,aA])
 have hb0:Nat.blt k0 p0.length=true:=ak (by omega)
 have hq0:Nat.blt (aW (aB p0 p1) p0.length) p0.length=true:=by rw [hf0];exact hb0
 exact Xy [] pz (by simp only [af,h1,h2,h3,hq0,hf0,hb0,h4,h5,h7,h8,h36,h37,h38,h40,h41,h42,h44,aD,aA] <;> rfl)
 refine Xu [Eb 61 false] (some [0,1,0,7,15,31,63,127,255,511,1023,2047,1023,1023,9215,29695,62463,131071,262143]) [Eb 75 false] [] [] [] 2256 (v1 (pu (Yl 0 4) (v2 (pg h40 (v5 (v9 pT)))))) <|Tri.cond_false (by kernel_rfl) <|Tri.skip <|Xu [Eb 80 false] none [Eb 89 false] [75] [] [] 2480 (v1 (pu (Yl 0 4) (v2 (pg h40 (v9 pT))))) <|Tri.cond_false (by kernel_rfl) <|Tri.skip <|Wt [Ei 53 3] [89,11,53] [] [1920] 2512 (v2 pT) <|Xs [Eb 54 true] [] 2528 (v1 pT) <|Tri.seq <|Tri.cond_true (by kernel_rfl) <|Tri.skip <|Tri.seq <|Tri.block <|Xt [Ep 11 2560] [54] [Mc 2560 [.s (⟨#[110,105,108]⟩:ByteArray),.s (⟨#[]⟩:ByteArray),.s (⟨#[]⟩:ByteArray),.nils]] [] 2592 (pu (Yi 3 4) (pu (Ye (12+4) 16) (v1 (pu (pa (Yw 4) (Yr 4)) pT)))) <|Tri.seq <|?_
 refine Tri.split (aC (⟨#[110,105,108]⟩:ByteArray) (aK p0 p1 k0 z0)) (fun h45=>?_) (fun h45=>?_)
 refine Xu [Eb 61 true,Eb 66 false] (some [0,1,0,7,15,31,63,127,255,511,1023,2047,1023,1023,9215,29695,62463,131071,262143]) [Eb 75 false] [] [] [] 2896 (v1 (pu (Yl 0 4) (v2 (pg h45 (v1 (pu (Yl 1 4) (v2 (pv pT (pl (show (!(aC (⟨#[]⟩:ByteArray) (⟨#[]⟩:ByteArray)))=false from (by rw [al] <;> decide))) (v9 pT))))))))) <|Tri.cond_false (by kernel_rfl) <|Tri.skip <|Xu [Eb 80 true,Eb 85 false] none [Eb 89 false] [75] [] [] 3120 (v1 (pu (Yl 0 4) (v2 (pg h45 (v1 (pu (Yl 2 4) (v2 (pv pT (pl (show (!(aC (⟨#[]⟩:ByteArray) (⟨#[]⟩:ByteArray)))=false from (by rw [al] <;> decide))) (v4 pT))))))))) <|Tri.cond_false (by kernel_rfl) <|Tri.skip <|Wt [Ei 53 4] [89,11,53] [] [2560] 3152 (v2 pT) <|Xs [Eb 54 false] [] 3168 (v1 pT) <|Tri.seq <|Tri.cond_false (by kernel_rfl) <|Tri.exit <|Xt [Eb 4 false] [54,53,52,51,9,8,1] [] [544] 3184 (v1 pT) <|?_
 subst hz0
 have hf0:aW (aB p0 p1) p0.length=k0:=ah (by omega) hJ0.2 (by simp only [aB,h1,h2,h3,h4,h5,h7,h8,h36,h37,h38,h40,h45,aD,aA])
 have hb0:Nat.blt k0 p0.length=true:=ak (by omega)
 have hq0:Nat.blt (aW (aB p0 p1) p0.length) p0.length=true:=by rw [hf0];exact hb0
 exact Xy [] pz (by simp only [af,h1,h2,h3,hq0,hf0,hb0,h4,h5,h7,h8,h36,h37,h38,h40,h45,aD,aA] <;> rfl)
 refine Xu [Eb 61 false] (some [0,1,0,7,15,31,63,127,255,511,1023,2047,1023,1023,9215,29695,62463,131071,262143]) [Eb 75 false] [] [] [] 2896 (v1 (pu (Yl 0 4) (v2 (pg h45 (v5 (v9 pT)))))) <|Tri.cond_false (by kernel_rfl) <|Tri.skip <|Xu [Eb 80 false] none [Eb 89 false] [75] [] [] 3120 (v1 (pu (Yl 0 4) (v2 (pg h45 (v9 pT))))) <|Tri.cond_false (by kernel_rfl) <|Tri.skip <|Wt [Ei 53 4] [89,11,53] [] [2560] 3152 (v2 pT) <|Xs [Eb 54 false] [] 3168 (v1 pT) <|Tri.seq <|Tri.cond_false (by kernel_rfl) <|Tri.exit <|Xt [Eb 4 false] [54,53,52,51,9,8,1] [] [544] 3184 (v1 pT) <|?_
 subst hz0
 have hf0:aW (aB p0 p1) p0.length=k0:=ah (by omega) hJ0.2 (by simp only [aB,h1,h2,h3,h4,h5,h7,h8,h36,h37,h38,h40,h45,aD,aA])
 have hb0:Nat.blt k0 p0.length=true:=ak (by omega)
 have hq0:Nat.blt (aW (aB p0 p1) p0.length) p0.length=true:=by rw [hf0];exact hb0
 exact Xy [] pz (by simp only [af,h1,h2,h3,hq0,hf0,hb0,h4,h5,h7,h8,h36,h37,h38,h40,h45,aD,aA] <;> rfl)
 refine Xu [Eb 80 true,Eb 85 false] none [Eb 89 false] [75] [] [] 1840 (v1 (pu (Yl 0 4) (v2 (pg h36 (v1 (pu (Yl 2 4) (v2 (pg h37 (v4 pT))))))))) <|Tri.cond_false (by kernel_rfl) <|Tri.skip <|Wt [Ei 53 2] [89,11,53] [] [1280] 1872 (v2 pT) <|Xs [Eb 54 true] [] 1888 (v1 pT) <|Tri.seq <|Tri.cond_true (by kernel_rfl) <|Tri.skip <|Tri.seq <|Tri.block <|Xt [Ep 11 1920] [54] [Mc 1920 [.s (⟨#[99,121]⟩:ByteArray),.s (⟨#[119,111,114,100]⟩:ByteArray),.s (ar),.nils]] [] 1952 (pu (Yi 2 4) (pu (Ye (8+4) 16) (v1 (pu (pa (Yw 4) (Yr 4)) pT)))) <|Tri.seq <|Tri.split (aC (⟨#[99,121]⟩:ByteArray) (aK p0 p1 k0 z0)) (fun h46=>?_) (fun h46=>?_)
 refine Xu [Eb 61 true,Eb 66 true] (some [0,1,0,7,15,31,63,127,255,511,1023,2047,1023,1023,9215,29695,62463,131071,262143]) [Eb 75 (aC (bytesOf (p0.getD k0 [])) (bytesOf (((dB p0 p1 k0 z0).drop 0).take (aU (aK p0 p1 k0 z0) (⟨#[119,111,114,100]⟩:ByteArray)))))] [] [] [] 2256 (v1 (pu (Yl 0 4) (v2 (pg h46 (v1 (pu (Yl 1 4) (v2 (pv pT (pl (show (!(aC (⟨#[119,111,114,100]⟩:ByteArray) (⟨#[]⟩:ByteArray)))=true from (by rw [al] <;> decide))) (v4 (pu (Yl 1 4) (pu (pa pT (pl (show (aK p0 p1 k0 z0).size≤100000∧(⟨#[119,111,114,100]⟩:ByteArray).size≤100000 from ⟨Nat.le_trans (iS (fL hJ0.1)) (by decide),by decide⟩))) (pu (Yw (aU (aK p0 p1 k0 z0) (⟨#[119,111,114,100]⟩:ByteArray))) (v2 pT))))))))))))) <|Xa (fun h47=>?_) (fun h47=>?_)
 refine Xt [Eb 4 true] [75,11,53,52,51,9,8,1] [] [1920,544] 2272 (v1 pT) <|?_
 subst hz0
 have hf0:aW (aB p0 p1) p0.length=k0:=ah (by omega) hJ0.2 (by simp only [aB,h1,h2,h3,h4,h5,h7,h8,h36,h37,h46,h47,aD,aA])
 have hb0:Nat.blt k0 p0.length=true:=ak (by omega)
 have hq0:Nat.blt (aW (aB p0 p1) p0.length) p0.length=true:=by rw [hf0];exact hb0
 exact Xy [] pz (by simp only [af,h1,h2,h3,hq0,hf0,hb0,h4,h5,h7,h8,h36,h37,h46,h47,aD,aA] <;> rfl)
 refine Tri.skip <|Tri.split (!(aC (ar) (⟨#[]⟩:ByteArray))) (fun h48=>?_) (fun h48=>?_)
 refine Xu [Eb 80 true,Eb 85 true] none [Eb 89 (decide (((((p0.getD k0 []).length:Nat):Int):Int)>100))] [75] [] [] 2480 (v1 (pu (Yl 0 4) (v2 (pg h46 (v1 (pu (Yl 2 4) (v2 (pg h48 (v4 pT))))))))) <|Xb (fun h49 h49'=>?_) (fun h49 h49'=>?_)
 refine Xt [Ep 12 2592] [89,11,53,52,51,9,1] [Mc 2592 [.sl 2544 0 1 4 none,.ro .u8 p1,.i .i64 9,.b true,.b false,.s (⟨#[]⟩:ByteArray)],Mc 2544 [.s (aK p0 p1 k0 z0),.s (⟨#[]⟩:ByteArray),.s (ar),.nils]] [1920,544] 2624 (v2 (pu (Yl 2 4) (pu (pa (Ys 0 4) (pa (Ys 2 4) pT)) (pu (pa (pa (pa (Yw 4) (Yr 4)) pT) (pa (Ye (1*4) 16777216) (Yr 4))) (v1 (pu (pa (Ys 0 6) (pa (Ys 1 6) (pa (Ys 2 6) (pa (Ys 3 6) pT)))) (v2 pT))))))) <|Xt [Ei 14 (bv p1 9 true false (aK p0 p1 k0 z0) (⟨#[]⟩:ByteArray) (ar) (p0.getD k0 []))] [8] [Mc 2544 [.s (aK p0 p1 k0 z0),.s (⟨#[]⟩:ByteArray),.s (ar),.nils],Mc 2592 [.sl 2544 0 1 4 none,.ro .u8 p1,.i .i64 (cq p1 9 true false (aK p0 p1 k0 z0) (⟨#[]⟩:ByteArray) (ar) (p0.getD k0 [])),.b (cp true false (p0.getD k0 [])),.b (dC p0 p1 k0 z0),.s (jl p0 p1 k0 z0)]] [2592,2544] 2752 (v2 (pu (pa pz (pl (show (p0.getD k0 []).length≤6000∧p1.length≤1000 from ⟨hlt _,by omega⟩))) (v5 pT))) <|Tri.split (((bv p1 9 true false (aK p0 p1 k0 z0) (⟨#[]⟩:ByteArray) (ar) (p0.getD k0 [])):Int)==0) (fun h50=>?_) (fun h50=>?_)
 have h50':=dA h50
 refine Xu [Eb 106 true] none [Eb 4 (dC p0 p1 k0 z0)] [14,12] [] [2544,2592] 2896 (v2 (pg h50 (v3 (pu (Yl 4 6) (v2 pT))))) <|?_
 subst hz0
 have hf0:aW (aB p0 p1) p0.length=k0:=ah (by omega) hJ0.2 (by simp only [aB,h1,h2,h3,h4,h5,h7,h8,h36,h37,h46,h47,h48,h49,h50,aD,aA])
 have hb0:Nat.blt k0 p0.length=true:=ak (by omega)
 have hq0:Nat.blt (aW (aB p0 p1) p0.length) p0.length=true:=by rw [hf0];exact hb0
 exact Xy [] pz (by simp only [af,h1,h2,h3,hq0,hf0,hb0,h4,h5,h7,h8,h36,h37,h46,h47,h48,h49,h50,aD,aA] <;> rfl)
 have h50':=cZ h50
 refine Xu [Eb 106 false] none [Eb 4 false] [14,12] [] [2544,2592] 2896 (v2 (pg h50 (v6 pT))) <|?_
 subst hz0
 have hf0:aW (aB p0 p1) p0.length=k0:=ah (by omega) hJ0.2 (by simp only [aB,h1,h2,h3,h4,h5,h7,h8,h36,h37,h46,h47,h48,h49,h50,aD,aA])
 have hb0:Nat.blt k0 p0.length=true:=ak (by omega)
 have hq0:Nat.blt (aW (aB p0 p1) p0.length) p0.length=true:=by rw [hf0];exact hb0
 exact Xy [] pz (by simp only [af,h1,h2,h3,hq0,hf0,hb0,h4,h5,h7,h8,h36,h37,h46,h47,h48,h49,h50,aD,aA] <;> rfl)
 refine Tri.skip <|Wt [Ei 53 3] [89,11,53] [] [1920] 2512 (v2 pT) <|Xs [Eb 54 true] [] 2528 (v1 pT) <|Tri.seq <|Tri.cond_true (by kernel_rfl) <|Tri.skip <|Tri.seq <|Tri.block <|Xt [Ep 11 2560] [54] [Mc 2560 [.s (⟨#[110,105,108]⟩:ByteArray),.s (⟨#[]⟩:ByteArray),.s (⟨#[]⟩:ByteArray),.nils]] [] 2592 (pu (Yi 3 4) (pu (Ye (12+4) 16) (v1 (pu (pa (Yw 4) (Yr 4)) pT)))) <|Tri.seq <|Tri.split (aC (⟨#[110,105,108]⟩:ByteArray) (aK p0 p1 k0 z0)) (fun h51=>?_) (fun h51=>?_)
 refine Xu [Eb 61 true,Eb 66 false] (some [0,1,0,7,15,31,63,127,255,511,1023,2047,1023,1023,9215,29695,62463,131071,262143]) [Eb 75 false] [] [] [] 2896 (v1 (pu (Yl 0 4) (v2 (pg h51 (v1 (pu (Yl 1 4) (v2 (pv pT (pl (show (!(aC (⟨#[]⟩:ByteArray) (⟨#[]⟩:ByteArray)))=false from (by rw [al] <;> decide))) (v9 pT))))))))) <|Tri.cond_false (by kernel_rfl) <|Tri.skip <|Xu [Eb 80 true,Eb 85 false] none [Eb 89 false] [75] [] [] 3120 (v1 (pu (Yl 0 4) (v2 (pg h51 (v1 (pu (Yl 2 4) (v2 (pv pT (pl (show (!(aC (⟨#[]⟩:ByteArray) (⟨#[]⟩:ByteArray)))=false from (by rw [al] <;> decide))) (v4 pT))))))))) <|Tri.cond_false (by kernel_rfl) <|Tri.skip <|Wt [Ei 53 4] [89,11,53] [] [2560] 3152 (v2 pT) <|Xs [Eb 54 false] [] 3168 (v1 pT) <|Tri.seq <|Tri.cond_false (by kernel_rfl) <|Tri.exit <|Xt [Eb 4 false] [54,53,52,51,9,8,1] [] [544] 3184 (v1 pT) <|?_
 subst hz0
 have hf0:aW (aB p0 p1) p0.length=k0:=ah (by omega) hJ0.2 (by simp only [aB,h1,h2,h3,h4,h5,h7,h8,h36,h37,h46,h47,h48,h49,h51,aD,aA])
 have hb0:Nat.blt k0 p0.length=true:=ak (by omega)
 have hq0:Nat.blt (aW (aB p0 p1) p0.length) p0.length=true:=by rw [hf0];exact hb0
 exact Xy [] pz (by simp only [af,h1,h2,h3,hq0,hf0,hb0,h4,h5,h7,h8,h36,h37,h46,h47,h48,h49,h51,aD,aA] <;> rfl)
 refine Xu [Eb 61 false] (some [0,1,0,7,15,31,63,127,255,511,1023,2047,1023,1023,9215,29695,62463,131071,262143]) [Eb 75 false] [] [] [] 2896 (v1 (pu (Yl 0 4) (v2 (pg h51 (v5 (v9 pT)))))) <|Tri.cond_false (by kernel_rfl) <|Tri.skip <|Xu [Eb 80 false] none [Eb 89 false] [75] [] [] 3120 (v1 (pu (Yl 0 4) (v2 (pg h51 (v9 pT))))) <|Tri.cond_false (by kernel_rfl) <|Tri.skip <|Wt [Ei 53 4] [89,11,53] [] [2560] 3152 (v2 pT) <|Xs [Eb 54 false] [] 3168 (v1 pT) <|Tri.seq <|Tri.cond_false (by kernel_rfl) <|Tri.exit <|Xt [Eb 4 false] [54,53,52,51,9,8,1] [] [544] 3184 (v1 pT) <|?_
 subst hz0
 have hf0:aW (aB p0 p1) p0.length=k0:=ah (by omega) hJ0.2 (by simp only [aB,h1,h2,h3,h4,h5,h7,h8,h36,h37,h46,h47,h48,h49,h51,aD,aA])
 have hb0:Nat.blt k0 p0.length=true:=ak (by omega)
 have hq0:Nat.blt (aW (aB p0 p1) p0.length) p0.length=true:=by rw [hf0];exact hb0
 exact Xy [] pz (by simp only [af,h1,h2,h3,hq0,hf0,hb0,h4,h5,h7,h8,h36,h37,h46,h47,h48,h49,h51,aD,aA] <;> rfl)
 refine Xu [Eb 80 true,Eb 85 false] none [Eb 89 false] [75] [] [] 2480 (v1 (pu (Yl 0 4) (v2 (pg h46 (v1 (pu (Yl 2 4) (v2 (pg h48 (v4 pT))))))))) <|Tri.cond_false (by kernel_rfl) <|Tri.skip <|Wt [Ei 53 3] [89,11,53] [] [1920] 2512 (v2 pT) <|Xs [Eb 54 true] [] 2528 (v1 pT) <|Tri.seq <|Tri.cond_true (by kernel_rfl) <|Tri.skip <|Tri.seq <|Tri.block <|Xt [Ep 11 2560] [54] [Mc 2560 [.s (⟨#[110,105,108]⟩:ByteArray),.s (⟨#[]⟩:ByteArray),.s (⟨#[]⟩:ByteArray),.nils]] [] 2592 (pu (Yi 3 4) (pu (Ye (12+4) 16) (v1 (pu (pa (Yw 4) (Yr 4)) pT)))) <|Tri.seq <|Tri.split (aC (⟨#[110,105,108]⟩:ByteArray) (aK p0 p1 k0 z0)) (fun h52=>?_) (fun h52=>?_)
 refine Xu [Eb 61 true,Eb 66 false] (some [0,1,0,7,15,31,63,127,255,511,1023,2047,1023,1023,9215,29695,62463,131071,262143]) [Eb 75 false] [] [] [] 2896 (v1 (pu (Yl 0 4) (v2 (pg h52 (v1 (pu (Yl 1 4) (v2 (pv pT (pl (show (!(aC (⟨#[]⟩:ByteArray) (⟨#[]⟩:ByteArray)))=false from (by rw [al] <;> decide))) (v9 pT))))))))) <|Tri.cond_false (by kernel_rfl) <|Tri.skip <|Xu [Eb 80 true,Eb 85 false] none [Eb 89 false] [75] [] [] 3120 (v1 (pu (Yl 0 4) (v2 (pg h52 (v1 (pu (Yl 2 4) (v2 (pv pT (pl (show (!(aC (⟨#[]⟩:ByteArray) (⟨#[]⟩:ByteArray)))=false from (by rw [al] <;> decide))) (v4 pT))))))))) <|Tri.cond_false (by kernel_rfl) <|Tri.skip <|Wt [Ei 53 4] [89,11,53] [] [2560] 3152 (v2 pT) <|Xs [Eb 54 false] [] 3168 (v1 pT) <|Tri.seq <|Tri.cond_false (by kernel_rfl) <|Tri.exit <|Xt [Eb 4 false] [54,53,52,51,9,8,1] [] [544] 3184 (v1 pT) <|?_
 subst hz0
 have hf0:aW (aB p0 p1) p0.length=k0:=ah (by omega) hJ0.2 (by simp only [aB,h1,h2,h3,h4,h5,h7,h8,h36,h37,h46,h47,h48,h52,aD,aA])
 have hb0:Nat.blt k0 p0.length=true:=ak (by omega)
 have hq0:Nat.blt (aW (aB p0 p1) p0.length) p0.length=true:=by rw [hf0];exact hb0
 exact Xy [] pz (by simp only [af,h1,h2,h3,hq0,hf0,hb0,h4,h5,h7,h8,h36,h37,h46,h47,h48,h52,aD,aA] <;> rfl)
 refine Xu [Eb 61 false] (some [0,1,0,7,15,31,63,127,255,511,1023,2047,1023,1023,9215,29695,62463,131071,262143]) [Eb 75 false] [] [] [] 2896 (v1 (pu (Yl 0 4) (v2 (pg h52 (v5 (v9 pT)))))) <|Tri.cond_false (by kernel_rfl) <|Tri.skip <|Xu [Eb 80 false] none [Eb 89 false] [75] [] [] 3120 (v1 (pu (Yl 0 4) (v2 (pg h52 (v9 pT))))) <|Tri.cond_false (by kernel_rfl) <|Tri.skip <|Wt [Ei 53 4] [89,11,53] [] [2560] 3152 (v2 pT) <|Xs [Eb 54 false] [] 3168 (v1 pT) <|Tri.seq <|Tri.cond_false (by kernel_rfl) <|Tri.exit <|Xt [Eb 4 false] [54,53,52,51,9,8,1] [] [544] 3184 (v1 pT) <|?_
 subst hz0
 have hf0:aW (aB p0 p1) p0.length=k0:=ah (by omega) hJ0.2 (by simp only [aB,h1,h2,h3,h4,h5,h7,h8,h36,h37,h46,h47,h48,h52,aD,aA])
 have hb0:Nat.blt k0 p0.length=true:=ak (by omega)
 have hq0:Nat.blt (aW (aB p0 p1) p0.length) p0.length=true:=by rw [hf0];exact hb0
 exact Xy [] pz (by simp only [af,h1,h2,h3,hq0,hf0,hb0,h4,h5,h7,h8,h36,h37,h46,h47,h48,h52,aD,aA] <;> rfl)
 refine Xu [Eb 61 false] (some [0,1,0,7,15,31,63,127,255,511,1023,2047,1023,1023,9215,29695,62463,131071,262143]) [Eb 75 false] [] [] [] 2256 (v1 (pu (Yl 0 4) (v2 (pg h46 (v5 (v9 pT)))))) <|Tri.cond_false (by kernel_rfl) <|Tri.skip <|Xu [Eb 80 false] none [Eb 89 false] [75] [] [] 2480 (v1 (pu (Yl 0 4) (v2 (pg h46 (v9 pT))))) <|Tri.cond_false (by kernel_rfl) <|Tri.skip <|Wt [Ei 53 3] [89,11,53] [] [1920] 2512 (v2 pT) <|Xs [Eb 54 true] [] 2528 (v1 pT) <|Tri.seq <|Tri.cond_true (by kernel_rfl) <|Tri.skip <|Tri.seq <|Tri.block <|Xt [Ep 11 2560] [54] [Mc 2560 [.s (⟨#[110,105,108]⟩:ByteArray),.s (⟨#[]⟩:ByteArray),.s (⟨#[]⟩:ByteArray),.nils]] [] 2592 (pu (Yi 3 4) (pu (Ye (12+4) 16) (v1 (pu (pa (Yw 4) (Yr 4)) pT)))) <|Tri.seq <|?_
 refine Tri.split (aC (⟨#[110,105,108]⟩:ByteArray) (aK p0 p1 k0 z0)) (fun h53=>?_) (fun h53=>?_)
 refine Xu [Eb 61 true,Eb 66 false] (some [0,1,0,7,15,31,63,127,255,511,1023,2047,1023,1023,9215,29695,62463,131071,262143]) [Eb 75 false] [] [] [] 2896 (v1 (pu (Yl 0 4) (v2 (pg h53 (v1 (pu (Yl 1 4) (v2 (pv pT (pl (show (!(aC (⟨#[]⟩:ByteArray) (⟨#[]⟩:ByteArray)))=false from (by rw [al] <;> decide))) (v9 pT))))))))) <|Tri.cond_false (by kernel_rfl) <|Tri.skip <|Xu [Eb 80 true,Eb 85 false] none [Eb 89 false] [75] [] [] 3120 (v1 (pu (Yl 0 4) (v2 (pg h53 (v1 (pu (Yl 2 4) (v2 (pv pT (pl (show (!(aC (⟨#[]⟩:ByteArray) (⟨#[]⟩:ByteArray)))=false from (by rw [al] <;> decide))) (v4 pT))))))))) <|Tri.cond_false (by kernel_rfl) <|Tri.skip <|Wt [Ei 53 4] [89,11,53] [] [2560] 3152 (v2 pT) <|Xs [Eb 54 false] [] 3168 (v1 pT) <|Tri.seq <|Tri.cond_false (by kernel_rfl) <|Tri.exit <|Xt [Eb 4 false] [54,53,52,51,9,8,1] [] [544] 3184 (v1 pT) <|?_
 subst hz0
 have hf0:aW (aB p0 p1) p0.length=k0:=ah (by omega) hJ0.2 (by simp only [aB,h1,h2,h3,h4,h5,h7,h8,h36,h37,h46,h53,aD,aA])
 have hb0:Nat.blt k0 p0.length=true:=ak (by omega)
 have hq0:Nat.blt (aW (aB p0 p1) p0.length) p0.length=true:=by rw [hf0];exact hb0
 exact Xy [] pz (by simp only [af,h1,h2,h3,hq0,hf0,hb0,h4,h5,h7,h8,h36,h37,h46,h53,aD,aA] <;> rfl)
 refine Xu [Eb 61 false] (some [0,1,0,7,15,31,63,127,255,511,1023,2047,1023,1023,9215,29695,62463,131071,262143]) [Eb 75 false] [] [] [] 2896 (v1 (pu (Yl 0 4) (v2 (pg h53 (v5 (v9 pT)))))) <|Tri.cond_false (by kernel_rfl) <|Tri.skip <|Xu [Eb 80 false] none [Eb 89 false] [75] [] [] 3120 (v1 (pu (Yl 0 4) (v2 (pg h53 (v9 pT))))) <|Tri.cond_false (by kernel_rfl) <|Tri.skip <|Wt [Ei 53 4] [89,11,53] [] [2560] 3152 (v2 pT) <|Xs [Eb 54 false] [] 3168 (v1 pT) <|Tri.seq <|Tri.cond_false (by kernel_rfl) <|Tri.exit <|Xt [Eb 4 false] [54,53,52,51,9,8,1] [] [544] 3184 (v1 pT) <|?_
 subst hz0
 have hf0:aW (aB p0 p1) p0.length=k0:=ah (by omega) hJ0.2 (by simp only [aB,h1,h2,h3,h4,h5,h7,h8,h36,h37,h46,h53,aD,aA])
 have hb0:Nat.blt k0 p0.length=true:=ak (by omega)
 have hq0:Nat.blt (aW (aB p0 p1) p0.length) p0.length=true:=by rw [hf0];exact hb0
 exact Xy [] pz (by simp only [af,h1,h2,h3,hq0,hf0,hb0,h4,h5,h7,h8,h36,h37,h46,h53,aD,aA] <;> rfl)
 refine Xu [Eb 61 false] (some [0,1,0,7,15,31,63,127,255,511,1023,2047,1023,1023,9215,29695,62463,131071,262143]) [Eb 75 false] [] [] [] 1616 (v1 (pu (Yl 0 4) (v2 (pg h36 (v5 (v9 pT)))))) <|Tri.cond_false (by kernel_rfl) <|Tri.skip <|Xu [Eb 80 false] none [Eb 89 false] [75] [] [] 1840 (v1 (pu (Yl 0 4) (v2 (pg h36 (v9 pT))))) <|Tri.cond_false (by kernel_rfl) <|Tri.skip <|Wt [Ei 53 2] [89,11,53] [] [1280] 1872 (v2 pT) <|Xs [Eb 54 true] [] 1888 (v1 pT) <|Tri.seq <|Tri.cond_true (by kernel_rfl) <|Tri.skip <|Tri.seq <|Tri.block <|Xt [Ep 11 1920] [54] [Mc 1920 [.s (⟨#[99,121]⟩:ByteArray),.s (⟨#[119,111,114,100]⟩:ByteArray),.s (ar),.nils]] [] 1952 (pu (Yi 2 4) (pu (Ye (8+4) 16) (v1 (pu (pa (Yw 4) (Yr 4)) pT)))) <|Tri.seq <|?_
 refine Tri.split (aC (⟨#[99,121]⟩:ByteArray) (aK p0 p1 k0 z0)) (fun h54=>?_) (fun h54=>?_)
 refine Xu [Eb 61 true,Eb 66 true] (some [0,1,0,7,15,31,63,127,255,511,1023,2047,1023,1023,9215,29695,62463,131071,262143]) [Eb 75 (aC (bytesOf (p0.getD k0 [])) (bytesOf (((dB p0 p1 k0 z0).drop 0).take (aU (aK p0 p1 k0 z0) (⟨#[119,111,114,100]⟩:ByteArray)))))] [] [] [] 2256 (v1 (pu (Yl 0 4) (v2 (pg h54 (v1 (pu (Yl 1 4) (v2 (pv pT (pl (show (!(aC (⟨#[119,111,114,100]⟩:ByteArray) (⟨#[]⟩:ByteArray)))=true from (by rw [al] <;> decide))) (v4 (pu (Yl 1 4) (pu (pa pT (pl (show (aK p0 p1 k0 z0).size≤100000∧(⟨#[119,111,114,100]⟩:ByteArray).size≤100000 from ⟨Nat.le_trans (iS (fL hJ0.1)) (by decide),by decide⟩))) (pu (Yw (aU (aK p0 p1 k0 z0) (⟨#[119,111,114,100]⟩:ByteArray))) (v2 pT))))))))))))) <|Xa (fun h55=>?_) (fun h55=>?_)
 refine Xt [Eb 4 true] [75,11,53,52,51,9,8,1] [] [1920,544] 2272 (v1 pT) <|?_
 subst hz0
 have hf0:aW (aB p0 p1) p0.length=k0:=ah (by omega) hJ0.2 (by simp only [aB,h1,h2,h3,h4,h5,h7,h8,h36,h54,h55,aD,aA])
 have hb0:Nat.blt k0 p0.length=true:=ak (by omega)
 have hq0:Nat.blt (aW (aB p0 p1) p0.length) p0.length=true:=by rw [hf0];exact hb0
 exact Xy [] pz (by simp only [af,h1,h2,h3,hq0,hf0,hb0,h4,h5,h7,h8,h36,h54,h55,aD,aA] <;> rfl)
 refine Tri.skip <|Tri.split (!(aC (ar) (⟨#[]⟩:ByteArray))) (fun h56=>?_) (fun h56=>?_)
 refine Xu [Eb 80 true,Eb 85 true] none [Eb 89 (decide (((((p0.getD k0 []).length:Nat):Int):Int)>100))] [75] [] [] 2480 (v1 (pu (Yl 0 4) (v2 (pg h54 (v1 (pu (Yl 2 4) (v2 (pg h56 (v4 pT))))))))) <|Xb (fun h57 h57'=>?_) (fun h57 h57'=>?_)
 refine Xt [Ep 12 2592] [89,11,53,52,51,9,1] [Mc 2592 [.sl 2544 0 1 4 none,.ro .u8 p1,.i .i64 9,.b true,.b false,.s (⟨#[]⟩:ByteArray)],Mc 2544 [.s (aK p0 p1 k0 z0),.s (⟨#[]⟩:ByteArray),.s (ar),.nils]] [1920,544] 2624 (v2 (pu (Yl 2 4) (pu (pa (Ys 0 4) (pa (Ys 2 4) pT)) (pu (pa (pa (pa (Yw 4) (Yr 4)) pT) (pa (Ye (1*4) 16777216) (Yr 4))) (v1 (pu (pa (Ys 0 6) (pa (Ys 1 6) (pa (Ys 2 6) (pa (Ys 3 6) pT)))) (v2 pT))))))) <|Xt [Ei 14 (bv p1 9 true false (aK p0 p1 k0 z0) (⟨#[]⟩:ByteArray) (ar) (p0.getD k0 []))] [8] [Mc 2544 [.s (aK p0 p1 k0 z0),.s (⟨#[]⟩:ByteArray),.s (ar),.nils],Mc 2592 [.sl 2544 0 1 4 none,.ro .u8 p1,.i .i64 (cq p1 9 true false (aK p0 p1 k0 z0) (⟨#[]⟩:ByteArray) (ar) (p0.getD k0 [])),.b (cp true false (p0.getD k0 [])),.b (dC p0 p1 k0 z0),.s (jl p0 p1 k0 z0)]] [2592,2544] 2752 (v2 (pu (pa pz (pl (show (p0.getD k0 []).length≤6000∧p1.length≤1000 from ⟨hlt _,by omega⟩))) (v5 pT))) <|Tri.split (((bv p1 9 true false (aK p0 p1 k0 z0) (⟨#[]⟩:ByteArray) (ar) (p0.getD k0 [])):Int)==0) (fun h58=>?_) (fun h58=>?_)
 have h58':=dA h58
 refine Xu [Eb 106 true] none [Eb 4 (dC p0 p1 k0 z0)] [14,12] [] [2544,2592] 2896 (v2 (pg h58 (v3 (pu (Yl 4 6) (v2 pT))))) <|?_
 subst hz0
 have hf0:aW (aB p0 p1) p0.length=k0:=ah (by omega) hJ0.2 (by simp only [aB,h1,h2,h3,h4,h5,h7,h8,h36,h54,h55,h56,h57,h58,aD,aA])
 have hb0:Nat.blt k0 p0.length=true:=ak (by omega)
 have hq0:Nat.blt (aW (aB p0 p1) p0.length) p0.length=true:=by rw [hf0];exact hb0
 exact Xy [] pz (by simp only [af,h1,h2,h3,hq0,hf0,hb0,h4,h5,h7,h8,h36,h54,h55,h56,h57,h58,aD,aA] <;> rfl)
 have h58':=cZ h58
 refine Xu [Eb 106 false] none [Eb 4 false] [14,12] [] [2544,2592] 2896 (v2 (pg h58 (v6 pT))) <|?_
 subst hz0
 have hf0:aW (aB p0 p1) p0.length=k0:=ah (by omega) hJ0.2 (by simp only [aB,h1,h2,h3,h4,h5,h7,h8,h36,h54,h55,h56,h57,h58,aD,aA])
 have hb0:Nat.blt k0 p0.length=true:=ak (by omega)
 have hq0:Nat.blt (aW (aB p0 p1) p0.length) p0.length=true:=by rw [hf0];exact hb0
 exact Xy [] pz (by simp only [af,h1,h2,h3,hq0,hf0,hb0,h4,h5,h7,h8,h36,h54,h55,h56,h57,h58,aD,aA] <;> rfl)
 refine Tri.skip <|Wt [Ei 53 3] [89,11,53] [] [1920] 2512 (v2 pT) <|Xs [Eb 54 true] [] 2528 (v1 pT) <|Tri.seq <|Tri.cond_true (by kernel_rfl) <|Tri.skip <|Tri.seq <|Tri.block <|Xt [Ep 11 2560] [54] [Mc 2560 [.s (⟨#[110,105,108]⟩:ByteArray),.s (⟨#[]⟩:ByteArray),.s (⟨#[]⟩:ByteArray),.nils]] [] 2592 (pu (Yi 3 4) (pu (Ye (12+4) 16) (v1 (pu (pa (Yw 4) (Yr 4)) pT)))) <|Tri.seq <|Tri.split (aC (⟨#[110,105,108]⟩:ByteArray) (aK p0 p1 k0 z0)) (fun h59=>?_) (fun h59=>?_)
 refine Xu [Eb 61 true,Eb 66 false] (some [0,1,0,7,15,31,63,127,255,511,1023,2047,1023,1023,9215,29695,62463,131071,262143]) [Eb 75 false] [] [] [] 2896 (v1 (pu (Yl 0 4) (v2 (pg h59 (v1 (pu (Yl 1 4) (v2 (pv pT (pl (show (!(aC (⟨#[]⟩:ByteArray) (⟨#[]⟩:ByteArray)))=false from (by rw [al] <;> decide))) (v9 pT))))))))) <|Tri.cond_false (by kernel_rfl) <|Tri.skip <|Xu [Eb 80 true,Eb 85 false] none [Eb 89 false] [75] [] [] 3120 (v1 (pu (Yl 0 4) (v2 (pg h59 (v1 (pu (Yl 2 4) (v2 (pv pT (pl (show (!(aC (⟨#[]⟩:ByteArray) (⟨#[]⟩:ByteArray)))=false from (by rw [al] <;> decide))) (v4 pT))))))))) <|Tri.cond_false (by kernel_rfl) <|Tri.skip <|Wt [Ei 53 4] [89,11,53] [] [2560] 3152 (v2 pT) <|Xs [Eb 54 false] [] 3168 (v1 pT) <|Tri.seq <|Tri.cond_false (by kernel_rfl) <|Tri.exit <|Xt [Eb 4 false] [54,53,52,51,9,8,1] [] [544] 3184 (v1 pT) <|?_
 subst hz0
 have hf0:aW (aB p0 p1) p0.length=k0:=ah (by omega) hJ0.2 (by simp only [aB,h1,h2,h3,h4,h5,h7,h8,h36,h54,h55,h56,h57,h59,aD,aA])
 have hb0:Nat.blt k0 p0.length=true:=ak (by omega)
 have hq0:Nat.blt (aW (aB p0 p1) p0.length) p0.length=true:=by rw [hf0];exact hb0
 exact Xy [] pz (by simp only [af,h1,h2,h3,hq0,hf0,hb0,h4,h5,h7,h8,h36,h54,h55,h56,h57,h59,aD,aA] <;> rfl)
 refine Xu [Eb 61 false] (some [0,1,0,7,15,31,63,127,255,511,1023,2047,1023,1023,9215,29695,62463,131071,262143]) [Eb 75 false] [] [] [] 2896 (v1 (pu (Yl 0 4) (v2 (pg h59 (v5 (v9 pT)))))) <|Tri.cond_false (by kernel_rfl) <|Tri.skip <|Xu [Eb 80 false] none [Eb 89 false] [75] [] [] 3120 (v1 (pu (Yl 0 4) (v2 (pg h59 (v9 pT))))) <|Tri.cond_false (by kernel_rfl) <|Tri.skip <|Wt [Ei 53 4] [89,11,53] [] [2560] 3152 (v2 pT) <|Xs [Eb 54 false] [] 3168 (v1 pT) <|Tri.seq <|Tri.cond_false (by kernel_rfl) <|Tri.exit <|Xt [Eb 4 false] [54,53,52,51,9,8,1] [] [544] 3184 (v1 pT) <|?_
 subst hz0
 have hf0:aW (aB p0 p1) p0.length=k0:=ah (by omega) hJ0.2 (by simp only [aB,h1,h2,h3,h4,h5,h7,h8,h36,h54,h55,h56,h57,h59,aD,aA])
 have hb0:Nat.blt k0 p0.length=true:=ak (by omega)
 have hq0:Nat.blt (aW (aB p0 p1) p0.length) p0.length=true:=by rw [hf0];exact hb0
 exact Xy [] pz (by simp only [af,h1,h2,h3,hq0,hf0,hb0,h4,h5,h7,h8,h36,h54,h55,h56,h57,h59,aD,aA] <;> rfl)
 refine Xu [Eb 80 true,Eb 85 false] none [Eb 89 false] [75] [] [] 2480 (v1 (pu (Yl 0 4) (v2 (pg h54 (v1 (pu (Yl 2 4) (v2 (pg h56 (v4 pT))))))))) <|Tri.cond_false (by kernel_rfl) <|Tri.skip <|Wt [Ei 53 3] [89,11,53] [] [1920] 2512 (v2 pT) <|Xs [Eb 54 true] [] 2528 (v1 pT) <|Tri.seq <|Tri.cond_true (by kernel_rfl) <|Tri.skip <|Tri.seq <|Tri.block <|Xt [Ep 11 2560] [54] [Mc 2560 [.s (⟨#[110,105,108]⟩:ByteArray),.s (⟨#[]⟩:ByteArray),.s (⟨#[]⟩:ByteArray),.nils]] [] 2592 (pu (Yi 3 4) (pu (Ye (12+4) 16) (v1 (pu (pa (Yw 4) (Yr 4)) pT)))) <|Tri.seq <|Tri.split (aC (⟨#[110,105,108]⟩:ByteArray) (aK p0 p1 k0 z0)) (fun h60=>?_) (fun h60=>?_)
 refine Xu [Eb 61 true,Eb 66 false] (some [0,1,0,7,15,31,63,127,255,511,1023,2047,1023,1023,9215,29695,62463,131071,262143]) [Eb 75 false] [] [] [] 2896 (v1 (pu (Yl 0 4) (v2 (pg h60 (v1 (pu (Yl 1 4) (v2 (pv pT (pl (show (!(aC (⟨#[]⟩:ByteArray) (⟨#[]⟩:ByteArray)))=false from (by rw [al] <;> decide))) (v9 pT))))))))) <|Tri.cond_false (by kernel_rfl) <|Tri.skip <|Xu [Eb 80 true,Eb 85 false] none [Eb 89 false] [75] [] [] 3120 (v1 (pu (Yl 0 4) (v2 (pg h60 (v1 (pu (Yl 2 4) (v2 (pv pT (pl (show (!(aC (⟨#[]⟩:ByteArray) (⟨#[]⟩:ByteArray)))=false from (by rw [al] <;> decide))) (v4 pT))))))))) <|Tri.cond_false (by kernel_rfl) <|Tri.skip <|Wt [Ei 53 4] [89,11,53] [] [2560] 3152 (v2 pT) <|Xs [Eb 54 false] [] 3168 (v1 pT) <|Tri.seq <|Tri.cond_false (by kernel_rfl) <|Tri.exit <|Xt [Eb 4 false] [54,53,52,51,9,8,1] [] [544] 3184 (v1 pT) <|?_
 subst hz0
 have hf0:aW (aB p0 p1) p0.length=k0:=ah (by omega) hJ0.2 (by simp only [aB,h1,h2,h3,h4,h5,h7,h8,h36,h54,h55,h56,h60,aD,aA])
 have hb0:Nat.blt k0 p0.length=true:=ak (by omega)
 have hq0:Nat.blt (aW (aB p0 p1) p0.length) p0.length=true:=by rw [hf0];exact hb0
 exact Xy [] pz (by simp only [af,h1,h2,h3,hq0,hf0,hb0,h4,h5,h7,h8,h36,h54,h55,h56,h60,aD,aA] <;> rfl)
 refine Xu [Eb 61 false] (some [0,1,0,7,15,31,63,127,255,511,1023,2047,1023,1023,9215,29695,62463,131071,262143]) [Eb 75 false] [] [] [] 2896 (v1 (pu (Yl 0 4) (v2 (pg h60 (v5 (v9 pT)))))) <|Tri.cond_false (by kernel_rfl) <|Tri.skip <|Xu [Eb 80 false] none [Eb 89 false] [75] [] [] 3120 (v1 (pu (Yl 0 4) (v2 (pg h60 (v9 pT))))) <|Tri.cond_false (by kernel_rfl) <|Tri.skip <|Wt [Ei 53 4] [89,11,53] [] [2560] 3152 (v2 pT) <|Xs [Eb 54 false] [] 3168 (v1 pT) <|Tri.seq <|Tri.cond_false (by kernel_rfl) <|Tri.exit <|Xt [Eb 4 false] [54,53,52,51,9,8,1] [] [544] 3184 (v1 pT) <|?_
 subst hz0
 have hf0:aW (aB p0 p1) p0.length=k0:=ah (by omega) hJ0.2 (by simp only [aB,h1,h2,h3,h4,h5,h7,h8,h36,h54,h55,h56,h60,aD,aA])
 have hb0:Nat.blt k0 p0.length=true:=ak (by omega)
 have hq0:Nat.blt (aW (aB p0 p1) p0.length) p0.length=true:=by rw [hf0];exact hb0
 exact Xy [] pz (by simp only [af,h1,h2,h3,hq0,hf0,hb0,h4,h5,h7,h8,h36,h54,h55,h56,h60,aD,aA] <;> rfl)
 refine Xu [Eb 61 false] (some [0,1,0,7,15,31,63,127,255,511,1023,2047,1023,1023,9215,29695,62463,131071,262143]) [Eb 75 false] [] [] [] 2256 (v1 (pu (Yl 0 4) (v2 (pg h54 (v5 (v9 pT)))))) <|Tri.cond_false (by kernel_rfl) <|Tri.skip <|Xu [Eb 80 false] none [Eb 89 false] [75] [] [] 2480 (v1 (pu (Yl 0 4) (v2 (pg h54 (v9 pT))))) <|Tri.cond_false (by kernel_rfl) <|Tri.skip <|Wt [Ei 53 3] [89,11,53] [] [1920] 2512 (v2 pT) <|Xs [Eb 54 true] [] 2528 (v1 pT) <|Tri.seq <|Tri.cond_true (by kernel_rfl) <|Tri.skip <|Tri.seq <|Tri.block <|Xt [Ep 11 2560] [54] [Mc 2560 [.s (⟨#[110,105,108]⟩:ByteArray),.s (⟨#[]⟩:ByteArray),.s (⟨#[]⟩:ByteArray),.nils]] [] 2592 (pu (Yi 3 4) (pu (Ye (12+4) 16) (v1 (pu (pa (Yw 4) (Yr 4)) pT)))) <|Tri.seq <|?_
 refine Tri.split (aC (⟨#[110,105,108]⟩:ByteArray) (aK p0 p1 k0 z0)) (fun h61=>?_) (fun h61=>?_)
 refine Xu [Eb 61 true,Eb 66 false] (some [0,1,0,7,15,31,63,127,255,511,1023,2047,1023,1023,9215,29695,62463,131071,262143]) [Eb 75 false] [] [] [] 2896 (v1 (pu (Yl 0 4) (v2 (pg h61 (v1 (pu (Yl 1 4) (v2 (pv pT (pl (show (!(aC (⟨#[]⟩:ByteArray) (⟨#[]⟩:ByteArray)))=false from (by rw [al] <;> decide))) (v9 pT))))))))) <|Tri.cond_false (by kernel_rfl) <|Tri.skip <|Xu [Eb 80 true,Eb 85 false] none [Eb 89 false] [75] [] [] 3120 (v1 (pu (Yl 0 4) (v2 (pg h61 (v1 (pu (Yl 2 4) (v2 (pv pT (pl (show (!(aC (⟨#[]⟩:ByteArray) (⟨#[]⟩:ByteArray)))=false from (by rw [al] <;> decide))) (v4 pT))))))))) <|Tri.cond_false (by kernel_rfl) <|Tri.skip <|Wt [Ei 53 4] [89,11,53] [] [2560] 3152 (v2 pT) <|Xs [Eb 54 false] [] 3168 (v1 pT) <|Tri.seq <|Tri.cond_false (by kernel_rfl) <|Tri.exit <|Xt [Eb 4 false] [54,53,52,51,9,8,1] [] [544] 3184 (v1 pT) <|?_
 subst hz0
 have hf0:aW (aB p0 p1) p0.length=k0:=ah (by omega) hJ0.2 (by simp only [aB,h1,h2,h3,h4,h5,h7,h8,h36,h54,h61,aD,aA])
 have hb0:Nat.blt k0 p0.length=true:=ak (by omega)
 have hq0:Nat.blt (aW (aB p0 p1) p0.length) p0.length=true:=by rw [hf0];exact hb0
 exact Xy [] pz (by simp only [af,h1,h2,h3,hq0,hf0,hb0,h4,h5,h7,h8,h36,h54,h61,aD,aA] <;> rfl)
 refine Xu [Eb 61 false] (some [0,1,0,7,15,31,63,127,255,511,1023,2047,1023,1023,9215,29695,62463,131071,262143]) [Eb 75 false] [] [] [] 2896 (v1 (pu (Yl 0 4) (v2 (pg h61 (v5 (v9 pT)))))) <|Tri.cond_false (by kernel_rfl) <|Tri.skip <|Xu [Eb 80 false] none [Eb 89 false] [75] [] [] 3120 (v1 (pu (Yl 0 4) (v2 (pg h61 (v9 pT))))) <|Tri.cond_false (by kernel_rfl) <|Tri.skip <|Wt [Ei 53 4] [89,11,53] [] [2560] 3152 (v2 pT) <|Xs [Eb 54 false] [] 3168 (v1 pT) <|Tri.seq <|Tri.cond_false (by kernel_rfl) <|Tri.exit <|Xt [Eb 4 false] [54,53,52,51,9,8,1] [] [544] 3184 (v1 pT) <|?_
 subst hz0
 have hf0:aW (aB p0 p1) p0.length=k0:=ah (by omega) hJ0.2 (by simp only [aB,h1,h2,h3,h4,h5,h7,h8,h36,h54,h61,aD,aA])
 have hb0:Nat.blt k0 p0.length=true:=ak (by omega)
 have hq0:Nat.blt (aW (aB p0 p1) p0.length) p0.length=true:=by rw [hf0];exact hb0
 exact Xy [] pz (by simp only [af,h1,h2,h3,hq0,hf0,hb0,h4,h5,h7,h8,h36,h54,h61,aD,aA] <;> rfl)
 refine Tri.exit <|?_
 obtain rfl:k0=p0.length:=(by omega);obtain rfl:z0=(xC p0 p1):=hz0
 have hf0:aW (aB p0 p1) p0.length=p0.length:=lR hJ0.2
 have hb0:Nat.blt p0.length p0.length=false:=lp _
 have hq0:Nat.blt (aW (aB p0 p1) p0.length) p0.length=false:=by rw [hf0];exact hb0
 exact Xt [Eb 4 true] [31,30,29,28,6,5,1] [] [225,224,192] 352 (v1 pT) <|Xy [] pz (by simp only [af,h1,h2,h3,hq0,hf0,hb0,aD,aA] <;> rfl)
end Go.Vm
namespace Go.Vm
open Go Tabn
theorem DW (a b c:Bool):sel (sel a b false) c false=sel a (sel b c false) false:=by cases a <;> cases b <;> rfl
theorem tF (s:List Int) (u B G K:ByteArray):sel (sel (!(aC (aJ B 32) ik)) (aC (aJ B 32) K) false) (sel (!(aC (aJ G 64) ik)) (nc (aR (aJ B 32)) (kg s u B) (aR (aJ G 64))) false) false=xn s u B G K:=DW _ _ _
theorem Js {u B G K:ByteArray} {f:Int} (hf:0<f∧f<256) (hl:(gp u B G f).length≤6000) {p0:List Int} (hs:p0.length≤1000) (T:Int) {V:Bool} (hV:xn p0 u B G K=V) :
  bv p0 T true false u ik K (gp u B G f)=sel V 0 (sel (((ag .i64 (kP T 1) 1):Int)==0) 9 0)∧dF p0 true false u ik K (gp u B G f)=V:=by
 have hd:=uj u B G (f:=f) ⟨by omega,hf.2⟩
 have hq:=mE u B G f
 have hns:=FI (X:=tx u (tx el (tx sPk (f :: tx sEd (tx B (tx G [])))))) hd
 obtain ⟨p,hp⟩:∃ p,p=gp u B G f:=⟨_,rfl⟩
 have hns':aC (bytesOf p) (bytesOf ((([5]++(aH dU (4+kn.size) 0 (4+kn.size))).drop 0).take (1+(4+kn.size))))=false:=by rw [hp];unfold dU;exact hns
 obtain ⟨s1,s2,s3,s4,s5,s6,s7,s8,s9,s10,s11⟩:=DQ hf hl hp (k1:=aL p 0 false) (b1:=aM p 0 false) rfl rfl (k2:=ab p (aL p 0 false) (aM p 0 false)) (b2:=aS p (aL p 0 false) (aM p 0 false)) rfl rfl
  (k3:=aF p) (b3:=aG p) rfl rfl (k4:=ab p (aF p) (aG p)) (b4:=aS p (aF p) (aG p)) rfl rfl (k5:=aO p) (b5:=aP p) rfl rfl (k6:=ab p (aO p) (aP p)) (b6:=aS p (aO p) (aP p)) rfl rfl
  (k7:=aQ p) (b7:=aV p) rfl rfl (k8:=ab p (aQ p) (aV p)) (b8:=aS p (aQ p) (aV p)) rfl rfl
 have v1:dQ p=el:=s3
 have v5:aX p=f:=s5
 have v9:aI p=B:=s7
 have f0:(f==0)=false:=by rw [beq_eq_false_iff_ne];omega
 have v13:cU p=true:=by unfold cU;rw [v5,f0,aA,aA];exact s10
 have hP0:(tH u B f).length≤6000:=by
  have:=congrArg List.length (sA u B G f)
  rw [List.length_append] at this
  omega
 have v12:bX p0 p=nc (aR (aJ B 32)) (kg p0 u B) (aR (aJ G 64)):=by
  unfold bX
  rw [v9,s8,s11,bJ (ap _),bJ (ap _),bJ (pS _ _),Ac hf hs hP0]
 have c50:((50:Int) != 50)=false:=rfl
 rw [← hp]
 refine ⟨?_,?_⟩
 ·unfold bv
  rw [hns',s1,c50,v1,s2,s4,v5,f0,s6,v9,s8,s9,v12,v13,CW,Bk,bN,bN,bN]
  simp only [aD,aA,Bool.not_true,Bool.not_false,bN]
  rw [tF,hV]
 ·unfold dF
  rw [hns',s1,c50,v1,s2,s4,v5,f0,s6,v9,s8,s9,v12,v13,CW,Bk,bN,bN,bN]
  simp only [aD,aA,Bool.not_true,Bool.not_false,bN]
  rw [tF,hV]
  cases V <;> rfl
theorem LZ:pm=true:=by kernel_rfl
theorem CB:((gA).drop 0).take ((1+4)+kn.size)=5 :: tx kn []:=by
 unfold gA mU
 rw [wt _ _ _ (by decide)]
 show (5 :: tx kn []).take _=_
 rw [List.take_of_length_le (by rw [List.length_cons,ol];decide)]
theorem Eu {p:List Int} (hd:Dg p) (hl:p.length≤6000) (a:Bool):cm a false p=sel a true (aC (bytesOf p) (bytesOf (((gA).drop 0).take ((1+4)+(⟨#[115,115,104,45,117,115,101,114,97,117,116,104]⟩:ByteArray).size)))):=by
 have hsv:((gA).drop 0).take ((1+4)+(⟨#[115,115,104,45,117,115,101,114,97,117,116,104]⟩:ByteArray).size)=5 :: tx kn []:=CB
 obtain ⟨v1,v2,v3,v4,v5,v6,v7⟩:=xl hd (show p.length≤1000000000 by omega)
 rw [hsv]
 unfold cm
 rw [aA,v1,v2,v3]
 have key:sel ((fh (some p):Int)==5) (sel (!(rq2 p==some [])) a (sel (!(aC (bytesOf (textV (rq1 p))) kn)) a true)) a=sel (aC (bytesOf p) (bytesOf (5 :: tx kn []))) true a:=by
  cases hq:aC (bytesOf p) (bytesOf (5 :: tx kn []))
  ·rw [aA]
   cases h5:((fh (some p):Int)==5)
   ·rw [aA]
   ·rw [aD]
    cases h2:(rq2 p==some [])
    ·rw [Bool.not_false,aD]
    ·rw [Bool.not_true,aA]
     cases h1:aC (bytesOf (textV (rq1 p))) kn
     ·rw [Bool.not_false,aD]
     ·exfalso
      have e2:=uH h2
      obtain ⟨s1,z1⟩:=fq (show textN (rq1 p)=some [] from e2)
      have q0:=kl (show nxO (some p) 1=some s1 from z1)
      have d1:Dg s1:=by rw [q0] at hd;exact fun x hx=>hd x (List.mem_cons_of_mem _ hx)
      have t1:textN (some s1)=some []:=by rw [← z1];exact e2
      obtain ⟨q1,_⟩:=gB d1 t1
      have hb:fh (some p)=5:=eq_of_beq h5
      have ht:bytesOf (textV (some s1))=kn:=by rw [← z1];exact ew h1
      rw [ht] at q1
      rw [hb,q1] at q0
      rw [q0,bN] at hq
      cases hq
  ·have e:=sh hd (lg (by decide) (gu od)) (ew hq)
   subst e
   have t:=jp kn [] (by decide)
   have r1:rq1 (5 :: tx kn [])=some (tx kn []):=rfl
   have r2:rq2 (5 :: tx kn [])=some []:=by unfold rq2;rw [r1,t.2]
   have b5:fh (some (5 :: tx kn []))=5:=rfl
   rw [r2,r1,t.1,cJ,bN,b5]
   rfl
 rw [key]
 cases a <;> cases aC (bytesOf p) (bytesOf (5 :: tx kn [])) <;> rfl
theorem qs {u:ByteArray} (h:aC (cb u) ik=false):(u=(⟨#[97,110,110]⟩:ByteArray)∧cb u=(⟨#[115,101,99,114,101,116]⟩:ByteArray))∨(u=(⟨#[99,121]⟩:ByteArray)∧cb u=(⟨#[119,111,114,100]⟩:ByteArray)):=by
 unfold cb at h ⊢
 cases h1:aC (⟨#[97,110,110]⟩:ByteArray) u
 ·rw [h1,aA] at h
  rw [aA]
  cases h2:aC (⟨#[98,111,98]⟩:ByteArray) u
  ·rw [h2,aA] at h
   rw [aA]
   cases h3:aC (⟨#[99,121]⟩:ByteArray) u
   ·rw [h3,aA,bN] at h;cases h
   ·exact .inr ⟨(ew h3).symm,by rw [aD]⟩
  ·rw [h2,aD,bN] at h;cases h
 ·exact .inl ⟨(ew h1).symm,by rw [aD]⟩
theorem rY {u:ByteArray} (h:aC (cP u) ik=false):(u=(⟨#[98,111,98]⟩:ByteArray)∧cP u=cw)∨(u=(⟨#[99,121]⟩:ByteArray)∧cP u=ar):=by
 unfold cP at h ⊢
 cases h1:aC (⟨#[97,110,110]⟩:ByteArray) u
 ·rw [h1,aA] at h
  rw [aA]
  cases h2:aC (⟨#[98,111,98]⟩:ByteArray) u
  ·rw [h2,aA] at h
   rw [aA]
   cases h3:aC (⟨#[99,121]⟩:ByteArray) u
   ·rw [h3,aA,bN] at h;cases h
   ·exact .inr ⟨(ew h3).symm,by rw [aD]⟩
  ·exact .inl ⟨(ew h2).symm,by rw [aD]⟩
 ·rw [h1,aD,bN] at h;cases h
theorem zn {t:ByteArray} {n:Nat} (hz:t.size≤16384) (hn:0<n) (h:aC (aJ t (n:Int)) ik=false):n≤t.size:=by
 rw [oe t n (by omega)] at h
 revert h
 cases wq t
 ·rw [Bool.not_false,aD,bN];intro h;cases h
 ·rw [Bool.not_true,aA]
  cases aC (bytesOf (textV (some (aR t)))) (⟨#[115,115,104,45,101,100,50,53,53,49,57]⟩:ByteArray)
  ·rw [Bool.not_false,aD,bN];intro h;cases h
  ·rw [Bool.not_true,aA]
   cases hq:(((((bytesOf (textV (textN (some (aR t))))).size:Nat):Int):Int) != (n:Int))
   ·intro _
    have e:=bz hq
    rw [cF] at e
    have hb:(textV (textN (some (aR t)))).length≤t.size:=by
     have tk:∀ (st:Rd) (k:Nat),(∀ s,st=some s→s.length≤t.size)→(tkO st k).length≤t.size∧∀ s,nxO st k=some s→s.length≤t.size:=by
      intro st k hst
      cases st with
      |none=>exact ⟨Nat.zero_le _,fun s hs=>by cases hs⟩
      |some x =>
       have hx:=hst x rfl
       rw [gW,iA]
       split
       ·exact ⟨by rw [List.length_take];omega,fun s hs=>by cases hs;rw [List.length_drop];omega⟩
       ·exact ⟨Nat.zero_le _,fun s hs=>by cases hs⟩
     have tn:∀ (st:Rd),(∀ s,st=some s→s.length≤t.size)→∀ s,textN st=some s→s.length≤t.size:=by
      intro st hst s hs
      unfold textN at hs
      split at hs
      ·cases hs
      ·exact (tk _ _ (tk _ _ hst).2).2 s hs
     have h0:∀ s,(some (aR t):Rd)=some s→s.length≤t.size:=fun s hs=>by cases hs;rw [ap];exact Nat.le_refl _
     unfold textV
     split
     ·exact Nat.zero_le _
     ·exact (tk _ _ (tk _ _ (tn _ h0)).2).1
    omega
   ·rw [aD,bN];intro h;cases h
theorem qR {s:List Int} {u B G K:ByteArray} (h:xn s u B G K=true):aC (aJ B 32) ik=false∧aJ B 32=K∧aC (aJ G 64) ik=false:=by
 unfold xn at h
 obtain ⟨h1,h⟩:=lE h
 obtain ⟨h2,h⟩:=lE h
 obtain ⟨h3,_⟩:=lE h
 exact ⟨zQ h1,ew h2,zQ h3⟩
theorem FD:aC (⟨#[97,110,110]⟩:ByteArray) (⟨#[98,111,98]⟩:ByteArray)=false:=by kernel_rfl
theorem DT:aC (⟨#[97,110,110]⟩:ByteArray) (⟨#[99,121]⟩:ByteArray)=false:=by kernel_rfl
theorem CD:aC (⟨#[98,111,98]⟩:ByteArray) (⟨#[99,121]⟩:ByteArray)=false:=by kernel_rfl
theorem Gw:aC (gS (⟨#[97,110,110]⟩:ByteArray) true) ik=false:=by kernel_rfl
theorem Ft:aC (gS (⟨#[98,111,98]⟩:ByteArray) true) ik=false:=by kernel_rfl
theorem ES:aC (gS (⟨#[99,121]⟩:ByteArray) true) ik=false:=by kernel_rfl
theorem GR (N:ByteArray):gS N true=N:=rfl
theorem CR (N:ByteArray):aC (gS N false) ik=true:=by
 have:gS N false=ik:=rfl
 rw [this,bN]
theorem tT (u w:ByteArray) (hu:u.size≤100000) (hw:w.size≤100000):((ef u w).drop 0).take (aU u w)=HQ u w:=by
 rw [Ds (Im u w),Ge u w hu hw]
 rfl
theorem GC {n:Nat} {s p:List Int} {a:Bool} {N:ByteArray} (hd:Dg p) (hl:p.length≤6000) (hs:s.length=n) (hn:n≤1000) (h:cH n s a false p=true):aC (gS (cC n s a N false p) true) ik=false:=by
 obtain ⟨_,u,h3,hq⟩:=zL (N:=N) hd hl hs hn h
 rw [h3]
 rcases hq with ⟨h1,_⟩|⟨B,G,f,_,_,hv⟩
 ·rcases qs h1 with ⟨e,_⟩|⟨e,_⟩
  ·rw [e];exact Gw
  ·rw [e];exact ES
 ·obtain ⟨k1,k2,_⟩:=qR hv
  rw [k2] at k1
  rcases rY k1 with ⟨e,_⟩|⟨e,_⟩
  ·rw [e];exact Ft
  ·rw [e];exact ES
end Go.Vm
namespace Go.Vm
open Go Tabn
theorem Fj {p:List (List Int)} (h:∀ y∈p,Dg y) (k:Nat):Dg (p.getD k []):=by
 rw [List.getD_eq_getElem?_getD]
 cases hk:p[k]? with
 |none=>exact od
 |some x=>exact h x (List.mem_of_getElem? hk)
theorem GH {p0:List (List Int)} {p1:List Int} (hd:∀ k,Dg (p0.getD k [])) (hl:∀ k,(p0.getD k []).length≤6000) (h1:p1.length≤1000) {K:Nat} (hs:∀ j,j<K→aB p0 p1 j=false) :
  ∀ j,j≤K→(itr (ae p0 p1) j (false,1000,false,ik,false)).1=(itr (ae p0 p1) j (false,1000,false,ik,false)).2.2.1∧(itr (ae p0 p1) j (false,1000,false,ik,false)).2.2.2.2=false:=by
 intro j
 induction j with
 |zero=>intro _;rw [bB];exact ⟨rfl,rfl⟩
 |succ j ih =>
  intro hj
  obtain ⟨i1,i2⟩:=ih (by omega)
  have hq:=hs j (by omega)
  unfold aB aK at hq
  rw [aq]
  generalize itr (ae p0 p1) j (false,1000,false,ik,false)=z at *
  obtain ⟨x,T,a,N,i⟩:=z
  simp only at i1 i2 hq
  subst i1 i2
  unfold ae
  simp only
  refine ⟨(Eu (hd j) (hl j) _).symm,?_⟩
  cases h4:cH p1.length p1 x false (p0.getD j [])
  ·rfl
  ·exfalso
   have:=GC (N:=N) (hd j) (hl j) rfl h1 h4
   rw [h4,this,aA] at hq
   cases hq
theorem own_true {p0:List (List Int)} {p1:List Int} (hC:p0.length≤140737488351232∧∀ y∈p0,y.length≤140737488351232) (hd:∀ y∈p0,Dg y):af p0 p1=true:=by
 unfold af
 rw [LZ,Bool.not_true,aA]
 cases hli:(!(jj p0))
 case true=>rw [aD]
 rw [aA]
 cases h1:decide ((((p1.length:Nat):Int):Int)>200)
 case true=>rw [aD]
 rw [aA]
 have hl:=wA hC hli
 have hg:=Fj hd
 have l1:p1.length≤1000:=by have:=of_decide_eq_false h1;omega
 have hbelow:∀ j,j<aW (aB p0 p1) p0.length→aB p0 p1 j=false:=fun j hj=>iK p0.length hj
 have hhit:=ua (S:=aB p0 p1) p0.length
 have hinv:=GH hg hl l1 hbelow (aW (aB p0 p1) p0.length) (Nat.le_refl _)
 generalize aW (aB p0 p1) p0.length=K at *
 cases hb:Nat.blt K p0.length
 case false=>rw [aA]
 rw [aD]
 have hh:=hhit (by rw [Nat.blt_eq] at hb;exact hb)
 unfold aB at hh
 unfold mB dB fl dC
 generalize itr (ae p0 p1) K (false,1000,false,ik,false)=z at *
 obtain ⟨x,T,a,N,i⟩:=z
 obtain ⟨i1,i2⟩:=hinv
 simp only at i1 i2
 subst i1 i2
 have hWd:aK p0 p1 K (x,T,x,N,false)=gS (cC p1.length p1 x N false (p0.getD K [])) (cH p1.length p1 x false (p0.getD K [])):=rfl
 cases h4:cH p1.length p1 x false (p0.getD K [])
 case false =>
  rw [hWd,h4,CR,aD] at hh
  cases hh
 obtain ⟨ha,u,h3,hq⟩:=zL (N:=N) (hg K) (hl K) rfl l1 h4
 have hW:aK p0 p1 K (x,T,x,N,false)=u:=by rw [hWd,h4,h3,GR]
 have hlK:=hl K
 generalize p0.getD K []=P at *
 subst ha
 simp only [hW,Bool.not_true,aA]
 rcases hq with ⟨k1,hp⟩|⟨B,G,f,hf,hp,hv⟩
 ·rcases qs k1 with ⟨e,e1⟩|⟨e,e1⟩
  ·rw [e1,e] at hp
   rw [e,hp,tT (⟨#[97,110,110]⟩:ByteArray) (⟨#[115,101,99,114,101,116]⟩:ByteArray) (by decide) (by decide)]
   simp only [bN,aD]
  ·rw [e1,e] at hp
   rw [e,hp,tT (⟨#[99,121]⟩:ByteArray) (⟨#[119,111,114,100]⟩:ByteArray) (by decide) (by decide),DT,CD]
   simp only [bN,aD,aA]
 ·obtain ⟨q1,q2,q3⟩:=qR hv
  have hkl:(gp u B G f).length≤6000:=by rw [← hp];exact hlK
  have hq:=mE u B G f
  have s1:=zn (n:=32) (t:=B) (by omega) (by decide) q1
  have s2:=zn (n:=64) (t:=G) (by omega) (by decide) q3
  have hbig:decide (((((P.length:Nat):Int):Int))>100)=true:=decide_eq_true (by rw [hp];omega)
  obtain ⟨r1,r2⟩:=Js (K:=cP u) hf hkl (p0:=p1) l1 9 hv
  have k2:aC (cP u) ik=false:=by rw [← q2];exact q1
  rw [← hp] at r1 r2
  have z0:((0:Int)==0)=true:=rfl
  rcases rY k2 with ⟨e,e2⟩|⟨e,e2⟩
  ·rw [e2] at k2 r1 r2
   rw [e] at r1 r2
   rw [e,FD]
   simp only [bN,aD,aA,k2,Bool.not_false,hbig,r1,r2,z0]
  ·rw [e2] at k2 r1 r2
   rw [e] at r1 r2
   rw [e,DT,CD]
   simp only [bN,aD,aA,k2,Bool.not_false,hbig,r1,r2,z0]
   cases aC (bytesOf P) (bytesOf (((ef (⟨#[99,121]⟩:ByteArray) (⟨#[119,111,114,100]⟩:ByteArray)).drop 0).take (aU (⟨#[99,121]⟩:ByteArray) (⟨#[119,111,114,100]⟩:ByteArray))))
   ·rw [aA]
   ·rw [aD]
end Go.Vm
end
