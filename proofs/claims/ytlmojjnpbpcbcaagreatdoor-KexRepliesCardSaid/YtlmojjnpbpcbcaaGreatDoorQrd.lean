/- A part of a proof (pack3): the small machine that walks the program, the walks of its functions, and what they compute in plain. -/
import Derived.Test.YtlmojjnpbpcbcaaGreatDoorQrc
import Derived.Test.YtlmojjnpbpcbcaaGreatDoorChecked
set_option maxHeartbeats 2000000
set_option maxRecDepth 100000
set_option linter.unusedVariables false
set_option linter.unusedSimpArgs false
noncomputable section
namespace Go.Vm
open Go Go.Proofs
def gK:List (List ByteArray) :=
 [[(⟨#[99,117,114,118,101,50,53,53,49,57,45,115,104,97,50,53,54]⟩:ByteArray)],[(⟨#[115,115,104,45,101,100,50,53,53,49,57]⟩:ByteArray)],[(⟨#[97,101,115,49,50,56,45,99,116,114]⟩:ByteArray)],[(⟨#[97,101,115,49,50,56,45,99,116,114]⟩:ByteArray)],[(⟨#[104,109,97,99,45,115,104,97,50,45,50,53,54]⟩:ByteArray)],[(⟨#[104,109,97,99,45,115,104,97,50,45,50,53,54]⟩:ByteArray)],[(⟨#[110,111,110,101]⟩:ByteArray)],[(⟨#[110,111,110,101]⟩:ByteArray)]]
def Mm:List AV→List Blk→Option (Prop × Ret)
 |[],[]=>some (True,⟨.arr .tab (gK),[]⟩)
 |_,_=>none
theorem JV:Known Tryz.prog gD 22 ⟨0,0,Mm⟩:=by
 refine Xw Tryz.f22 10 Zn mixed <|fun E args ks C r h hC hlen=>?_
 simp only at h
 unfold Mm at h
 split at h
 rotate_left
 cases h
 cases h
 simp only [am] at hlen
 refine ⟨rfl,?_⟩
 refine Xt [Ep 0 16] [] [Mc 16 [.nils,.nils,.nils,.nils,.nils,.nils,.nils,.nils]] [] 32 (v1 pT) <|Xt [] [] [Mc 16 [.sl 32 0 1 1 none,.sl 48 0 1 1 none,.sl 64 0 1 1 none,.sl 80 0 1 1 none,.sl 96 0 1 1 none,.sl 112 0 1 1 none,.sl 128 0 1 1 none,.sl 144 0 1 1 none],Mc 144 [.s (⟨#[110,111,110,101]⟩:ByteArray)],Mc 128 [.s (⟨#[110,111,110,101]⟩:ByteArray)],Mc 112 [.s (⟨#[104,109,97,99,45,115,104,97,50,45,50,53,54]⟩:ByteArray)],Mc 96 [.s (⟨#[104,109,97,99,45,115,104,97,50,45,50,53,54]⟩:ByteArray)],Mc 80 [.s (⟨#[97,101,115,49,50,56,45,99,116,114]⟩:ByteArray)],Mc 64 [.s (⟨#[97,101,115,49,50,56,45,99,116,114]⟩:ByteArray)],Mc 48 [.s (⟨#[115,115,104,45,101,100,50,53,53,49,57]⟩:ByteArray)],Mc 32 [.s (⟨#[99,117,114,118,101,50,53,53,49,57,45,115,104,97,50,53,54]⟩:ByteArray)]] [16] 192 (pu (Yf 1) (pu (Yf 1) (pu (Yf 1) (pu (Yf 1) (pu (Yf 1) (pu (Yf 1) (pu (Yf 1) (pu (Yf 1) (pu (Yb 8) (pu (pa (Yw 8) (Yr 8)) pT)))))))))) <|Tri.sub (Sub.toVec (l:=[.s (⟨#[99,117,114,118,101,50,53,53,49,57,45,115,104,97,50,53,54]⟩:ByteArray)]) 32 .str ([(⟨#[99,117,114,118,101,50,53,53,49,57,45,115,104,97,50,53,54]⟩:ByteArray)]) (by kernel_rfl) (by kernel_rfl)) <|Tri.sub (Xf 32 (.vec .str ([(⟨#[99,117,114,118,101,50,53,53,49,57,45,115,104,97,50,53,54]⟩:ByteArray)])) (show 0+1≤([(⟨#[99,117,114,118,101,50,53,53,49,57,45,115,104,97,50,53,54]⟩:ByteArray)]).length from by first|omega|(rw [co];omega)|exact cU _ _|exact cV _ _|exact aL (by omega) (by first|omega|(simp only [List.length_append];omega))|decide)) ?_
 refine Tri.sub (Sub.toVec (l:=[.s (⟨#[115,115,104,45,101,100,50,53,53,49,57]⟩:ByteArray)]) 48 .str ([(⟨#[115,115,104,45,101,100,50,53,53,49,57]⟩:ByteArray)]) (by kernel_rfl) (by kernel_rfl)) <|Tri.sub (Xf 48 (.vec .str ([(⟨#[115,115,104,45,101,100,50,53,53,49,57]⟩:ByteArray)])) (show 0+1≤([(⟨#[115,115,104,45,101,100,50,53,53,49,57]⟩:ByteArray)]).length from by first|omega|(rw [co];omega)|exact cU _ _|exact cV _ _|exact aL (by omega) (by first|omega|(simp only [List.length_append];omega))|decide)) ?_
 refine Tri.sub (Sub.toVec (l:=[.s (⟨#[97,101,115,49,50,56,45,99,116,114]⟩:ByteArray)]) 64 .str ([(⟨#[97,101,115,49,50,56,45,99,116,114]⟩:ByteArray)]) (by kernel_rfl) (by kernel_rfl)) <|Tri.sub (Xf 64 (.vec .str ([(⟨#[97,101,115,49,50,56,45,99,116,114]⟩:ByteArray)])) (show 0+1≤([(⟨#[97,101,115,49,50,56,45,99,116,114]⟩:ByteArray)]).length from by first|omega|(rw [co];omega)|exact cU _ _|exact cV _ _|exact aL (by omega) (by first|omega|(simp only [List.length_append];omega))|decide)) ?_
 refine Tri.sub (Sub.toVec (l:=[.s (⟨#[97,101,115,49,50,56,45,99,116,114]⟩:ByteArray)]) 80 .str ([(⟨#[97,101,115,49,50,56,45,99,116,114]⟩:ByteArray)]) (by kernel_rfl) (by kernel_rfl)) <|Tri.sub (Xf 80 (.vec .str ([(⟨#[97,101,115,49,50,56,45,99,116,114]⟩:ByteArray)])) (show 0+1≤([(⟨#[97,101,115,49,50,56,45,99,116,114]⟩:ByteArray)]).length from by first|omega|(rw [co];omega)|exact cU _ _|exact cV _ _|exact aL (by omega) (by first|omega|(simp only [List.length_append];omega))|decide)) ?_
 refine Tri.sub (Sub.toVec (l:=[.s (⟨#[104,109,97,99,45,115,104,97,50,45,50,53,54]⟩:ByteArray)]) 96 .str ([(⟨#[104,109,97,99,45,115,104,97,50,45,50,53,54]⟩:ByteArray)]) (by kernel_rfl) (by kernel_rfl)) <|Tri.sub (Xf 96 (.vec .str ([(⟨#[104,109,97,99,45,115,104,97,50,45,50,53,54]⟩:ByteArray)])) (show 0+1≤([(⟨#[104,109,97,99,45,115,104,97,50,45,50,53,54]⟩:ByteArray)]).length from by first|omega|(rw [co];omega)|exact cU _ _|exact cV _ _|exact aL (by omega) (by first|omega|(simp only [List.length_append];omega))|decide)) ?_
 refine Tri.sub (Sub.toVec (l:=[.s (⟨#[104,109,97,99,45,115,104,97,50,45,50,53,54]⟩:ByteArray)]) 112 .str ([(⟨#[104,109,97,99,45,115,104,97,50,45,50,53,54]⟩:ByteArray)]) (by kernel_rfl) (by kernel_rfl)) <|Tri.sub (Xf 112 (.vec .str ([(⟨#[104,109,97,99,45,115,104,97,50,45,50,53,54]⟩:ByteArray)])) (show 0+1≤([(⟨#[104,109,97,99,45,115,104,97,50,45,50,53,54]⟩:ByteArray)]).length from by first|omega|(rw [co];omega)|exact cU _ _|exact cV _ _|exact aL (by omega) (by first|omega|(simp only [List.length_append];omega))|decide)) ?_
 refine Tri.sub (Sub.toVec (l:=[.s (⟨#[110,111,110,101]⟩:ByteArray)]) 128 .str ([(⟨#[110,111,110,101]⟩:ByteArray)]) (by kernel_rfl) (by kernel_rfl)) <|Tri.sub (Xf 128 (.vec .str ([(⟨#[110,111,110,101]⟩:ByteArray)])) (show 0+1≤([(⟨#[110,111,110,101]⟩:ByteArray)]).length from by first|omega|(rw [co];omega)|exact cU _ _|exact cV _ _|exact aL (by omega) (by first|omega|(simp only [List.length_append];omega))|decide)) ?_
 refine Tri.sub (Sub.toVec (l:=[.s (⟨#[110,111,110,101]⟩:ByteArray)]) 144 .str ([(⟨#[110,111,110,101]⟩:ByteArray)]) (by kernel_rfl) (by kernel_rfl)) <|Tri.sub (Xf 144 (.vec .str ([(⟨#[110,111,110,101]⟩:ByteArray)])) (show 0+1≤([(⟨#[110,111,110,101]⟩:ByteArray)]).length from by first|omega|(rw [co];omega)|exact cU _ _|exact cV _ _|exact aL (by omega) (by first|omega|(simp only [List.length_append];omega))|decide)) ?_
 exact Tri.sub (Sub.toVec (l:=[.ros ([(⟨#[99,117,114,118,101,50,53,53,49,57,45,115,104,97,50,53,54]⟩:ByteArray)]),.ros ([(⟨#[115,115,104,45,101,100,50,53,53,49,57]⟩:ByteArray)]),.ros ([(⟨#[97,101,115,49,50,56,45,99,116,114]⟩:ByteArray)]),.ros ([(⟨#[97,101,115,49,50,56,45,99,116,114]⟩:ByteArray)]),.ros ([(⟨#[104,109,97,99,45,115,104,97,50,45,50,53,54]⟩:ByteArray)]),.ros ([(⟨#[104,109,97,99,45,115,104,97,50,45,50,53,54]⟩:ByteArray)]),.ros ([(⟨#[110,111,110,101]⟩:ByteArray)]),.ros ([(⟨#[110,111,110,101]⟩:ByteArray)])]) 16 .tab ([[(⟨#[99,117,114,118,101,50,53,53,49,57,45,115,104,97,50,53,54]⟩:ByteArray)],[(⟨#[115,115,104,45,101,100,50,53,53,49,57]⟩:ByteArray)],[(⟨#[97,101,115,49,50,56,45,99,116,114]⟩:ByteArray)],[(⟨#[97,101,115,49,50,56,45,99,116,114]⟩:ByteArray)],[(⟨#[104,109,97,99,45,115,104,97,50,45,50,53,54]⟩:ByteArray)],[(⟨#[104,109,97,99,45,115,104,97,50,45,50,53,54]⟩:ByteArray)],[(⟨#[110,111,110,101]⟩:ByteArray)],[(⟨#[110,111,110,101]⟩:ByteArray)]]) (by kernel_rfl) (by kernel_rfl)) <|Xz [] (pa (lo (8=([[(⟨#[99,117,114,118,101,50,53,53,49,57,45,115,104,97,50,53,54]⟩:ByteArray)],[(⟨#[115,115,104,45,101,100,50,53,53,49,57]⟩:ByteArray)],[(⟨#[97,101,115,49,50,56,45,99,116,114]⟩:ByteArray)],[(⟨#[97,101,115,49,50,56,45,99,116,114]⟩:ByteArray)],[(⟨#[104,109,97,99,45,115,104,97,50,45,50,53,54]⟩:ByteArray)],[(⟨#[104,109,97,99,45,115,104,97,50,45,50,53,54]⟩:ByteArray)],[(⟨#[110,111,110,101]⟩:ByteArray)],[(⟨#[110,111,110,101]⟩:ByteArray)]]).length)) pT)
theorem NU {k:Nat} (h:k<8):(0:Int)≤0∧(0:Int)<((gK.getD k []).length:Int):=(by decide:∀ k<8,(0:Int)≤0∧(0:Int)<((gK.getD k []).length:Int)) k h
theorem Re:gK.length=8:=by decide
def kc (p:List (List ByteArray)):Prop:=p.length=8∧∀ k,(p.getD k []).length≤1000000000
def LP (k0:Nat) (z0:Unit):Unit :=
 ()
def jx (p0:List ByteArray) (p1:ByteArray) (k0:Nat):Bool :=
 (sel (aR p1 (p0.getD k0 ⟨#[]⟩)) true false)
def Ab (p0:List ByteArray) (p1:ByteArray):Int :=
 (sel (Nat.blt (ar (jx p0 p1) p0.length) p0.length) (((ar (jx p0 p1) p0.length):Nat):Int) (-1))
def NH:List AV→List Blk→Option (Prop × Ret)
 |[.sc (.ros p0),.sc (.s p1)],[]=>some ((p0.length≤1000000000),⟨.sc (.i .i64 (Ab p0 p1)),[]⟩)
 |_,_=>none
theorem Pm:Known Tryz.prog gD 100 ⟨0,0,NH⟩:=by
 refine Xw Tryz.f100 19 Zn mixed <|fun E args ks C r h hC hlen=>?_
 simp only at h
 unfold NH at h
 split at h
 rotate_left
 cases h
 rename_i p0 p1
 cases h
 simp only [am] at hlen
 refine ⟨rfl,?_⟩
 refine Xs [] [] 32 (v1 pT) <|Tri.seq <|Xs [Ei 8 0,Ej 7 p0.length] [] 80 (v3 pT) <|Tri.block <|Xc p0.length (LP) (()) (fun k0 z0=>(∀ j,j<k0→(jx p0 p1) j=false)) (fun k0 z0=>[Ej 8 k0]) (fun k0 z0=>[]) (fun j hj=>absurd hj (Nat.not_lt_zero j)) <|fun k0 z0 hk0 hz0 hJ0=>Xs [Eb 9 (decide ((((k0:Nat):Int):Int)<((p0.length:Nat):Int)))] [] 96 (v1 pT) <|Tri.seq <|Xb (fun h1 h1'=>?_) (fun h1 h1'=>?_)
 refine Tri.skip <|Tri.seq <|Tri.block <|Xs [Ej 5 k0] [9] 128 (v2 pT) <|Xs [Eb 16 (aR p1 (p0.getD k0 ⟨#[]⟩))] [] 224 (v3 (pu (Yj k0 p0.length) (v2 pT))) <|Xa (fun h2=>?_) (fun h2=>?_)
 refine Xs [Ej 4 k0] [16,5,8,7,0,1] 256 (v2 pT) <|?_
 subst hz0
 have hf0:ar (jx p0 p1) p0.length=k0:=eA (by omega) hJ0 (by simp only [jx,h1,h2,aB,aA])
 have hb0:Nat.blt k0 p0.length=true:=eP (by omega)
 have hq0:Nat.blt (ar (jx p0 p1) p0.length) p0.length=true:=by rw [hf0];exact hb0
 exact Xy [] pz (by simp only [Ab,hq0,hf0,hb0,aB,aA] <;> rfl)
 exact Tri.skip <|Wu [Ej 18 (k0+1)] none [Ej 8 (k0+1)] [16,5,8] [] [] 256 (pv pT (Yp k0 1) (v1 pT)) <|Xo [] (fq hJ0 (by subst hz0;simp only [jx,h1,h2,aB,aA]))
 refine Tri.exit <|?_
 obtain rfl:k0=p0.length:=(by omega);subst hz0
 have hf0:ar (jx p0 p1) p0.length=p0.length:=fG hJ0
 have hb0:Nat.blt p0.length p0.length=false:=fg _
 have hq0:Nat.blt (ar (jx p0 p1) p0.length) p0.length=false:=by rw [hf0];exact hb0
 exact Xs [Ei 4 (-1)] [9,8,7,0,1] 112 (v1 pT) <|Xy [] pz (by simp only [Ab,hq0,hf0,hb0,aB,aA] <;> rfl)
def BI (p0:List ByteArray) (p1:ByteArray):Bool :=
 (decide (((Ab p0 p1):Int) ≥ 0))
def Js:List AV→List Blk→Option (Prop × Ret)
 |[.sc (.ros p0),.sc (.s p1)],[]=>some ((p0.length≤1000000000),⟨.sc (.b (BI p0 p1)),[]⟩)
 |_,_=>none
theorem PO:Known Tryz.prog gD 68 ⟨0,0,Js⟩:=by
 refine Xw Tryz.f68 9 (Zc Pm 64 [.ros,.val] [] [] <|Zn) mixed <|fun E args ks C r h hC hlen=>?_
 simp only at h
 unfold Js at h
 split at h
 rotate_left
 cases h
 rename_i p0 p1
 cases h
 simp only [am] at hlen
 refine ⟨rfl,?_⟩
 exact Xs [] [] 32 (v1 pT) <|Xs [Eb 4 (decide (((Ab p0 p1):Int) ≥ 0))] [0,1] 112 (v2 (pu (pa pT (Ye p0.length 1000000000)) (v2 pT))) <|Xz [] pz
def Gq (p0:ByteArray) (p1:List (List ByteArray)) (p2:Int):Bool :=
 (BI (p1.getD ((p2).toNat) []) p0)
def ND:List AV→List Blk→Option (Prop × Ret)
 |[.sc (.s p0),.sc (.p 0 0),.sc (.p 1 0)],[.vec .tab p1,.ints .i64 1 [p2]]=>some ((((0:Int)≤p2∧p2<8)∧kc p1),⟨.sc (.b (Gq p0 p1 p2)),[some (.vec .tab p1),some (.ints .i64 1 [p2])]⟩)
 |_,_=>none
theorem Qs:Known Tryz.prog gD 67 ⟨2,0,ND⟩:=by
 refine Xw Tryz.f67 10 (Zc PO 96 [.ros,.val] [] [] <|Zn) mixed <|fun E args ks C r h hC hlen=>?_
 simp only at h
 unfold ND at h
 split at h
 rotate_left
 cases h
 rename_i p0 p1 p2
 cases h
 simp only [am] at hlen
 have hr:=hC.2.1
 have hs:=hC.2.2 p2.toNat
 refine ⟨rfl,?_⟩
 exact Xs [] [] 32 (v1 pT) <|Xs [Eb 4 (BI (p1.getD ((p2).toNat) []) p0)] [0,1,2] 128 (pu (Yl 0 1) (pu (Yi p2 8) (pu (Yl ((p2).toNat) p1.length) (v1 (pu (pa pT (Ye ((p1.getD ((p2).toNat) []).length) 1000000000)) (v1 pT)))))) <|Xz [(0,0),(1,1)] pz
def GP (k0:Nat) (z0:Unit):Unit :=
 ()
def iI (p0:List ByteArray) (p1:List (List ByteArray)) (p2:Int) (k0:Nat):Bool :=
 (sel (Gq (p0.getD k0 ⟨#[]⟩) p1 p2) true false)
def jB (p0:List ByteArray) (p1:List (List ByteArray)) (p2:Int):Int :=
 (sel (Nat.blt (ar (iI p0 p1 p2) p0.length) p0.length) (((ar (iI p0 p1 p2) p0.length):Nat):Int) (-1))
def JK:List AV→List Blk→Option (Prop × Ret)
 |[.sc (.ros p0),.sc (.clo 67 0 1)],[.vec .tab p1,.ints .i64 1 [p2]]=>some (((((0:Int)≤p2∧p2<8)∧kc p1)∧p0.length≤1000000000),⟨.sc (.i .i64 (jB p0 p1 p2)),[some (.vec .tab p1),some (.ints .i64 1 [p2])]⟩)
 |_,_=>none
theorem Nv:Known Tryz.prog gD 66 ⟨2,0,JK⟩:=by
 refine Xw Tryz.f66 19 (Zc Qs 208 [.val,.io,.io] [] [0,1] <|Zn) mixed <|fun E args ks C r h hC hlen=>?_
 simp only at h
 unfold JK at h
 split at h
 rotate_left
 cases h
 rename_i p0 p1 p2
 cases h
 simp only [am] at hlen
 have hr:=hC.1.2.1
 have hs:=hC.2
 refine ⟨rfl,?_⟩
 refine Xs [] [] 32 (v1 pT) <|Tri.seq <|Xs [Ei 8 0,Ej 7 p0.length] [] 80 (v3 pT) <|Tri.block <|Xc p0.length (GP) (()) (fun k0 z0=>(∀ j,j<k0→(iI p0 p1 p2) j=false)) (fun k0 z0=>[Ej 8 k0]) (fun k0 z0=>[]) (fun j hj=>absurd hj (Nat.not_lt_zero j)) <|fun k0 z0 hk0 hz0 hJ0=>Xs [Eb 9 (decide ((((k0:Nat):Int):Int)<((p0.length:Nat):Int)))] [] 96 (v1 pT) <|Tri.seq <|Xb (fun h1 h1'=>?_) (fun h1 h1'=>?_)
 refine Tri.skip <|Tri.seq <|Tri.block <|Xs [Ej 5 k0] [9] 128 (v2 pT) <|Xt [Eb 16 (Gq (p0.getD k0 ⟨#[]⟩) p1 p2)] [] [Mk 1 .i64 1 [p2]] [1] 224 (v3 (pu (Yj k0 p0.length) (v1 (pu (pa pT (pl (show ((0:Int)≤p2∧p2<8)∧kc p1 from by exact hC.1))) pT)))) ?_
 refine Xa (fun h2=>?_) (fun h2=>?_)
 refine Xs [Ej 4 k0] [16,5,8,7,0,1] 256 (v2 pT) <|?_
 subst hz0
 have hf0:ar (iI p0 p1 p2) p0.length=k0:=eA (by omega) hJ0 (by simp only [iI,h1,h2,aB,aA])
 have hb0:Nat.blt k0 p0.length=true:=eP (by omega)
 have hq0:Nat.blt (ar (iI p0 p1 p2) p0.length) p0.length=true:=by rw [hf0];exact hb0
 exact Xy [(0,0),(1,1)] pz (by simp only [jB,hq0,hf0,hb0,aB,aA] <;> rfl)
 exact Tri.skip <|Wu [Ej 18 (k0+1)] none [Ej 8 (k0+1)] [16,5,8] [] [] 256 (pv pT (Yp k0 1) (v1 pT)) <|Xo [] (fq hJ0 (by subst hz0;simp only [iI,h1,h2,aB,aA]))
 refine Tri.exit <|?_
 obtain rfl:k0=p0.length:=(by omega);subst hz0
 have hf0:ar (iI p0 p1 p2) p0.length=p0.length:=fG hJ0
 have hb0:Nat.blt p0.length p0.length=false:=fg _
 have hq0:Nat.blt (ar (iI p0 p1 p2) p0.length) p0.length=false:=by rw [hf0];exact hb0
 exact Xs [Ei 4 (-1)] [9,8,7,0,1] 112 (v1 pT) <|Xy [(0,0),(1,1)] pz (by simp only [jB,hq0,hf0,hb0,aB,aA] <;> rfl)
theorem Km {p0:List ByteArray} {p1:List (List ByteArray)} {p2:Int} (h:0≤jB p0 p1 p2):0≤jB p0 p1 p2∧jB p0 p1 p2<p0.length:=by
 refine ⟨h,?_⟩
 unfold jB at h ⊢
 cases hb:Nat.blt (ar (iI p0 p1 p2) p0.length) p0.length
 ·rw [hb,aA] at h;exact absurd h (by decide)
 ·rw [aB]
  rw [Nat.blt_eq] at hb
  omega
def GB (k0:Nat) (z0:Unit):Unit :=
 ()
def fe (p0:List (List ByteArray)) (p1:List (List ByteArray)) (k0:Nat):Bool :=
 (sel (decide (((jB (p0.getD k0 []) p1 ((k0:Nat):Int)):Int)<0)) true (sel (!(aR ((p0.getD ((((k0:Nat):Int)).toNat) []).getD (((jB (p0.getD k0 []) p1 ((k0:Nat):Int))).toNat) ⟨#[]⟩) (((gK).getD ((((k0:Nat):Int)).toNat) []).getD 0 ⟨#[]⟩))) true false))
def oH (p0:List (List ByteArray)) (p1:List (List ByteArray)):Int :=
 (sel (Nat.blt (ar (fe p0 p1) 8) 8) 7 0)
def DJ:List AV→List Blk→Option (Prop × Ret)
 |[.arr .tab p0,.arr .tab p1],[]=>some ((kc p0∧kc p1),⟨.sc (.i .i64 (oH p0 p1)),[]⟩)
 |_,_=>none
theorem KA:Known Tryz.prog gD 23 ⟨0,0,DJ⟩:=by
 refine Xw Tryz.f23 34 (Zv JV 64 0 <|Zc Nv 256 [.ros,.io] [] [32,160] <|Zn) mixed <|fun E args ks C r h hC hlen=>?_
 simp only at h
 unfold DJ at h
 split at h
 rotate_left
 cases h
 rename_i p0 p1
 cases h
 simp only [am] at hlen
 have hr:=hC.1.1
 have hr2:=hC.2.1
 have hr3:=Re
 refine ⟨rfl,?_⟩
 refine Xt [Ep 3 32,Ep 2 16] [0,1] [(32,.vec .tab p1),(16,.vec .tab p0)] [] 64 (v3 pT) <|Xt [Ep 5 80] [] [(80,.vec .tab (gK))] [] 112 (pu pz (v1 (pu (pa (lo ((gK).length=8)) (Yr 8)) pT))) <|Tri.seq <|Xs [Ei 9 0] [] 128 (v1 pT) <|Tri.block <|Xc 8 (GB) (()) (fun k0 z0=>(∀ j,j<k0→(fe p0 p1) j=false)) (fun k0 z0=>[Ej 9 k0]) (fun k0 z0=>[]) (fun j hj=>absurd hj (Nat.not_lt_zero j)) <|fun k0 z0 hk0 hz0 hJ0=>?_
 have hs:=hC.1.2 k0
 refine Xs [Eb 10 (decide ((((k0:Nat):Int):Int)<8))] [] 144 (v1 pT) <|Tri.seq <|Xb (fun h1 h1'=>?_) (fun h1 h1'=>?_)
 refine Tri.skip <|Tri.seq <|Tri.block <|Xt [Ep 6 160] [10] [Mk 160 .i64 1 [((k0:Nat):Int)]] [] 192 (v2 (pu (Ys 0 1) pT)) <|Xt [Ei 7 (jB (p0.getD k0 []) p1 ((k0:Nat):Int))] [] [Mk 160 .i64 1 [((k0:Nat):Int)],(32,.vec .tab p1)] [160,32] 288 (pu (Yl 0 1) (pu (Yj k0 8) (pu (Yl k0 p0.length) (v1 (pu (pa pT (pl (show (((0:Int)≤((k0:Nat):Int)∧((k0:Nat):Int)<8)∧kc p1)∧(p0.getD k0 []).length≤1000000000 from by exact ⟨⟨by omega,hC.2⟩,hs⟩))) (v1 pT)))))) ?_
 refine Tri.split (decide (((jB (p0.getD k0 []) p1 ((k0:Nat):Int)):Int)<0)) (fun h2=>?_) (fun h2=>?_)
 have h2':=of_decide_eq_true h2
 refine Xu [Eb 19 true] (some [0,1,3,7,15,31,7,127,255,7,519,1543,3591,7687,16383,32767]) [Eb 32 true] [7,6] [] [160] 544 (v2 (pg h2 (v4 (v9 pT)))) <|Tri.cond_true (by kernel_rfl) <|Xt [Ei 4 7] [32,9,5,3,2] [] [32,80,16] 560 (v1 pT) <|?_
 subst hz0
 have hf0:ar (fe p0 p1) 8=k0:=eA (by omega) hJ0 (by simp only [fe,h1,h2,aB,aA])
 have hb0:Nat.blt k0 8=true:=eP (by omega)
 have hq0:Nat.blt (ar (fe p0 p1) 8) 8=true:=by rw [hf0];exact hb0
 exact Xy [] pz (by simp only [oH,hq0,hf0,hb0,aB,aA] <;> rfl)
 have h2':=of_decide_eq_false h2
 refine Xu [Eb 19 false] (some [0,1,3,7,15,31,7,127,255,7,519,1543,3591,7687,16383,32767]) [Eb 32 (!(aR ((p0.getD ((((k0:Nat):Int)).toNat) []).getD (((jB (p0.getD k0 []) p1 ((k0:Nat):Int))).toNat) ⟨#[]⟩) (((gK).getD ((((k0:Nat):Int)).toNat) []).getD 0 ⟨#[]⟩)))] [7,6] [] [160] 544 (v2 (pg h2 (pu (Yl 0 1) (pu (Yj k0 8) (pu (lo ((((k0:Nat):Int)).toNat<p0.length)) (v1 (pu (pl (show (0:Int)≤(jB (p0.getD k0 []) p1 ((k0:Nat):Int))∧(jB (p0.getD k0 []) p1 ((k0:Nat):Int))<((p0.getD ((((k0:Nat):Int)).toNat) []).length:Int) from Km (by omega))) (v1 (pu (Yl 0 1) (pu (Yj k0 8) (pu (lo ((((k0:Nat):Int)).toNat<(gK).length)) (pu (pl (show (0:Int)≤0∧0<(((gK).getD ((((k0:Nat):Int)).toNat) []).length:Int) from NU (by omega))) (v3 pT))))))))))))) <|Xa (fun h3=>?_) (fun h3=>?_)
 refine Xt [Ei 4 7] [32,9,5,3,2] [] [32,80,16] 560 (v1 pT) <|?_
 subst hz0
 have hf0:ar (fe p0 p1) 8=k0:=eA (by omega) hJ0 (by simp only [fe,h1,h2,h3,aB,aA])
 have hb0:Nat.blt k0 8=true:=eP (by omega)
 have hq0:Nat.blt (ar (fe p0 p1) 8) 8=true:=by rw [hf0];exact hb0
 exact Xy [] pz (by simp only [oH,hq0,hf0,hb0,aB,aA] <;> rfl)
 exact Tri.skip <|Wu [Ej 33 (k0+1)] none [Ej 9 (k0+1)] [32,9] [] [] 576 (pv pT (Yp k0 1) (v1 pT)) <|Xo [] (fq hJ0 (by subst hz0;simp only [fe,h1,h2,h3,aB,aA]))
 refine Tri.exit <|?_
 obtain rfl:k0=8:=(by omega);subst hz0
 have hf0:ar (fe p0 p1) 8=8:=fG hJ0
 have hb0:Nat.blt 8 8=false:=fg _
 have hq0:Nat.blt (ar (fe p0 p1) 8) 8=false:=by rw [hf0];exact hb0
 exact Xt [Ei 4 0] [10,9,5,3,2] [] [80,32,16] 160 (v1 pT) <|Xy [] pz (by simp only [oH,hq0,hf0,hb0,aB,aA] <;> rfl)
def bS (p0:Nat) (p2:List Int):List Int :=
 aC p2 p0 0 p0
def DP:List AV→List Blk→Option (Prop × Ret)
 |[.sc (.sl 0 0 p0 1 none)],[.ints .u8 p1 p2]=>some (((p0=p1)∧True),⟨.sc (.p 1 0),[none,some (.cells [.ro .u8 (bS p0 p2),.b false])]⟩)
 |_,_=>none
theorem zE:Known Tryz.prog gD 34 ⟨1,1,DP⟩:=by
 refine Xw Tryz.f34 6 Zn mixed <|fun E args ks C r h hC hlen=>?_
 simp only at h
 unfold DP at h
 split at h
 rotate_left
 cases h
 rename_i p0 p1 p2
 cases h
 simp only [am] at hlen
 obtain ⟨hEp1,hC⟩:=hC
 subst hEp1
 refine ⟨rfl,?_⟩
 refine Tri.sub (Xf 0 (.ints .u8 p0 p2) (show 0+p0≤p0 from by first|omega|(rw [co];omega)|exact cU _ _|exact cV _ _|exact aL (by omega) (by first|omega|(simp only [List.length_append];omega))|decide)) ?_
 exact Xs [] [] 32 (v1 pT) <|Xt [Ep 2 64] [0] [Mc 64 [.ro .u8 (aC p2 p0 0 p0),.b false]] [] 96 (v1 (pu (pa (Ys 0 2) pT) (v2 pT))) <|Xz [(64,1)] pz
def vS (p0:ByteArray) (p1:ByteArray):Bool :=
 (sel (decide ((((p0.size:Nat):Int):Int) ≥ ((p1.size:Nat):Int))) (aR (p0.extract 0 p1.size) p1) false)
def Gn:List AV→List Blk→Option (Prop × Ret)
 |[.sc (.s p0),.sc (.s p1)],[]=>some (True,⟨.sc (.b (vS p0 p1)),[]⟩)
 |_,_=>none
theorem Nt:Known Tryz.prog gD 101 ⟨0,0,Gn⟩:=by
 refine Xw Tryz.f101 18 Zn mixed <|fun E args ks C r h hC hlen=>?_
 simp only at h
 unfold Gn at h
 split at h
 rotate_left
 cases h
 rename_i p0 p1
 cases h
 simp only [am] at hlen
 refine ⟨rfl,?_⟩
 refine Xs [] [] 32 (v1 pT) <|Tri.split (decide ((((p0.size:Nat):Int):Int) ≥ ((p1.size:Nat):Int))) (fun h1=>?_) (fun h1=>?_)
 have h1':=of_decide_eq_true h1
 exact Xu [Eb 10 true] none [Eb 4 (aR (p0.extract 0 p1.size) p1)] [0,1] [] [] 256 (v5 (pg h1 (v3 (pu (lo ((0:Int)≤0∧(0:Int)≤((p1.size:Nat):Int)∧((p1.size:Nat):Int)≤(p0.size:Int))) (v4 pT))))) <|Xy [] pz (by simp only [vS,h1,aB,aA] <;> rfl)
 have h1':=of_decide_eq_false h1
 exact Xu [Eb 10 false] none [Eb 4 false] [0,1] [] [] 256 (v5 (pg h1 (v8 pT))) <|Xy [] pz (by simp only [vS,h1,aB,aA] <;> rfl)
def HN (p0:ByteArray) (p1:ByteArray):Bool :=
 (vS p0 p1)
def Mb:List AV→List Blk→Option (Prop × Ret)
 |[.sc (.s p0),.sc (.s p1)],[]=>some (True,⟨.sc (.b (HN p0 p1)),[]⟩)
 |_,_=>none
theorem Rf:Known Tryz.prog gD 69 ⟨0,0,Mb⟩:=by
 refine Xw Tryz.f69 8 (Zv Nt 64 2 <|Zn) mixed <|fun E args ks C r h hC hlen=>?_
 simp only at h
 unfold Mb at h
 split at h
 rotate_left
 cases h
 rename_i p0 p1
 cases h
 simp only [am] at hlen
 refine ⟨rfl,?_⟩
 exact Xs [] [] 32 (v1 pT) <|Xs [Eb 4 (vS p0 p1)] [0,1] 96 (v2 (pu pz (v1 pT))) <|Xz [] pz
def Gs (k0:Nat) (z0:Unit):Unit :=
 ()
def gf (p0:ByteArray) (k0:Nat):Bool :=
 (sel (decide (((aD p0).getD k0 0:Int)<32)) true (sel (decide (((aD p0).getD k0 0:Int)>126)) true false))
def nM (p0:ByteArray):ByteArray :=
 (sel (!(HN p0 (⟨#[83,83,72,45,50,46,48,45]⟩:ByteArray))) (⟨#[]⟩:ByteArray) (sel (decide ((((p0.size:Nat):Int):Int)>100)) (⟨#[]⟩:ByteArray) (sel (Nat.blt (ar (gf p0) p0.size) p0.size) (⟨#[]⟩:ByteArray) p0)))
def Je:List AV→List Blk→Option (Prop × Ret)
 |[.sc (.s p0)],[]=>some (True,⟨.sc (.s (nM p0)),[]⟩)
 |_,_=>none
theorem OE:Known Tryz.prog gD 24 ⟨0,0,Je⟩:=by
 refine Xw Tryz.f24 28 (Zv Rf 48 2 <|Zn) mixed <|fun E args ks C r h hC hlen=>?_
 simp only at h
 unfold Je at h
 split at h
 rotate_left
 cases h
 rename_i p0
 cases h
 simp only [am] at hlen
 refine ⟨rfl,?_⟩
 refine Xs [] [] 32 (v1 pT) <|Tri.seq <|Tri.split (!(HN p0 (⟨#[83,83,72,45,50,46,48,45]⟩:ByteArray))) (fun h1=>?_) (fun h1=>?_)
 exact Xu [Eb 8 true] none [Eb 12 true] [] [] [] 160 (v1 (pu pz (v1 (pg h1 (v4 pT))))) <|Tri.cond_true (by kernel_rfl) <|Xs [Es 2 (⟨#[]⟩:ByteArray)] [12,0] 176 (v1 pT) <|Xy [] pz (by simp only [nM,h1,aB,aA] <;> rfl)
 refine Xu [Eb 8 false] none [Eb 12 (decide ((((p0.size:Nat):Int):Int)>100))] [] [] [] 160 (v1 (pu pz (v1 (pg h1 (v4 pT))))) <|Xb (fun h2 h2'=>?_) (fun h2 h2'=>?_)
 exact Xs [Es 2 (⟨#[]⟩:ByteArray)] [12,0] 176 (v1 pT) <|Xy [] pz (by simp only [nM,h1,h2,aB,aA] <;> rfl)
 refine Tri.skip <|Tri.seq <|Xt [Ei 16 0,Ej 15 p0.size,El 14 176 p0.size] [12] [Mi 176 p0.size (aD p0)] [] 224 (v4 pT) <|Tri.block <|Xc p0.size (Gs) (()) (fun k0 z0=>(∀ j,j<k0→(gf p0) j=false)) (fun k0 z0=>[Ej 16 k0]) (fun k0 z0=>[]) (fun j hj=>absurd hj (Nat.not_lt_zero j)) <|fun k0 z0 hk0 hz0 hJ0=>Xs [Eb 17 (decide ((((k0:Nat):Int):Int)<((p0.size:Nat):Int)))] [] 240 (v1 pT) <|Tri.seq <|Xb (fun h3 h3'=>?_) (fun h3 h3'=>?_)
 refine Tri.skip <|Tri.seq <|Tri.block <|Xs [Ek 4 .u8 ((aD p0).getD k0 0)] [17] 288 (pu (Yj k0 p0.size) (pu (Yl k0 p0.size) (v1 pT))) <|Tri.split (decide (((aD p0).getD k0 0:Int)<32)) (fun h4=>?_) (fun h4=>?_)
 have h4':=of_decide_eq_true h4
 refine Xu [Eb 22 true] none [Eb 25 true] [4] [] [] 384 (v2 (pg h4 (v3 pT))) <|Tri.cond_true (by kernel_rfl) <|Xt [Es 2 (⟨#[]⟩:ByteArray)] [25,16,15,14,0] [] [176] 400 (v1 pT) <|?_
 subst hz0
 have hf0:ar (gf p0) p0.size=k0:=eA (by omega) hJ0 (by simp only [gf,h1,h2,h3,h4,aB,aA])
 have hb0:Nat.blt k0 p0.size=true:=eP (by omega)
 have hq0:Nat.blt (ar (gf p0) p0.size) p0.size=true:=by rw [hf0];exact hb0
 exact Xy [] pz (by simp only [nM,h1,h2,hq0,hf0,hb0,aB,aA] <;> rfl)
 have h4':=of_decide_eq_false h4
 refine Xu [Eb 22 false] none [Eb 25 (decide (((aD p0).getD k0 0:Int)>126))] [4] [] [] 384 (v2 (pg h4 (v3 pT))) <|Xb (fun h5 h5'=>?_) (fun h5 h5'=>?_)
 refine Xt [Es 2 (⟨#[]⟩:ByteArray)] [25,16,15,14,0] [] [176] 400 (v1 pT) <|?_
 subst hz0
 have hf0:ar (gf p0) p0.size=k0:=eA (by omega) hJ0 (by simp only [gf,h1,h2,h3,h4,h5,aB,aA])
 have hb0:Nat.blt k0 p0.size=true:=eP (by omega)
 have hq0:Nat.blt (ar (gf p0) p0.size) p0.size=true:=by rw [hf0];exact hb0
 exact Xy [] pz (by simp only [nM,h1,h2,hq0,hf0,hb0,aB,aA] <;> rfl)
 exact Tri.skip <|Wu [Ej 26 (k0+1)] none [Ej 16 (k0+1)] [25,16] [] [] 416 (pv pT (Yp k0 1) (v1 pT)) <|Xo [] (fq hJ0 (by subst hz0;simp only [gf,h1,h2,h3,h4,h5,aB,aA]))
 refine Tri.exit <|?_
 obtain rfl:k0=p0.size:=(by omega);subst hz0
 have hf0:ar (gf p0) p0.size=p0.size:=fG hJ0
 have hb0:Nat.blt p0.size p0.size=false:=fg _
 have hq0:Nat.blt (ar (gf p0) p0.size) p0.size=false:=by rw [hf0];exact hb0
 exact Xt [Es 2 p0] [17,16,15,14,0] [] [176] 272 (v2 pT) <|Xy [] pz (by simp only [nM,h1,h2,hq0,hf0,hb0,aB,aA] <;> rfl)
def uX:List Int :=
 (nh (⟨#[115,115,104,45,101,100,50,53,53,49,57]⟩:ByteArray))
def pe (p0:ByteArray):List Int :=
 (ga (4+(⟨#[115,115,104,45,101,100,50,53,53,49,57]⟩:ByteArray).size) (uX) p0)
def rf (p0:ByteArray):ByteArray :=
 (bytesOf (((pe p0).drop 0).take (((4+(⟨#[115,115,104,45,101,100,50,53,53,49,57]⟩:ByteArray).size)+4)+p0.size)))
def II:List AV→List Blk→Option (Prop × Ret)
 |[.sc (.s p0)],[]=>some ((p0.size≤1000000000),⟨.sc (.s (rf p0)),[]⟩)
 |_,_=>none
theorem Nh:Known Tryz.prog gD 26 ⟨0,0,II⟩:=by
 refine Xw Tryz.f26 7 (Zv zw 32 2 <|Zc jw 64 [.io,.val] [] [32] <|Zn) mixed <|fun E args ks C r h hC hlen=>?_
 simp only at h
 unfold II at h
 split at h
 rotate_left
 cases h
 rename_i p0
 cases h
 simp only [am] at hlen
 have sz:(⟨#[115,115,104,45,101,100,50,53,53,49,57]⟩:ByteArray).size=11:=rfl
 refine ⟨rfl,?_⟩
 exact Xs [] [] 32 (v1 pT) <|Xs [Es 2 (bytesOf (((pe p0).drop 0).take (((4+(⟨#[115,115,104,45,101,100,50,53,53,49,57]⟩:ByteArray).size)+4)+p0.size)))] [0] 112 (pu (pa pT (Ye ((⟨#[115,115,104,45,101,100,50,53,53,49,57]⟩:ByteArray).size) 1000000000)) (v1 (pu (pa pT (pa (Yr (4+(⟨#[115,115,104,45,101,100,50,53,53,49,57]⟩:ByteArray).size)) (lo ((4+(⟨#[115,115,104,45,101,100,50,53,53,49,57]⟩:ByteArray).size)≤1000000000∧p0.size≤1000000000)))) (pu (Yw (((4+(⟨#[115,115,104,45,101,100,50,53,53,49,57]⟩:ByteArray).size)+4)+p0.size)) (v1 pT))))) <|Xz [] pz
def rv:List Int :=
 (bG (⟨#[115,115,104,45,101,100,50,53,53,49,57]⟩:ByteArray))
def il (p0:ByteArray):ByteArray :=
 (bytesOf ((((rv)++(aC (bG p0) (4+p0.size) 0 (4+p0.size))).drop 0).take ((4+(⟨#[115,115,104,45,101,100,50,53,53,49,57]⟩:ByteArray).size)+(4+p0.size))))
def DE:List AV→List Blk→Option (Prop × Ret)
 |[.sc (.s p0)],[]=>some ((p0.size≤1000000000),⟨.sc (.s (il p0)),[]⟩)
 |_,_=>none
theorem Lr:Known Tryz.prog gD 33 ⟨0,0,DE⟩:=by
 refine Xw Tryz.f33 8 (Zv kA 32 1 <|Zv kA 64 1 <|Zn) mixed <|fun E args ks C r h hC hlen=>?_
 simp only at h
 unfold DE at h
 split at h
 rotate_left
 cases h
 rename_i p0
 cases h
 simp only [am] at hlen
 have sz:(⟨#[115,115,104,45,101,100,50,53,53,49,57]⟩:ByteArray).size=11:=rfl
 refine ⟨rfl,?_⟩
 exact Xs [] [] 32 (v1 pT) <|Xs [Es 2 (bytesOf ((((rv)++(aC (bG p0) (4+p0.size) 0 (4+p0.size))).drop 0).take ((4+(⟨#[115,115,104,45,101,100,50,53,53,49,57]⟩:ByteArray).size)+(4+p0.size))))] [0] 128 (pu (pa pT (Ye ((⟨#[115,115,104,45,101,100,50,53,53,49,57]⟩:ByteArray).size) 1000000000)) (v1 (pu (pa pT (Ye p0.size 1000000000)) (pu (Ya (Yw (4+p0.size)) 1 ((4+(⟨#[115,115,104,45,101,100,50,53,53,49,57]⟩:ByteArray).size)+(4+p0.size)) (4+p0.size) (4+p0.size) (4+(⟨#[115,115,104,45,101,100,50,53,53,49,57]⟩:ByteArray).size) (4+(⟨#[115,115,104,45,101,100,50,53,53,49,57]⟩:ByteArray).size)) (pu (Yw ((4+(⟨#[115,115,104,45,101,100,50,53,53,49,57]⟩:ByteArray).size)+(4+p0.size))) (v1 pT)))))) <|Xz [] pz
def Cs:List Int :=
 (nh (⟨#[115,115,104,45,101,100,50,53,53,49,57]⟩:ByteArray))
def yL (p0:List Int):List Int :=
 (ga (4+(⟨#[115,115,104,45,101,100,50,53,53,49,57]⟩:ByteArray).size) (Cs) (bytesOf p0))
def eV (p0:List Int):ByteArray :=
 (bytesOf (((yL p0).drop 0).take (((4+(⟨#[115,115,104,45,101,100,50,53,53,49,57]⟩:ByteArray).size)+4)+(bytesOf p0).size)))
def NB:List AV→List Blk→Option (Prop × Ret)
 |[.sc (.ro .u8 p0)],[]=>some ((p0.length≤1000000000),⟨.sc (.s (eV p0)),[]⟩)
 |_,_=>none
theorem Pe:Known Tryz.prog gD 29 ⟨0,0,NB⟩:=by
 refine Xw Tryz.f29 8 (Zv zw 32 2 <|Zc jw 80 [.io,.val] [] [32] <|Zn) mixed <|fun E args ks C r h hC hlen=>?_
 simp only at h
 unfold NB at h
 split at h
 rotate_left
 cases h
 rename_i p0
 cases h
 simp only [am] at hlen
 have sz:(⟨#[115,115,104,45,101,100,50,53,53,49,57]⟩:ByteArray).size=11:=rfl
 refine ⟨rfl,?_⟩
 refine Xs [] [] 32 (v1 pT) <|Xu [] (some [0,0,2,7,15,31]) [Es 2 (bytesOf (((yL p0).drop 0).take (((4+(⟨#[115,115,104,45,101,100,50,53,53,49,57]⟩:ByteArray).size)+4)+(bytesOf p0).size)))] [0] [] [] 128 (pu (pa pT (Ye ((⟨#[115,115,104,45,101,100,50,53,53,49,57]⟩:ByteArray).size) 1000000000)) (v2 (pu (pa pT (pa (Yr (4+(⟨#[115,115,104,45,101,100,50,53,53,49,57]⟩:ByteArray).size)) (pl (show (4+(⟨#[115,115,104,45,101,100,50,53,53,49,57]⟩:ByteArray).size)≤1000000000∧(bytesOf p0).size≤1000000000 from by (rw [ae];omega))))) (pu (Yw (((4+(⟨#[115,115,104,45,101,100,50,53,53,49,57]⟩:ByteArray).size)+4)+(bytesOf p0).size)) (v1 pT))))) ?_
 exact Xz [] pz
def gq (p0:ByteArray):ByteArray :=
 (aV (bJ (bS p0.size (aD p0)) false) (bI (bS p0.size (aD p0)) false))
def ju (p0:ByteArray):List Int :=
 (bJ (bJ (bS p0.size (aD p0)) false) (bI (bS p0.size (aD p0)) false))
def jt (p0:ByteArray):Bool :=
 (bI (bJ (bS p0.size (aD p0)) false) (bI (bS p0.size (aD p0)) false))
def cy (p0:ByteArray):ByteArray :=
 (sel (!(gw (ju p0) (jt p0))) (⟨#[]⟩:ByteArray) (sel (!(aR (aV (bS p0.size (aD p0)) false) (⟨#[115,115,104,45,101,100,50,53,53,49,57]⟩:ByteArray))) (⟨#[]⟩:ByteArray) (sel (((((gq p0).size:Nat):Int):Int) != 32) (⟨#[]⟩:ByteArray) (gq p0))))
def uk:List AV→List Blk→Option (Prop × Ret)
 |[.sc (.s p0)],[]=>some ((p0.size≤1000000000),⟨.sc (.s (cy p0)),[]⟩)
 |_,_=>none
theorem oo:Known Tryz.prog gD 25 ⟨0,0,uk⟩:=by
 refine Xw Tryz.f25 26 (Zc zE 64 [.io] [] [48] <|Zc ij 112 [.io] [] [64] <|Zc ij 144 [.io] [] [64] <|Zc tf 208 [.io] [] [64] <|Zn) mixed <|fun E args ks C r h hC hlen=>?_
 simp only at h
 unfold uk at h
 split at h
 rotate_left
 cases h
 rename_i p0
 cases h
 simp only [am] at hlen
 refine ⟨rfl,?_⟩
 refine Xs [] [] 32 (v1 pT) <|Xt [Ep 3 64] [0] [Mc 64 [.ro .u8 (bS p0.size (aD p0)),.b false]] [] 96 (v2 (pu (pa pT (pa (Yr p0.size) pT)) (v1 pT))) <|Xt [Es 5 (gq p0),Es 4 (aV (bS p0.size (aD p0)) false)] [] [Mc 64 [.ro .u8 (ju p0),.b (jt p0)]] [64] 192 (v1 (pu pz (v1 (pu pz (v2 pT))))) <|Tri.seq <|Tri.split (!(gw (ju p0) (jt p0))) (fun h1=>?_) (fun h1=>?_)
 exact Xu [Eb 16 true] none [Eb 24 true] [4,3] [] [64] 384 (v1 (pu pz (v1 (pg h1 (v8 pT))))) <|Tri.cond_true (by kernel_rfl) <|Xs [Es 2 (⟨#[]⟩:ByteArray)] [24,5] 400 (v1 pT) <|Xy [] pz (by simp only [cy,h1,aB,aA] <;> rfl)
 refine Tri.split (!(aR (aV (bS p0.size (aD p0)) false) (⟨#[115,115,104,45,101,100,50,53,53,49,57]⟩:ByteArray))) (fun h2=>?_) (fun h2=>?_)
 exact Xu [Eb 16 false,Eb 20 true] none [Eb 24 true] [4,3] [] [64] 384 (v1 (pu pz (v1 (pg h1 (v3 (pg h2 (v4 pT))))))) <|Tri.cond_true (by kernel_rfl) <|Xs [Es 2 (⟨#[]⟩:ByteArray)] [24,5] 400 (v1 pT) <|Xy [] pz (by simp only [cy,h1,h2,aB,aA] <;> rfl)
 refine Xu [Eb 16 false,Eb 20 false] none [Eb 24 (((((gq p0).size:Nat):Int):Int) != 32)] [4,3] [] [64] 384 (v1 (pu pz (v1 (pg h1 (v3 (pg h2 (v4 pT))))))) <|Xa (fun h3=>?_) (fun h3=>?_)
 have h3':=bO h3
 exact Xs [Es 2 (⟨#[]⟩:ByteArray)] [24,5] 400 (v1 pT) <|Xy [] pz (by simp only [cy,h1,h2,h3,aB,aA] <;> rfl)
 have h3':=ak h3
 exact Tri.skip <|Xs [Es 2 (gq p0)] [24,5] 416 (v2 pT) <|Xy [] pz (by simp only [cy,h1,h2,h3,aB,aA] <;> rfl)
def jF (p:List Int) (i:Int):Prop:=p.length≤1000000000∧(0:Int)≤i∧i≤(p.length:Int)
theorem Hb {p:List Int} (h:p.length≤1000000000):jF p 0:=⟨h,by omega,by omega⟩
theorem jv {p:List Int} {i:Int} {b:Bool} (h:jF p i):jF p (af p i b):=⟨h.1,ke b h⟩
theorem iu {p:List Int} {i:Int} {b:Bool} (h:jF p i):jF p (aK p i b):=⟨h.1,uG b h⟩
theorem tw {p:List Int} {i:Int} {b:Bool} (h:jF p i):jF p (dB p i b):=⟨h.1,qZ b h⟩
theorem qn {p:List Int} {i n:Int} {b:Bool} (h:jF p i):jF p (cF p i b n):=⟨h.1,qd b n h⟩
theorem Nz {p:ByteArray} (h:p.size≤1000000000):(aC (aD p) p.size 0 p.size).length≤1000000000:=aL h (by rw [aU];exact h)
def jI (p0:ByteArray):ByteArray :=
 (cB (aC (aD p0) p0.size 0 p0.size) (af (aC (aD p0) p0.size 0 p0.size) 0 false) (bU (aC (aD p0) p0.size 0 p0.size) 0 false))
def pS (p0:ByteArray):Bool :=
 (bU (aC (aD p0) p0.size 0 p0.size) (af (aC (aD p0) p0.size 0 p0.size) 0 false) (bU (aC (aD p0) p0.size 0 p0.size) 0 false))
def pN (p0:ByteArray):Bool :=
 (lH (aC (aD p0) p0.size 0 p0.size) (af (aC (aD p0) p0.size 0 p0.size) (af (aC (aD p0) p0.size 0 p0.size) 0 false) (bU (aC (aD p0) p0.size 0 p0.size) 0 false)) (pS p0))
def cp (p0:ByteArray) (p1:Int):ByteArray :=
 (sel (!(pN p0)) (⟨#[]⟩:ByteArray) (sel (!(aR (cB (aC (aD p0) p0.size 0 p0.size) 0 false) (⟨#[115,115,104,45,101,100,50,53,53,49,57]⟩:ByteArray))) (⟨#[]⟩:ByteArray) (sel (((((jI p0).size:Nat):Int):Int) != p1) (⟨#[]⟩:ByteArray) (jI p0))))
def Ag:List AV→List Blk→Option (Prop × Ret)
 |[.sc (.s p0),.sc (.i .i64 p1)],[]=>some ((p0.size≤1000000000),⟨.sc (.s (cp p0 p1)),[]⟩)
 |_,_=>none
theorem Aq:Known Tryz.prog gD 39 ⟨0,0,Ag⟩:=by
 refine Xw Tryz.f39 30 (Zc ma 128 [.io] [] [80] <|Zc ma 176 [.io] [] [80] <|Zc yy 224 [.io] [] [80] <|Zn) mixed <|fun E args ks C r h hC hlen=>?_
 simp only at h
 unfold Ag at h
 split at h
 rotate_left
 cases h
 rename_i p0 p1
 cases h
 simp only [am] at hlen
 have cs:=Hb (Nz hC)
 refine ⟨rfl,?_⟩
 refine Xs [] [] 32 (v1 pT) <|Xt [Ep 5 80] [0] [Mc 80 [.sl 48 0 p0.size 1 none,.i .i64 0,.b false],Mi 48 p0.size (aD p0)] [] 112 (v2 (pu (pa (Ys 0 3) pT) (v2 pT))) <|Tri.sub (Xf 48 (.ints .u8 p0.size (aD p0)) (show 0+p0.size≤p0.size from by first|omega|(rw [co];omega)|exact cU _ _|exact cV _ _|exact aL (by omega) (by first|omega|(simp only [List.length_append];omega))|decide)) ?_
 refine Xt [Es 6 (cB (aC (aD p0) p0.size 0 p0.size) 0 false)] [] [Mc 80 [.ro .u8 (aC (aD p0) p0.size 0 p0.size),.i .i64 (af (aC (aD p0) p0.size 0 p0.size) 0 false),.b (bU (aC (aD p0) p0.size 0 p0.size) 0 false)]] [80] 160 (v1 (pu (pa pT (pl (show (aC (aD p0) p0.size 0 p0.size).length≤1000000000∧(0:Int)≤0∧0≤((aC (aD p0) p0.size 0 p0.size).length:Int) from by (show jF _ _;repeat (first|exact cs|refine jv ?_|refine iu ?_|refine tw ?_|refine qn ?_))))) (v1 pT))) ?_
 refine Xt [Es 7 (jI p0)] [] [Mc 80 [.ro .u8 (aC (aD p0) p0.size 0 p0.size),.i .i64 (af (aC (aD p0) p0.size 0 p0.size) (af (aC (aD p0) p0.size 0 p0.size) 0 false) (bU (aC (aD p0) p0.size 0 p0.size) 0 false)),.b (pS p0)]] [80] 208 (v1 (pu (pa pT (pl (show (aC (aD p0) p0.size 0 p0.size).length≤1000000000∧(0:Int)≤(af (aC (aD p0) p0.size 0 p0.size) 0 false)∧(af (aC (aD p0) p0.size 0 p0.size) 0 false)≤((aC (aD p0) p0.size 0 p0.size).length:Int) from by (show jF _ _;repeat (first|exact cs|refine jv ?_|refine iu ?_|refine tw ?_|refine qn ?_))))) (v1 pT))) ?_
 refine Tri.seq <|Tri.split (!(pN p0)) (fun h1=>?_) (fun h1=>?_)
 exact Xu [Eb 19 true] none [Eb 28 true] [6,5,1] [] [80] 416 (v1 (pu pz (v1 (pg h1 (v9 pT))))) <|Tri.cond_true (by kernel_rfl) <|Xs [Es 4 (⟨#[]⟩:ByteArray)] [28,7] 432 (v1 pT) <|Xy [] pz (by simp only [cp,h1,aB,aA] <;> rfl)
 refine Tri.split (!(aR (cB (aC (aD p0) p0.size 0 p0.size) 0 false) (⟨#[115,115,104,45,101,100,50,53,53,49,57]⟩:ByteArray))) (fun h2=>?_) (fun h2=>?_)
 exact Xu [Eb 19 false,Eb 23 true] none [Eb 28 true] [6,5,1] [] [80] 416 (v1 (pu pz (v1 (pg h1 (v3 (pg h2 (v5 pT))))))) <|Tri.cond_true (by kernel_rfl) <|Xs [Es 4 (⟨#[]⟩:ByteArray)] [28,7] 432 (v1 pT) <|Xy [] pz (by simp only [cp,h1,h2,aB,aA] <;> rfl)
 refine Xu [Eb 19 false,Eb 23 false] none [Eb 28 (((((jI p0).size:Nat):Int):Int) != p1)] [6,5,1] [] [80] 416 (v1 (pu pz (v1 (pg h1 (v3 (pg h2 (v5 pT))))))) <|Xa (fun h3=>?_) (fun h3=>?_)
 have h3':=bO h3
 exact Xs [Es 4 (⟨#[]⟩:ByteArray)] [28,7] 432 (v1 pT) <|Xy [] pz (by simp only [cp,h1,h2,h3,aB,aA] <;> rfl)
 have h3':=ak h3
 exact Tri.skip <|Xs [Es 4 (jI p0)] [28,7] 448 (v2 pT) <|Xy [] pz (by simp only [cp,h1,h2,h3,aB,aA] <;> rfl)
def fo (p0:ByteArray):ByteArray :=
 (aV (bJ (bS p0.size (aD p0)) false) (bI (bS p0.size (aD p0)) false))
def iS (p0:ByteArray):List Int :=
 (bJ (bJ (bS p0.size (aD p0)) false) (bI (bS p0.size (aD p0)) false))
def iQ (p0:ByteArray):Bool :=
 (bI (bJ (bS p0.size (aD p0)) false) (bI (bS p0.size (aD p0)) false))
end Go.Vm
namespace Go.Vm
open Go Go.Proofs
def pY (p:List (List ByteArray)):Prop:=p.length=8∧∀ k,(p.getD k []).length≤1000∧nX (p.getD k [])≤1000
theorem LT {k n:Nat} {p:List ByteArray} {xs:List Int} {m:Nat} (h:p.length≤1000∧nX p≤1000) (hk:k≤m) (hm:m+3000≤n):aj k xs p≤n:=by
 have h1:=ou p (⟨#[44]⟩:ByteArray)
 have h2:(⟨#[44]⟩:ByteArray).size=1:=rfl
 rw [h2] at h1
 unfold aj
 omega
theorem tP {p:List ByteArray} (h:p.length≤1000∧nX p≤1000):p.length≤1000000000∧(gI p (⟨#[44]⟩:ByteArray)).size≤1000000000:=by
 have h1:=ou p (⟨#[44]⟩:ByteArray)
 have h2:(⟨#[44]⟩:ByteArray).size=1:=rfl
 rw [h2] at h1
 omega
theorem Mx:([]:List ByteArray).length≤1000∧nX []≤1000:=by decide
def po (p0:List (List ByteArray)) (k0:Nat) (z0:Nat × List Int):Nat × List Int :=
 ((aj z0.1 z0.2 (p0.getD k0 [])),(kg z0.1 z0.2 (p0.getD k0 [])))
def bX (p0:List (List ByteArray)) (p1:ByteArray):Nat × List Int :=
 (itr (po p0) 8 (17,[20]++(aC (BQ p1 0) 32 0 16)))
def fZ (p0:List (List ByteArray)) (p1:ByteArray):List Int :=
 (kg ((bX p0 p1).1) ((bX p0 p1).2) ([]:List ByteArray))
def tj (p0:List (List ByteArray)) (p1:ByteArray):List Int :=
 (kg (aj ((bX p0 p1).1) ((bX p0 p1).2) ([]:List ByteArray)) (fZ p0 p1) ([]:List ByteArray))
def At (p0:List (List ByteArray)) (p1:ByteArray):List Int :=
 (qk (aj (aj ((bX p0 p1).1) ((bX p0 p1).2) ([]:List ByteArray)) (fZ p0 p1) ([]:List ByteArray)) (tj p0 p1) false)
def wC (p0:List (List ByteArray)) (p1:ByteArray):List Int :=
 (fB ((aj (aj ((bX p0 p1).1) ((bX p0 p1).2) ([]:List ByteArray)) (fZ p0 p1) ([]:List ByteArray))+1) (At p0 p1) 0)
def nD (p0:List (List ByteArray)) (p1:ByteArray):List Int :=
 (wC p0 p1)
def gL (p0:List (List ByteArray)) (p1:ByteArray):Nat :=
 ((aj (aj ((bX p0 p1).1) ((bX p0 p1).2) ([]:List ByteArray)) (fZ p0 p1) ([]:List ByteArray))+1)+4
def Hv:List AV→List Blk→Option (Prop × Ret)
 |[.arr .tab p0,.sc (.s p1)],[]=>some ((pY p0∧p1.size≤1000),⟨.sc (.sl 0 0 (gL p0 p1) 1 none),[some (.ints .u8 (gL p0 p1) (nD p0 p1))]⟩)
 |_,_=>none
theorem Nq:Known Tryz.prog gD 21 ⟨0,1,Hv⟩:=by
 refine Xw Tryz.f21 28 (Zv SZ 64 2 <|Zc ua 240 [.io,.ros] [] [144] <|Zc ua 256 [.io,.ros] [] [240] <|Zc ua 288 [.io,.ros] [] [144] <|Zc zD 320 [.io,.val] [] [304] <|Zc Ki 304 [.io,.val] [] [256] <|Zn) mixed <|fun E args ks C r h hC hlen=>?_
 simp only at h
 unfold Hv at h
 split at h
 rotate_left
 cases h
 rename_i p0 p1
 cases h
 simp only [am] at hlen
 have h8:=hC.1.1
 have hsz:=hC.2
 have hj:(gI [] (⟨#[44]⟩:ByteArray)).size=0:=rfl
 refine ⟨rfl,?_⟩
 refine Xt [Ep 2 16] [0] [(16,.vec .tab p0)] [] 48 (v2 pT) <|Xt [Ep 5 80] [1] [Mi 80 32 (BQ p1 0)] [] 112 (v1 (pu (pa pT (Ye p1.size 100000)) (v1 (pu (Yz 32) pT)))) <|Tri.len 80 rfl <|fun hl1=>Xt [El 6 144 17] [5] [Mi 144 17 ([20]++(aC (BQ p1 0) 32 0 16))] [80] 176 (pu (Yf 1) (pu (pa (lo ((0:Int)≤0∧(0:Int)≤16∧16≤((32:Nat):Int))) (Ye 32 32)) (pu (Ya (Ye (0+16) 32) 1 17 16 16 1 1) (v1 pT)))) <|Tri.seq <|Xt [Ei 15 0,(14,.arr .tab p0)] [2] [] [16] 208 (pu (lo (8=p0.length)) (v1 pT)) <|Tri.block <|Xc 8 (po p0) (17,[20]++(aC (BQ p1 0) 32 0 16)) (fun k0 z0=>z0.1≤17+3000*k0) (fun k0 z0=>[Ej 15 k0,El 6 144 z0.1]) (fun k0 z0=>[Mi 144 z0.1 z0.2]) (by omega) <|fun k0 z0 hk0 hz0 hJ0=>?_
 have hs:=hC.1.2 k0
 refine Xs [Eb 16 (decide ((((k0:Nat):Int):Int)<8))] [] 224 (v1 pT) <|Tri.seq <|Xb (fun h2 h2'=>?_) (fun h2 h2'=>?_)
 exact Tri.skip <|Tri.seq <|Tri.block <|Xs [(8,.sc (.ros (p0.getD k0 [])))] [16] 256 (pu (pa (Yj k0 8) (Yl k0 p0.length)) (v1 pT)) <|Wt [El 6 288 (aj z0.1 z0.2 (p0.getD k0 []))] [8,6] [Mi 288 (aj z0.1 z0.2 (p0.getD k0 [])) (kg z0.1 z0.2 (p0.getD k0 []))] [144] 320 (v2 (pu (pa pT (pa (Yr z0.1) (pl (show z0.1≤1000000000∧(p0.getD k0 []).length≤1000000000∧(gI (p0.getD k0 []) (⟨#[44]⟩:ByteArray)).size≤1000000000 from ⟨by omega,tP hs⟩)))) (v1 pT))) <|Wu [Ej 21 (k0+1)] none [Ej 15 (k0+1)] [15] [] [] 352 (pv pT (Yp k0 1) (v1 pT)) <|Xo [(144,288)] (LT (xs:=z0.2) hs hJ0 (by omega))
 refine Tri.exit <|?_
 obtain rfl:k0=8:=(by omega);obtain rfl:z0=(bX p0 p1):=hz0
 refine Xt [El 6 256 (aj (aj ((bX p0 p1).1) ((bX p0 p1).2) ([]:List ByteArray)) (fZ p0 p1) ([]:List ByteArray))] [16,15,14,6] [Mi 256 (aj (aj ((bX p0 p1).1) ((bX p0 p1).2) ([]:List ByteArray)) (fZ p0 p1) ([]:List ByteArray)) (tj p0 p1)] [144] 288 (v1 (pu (pa pT (pa (Yr ((bX p0 p1).1)) (pl (show ((bX p0 p1).1)≤1000000000∧([]:List ByteArray).length≤1000000000∧(gI ([]:List ByteArray) (⟨#[44]⟩:ByteArray)).size≤1000000000 from ⟨by first|omega|(unfold aj;omega),tP Mx⟩)))) (pu (pa pT (pa (Yr (aj ((bX p0 p1).1) ((bX p0 p1).2) ([]:List ByteArray))) (pl (show (aj ((bX p0 p1).1) ((bX p0 p1).2) ([]:List ByteArray))≤1000000000∧([]:List ByteArray).length≤1000000000∧(gI ([]:List ByteArray) (⟨#[44]⟩:ByteArray)).size≤1000000000 from ⟨by first|omega|(unfold aj;omega),tP Mx⟩)))) (v1 pT)))) <|Xt [El 4 320 (((aj (aj ((bX p0 p1).1) ((bX p0 p1).2) ([]:List ByteArray)) (fZ p0 p1) ([]:List ByteArray))+1)+4)] [6] [Mi 320 (((aj (aj ((bX p0 p1).1) ((bX p0 p1).2) ([]:List ByteArray)) (fZ p0 p1) ([]:List ByteArray))+1)+4) (wC p0 p1)] [256] 352 (v1 (pu (pa pT (pa (Yr (aj (aj ((bX p0 p1).1) ((bX p0 p1).2) ([]:List ByteArray)) (fZ p0 p1) ([]:List ByteArray))) (pl (show (aj (aj ((bX p0 p1).1) ((bX p0 p1).2) ([]:List ByteArray)) (fZ p0 p1) ([]:List ByteArray))≤1000000000 from by (unfold aj;omega))))) (pu (pa pT (pa (Yr ((aj (aj ((bX p0 p1).1) ((bX p0 p1).2) ([]:List ByteArray)) (fZ p0 p1) ([]:List ByteArray))+1)) (pl (show ((aj (aj ((bX p0 p1).1) ((bX p0 p1).2) ([]:List ByteArray)) (fZ p0 p1) ([]:List ByteArray))+1)≤1000000000 from by (unfold aj;omega))))) (v1 pT)))) ?_
 exact Xz [(320,0)] pz
def mc (k0:Nat) (z0:List (List ByteArray) × List Int × Bool):List (List ByteArray) × List Int × Bool :=
 (z0.1.set k0 (jz z0.2.1 z0.2.2),(dY z0.2.1 z0.2.2),(da z0.2.1 z0.2.2))
def dP (p0:List Int):List (List ByteArray) × List Int × Bool :=
 (itr (mc) 8 (zt 8,(ly (aq p0 false) (ao p0 false) 16),(lh (aq p0 false) (ao p0 false) 16)))
def gu (p0:List Int):List Int :=
 (dY (dY ((dP p0).2.1) ((dP p0).2.2)) (da ((dP p0).2.1) ((dP p0).2.2)))
def gm (p0:List Int):Bool :=
 (da (dY ((dP p0).2.1) ((dP p0).2.2)) (da ((dP p0).2.1) ((dP p0).2.2)))
def iy (p0:List Int):List Int :=
 (fX (kw (gu p0) (gm p0)) (kl (gu p0) (gm p0)))
def iz (p0:List Int):Bool :=
 (fW (kw (gu p0) (gm p0)) (kl (gu p0) (gm p0)))
def pX (p0:List Int):List (List ByteArray) :=
 (sel (((db p0 false):Int) != 20) (zt 8) (sel (!(gw (iy p0) (iz p0))) (zt 8) ((dP p0).1)))
def ml (p0:List Int):Int :=
 (sel (((db p0 false):Int) != 20) 3 (sel (!(gw (iy p0) (iz p0))) 3 0))
def iG (p0:Nat) (p2:List Int):List Int :=
 (ly (aq (aC p2 p0 0 p0) false) (ao (aC p2 p0 0 p0) false) 16)
def iH (p0:Nat) (p2:List Int):Bool :=
 (lh (aq (aC p2 p0 0 p0) false) (ao (aC p2 p0 0 p0) false) 16)
def oW (k0:Nat) (z0:List (List ByteArray) × List Int × Bool):List (List ByteArray) × List Int × Bool :=
 (z0.1.set k0 (jz z0.2.1 z0.2.2),(dY z0.2.1 z0.2.2),(da z0.2.1 z0.2.2))
def bQ (p0:Nat) (p2:List Int):List (List ByteArray) × List Int × Bool :=
 (itr (oW) 8 (zt 8,(iG p0 p2),(iH p0 p2)))
def di (p0:Nat) (p2:List Int):List Int :=
 (dY (dY ((bQ p0 p2).2.1) ((bQ p0 p2).2.2)) (da ((bQ p0 p2).2.1) ((bQ p0 p2).2.2)))
def dt (p0:Nat) (p2:List Int):Bool :=
 (da (dY ((bQ p0 p2).2.1) ((bQ p0 p2).2.2)) (da ((bQ p0 p2).2.1) ((bQ p0 p2).2.2)))
def gT (p0:Nat) (p2:List Int):List Int :=
 (fX (kw (di p0 p2) (dt p0 p2)) (kl (di p0 p2) (dt p0 p2)))
def gO (p0:Nat) (p2:List Int):Bool :=
 (fW (kw (di p0 p2) (dt p0 p2)) (kl (di p0 p2) (dt p0 p2)))
def fK (p0:Nat) (p2:List Int):List (List ByteArray) :=
 (sel (((db (aC p2 p0 0 p0) false):Int) != 20) (zt 8) (sel (!(gw (gT p0 p2) (gO p0 p2))) (zt 8) ((bQ p0 p2).1)))
def dM (p0:Nat) (p2:List Int):Int :=
 (sel (((db (aC p2 p0 0 p0) false):Int) != 20) 3 (sel (!(gw (gT p0 p2) (gO p0 p2))) 3 0))
def sV:List AV→List Blk→Option (Prop × Ret)
 |[.sc (.sl 0 0 p0 1 none)],[.ints .u8 p1 p2]=>some (((p0=p1)∧(p0≤1000000000)),⟨.tup [.arr .tab (fK p0 p2),.sc (.i .i64 (dM p0 p2))],[none]⟩)
 |_,_=>none
theorem zi:Known Tryz.prog gD 20 ⟨1,0,sV⟩:=by
 refine Xw Tryz.f20 36 (Zc CN 80 [.ro .u8] [] [] <|Zc vG 128 [.io] [] [80] <|Zc tf 368 [.io] [] [80] <|Zc La 176 [.io,.val] [] [80] <|Zc xw 240 [.io] [] [80] <|Zc xw 272 [.io] [] [80] <|Zc xw 288 [.io] [] [80] <|Zc Oi 304 [.io] [] [80] <|Zc NC 336 [.io] [] [80] <|Zn) mixed <|fun E args ks C r h hC hlen=>?_
 simp only at h
 unfold sV at h
 split at h
 rotate_left
 cases h
 rename_i p0 p1 p2
 cases h
 simp only [am] at hlen
 obtain ⟨hEp1,hC⟩:=hC
 subst hEp1
 refine ⟨rfl,?_⟩
 refine Tri.sub (Xf 0 (.ints .u8 p0 p2) (show 0+p0≤p0 from by first|omega|(rw [co];omega)|exact cU _ _|exact cV _ _|exact aL (by omega) (by first|omega|(simp only [List.length_append];omega))|decide)) ?_
 refine Xt [Ep 2 16] [] [Mc 16 [.nils,.nils,.nils,.nils,.nils,.nils,.nils,.nils]] [] 48 (v2 pT) <|Xt [Ep 4 48] [] [Mc 48 [.nils,.nils,.nils,.nils,.nils,.nils,.nils,.nils]] [] 64 (v1 pT) <|Xt [Ep 5 80] [0] [Mc 80 [.ro .u8 (aC p2 p0 0 p0),.b false]] [] 112 (v1 (pu (pa pz pT) (v1 pT))) <|Tri.seq <|Xt [Eb 11 (((db (aC p2 p0 0 p0) false):Int) != 20)] [] [Mc 80 [.ro .u8 (aq (aC p2 p0 0 p0) false),.b (ao (aC p2 p0 0 p0) false)]] [80] 160 (v1 (pu pz (v1 pT))) <|Xa (fun h1=>?_) (fun h1=>?_)
 have h1':=bO h1
 exact Xt [Ei 3 3] [11,5,4] [] [80,48] 208 (v1 (pu (pa (Yw 8) (Yr 8)) (v1 pT))) <|Tri.sub (Sub.toVec (l:=[.nils,.nils,.nils,.nils,.nils,.nils,.nils,.nils]) 16 .tab (zt 8) (by kernel_rfl) (by kernel_rfl)) <|Xy [] (pa (lo (8=(zt 8).length)) pz) (by simp only [fK,dM,h1,aB,aA] <;> rfl)
 have h1':=ak h1
 refine Tri.skip <|Xt [] [11] [Mc 80 [.ro .u8 (iG p0 p2),.b (iH p0 p2)]] [80] 192 (v1 (pu pz pT)) <|Tri.seq <|Xs [Ei 15 0] [] 208 (v1 pT) <|Tri.block <|Tri.sub (Sub.toVec (l:=[.nils,.nils,.nils,.nils,.nils,.nils,.nils,.nils]) 48 .tab (zt 8) (by kernel_rfl) (by kernel_rfl)) <|Xc 8 (oW) (zt 8,(iG p0 p2),(iH p0 p2)) (fun k0 z0=>z0.1.length=8) (fun k0 z0=>[Ej 15 k0]) (fun k0 z0=>[(48,.vec .tab z0.1),Mc 80 [.ro .u8 z0.2.1,.b z0.2.2]]) rfl <|fun k0 z0 hk0 hz0 hJ0=>Xs [Eb 16 (decide ((((k0:Nat):Int):Int)<8))] [] 224 (v1 pT) <|Tri.seq <|Xb (fun h2 h2'=>?_) (fun h2 h2'=>?_)
 exact Tri.skip <|Tri.seq <|Tri.block <|Xs [Ej 6 k0] [16] 256 (v2 pT) <|Wt [] [6] [(48,.vec .tab (z0.1.set k0 (jz z0.2.1 z0.2.2))),Mc 80 [.ro .u8 (dY z0.2.1 z0.2.2),.b (da z0.2.1 z0.2.2)]] [48,80] 336 (v2 (pu pz (pu (Yj k0 8) (pu (Ys k0 z0.1.length) pT)))) <|Wu [Ej 22 (k0+1)] none [Ej 15 (k0+1)] [15] [] [] 368 (pv pT (Yp k0 1) (v1 pT)) <|Xo [] (show (z0.1.set k0 _).length=8 by rw [List.length_set];exact hJ0)
 refine Tri.exit <|?_
 obtain rfl:k0=8:=(by omega);obtain rfl:z0=(bQ p0 p2):=hz0
 refine Xt [] [16,15] [Mc 80 [.ro .u8 (dY ((bQ p0 p2).2.1) ((bQ p0 p2).2.2)),.b (da ((bQ p0 p2).2.1) ((bQ p0 p2).2.2))]] [80] 256 (v1 (pu pz pT)) <|Xt [] [] [Mc 80 [.ro .u8 (di p0 p2),.b (dt p0 p2)]] [80] 288 (v1 (pu pz pT)) <|Xt [] [] [Mc 80 [.ro .u8 (kw (di p0 p2) (dt p0 p2)),.b (kl (di p0 p2) (dt p0 p2))]] [80] 320 (v1 (pu pz pT)) <|Xt [] [] [Mc 80 [.ro .u8 (gT p0 p2),.b (gO p0 p2)]] [80] 352 (v1 (pu pz pT)) <|Tri.seq <|Xt [Eb 33 (!(gw (gT p0 p2) (gO p0 p2)))] [5] [] [80] 400 (v1 (pu pz (v1 pT))) <|Xa (fun h3=>?_) (fun h3=>?_)
 exact Xt [Ei 3 3] [33,4] [] [48] 448 (v1 (pu (pa (Yw 8) (Yr 8)) (v1 pT))) <|Tri.sub (Sub.toVec (l:=[.nils,.nils,.nils,.nils,.nils,.nils,.nils,.nils]) 16 .tab (zt 8) (by kernel_rfl) (by kernel_rfl)) <|Xy [] (pa (lo (8=(zt 8).length)) pz) (by simp only [fK,dM,h1,h3,aB,aA] <;> rfl)
 exact Tri.skip <|Xt [Ei 3 0] [33,4] [(16,.vec .tab ((bQ p0 p2).1))] [48,16] 448 (pu (lo (8=((bQ p0 p2).1).length)) (pu (pa (lo (((bQ p0 p2).1).length=8)) (Yr 8)) (v1 pT))) <|Xy [] (pa (lo (8=((bQ p0 p2).1).length)) pz) (by simp only [fK,dM,h1,h3,aB,aA] <;> rfl)
def fb (a b:ByteArray) (c d:List Int) (e f g:ByteArray) (h:List Int):Prop:=a.size≤2000∧b.size≤2000∧c.length≤2000∧d.length≤2000∧e.size≤2000∧f.size≤2000∧g.size≤2000∧h.length≤2000
theorem tJ {a b c d e f g:ByteArray} {n:Nat} (q:a.size≤n∧b.size≤n∧c.size≤n∧d.size≤n∧e.size≤n∧f.size≤n∧g.size≤n) (k:Nat):(([a,b,c,d,e,f,g]:List ByteArray).getD k ⟨#[]⟩).size≤n:=by
 obtain ⟨q1,q2,q3,q4,q5,q6,q7⟩:=q
 match k with
 |0=>exact q1
 |1=>exact q2
 |2=>exact q3
 |3=>exact q4
 |4=>exact q5
 |5=>exact q6
 |6=>exact q7
 |k+7=>exact Nat.zero_le _
theorem HB {b:Bool} {x y:List Int} {m n:Nat} (h:x.length=m) (h':y.length=n):(sel b x y).length=sel b m n:=by cases b <;> assumption
theorem uR {k:Nat} {xs p3:List Int} (h:xs.length=k):(jJ k xs p3).length=ce k xs p3:=by
 have hu:∀ v,(fB k xs v).length=k+4:=fun v=>by unfold fB;rw [List.length_append,h];rfl
 unfold jJ ce
 repeat' first
  |apply HB
  |rw [hu]
  |(simp only [List.length_append,hu];rfl)
  |(simp only [List.length_append,hu,List.length_cons,List.length_nil])
def vQ (p10:ByteArray) (p11:ByteArray) (p12:List Int) (p13:List Int) (p14:ByteArray) (p15:ByteArray) (p16:ByteArray) (k0:Nat) (z0:Nat × List Int):List Int :=
 (ga z0.1 z0.2 ([p10,p11,(bytesOf p12),(bytesOf p13),p14,p15,p16].getD k0 (⟨#[]⟩:ByteArray)))
def qU (p10:ByteArray) (p11:ByteArray) (p12:List Int) (p13:List Int) (p14:ByteArray) (p15:ByteArray) (p16:ByteArray) (k0:Nat) (z0:Nat × List Int):Nat × List Int :=
 ((z0.1+4)+([p10,p11,(bytesOf p12),(bytesOf p13),p14,p15,p16].getD k0 (⟨#[]⟩:ByteArray)).size,(vQ p10 p11 p12 p13 p14 p15 p16 k0 z0))
def eW (p10:ByteArray) (p11:ByteArray) (p12:List Int) (p13:List Int) (p14:ByteArray) (p15:ByteArray) (p16:ByteArray):Nat × List Int :=
 (itr (qU p10 p11 p12 p13 p14 p15 p16) 7 (0,([]:List Int)))
def vI (p10:ByteArray) (p11:ByteArray) (p12:List Int) (p13:List Int) (p14:ByteArray) (p15:ByteArray) (p16:ByteArray) (p17:List Int):List Int :=
 (jJ ((eW p10 p11 p12 p13 p14 p15 p16).1) ((eW p10 p11 p12 p13 p14 p15 p16).2) p17)
def uc (p10:ByteArray) (p11:ByteArray) (p12:List Int) (p13:List Int) (p14:ByteArray) (p15:ByteArray) (p16:ByteArray) (p17:List Int):List Int :=
 (yp (aC (vI p10 p11 p12 p13 p14 p15 p16 p17) (ce ((eW p10 p11 p12 p13 p14 p15 p16).1) ((eW p10 p11 p12 p13 p14 p15 p16).2) p17) 0 (ce ((eW p10 p11 p12 p13 p14 p15 p16).1) ((eW p10 p11 p12 p13 p14 p15 p16).2) p17)))
def fc (p10:ByteArray) (p11:ByteArray) (p12:List Int) (p13:List Int) (p14:ByteArray) (p15:ByteArray) (p16:ByteArray) (p17:List Int):List Int :=
 (uc p10 p11 p12 p13 p14 p15 p16 p17)
def Ia:List AV→List Blk→Option (Prop × Ret)
 |[.agg [.s p10,.s p11,.ro .u8 p12,.ro .u8 p13,.s p14,.s p15,.s p16,.ro .u8 p17]],[]=>some ((fb p10 p11 p12 p13 p14 p15 p16 p17),⟨.sc (.sl 0 0 32 1 (some 32)),[some (.ints .u8 32 (fc p10 p11 p12 p13 p14 p15 p16 p17))]⟩)
 |_,_=>none
theorem CA:Known Tryz.prog gD 12 ⟨0,1,Ia⟩:=by
 refine Xw Tryz.f12 45 (Zc jw 576 [.io,.val] [] [464] <|Zc OH 560 [.ro .u8] [544] [] <|Zc Ha 544 [.io,.ro .u8] [] [464] <|Zn) mixed <|fun E args ks C r h hC hlen=>?_
 simp only at h
 unfold Ia at h
 split at h
 rotate_left
 cases h
 rename_i p10 p11 p12 p13 p14 p15 p16 p17
 cases h
 simp only [am] at hlen
 obtain ⟨q1,q2,q3,q4,q5,q6,q7,q8⟩:=hC
 refine ⟨rfl,?_⟩
 refine Xt [Ep 1 16] [0] [Mc 16 [.s p10,.s p11,.ro .u8 p12,.ro .u8 p13,.s p14,.s p15,.s p16,.ro .u8 p17]] [] 48 (v2 pT) <|Xs [(3,.sc (.nils))] [] 64 (v1 pT) <|Tri.seq <|Xt [Ei 31 0,Ei 30 7,El 29 416 7] [] [Mc 416 [.s p10,.s p11,.s (bytesOf p12),.s (bytesOf p13),.s p14,.s p15,.s p16]] [] 464 (v1 (pu (Yi 0 2) (pu (Yl 0 8) (v1 (pu (Yi 1 2) (pu (Yl 1 8) (v1 (pu (Yi 0 2) (pu (Yl 2 8) (v2 (pu (Yi 1 2) (pu (Yl 3 8) (v2 (pu (Yl 4 8) (v1 (pu (Yi 0 2) (pu (Yl 5 8) (v1 (pu (Yi 1 2) (pu (Yl 6 8) (pu (Yf 7) (v2 pT)))))))))))))))))))))) <|Tri.block <|Tri.sub (Sub.toVec (l:=[.s p10,.s p11,.s (bytesOf p12),.s (bytesOf p13),.s p14,.s p15,.s p16]) 416 .str [p10,p11,(bytesOf p12),(bytesOf p13),p14,p15,p16] (by kernel_rfl) (by kernel_rfl)) <|Tri.sub (Sub.openNil (U:=464) (U':=480) 3 464 1 .u8 none (.inl rfl) (by decide) (by decide) (by kernel_rfl) (by kernel_rfl)) <|Xc 7 (qU p10 p11 p12 p13 p14 p15 p16) (0,([]:List Int)) (fun k0 z0=>z0.1≤2004*k0) (fun k0 z0=>[El 3 464 z0.1,Ej 31 k0]) (fun k0 z0=>[Mi 464 z0.1 z0.2]) (by omega) <|fun k0 z0 hk0 hz0 hJ0=>?_
 have hs:=tJ (a:=p10) (b:=p11) (c:=bytesOf p12) (d:=bytesOf p13) (e:=p14) (f:=p15) (g:=p16) ⟨q1,q2,by rw [ae];exact q3,by rw [ae];exact q4,q5,q6,q7⟩ k0
 refine Xs [Eb 32 (decide ((((k0:Nat):Int):Int)<7))] [] 496 (v1 pT) <|Tri.seq <|Xb (fun h1 h1'=>?_) (fun h1 h1'=>?_)
 refine Tri.skip <|Tri.seq <|Tri.block <|Xs [Es 5 ([p10,p11,(bytesOf p12),(bytesOf p13),p14,p15,p16].getD k0 (⟨#[]⟩:ByteArray))] [32] 544 (pu (Yj k0 7) (pu (pl (show k0<[p10,p11,(bytesOf p12),(bytesOf p13),p14,p15,p16].length from by (show _<7;omega))) (v1 pT))) ?_
 exact Wt [El 3 576 ((z0.1+4)+([p10,p11,(bytesOf p12),(bytesOf p13),p14,p15,p16].getD k0 (⟨#[]⟩:ByteArray)).size)] [5,3] [Mi 576 ((z0.1+4)+([p10,p11,(bytesOf p12),(bytesOf p13),p14,p15,p16].getD k0 (⟨#[]⟩:ByteArray)).size) (vQ p10 p11 p12 p13 p14 p15 p16 k0 z0)] [464] 608 (v2 (pu (pa pT (pa (Yr z0.1) (lo (z0.1≤1000000000∧([p10,p11,(bytesOf p12),(bytesOf p13),p14,p15,p16].getD k0 (⟨#[]⟩:ByteArray)).size≤1000000000)))) (v1 pT))) <|Wu [Ej 38 (k0+1)] none [Ej 31 (k0+1)] [31] [] [] 640 (pv pT (Yp k0 1) (v1 pT)) <|Xo [(464,576)] (show z0.1+4+_≤2004*(k0+1) by omega)
 refine Tri.exit <|?_
 obtain rfl:k0=7:=(by omega);obtain rfl:z0=(eW p10 p11 p12 p13 p14 p15 p16):=hz0
 exact Tri.len 464 rfl <|fun hl2=>Xt [Ep 6 576] [32,3,31,30,29,1] [Mi 576 32 (uc p10 p11 p12 p13 p14 p15 p16 p17)] [464,416,16] 608 (v2 (pu (Yl 7 8) (pu (pa pz (pa (Yr ((eW p10 p11 p12 p13 p14 p15 p16).1)) (lo (((eW p10 p11 p12 p13 p14 p15 p16).1)≤1000000000∧p17.length≤1000000000)))) (pu (pa (pa (Yw (ce ((eW p10 p11 p12 p13 p14 p15 p16).1) ((eW p10 p11 p12 p13 p14 p15 p16).2) p17)) pT) (pl (show (aC (vI p10 p11 p12 p13 p14 p15 p16 p17) (ce ((eW p10 p11 p12 p13 p14 p15 p16).1) ((eW p10 p11 p12 p13 p14 p15 p16).2) p17) 0 (ce ((eW p10 p11 p12 p13 p14 p15 p16).1) ((eW p10 p11 p12 p13 p14 p15 p16).2) p17)).length≤100000000 from aL (Nat.le_trans (oF _ _ _) (by omega)) (Nat.le_trans (Nat.le_of_eq (uR (by omega))) (Nat.le_trans (oF _ _ _) (by omega)))))) (v1 (pu (Yz 32) pT)))))) <|Xs [(2,.sc (.sl 576 0 32 1 (some 32)))] [6] 640 (pu (pa (lo ((0:Int)≤0∧(0:Int)≤32∧32≤((32:Nat):Int))) (Ye 32 32)) (v1 pT)) <|Xz [(576,0)] pz
def rz (p10:ByteArray) (p11:ByteArray) (p12:List Int) (p13:List Int) (p14:ByteArray) (p15:ByteArray) (p16:ByteArray) (k0:Nat):List Int :=
 (bG ([p10,p11,(bytesOf p12),(bytesOf p13),p14,p15,p16].getD k0 (⟨#[]⟩:ByteArray)))
def oN (p10:ByteArray) (p11:ByteArray) (p12:List Int) (p13:List Int) (p14:ByteArray) (p15:ByteArray) (p16:ByteArray) (k0:Nat) (z0:Nat × List Int):Nat × List Int :=
 (z0.1+(4+([p10,p11,(bytesOf p12),(bytesOf p13),p14,p15,p16].getD k0 (⟨#[]⟩:ByteArray)).size),z0.2++(aC (rz p10 p11 p12 p13 p14 p15 p16 k0) (4+([p10,p11,(bytesOf p12),(bytesOf p13),p14,p15,p16].getD k0 (⟨#[]⟩:ByteArray)).size) 0 (4+([p10,p11,(bytesOf p12),(bytesOf p13),p14,p15,p16].getD k0 (⟨#[]⟩:ByteArray)).size)))
def fD (p10:ByteArray) (p11:ByteArray) (p12:List Int) (p13:List Int) (p14:ByteArray) (p15:ByteArray) (p16:ByteArray):Nat × List Int :=
 (itr (oN p10 p11 p12 p13 p14 p15 p16) 7 (0,([]:List Int)))
def rF (p10:ByteArray) (p11:ByteArray) (p12:List Int) (p13:List Int) (p14:ByteArray) (p15:ByteArray) (p16:ByteArray) (p17:List Int):List Int :=
 (is (aC (((fD p10 p11 p12 p13 p14 p15 p16).2)++(aC (jr p17) (cS p17) 0 (cS p17))) (((fD p10 p11 p12 p13 p14 p15 p16).1)+(cS p17)) 0 (((fD p10 p11 p12 p13 p14 p15 p16).1)+(cS p17))))
def bv (p10:ByteArray) (p11:ByteArray) (p12:List Int) (p13:List Int) (p14:ByteArray) (p15:ByteArray) (p16:ByteArray) (p17:List Int):List Int :=
 (rF p10 p11 p12 p13 p14 p15 p16 p17)
def Dr:List AV→List Blk→Option (Prop × Ret)
 |[.agg [.s p10,.s p11,.ro .u8 p12,.ro .u8 p13,.s p14,.s p15,.s p16,.ro .u8 p17]],[]=>some ((fb p10 p11 p12 p13 p14 p15 p16 p17),⟨.sc (.sl 0 0 32 1 none),[some (.ints .u8 32 (bv p10 p11 p12 p13 p14 p15 p16 p17))]⟩)
 |_,_=>none
theorem KU:Known Tryz.prog gD 31 ⟨0,1,Dr⟩:=by
 refine Xw Tryz.f31 48 (Zv kA 624 1 <|Zc DQ 624 [.ro .u8,.val] [608] [] <|Zc NQ 592 [.ro .u8] [] [] <|Zn) mixed <|fun E args ks C r h hC hlen=>?_
 simp only at h
 unfold Dr at h
 split at h
 rotate_left
 cases h
 rename_i p10 p11 p12 p13 p14 p15 p16 p17
 cases h
 simp only [am] at hlen
 obtain ⟨q1,q2,q3,q4,q5,q6,q7,q8⟩:=hC
 have hri:=Fi p17
 refine ⟨rfl,?_⟩
 refine Xt [Ep 1 16] [0] [Mc 16 [.s p10,.s p11,.ro .u8 p12,.ro .u8 p13,.s p14,.s p15,.s p16,.ro .u8 p17]] [] 48 (v2 pT) <|Xs [(3,.sc (.nils))] [] 64 (v1 pT) <|Xt [El 4 416 7] [] [Mc 416 [.s p10,.s p11,.s (bytesOf p12),.s (bytesOf p13),.s p14,.s p15,.s p16]] [] 448 (v1 (pu (Yi 0 2) (pu (Yl 0 8) (v1 (pu (Yi 1 2) (pu (Yl 1 8) (v1 (pu (Yi 0 2) (pu (Yl 2 8) (v2 (pu (Yi 1 2) (pu (Yl 3 8) (v2 (pu (Yl 4 8) (v1 (pu (Yi 0 2) (pu (Yl 5 8) (v1 (pu (Yi 1 2) (pu (Yl 6 8) (pu (Yf 7) (v1 pT)))))))))))))))))))))) <|Tri.seq <|Xs [Ei 5 0] [] 464 (v1 pT) <|Tri.block <|Tri.sub (Sub.toVec (l:=[.s p10,.s p11,.s (bytesOf p12),.s (bytesOf p13),.s p14,.s p15,.s p16]) 416 .str [p10,p11,(bytesOf p12),(bytesOf p13),p14,p15,p16] (by kernel_rfl) (by kernel_rfl)) <|Tri.sub (Sub.openNil (U:=464) (U':=480) 3 464 1 .u8 none (.inl rfl) (by decide) (by decide) (by kernel_rfl) (by kernel_rfl)) <|Xc 7 (oN p10 p11 p12 p13 p14 p15 p16) (0,([]:List Int)) (fun k0 z0=>z0.1≤2004*k0) (fun k0 z0=>[El 3 464 z0.1,Ej 5 k0]) (fun k0 z0=>[Mi 464 z0.1 z0.2]) (by omega) <|fun k0 z0 hk0 hz0 hJ0=>?_
 have hs:=tJ (a:=p10) (b:=p11) (c:=bytesOf p12) (d:=bytesOf p13) (e:=p14) (f:=p15) (g:=p16) ⟨q1,q2,by rw [ae];exact q3,by rw [ae];exact q4,q5,q6,q7⟩ k0
 refine Tri.seq <|Xs [Eb 32 (decide ((((k0:Nat):Int):Int)<7))] [] 544 (v4 pT) <|Xb (fun h1 h1'=>?_) (fun h1 h1'=>?_)
 refine Tri.skip <|Tri.seq <|Tri.block <|Tri.len 464 rfl <|fun hl2=>Wt [El 3 640 (z0.1+(4+([p10,p11,(bytesOf p12),(bytesOf p13),p14,p15,p16].getD k0 (⟨#[]⟩:ByteArray)).size))] [32,3] [Mi 640 (z0.1+(4+([p10,p11,(bytesOf p12),(bytesOf p13),p14,p15,p16].getD k0 (⟨#[]⟩:ByteArray)).size)) (z0.2++(aC (rz p10 p11 p12 p13 p14 p15 p16 k0) (4+([p10,p11,(bytesOf p12),(bytesOf p13),p14,p15,p16].getD k0 (⟨#[]⟩:ByteArray)).size) 0 (4+([p10,p11,(bytesOf p12),(bytesOf p13),p14,p15,p16].getD k0 (⟨#[]⟩:ByteArray)).size)))] [464] 672 (v3 (pu (Yj k0 7) (pu (pl (show k0<[p10,p11,(bytesOf p12),(bytesOf p13),p14,p15,p16].length from by (show _<7;omega))) (pu (pa pT (Ye (([p10,p11,(bytesOf p12),(bytesOf p13),p14,p15,p16].getD k0 (⟨#[]⟩:ByteArray)).size) 1000000000)) (pu (Ya (Yw (4+([p10,p11,(bytesOf p12),(bytesOf p13),p14,p15,p16].getD k0 (⟨#[]⟩:ByteArray)).size)) 1 (z0.1+(4+([p10,p11,(bytesOf p12),(bytesOf p13),p14,p15,p16].getD k0 (⟨#[]⟩:ByteArray)).size)) (4+([p10,p11,(bytesOf p12),(bytesOf p13),p14,p15,p16].getD k0 (⟨#[]⟩:ByteArray)).size) (4+([p10,p11,(bytesOf p12),(bytesOf p13),p14,p15,p16].getD k0 (⟨#[]⟩:ByteArray)).size) z0.1 z0.1) (v1 pT)))))) ?_
 exact Wu [Ej 34 (k0+1)] none [Ej 5 (k0+1)] [5] [] [] 720 (v1 (pv pT (Yp k0 1) (v1 pT))) <|Xo [(464,640)] (show z0.1+(4+_)≤2004*(k0+1) by omega)
 refine Tri.exit <|?_
 obtain rfl:k0=7:=(by omega);obtain rfl:z0=(fD p10 p11 p12 p13 p14 p15 p16):=hz0
 exact Tri.len 464 rfl <|fun hl3=>Xt [El 2 624 32] [32,3,5,4,1] [Mi 624 32 (rF p10 p11 p12 p13 p14 p15 p16 p17)] [464,416,16] 656 (v2 (pu (Yl 7 8) (pu (pa pz (Ye p17.length 900000000)) (pu (Ya (Yw (cS p17)) 1 (((fD p10 p11 p12 p13 p14 p15 p16).1)+(cS p17)) (cS p17) (cS p17) ((fD p10 p11 p12 p13 p14 p15 p16).1) ((fD p10 p11 p12 p13 p14 p15 p16).1)) (pu (pa (pa (Yw (((fD p10 p11 p12 p13 p14 p15 p16).1)+(cS p17))) pT) (pa (Yr (32:Int)) (pl (show (aC (((fD p10 p11 p12 p13 p14 p15 p16).2)++(aC (jr p17) (cS p17) 0 (cS p17))) (((fD p10 p11 p12 p13 p14 p15 p16).1)+(cS p17)) 0 (((fD p10 p11 p12 p13 p14 p15 p16).1)+(cS p17))).length≤100000000 from aL (by omega) (by rw [List.length_append];have hp:=aL (xs:=jr p17) (n:=cS p17) (off:=0) (len:=cS p17) (B:=3000) (by omega) (by omega);omega))))) (v1 pT)))))) <|Xz [(624,0)] pz
theorem PD (p0:List Int):(yp p0).length=32:=by
 have h:∀ (n:Nat) (z:List Int),z.length=32→(itr (rT p0) n z).length=32:=by
  intro n z hz
  induction n with
  |zero=>rw [aX];exact hz
  |succ n ih=>rw [aQ];unfold rT;simp only [List.length_set];exact ih
 exact h _ _ rfl
theorem tv (a b:ByteArray) (c d:List Int) (e f g:ByteArray) (h:List Int):(fc a b c d e f g h).length=32:=PD _
theorem kX (a b:ByteArray) (c d:List Int) (e f g:ByteArray) (h:List Int):(bv a b c d e f g h).length=32:=wV _
def tX (a b:ByteArray) (c d:List Int) (e f g:ByteArray) (h:List Int):Prop:=a.size≤140737488351232∧b.size≤140737488351232∧c.length≤140737488351232∧d.length≤140737488351232∧e.size≤140737488351232∧f.size≤140737488351232∧g.size≤140737488351232∧h.length≤140737488351232
def oD (p10:ByteArray) (p11:ByteArray) (p12:List Int) (p13:List Int) (p14:ByteArray) (p15:ByteArray) (p16:ByteArray) (p17:List Int):Bool :=
 (decide ((((((p14.size+p17.length)+((p10.size+p12.length)+p15.size))+((p11.size+p13.length)+p16.size):Nat):Int):Int)<2000))
def DK:List AV→List Blk→Option (Prop × Ret)
 |[.agg [.s p10,.s p11,.ro .u8 p12,.ro .u8 p13,.s p14,.s p15,.s p16,.ro .u8 p17]],[]=>some ((tX p10 p11 p12 p13 p14 p15 p16 p17),⟨.sc (.b (oD p10 p11 p12 p13 p14 p15 p16 p17)),[]⟩)
 |_,_=>none
theorem Kx:Known Tryz.prog gD 5 ⟨0,0,DK⟩:=by
 refine Xw Tryz.f5 37 Zn mixed <|fun E args ks C r h hC hlen=>?_
 simp only at h
 unfold DK at h
 split at h
 rotate_left
 cases h
 rename_i p10 p11 p12 p13 p14 p15 p16 p17
 cases h
 simp only [am] at hlen
 obtain ⟨q1,q2,q3,q4,q5,q6,q7,q8⟩:=hC
 refine ⟨rfl,?_⟩
 refine Xt [Ep 1 16] [0] [Mc 16 [.s p10,.s p11,.ro .u8 p12,.ro .u8 p13,.s p14,.s p15,.s p16,.ro .u8 p17]] [] 48 (v2 pT) <|Xu [Ej 11 (p14.size+p17.length)] none [Ej 3 (p14.size+p17.length)] [] [] [] 176 (v1 (pu (Yl 4 8) (v2 (pu (Yl 7 8) (v1 (pv pT (Yp p14.size p17.length) (v1 pT))))))) <|Tri.seq <|Xs [Ei 12 0] [] 192 (v1 pT) <|Tri.block <|Tri.rounds 2 <|Xs [Eb 13 true] [] 208 (v1 pT) <|Tri.seq <|Tri.cond_true (by kernel_rfl) <|Tri.skip <|Tri.seq <|Tri.block <|Xs [Ei 4 0] [13] 240 (v2 pT) <|Wu [Ej 26 (p10.size+p12.length),Ej 32 ((p10.size+p12.length)+p15.size),Ej 33 ((p14.size+p17.length)+((p10.size+p12.length)+p15.size))] (some [0,0,0,6,14,30,0,0,192,448,960,2046,0,0,12288,28672,61440,131070,262143,524287]) [Ej 3 ((p14.size+p17.length)+((p10.size+p12.length)+p15.size))] [4,3] [] [] 560 (v3 (pu (Yi 0 2) (pu (Yl 0 8) (v3 (pu (Yi 0 2) (pu (Yl 2 8) (v1 (pv pT (Yp p10.size p12.length) (v2 (pu (Yi 0 2) (pu (Yl 5 8) (v1 (pv pT (Yp (p10.size+p12.length) p15.size) (pv pT (Yp (p14.size+p17.length) ((p10.size+p12.length)+p15.size)) (v1 pT))))))))))))))) <|Ws [Ei 12 1] [12] 592 (v2 pT) <|?_
 exact Xs [Eb 13 true] [] 608 (v1 pT) <|Tri.seq <|Tri.cond_true (by kernel_rfl) <|Tri.skip <|Tri.seq <|Tri.block <|Xs [Ei 4 1] [13] 640 (v2 pT) <|Wu [Ej 26 (p11.size+p13.length),Ej 32 ((p11.size+p13.length)+p16.size),Ej 33 (((p14.size+p17.length)+((p10.size+p12.length)+p15.size))+((p11.size+p13.length)+p16.size))] (some [0,0,0,6,14,30,0,0,192,448,960,2046,0,0,12288,28672,61440,131070,262143,524287]) [Ej 3 (((p14.size+p17.length)+((p10.size+p12.length)+p15.size))+((p11.size+p13.length)+p16.size))] [4,3] [] [] 960 (v3 (pu (Yi 1 2) (pu (Yl 1 8) (v3 (pu (Yi 1 2) (pu (Yl 3 8) (v1 (pv pT (Yp p11.size p13.length) (v2 (pu (Yi 1 2) (pu (Yl 6 8) (v1 (pv pT (Yp (p11.size+p13.length) p16.size) (pv pT (Yp ((p14.size+p17.length)+((p10.size+p12.length)+p15.size)) ((p11.size+p13.length)+p16.size)) (v1 pT))))))))))))))) <|Ws [Ei 12 2] [12] 992 (v2 pT) <|Xs [Eb 13 false] [] 1008 (v1 pT) <|Tri.seq <|Tri.cond_false (by kernel_rfl) <|Tri.exit <|Xt [Eb 2 (decide ((((((p14.size+p17.length)+((p10.size+p12.length)+p15.size))+((p11.size+p13.length)+p16.size):Nat):Int):Int)<2000))] [13,12,3,1] [] [16] 1056 (v3 pT) <|Xz [] pz
def xO (k0:Nat) (z0:Nat × List Int):List Int :=
 (ga z0.1 z0.2 (([(⟨#[]⟩:ByteArray),(⟨#[]⟩:ByteArray),(⟨#[]⟩:ByteArray),(⟨#[]⟩:ByteArray),(⟨#[]⟩:ByteArray),(⟨#[]⟩:ByteArray),(⟨#[]⟩:ByteArray)]).getD k0 (⟨#[]⟩:ByteArray)))
def df (k0:Nat) (z0:Nat × List Int):Nat × List Int :=
 ((z0.1+4)+(([(⟨#[]⟩:ByteArray),(⟨#[]⟩:ByteArray),(⟨#[]⟩:ByteArray),(⟨#[]⟩:ByteArray),(⟨#[]⟩:ByteArray),(⟨#[]⟩:ByteArray),(⟨#[]⟩:ByteArray)]).getD k0 (⟨#[]⟩:ByteArray)).size,(xO k0 z0))
def wm:List Int :=
 (jJ ((itr (df) 7 (0,([]:List Int))).1) ((itr (df) 7 (0,([]:List Int))).2) ([]:List Int))
def xJ:List Int :=
 (yp (aC (wm) (ce ((itr (df) 7 (0,([]:List Int))).1) ((itr (df) 7 (0,([]:List Int))).2) ([]:List Int)) 0 (ce ((itr (df) 7 (0,([]:List Int))).1) ((itr (df) 7 (0,([]:List Int))).2) ([]:List Int))))
def Lg:List Int :=
 (xJ)
def Ck:List AV→List Blk→Option (Prop × Ret)
 |[.agg [.s p10,.s p11,.nils,.nils,.s p14,.s p15,.s p16,.nils]],[]=>some ((((⟨#[]⟩:ByteArray)=p10)∧(((⟨#[]⟩:ByteArray)=p11)∧(((⟨#[]⟩:ByteArray)=p14)∧(((⟨#[]⟩:ByteArray)=p15)∧(((⟨#[]⟩:ByteArray)=p16)∧True))))),⟨.sc (.sl 0 0 32 1 (some 32)),[some (.ints .u8 32 (Lg))]⟩)
 |_,_=>none
theorem KN:Known Tryz.prog gD 12 ⟨0,1,Ck⟩:=by
 refine Xw Tryz.f12 45 (Zc jw 576 [.io,.val] [] [464] <|Zc OH 560 [.ro .u8] [544] [] <|Zc Ha 544 [.io,.ro .u8] [] [464] <|Zn) mixed <|fun E args ks C r h hC hlen=>?_
 simp only at h
 unfold Ck at h
 split at h
 rotate_left
 cases h
 rename_i p10 p11 p14 p15 p16
 cases h
 simp only [am] at hlen
 obtain ⟨hEp10,hC⟩:=hC
 obtain ⟨hEp11,hC⟩:=hC
 obtain ⟨hEp14,hC⟩:=hC
 obtain ⟨hEp15,hC⟩:=hC
 obtain ⟨hEp16,hC⟩:=hC
 subst hEp10
 subst hEp11
 subst hEp14
 subst hEp15
 subst hEp16
 have q0:(⟨#[]⟩:ByteArray).size≤2000:=by decide
 refine ⟨rfl,?_⟩
 refine Xt [Ep 1 16] [0] [Mc 16 [.s (⟨#[]⟩:ByteArray),.s (⟨#[]⟩:ByteArray),.nils,.nils,.s (⟨#[]⟩:ByteArray),.s (⟨#[]⟩:ByteArray),.s (⟨#[]⟩:ByteArray),.nils]] [] 48 (v2 pT) <|Xs [(3,.sc (.nils))] [] 64 (v1 pT) <|Tri.seq <|Xt [Ei 31 0,Ei 30 7,El 29 416 7] [] [Mc 416 [.s (⟨#[]⟩:ByteArray),.s (⟨#[]⟩:ByteArray),.s (⟨#[]⟩:ByteArray),.s (⟨#[]⟩:ByteArray),.s (⟨#[]⟩:ByteArray),.s (⟨#[]⟩:ByteArray),.s (⟨#[]⟩:ByteArray)]] [] 464 (v1 (pu (Yi 0 2) (pu (Yl 0 8) (v1 (pu (Yi 1 2) (pu (Yl 1 8) (v1 (pu (Yi 0 2) (pu (Yl 2 8) (v2 (pu (Yi 1 2) (pu (Yl 3 8) (v2 (pu (Yl 4 8) (v1 (pu (Yi 0 2) (pu (Yl 5 8) (v1 (pu (Yi 1 2) (pu (Yl 6 8) (pu (Yf 7) (v2 pT)))))))))))))))))))))) <|Tri.block <|Tri.sub (Sub.toVec (l:=[.s (⟨#[]⟩:ByteArray),.s (⟨#[]⟩:ByteArray),.s (⟨#[]⟩:ByteArray),.s (⟨#[]⟩:ByteArray),.s (⟨#[]⟩:ByteArray),.s (⟨#[]⟩:ByteArray),.s (⟨#[]⟩:ByteArray)]) 416 .str ([(⟨#[]⟩:ByteArray),(⟨#[]⟩:ByteArray),(⟨#[]⟩:ByteArray),(⟨#[]⟩:ByteArray),(⟨#[]⟩:ByteArray),(⟨#[]⟩:ByteArray),(⟨#[]⟩:ByteArray)]) (by kernel_rfl) (by kernel_rfl)) <|Tri.sub (Sub.openNil (U:=464) (U':=480) 3 464 1 .u8 none (.inl rfl) (by decide) (by decide) (by kernel_rfl) (by kernel_rfl)) <|Xc 7 (df) (0,([]:List Int)) (fun k0 z0=>z0.1≤2004*k0) (fun k0 z0=>[El 3 464 z0.1,Ej 31 k0]) (fun k0 z0=>[Mi 464 z0.1 z0.2]) (by omega) <|fun k0 z0 hk0 hz0 hJ0=>?_
 have hs:=tJ (n:=2000) (a:=⟨#[]⟩) (b:=⟨#[]⟩) (c:=⟨#[]⟩) (d:=⟨#[]⟩) (e:=⟨#[]⟩) (f:=⟨#[]⟩) (g:=⟨#[]⟩) ⟨q0,q0,q0,q0,q0,q0,q0⟩ k0
 refine Xs [Eb 32 (decide ((((k0:Nat):Int):Int)<7))] [] 496 (v1 pT) <|Tri.seq <|Xb (fun h1 h1'=>?_) (fun h1 h1'=>?_)
 refine Tri.skip <|Tri.seq <|Tri.block <|Xs [Es 5 (([(⟨#[]⟩:ByteArray),(⟨#[]⟩:ByteArray),(⟨#[]⟩:ByteArray),(⟨#[]⟩:ByteArray),(⟨#[]⟩:ByteArray),(⟨#[]⟩:ByteArray),(⟨#[]⟩:ByteArray)]).getD k0 (⟨#[]⟩:ByteArray))] [32] 544 (pu (Yj k0 7) (pu (pl (show k0<([(⟨#[]⟩:ByteArray),(⟨#[]⟩:ByteArray),(⟨#[]⟩:ByteArray),(⟨#[]⟩:ByteArray),(⟨#[]⟩:ByteArray),(⟨#[]⟩:ByteArray),(⟨#[]⟩:ByteArray)]).length from by (show _<7;omega))) (v1 pT))) ?_
 exact Wt [El 3 576 ((z0.1+4)+(([(⟨#[]⟩:ByteArray),(⟨#[]⟩:ByteArray),(⟨#[]⟩:ByteArray),(⟨#[]⟩:ByteArray),(⟨#[]⟩:ByteArray),(⟨#[]⟩:ByteArray),(⟨#[]⟩:ByteArray)]).getD k0 (⟨#[]⟩:ByteArray)).size)] [5,3] [Mi 576 ((z0.1+4)+(([(⟨#[]⟩:ByteArray),(⟨#[]⟩:ByteArray),(⟨#[]⟩:ByteArray),(⟨#[]⟩:ByteArray),(⟨#[]⟩:ByteArray),(⟨#[]⟩:ByteArray),(⟨#[]⟩:ByteArray)]).getD k0 (⟨#[]⟩:ByteArray)).size) (xO k0 z0)] [464] 608 (v2 (pu (pa pT (pa (Yr z0.1) (lo (z0.1≤1000000000∧(([(⟨#[]⟩:ByteArray),(⟨#[]⟩:ByteArray),(⟨#[]⟩:ByteArray),(⟨#[]⟩:ByteArray),(⟨#[]⟩:ByteArray),(⟨#[]⟩:ByteArray),(⟨#[]⟩:ByteArray)]).getD k0 (⟨#[]⟩:ByteArray)).size≤1000000000)))) (v1 pT))) <|Wu [Ej 38 (k0+1)] none [Ej 31 (k0+1)] [31] [] [] 640 (pv pT (Yp k0 1) (v1 pT)) <|Xo [(464,576)] (show z0.1+4+_≤2004*(k0+1) by omega)
 refine Tri.exit <|?_
 obtain rfl:k0=7:=(by omega);subst hz0
 exact Tri.len 464 rfl <|fun hl2=>Xt [Ep 6 576] [32,3,31,30,29,1] [Mi 576 32 (xJ)] [464,416,16] 608 (v2 (pu (Yl 7 8) (pu (pa pz (pa (Yr ((itr (df) 7 (0,([]:List Int))).1)) (pl (show ((itr (df) 7 (0,([]:List Int))).1)≤1000000000∧([]:List Int).length≤1000000000 from ⟨by omega,by decide⟩)))) (pu (pa (pa (Yw (ce ((itr (df) 7 (0,([]:List Int))).1) ((itr (df) 7 (0,([]:List Int))).2) ([]:List Int))) pT) (pl (show (aC (wm) (ce ((itr (df) 7 (0,([]:List Int))).1) ((itr (df) 7 (0,([]:List Int))).2) ([]:List Int)) 0 (ce ((itr (df) 7 (0,([]:List Int))).1) ((itr (df) 7 (0,([]:List Int))).2) ([]:List Int))).length≤100000000 from aL (Nat.le_trans (oF _ _ []) (by show _+0+5≤_;omega)) (Nat.le_trans (Nat.le_of_eq (uR (by omega))) (Nat.le_trans (oF _ _ []) (by show _+0+5≤_;omega)))))) (v1 (pu (Yz 32) pT)))))) <|Xs [(2,.sc (.sl 576 0 32 1 (some 32)))] [6] 640 (pu (pa (lo ((0:Int)≤0∧(0:Int)≤32∧32≤((32:Nat):Int))) (Ye 32 32)) (v1 pT)) <|Xz [(576,0)] pz
end Go.Vm
namespace Go.Vm
open Go Go.Proofs
def je (p0:ByteArray):Bool:=sel (!(gw (iS p0) (iQ p0))) true (sel (!(aR (aV (bS p0.size (aD p0)) false) (⟨#[115,115,104,45,101,100,50,53,53,49,57]⟩:ByteArray))) true (((((fo p0).size:Nat):Int):Int) != 64))
theorem DO {p0:ByteArray} (h:je p0=false):(!(gw (iS p0) (iQ p0)))=false∧(!(aR (aV (bS p0.size (aD p0)) false) (⟨#[115,115,104,45,101,100,50,53,53,49,57]⟩:ByteArray)))=false∧(((((fo p0).size:Nat):Int):Int) != 64)=false:=by
 unfold je at h
 revert h
 generalize (!(gw (iS p0) (iQ p0)))=a
 generalize (!(aR (aV (bS p0.size (aD p0)) false) (⟨#[115,115,104,45,101,100,50,53,53,49,57]⟩:ByteArray)))=b
 generalize (((((fo p0).size:Nat):Int):Int) != 64)=c
 intro h
 cases a
 ·cases b
  ·rw [aA,aA] at h;exact ⟨rfl,rfl,h⟩
  ·rw [aA,aB] at h;cases h
 ·rw [aB] at h;cases h
theorem LS {p0:ByteArray} (h:je p0=true) (h1:(!(gw (iS p0) (iQ p0)))=false) (h2:(!(aR (aV (bS p0.size (aD p0)) false) (⟨#[115,115,104,45,101,100,50,53,53,49,57]⟩:ByteArray)))=false):(((((fo p0).size:Nat):Int):Int) != 64)=true:=by
 unfold je at h
 rw [h1,h2,aA,aA] at h
 exact h
def bf (p0:ByteArray):ByteArray :=
 (aV (bJ (bS p0.size (aD p0)) false) (bI (bS p0.size (aD p0)) false))
def ob (p0:ByteArray):List Int :=
 (bJ (bJ (bS p0.size (aD p0)) false) (bI (bS p0.size (aD p0)) false))
def og (p0:ByteArray):Bool :=
 (bI (bJ (bS p0.size (aD p0)) false) (bI (bS p0.size (aD p0)) false))
def iW (p0:ByteArray):List Int :=
 aD (bf p0)
def sK:List AV→List Blk→Option (Prop × Ret)
 |[.sc (.s p0)],[]=>some ((((je p0)=false)∧(p0.size≤1000000000)),⟨.sc (.sl 0 0 ((bf p0).size) 1 none),[some (.ints .u8 ((bf p0).size) (iW p0))]⟩)
 |_,_=>none
theorem AB:Known Tryz.prog gD 37 ⟨0,1,sK⟩:=by
 refine Xw Tryz.f37 27 (Zc zE 64 [.io] [] [48] <|Zc ij 112 [.io] [] [64] <|Zc ij 144 [.io] [] [64] <|Zc tf 208 [.io] [] [64] <|Zn) mixed <|fun E args ks C r h hC hlen=>?_
 simp only at h
 unfold sK at h
 split at h
 rotate_left
 cases h
 rename_i p0
 cases h
 simp only [am] at hlen
 have hG0:=hC.1
 have hC:=hC.2
 have hsig:=DO hG0
 refine ⟨rfl,?_⟩
 refine Xs [] [] 32 (v1 pT) <|Xt [Ep 3 64] [0] [Mc 64 [.ro .u8 (bS p0.size (aD p0)),.b false]] [] 96 (v2 (pu (pa pT (pa (Yr p0.size) pT)) (v1 pT))) <|Xt [Es 5 (bf p0),Es 4 (aV (bS p0.size (aD p0)) false)] [] [Mc 64 [.ro .u8 (ob p0),.b (og p0)]] [64] 192 (v1 (pu pz (v1 (pu pz (v2 pT))))) <|Tri.seq <|Xu [Eb 16 false,Eb 20 false] none [Eb 24 (((((bf p0).size:Nat):Int):Int) != 64)] [4,3] [] [64] 384 (v1 (pu pz (v1 (pv pT (pl (show (!(gw (ob p0) (og p0)))=false from hsig.1)) (v3 (pv pT (pl (show (!(aR (aV (bS p0.size (aD p0)) false) (⟨#[115,115,104,45,101,100,50,53,53,49,57]⟩:ByteArray)))=false from hsig.2.1)) (v4 pT))))))) <|Tri.cond (x:=(((((bf p0).size:Nat):Int):Int) != 64)) (by kernel_rfl) (fun h=>absurd (h.symm.trans hsig.2.2) (by decide)) (fun h=>?_)
 exact Tri.skip <|Xt [El 2 400 ((bf p0).size)] [24,5] [Mi 400 ((bf p0).size) (aD (bf p0))] [] 432 (v3 pT) <|Xz [(400,0)] pz
theorem ME {p0:ByteArray} (h:je p0=false):0<(bf p0).size:=by
 have h3:=ak (DO h).2.2
 have e:(bf p0).size=(fo p0).size:=rfl
 omega
def lc (p0:ByteArray):ByteArray :=
 (aV (bJ (bS p0.size (aD p0)) false) (bI (bS p0.size (aD p0)) false))
def oY (p0:ByteArray):List Int :=
 (bJ (bJ (bS p0.size (aD p0)) false) (bI (bS p0.size (aD p0)) false))
def oh (p0:ByteArray):Bool :=
 (bI (bJ (bS p0.size (aD p0)) false) (bI (bS p0.size (aD p0)) false))
def sX:List AV→List Blk→Option (Prop × Ret)
 |[.sc (.s p0)],[]=>some ((((je p0)=true)∧(p0.size≤1000000000)),⟨.sc (.nils),[]⟩)
 |_,_=>none
theorem zx:Known Tryz.prog gD 37 ⟨0,0,sX⟩:=by
 refine Xw Tryz.f37 27 (Zc zE 64 [.io] [] [48] <|Zc ij 112 [.io] [] [64] <|Zc ij 144 [.io] [] [64] <|Zc tf 208 [.io] [] [64] <|Zn) mixed <|fun E args ks C r h hC hlen=>?_
 simp only at h
 unfold sX at h
 split at h
 rotate_left
 cases h
 rename_i p0
 cases h
 simp only [am] at hlen
 have hG0:=hC.1
 have hC:=hC.2
 refine ⟨rfl,?_⟩
 refine Xs [] [] 32 (v1 pT) <|Xt [Ep 3 64] [0] [Mc 64 [.ro .u8 (bS p0.size (aD p0)),.b false]] [] 96 (v2 (pu (pa pT (pa (Yr p0.size) pT)) (v1 pT))) <|Xt [Es 5 (lc p0),Es 4 (aV (bS p0.size (aD p0)) false)] [] [Mc 64 [.ro .u8 (oY p0),.b (oh p0)]] [64] 192 (v1 (pu pz (v1 (pu pz (v2 pT))))) <|Tri.seq <|Tri.split (!(gw (oY p0) (oh p0))) (fun h1=>?_) (fun h1=>?_)
 exact Xu [Eb 16 true] none [Eb 24 true] [4,3] [] [64] 384 (v1 (pu pz (v1 (pg h1 (v8 pT))))) <|Tri.cond_true (by kernel_rfl) <|Xs [(2,.sc (.nils))] [24,5] 400 (v1 pT) <|Xy [] pz rfl
 refine Tri.split (!(aR (aV (bS p0.size (aD p0)) false) (⟨#[115,115,104,45,101,100,50,53,53,49,57]⟩:ByteArray))) (fun h2=>?_) (fun h2=>?_)
 exact Xu [Eb 16 false,Eb 20 true] none [Eb 24 true] [4,3] [] [64] 384 (v1 (pu pz (v1 (pg h1 (v3 (pg h2 (v4 pT))))))) <|Tri.cond_true (by kernel_rfl) <|Xs [(2,.sc (.nils))] [24,5] 400 (v1 pT) <|Xy [] pz rfl
 refine Xu [Eb 16 false,Eb 20 false] none [Eb 24 (((((lc p0).size:Nat):Int):Int) != 64)] [4,3] [] [64] 384 (v1 (pu pz (v1 (pg h1 (v3 (pg h2 (v4 pT))))))) <|Tri.cond (x:=(((((lc p0).size:Nat):Int):Int) != 64)) (by kernel_rfl) (fun h=>?_) (fun h=>absurd (h.symm.trans (LS hG0 h1 h2)) (by decide))
 exact Xs [(2,.sc (.nils))] [24,5] 400 (v1 pT) <|Xy [] pz rfl
def lm (p0:ByteArray):List Int :=
 (ga 1 [30] p0)
def Mn:List AV→List Blk→Option (Prop × Ret)
 |[.sc (.s p0)],[]=>some ((p0.size≤1000000000),⟨.sc (.sl 0 0 ((1+4)+p0.size) 1 none),[some (.ints .u8 ((1+4)+p0.size) (lm p0))]⟩)
 |_,_=>none
theorem Qz:Known Tryz.prog gD 17 ⟨0,1,Mn⟩:=by
 refine Xw Tryz.f17 6 (Zc jw 64 [.io,.val] [] [32] <|Zn) mixed <|fun E args ks C r h hC hlen=>?_
 simp only at h
 unfold Mn at h
 split at h
 rotate_left
 cases h
 rename_i p0
 cases h
 simp only [am] at hlen
 refine ⟨rfl,?_⟩
 exact Xs [] [] 32 (v1 pT) <|Xt [El 2 64 ((1+4)+p0.size)] [0] [Mi 64 ((1+4)+p0.size) (ga 1 [30] p0)] [] 96 (pu (Yf 1) (v1 (pu (pa pT (pa (Yr 1) (lo (1≤1000000000∧p0.size≤1000000000)))) (v1 pT)))) <|Xz [(64,0)] pz
def iU (p0:List Int):Bool :=
 (gw (bJ (aq p0 false) (ao p0 false)) (bI (aq p0 false) (ao p0 false)))
def ec (p0:List Int):ByteArray :=
 (sel (((db p0 false):Int) != 30) (⟨#[]⟩:ByteArray) (sel (!(iU p0)) (⟨#[]⟩:ByteArray) (sel (((((aV (aq p0 false) (ao p0 false)).size:Nat):Int):Int) != 32) (⟨#[]⟩:ByteArray) (aV (aq p0 false) (ao p0 false)))))
def xL:List AV→List Blk→Option (Prop × Ret)
 |[.sc (.ro .u8 p0)],[]=>some ((p0.length≤1000000000),⟨.sc (.s (ec p0)),[]⟩)
 |_,_=>none
theorem ru:Known Tryz.prog gD 16 ⟨0,0,xL⟩:=by
 refine Xw Tryz.f16 25 (Zc CN 48 [.ro .u8] [] [] <|Zc vG 96 [.io] [] [48] <|Zc ij 128 [.io] [] [48] <|Zc tf 240 [.io] [] [48] <|Zn) mixed <|fun E args ks C r h hC hlen=>?_
 simp only at h
 unfold xL at h
 split at h
 rotate_left
 cases h
 rename_i p0
 cases h
 simp only [am] at hlen
 refine ⟨rfl,?_⟩
 refine Xs [] [] 32 (v1 pT) <|Xt [Ep 3 48] [0] [Mc 48 [.ro .u8 p0,.b false]] [] 80 (v1 (pu (pa pz pT) (v1 pT))) <|Xt [Es 5 (aV (aq p0 false) (ao p0 false)),Ek 4 .u8 (db p0 false)] [] [Mc 48 [.ro .u8 (bJ (aq p0 false) (ao p0 false)),.b (bI (aq p0 false) (ao p0 false))]] [48] 176 (v1 (pu pz (v1 (pu pz (v2 pT))))) <|Tri.seq <|Tri.split (((db p0 false):Int) != 30) (fun h1=>?_) (fun h1=>?_)
 have h1':=bO h1
 exact Xu [Eb 14 true] none [Eb 23 true] [4,3] [] [48] 368 (v2 (pg h1 (v9 pT))) <|Tri.cond_true (by kernel_rfl) <|Xs [Es 2 (⟨#[]⟩:ByteArray)] [23,5] 384 (v1 pT) <|Xy [] pz (by simp only [ec,h1,aB,aA] <;> rfl)
 have h1':=ak h1
 refine Tri.split (!(iU p0)) (fun h2=>?_) (fun h2=>?_)
 exact Xu [Eb 14 false,Eb 19 true] none [Eb 23 true] [4,3] [] [48] 368 (v2 (pg h1 (v1 (pu pz (v2 (pg h2 (v4 pT))))))) <|Tri.cond_true (by kernel_rfl) <|Xs [Es 2 (⟨#[]⟩:ByteArray)] [23,5] 384 (v1 pT) <|Xy [] pz (by simp only [ec,h1,h2,aB,aA] <;> rfl)
 refine Xu [Eb 14 false,Eb 19 false] none [Eb 23 (((((aV (aq p0 false) (ao p0 false)).size:Nat):Int):Int) != 32)] [4,3] [] [48] 368 (v2 (pg h1 (v1 (pu pz (v2 (pg h2 (v4 pT))))))) <|Xa (fun h3=>?_) (fun h3=>?_)
 have h3':=bO h3
 exact Xs [Es 2 (⟨#[]⟩:ByteArray)] [23,5] 384 (v1 pT) <|Xy [] pz (by simp only [ec,h1,h2,h3,aB,aA] <;> rfl)
 have h3':=ak h3
 exact Tri.skip <|Xs [Es 2 (aV (aq p0 false) (ao p0 false))] [23,5] 400 (v2 pT) <|Xy [] pz (by simp only [ec,h1,h2,h3,aB,aA] <;> rfl)
theorem JF (p:List Int) (h:p.length≤1000):(eV p).size≤p.length+19:=by
 have sz:(⟨#[115,115,104,45,101,100,50,53,53,49,57]⟩:ByteArray).size=11:=rfl
 unfold eV
 rw [ae,List.length_take,sz,ae]
 omega
theorem AM (s:ByteArray) (h:s.size≤1000000000):(il s).size≤s.size+19:=by
 have sz:(⟨#[115,115,104,45,101,100,50,53,53,49,57]⟩:ByteArray).size=11:=rfl
 unfold il
 rw [ae,List.length_take,sz]
 omega
theorem FL {A B C D:List Int} (a:A.length≤10000) (b:B.length≤10000) (c:C.length≤10000) (d:D.length≤10000):[A,B,C,D].flatten.length≤1000000000∧[A,B,C,D].length≤1000000000:=by
 refine ⟨?_,(show 4≤1000000000 by decide)⟩
 simp only [List.flatten_cons,List.flatten_nil,List.length_append,List.length_nil]
 omega
theorem jK {p:ByteArray}:aC (aD p) p.size 0 p.size=aD p:=ah (aU p)
def kK (p10:ByteArray) (p11:ByteArray) (p12:List Int) (p13:List Int) (p14:ByteArray) (p15:ByteArray) (p16:ByteArray) (p17:List Int) (p1:ByteArray):List Int :=
 (rV (aC (aD p1) p1.size 0 p1.size) (aC (fc p10 p11 p12 p13 p14 p15 p16 p17) 32 0 32))
def iZ (p10:ByteArray) (p11:ByteArray) (p12:List Int) (p13:List Int) (p14:ByteArray) (p15:ByteArray) (p16:ByteArray) (p17:List Int) (p1:ByteArray):ByteArray :=
 (eV (aC (kK p10 p11 p12 p13 p14 p15 p16 p17 p1) (sel (((FT9 (aC (aD p1) p1.size 0 p1.size)):Int) != 0) 0 64) 0 (sel (((FT9 (aC (aD p1) p1.size 0 p1.size)):Int) != 0) 0 64)))
def oG (p10:ByteArray) (p11:ByteArray) (p12:List Int) (p13:List Int) (p14:ByteArray) (p15:ByteArray) (p16:ByteArray) (p17:List Int) (p1:ByteArray):List Int :=
 (ga ((((1+4)+p14.size)+4)+p16.size) (ga ((1+4)+p14.size) (ga 1 [31] p14) p16) (iZ p10 p11 p12 p13 p14 p15 p16 p17 p1))
def iL (p10:ByteArray) (p11:ByteArray) (p12:List Int) (p13:List Int) (p14:ByteArray) (p15:ByteArray) (p16:ByteArray) (p17:List Int) (p1:ByteArray):Int :=
 (sel (((pL (aC (aD p1) p1.size 0 p1.size) (aC (fc p10 p11 p12 p13 p14 p15 p16 p17) 32 0 32)):Int) != 0) (pL (aC (aD p1) p1.size 0 p1.size) (aC (fc p10 p11 p12 p13 p14 p15 p16 p17) 32 0 32)) 0)
def aP (p10:ByteArray) (p11:ByteArray) (p12:List Int) (p13:List Int) (p14:ByteArray) (p15:ByteArray) (p16:ByteArray) (p17:List Int) (p1:ByteArray):List Int :=
 (sel (((pL (aC (aD p1) p1.size 0 p1.size) (aC (fc p10 p11 p12 p13 p14 p15 p16 p17) 32 0 32)):Int) != 0) ([]:List Int) (oG p10 p11 p12 p13 p14 p15 p16 p17 p1))
def aF (p10:ByteArray) (p11:ByteArray) (p12:List Int) (p13:List Int) (p14:ByteArray) (p15:ByteArray) (p16:ByteArray) (p17:List Int) (p1:ByteArray):Nat :=
 (sel (((pL (aC (aD p1) p1.size 0 p1.size) (aC (fc p10 p11 p12 p13 p14 p15 p16 p17) 32 0 32)):Int) != 0) 0 ((((((1+4)+p14.size)+4)+p16.size)+4)+(iZ p10 p11 p12 p13 p14 p15 p16 p17 p1).size))
theorem Et {p10:ByteArray } {p11:ByteArray } {p12:List Int } {p13:List Int } {p14:ByteArray } {p15:ByteArray } {p16:ByteArray } {p17:List Int} {p1:ByteArray} {n:Nat} (h:(aC (kK p10 p11 p12 p13 p14 p15 p16 p17 p1) n 0 n).length≤64) (e:n=sel (((FT9 (aC (aD p1) p1.size 0 p1.size)):Int) != 0) 0 64):(iZ p10 p11 p12 p13 p14 p15 p16 p17 p1).size≤83:=by
 subst e
 exact Nat.le_trans (JF _ (Nat.le_trans h (by decide))) (by omega)
def Dp:List AV→List Blk→Option (Prop × Ret)
 |[.agg [.s p10,.s p11,.ro .u8 p12,.ro .u8 p13,.s p14,.s p15,.s p16,.ro .u8 p17],.sc (.s p1)],[]=>some ((fb p10 p11 p12 p13 p14 p15 p16 p17∧p1.size≤1000),⟨.tup [.sc (.sl 0 0 (aF p10 p11 p12 p13 p14 p15 p16 p17 p1) 1 none),.sc (.i .i64 (iL p10 p11 p12 p13 p14 p15 p16 p17 p1))],[some (.ints .u8 (aF p10 p11 p12 p13 p14 p15 p16 p17 p1) (aP p10 p11 p12 p13 p14 p15 p16 p17 p1))]⟩)
 |_,_=>none
theorem KV:Known Tryz.prog gD 6 ⟨0,1,Dp⟩:=by
 refine Xw Tryz.f6 30 (Zc CA 112 [.io] [] [] <|Zc Sg 128 [.ro .u8,.ro .u8] [80,112] [] <|Zc jw 304 [.io,.val] [] [256] <|Zc jw 368 [.io,.val] [] [304] <|Zc jw 416 [.io,.val] [] [368] <|Zc Pe 400 [.ro .u8] [128] [] <|Zn) mixed <|fun E args ks C r h hC hlen=>?_
 simp only at h
 unfold Dp at h
 split at h
 rotate_left
 cases h
 rename_i p10 p11 p12 p13 p14 p15 p16 p17 p1
 cases h
 simp only [am] at hlen
 have r0:=hC.1
 obtain ⟨⟨q1,q2,q3,q4,q5,q6,q7,q8⟩,r1⟩:=hC
 have hs64:=HU (((FT9 (aC (aD p1) p1.size 0 p1.size)):Int) != 0)
 refine ⟨rfl,?_⟩
 refine Xt [Ep 2 16] [0] [Mc 16 [.s p10,.s p11,.ro .u8 p12,.ro .u8 p13,.s p14,.s p15,.s p16,.ro .u8 p17]] [] 64 (v3 pT) <|Xt [Ei 7 (pL (aC (aD p1) p1.size 0 p1.size) (aC (fc p10 p11 p12 p13 p14 p15 p16 p17) 32 0 32)),El 6 128 (sel (((FT9 (aC (aD p1) p1.size 0 p1.size)):Int) != 0) 0 64)] [1] [Mi 128 (sel (((FT9 (aC (aD p1) p1.size 0 p1.size)):Int) != 0) 0 64) (kK p10 p11 p12 p13 p14 p15 p16 p17 p1)] [] 224 (v2 (pu (Yw 8) (pu (pa pT (lo (fb p10 p11 p12 p13 p14 p15 p16 p17))) (pu (pa (pa (Yw p1.size) (pa (Yw 32) pT)) (pl (show (aC (fc p10 p11 p12 p13 p14 p15 p16 p17) 32 0 32).length≤10000 from aL (by decide) (by rw [tv];decide)))) (v5 pT))))) <|Tri.seq <|Tri.len 128 rfl <|fun hl1=>Xs [Eb 17 (((pL (aC (aD p1) p1.size 0 p1.size) (aC (fc p10 p11 p12 p13 p14 p15 p16 p17) 32 0 32)):Int) != 0)] [] 256 (v2 pT) <|Xa (fun h2=>?_) (fun h2=>?_)
 have h2':=bO h2
 exact Tri.len 128 rfl <|fun hl3=>Xt [Ei 5 (pL (aC (aD p1) p1.size 0 p1.size) (aC (fc p10 p11 p12 p13 p14 p15 p16 p17) 32 0 32)),(4,.sc (.nils))] [17,7,6,2] [] [128,16] 304 (v3 pT) <|Tri.sub (Sub.openNil (U:=304) (U':=320) 4 304 1 .u8 none (.inl rfl) (by decide) (by decide) (by kernel_rfl) (by kernel_rfl)) <|Xy [(304,0)] (pa pT pz) (by simp only [iL,aP,aF,h2,aB,aA] <;> rfl)
 have h2':=ak h2
 exact Tri.skip <|Tri.len 128 rfl <|fun hl4=>Xu [] (some [0,0,2,7,0,16,48,127,0,511,1023,2047,4095]) [Ei 5 0,El 4 416 ((((((1+4)+p14.size)+4)+p16.size)+4)+(iZ p10 p11 p12 p13 p14 p15 p16 p17 p1).size)] [17,7,6,2] [Mi 416 ((((((1+4)+p14.size)+4)+p16.size)+4)+(iZ p10 p11 p12 p13 p14 p15 p16 p17 p1).size) (oG p10 p11 p12 p13 p14 p15 p16 p17 p1)] [128,16] 464 (pu (Yf 1) (v1 (pu (Yl 4 8) (pu (pa pT (pa (Yr 1) (lo (1≤1000000000∧p14.size≤1000000000)))) (v1 (pu (Yi 1 2) (pu (Yl 6 8) (pu (pa pT (pa (Yr ((1+4)+p14.size)) (lo (((1+4)+p14.size)≤1000000000∧p16.size≤1000000000)))) (v1 (pu (pa (pa (lo (0+(sel (((FT9 (aC (aD p1) p1.size 0 p1.size)):Int) != 0) 0 64)≤(sel (((FT9 (aC (aD p1) p1.size 0 p1.size)):Int) != 0) 0 64))) pT) (lo ((aC (kK p10 p11 p12 p13 p14 p15 p16 p17 p1) (sel (((FT9 (aC (aD p1) p1.size 0 p1.size)):Int) != 0) 0 64) 0 (sel (((FT9 (aC (aD p1) p1.size 0 p1.size)):Int) != 0) 0 64)).length≤1000000000))) (pu (pa pT (pa (Yr ((((1+4)+p14.size)+4)+p16.size)) (pl (show ((((1+4)+p14.size)+4)+p16.size)≤1000000000∧(iZ p10 p11 p12 p13 p14 p15 p16 p17 p1).size≤1000000000 from ⟨by omega,Nat.le_trans (Et (aL (by omega) (by omega)) rfl) (by decide)⟩)))) (v2 pT)))))))))))) <|Xy [(416,0)] (pa pT pz) (by simp only [iL,aP,aF,h2,aB,aA] <;> rfl)
theorem xm {l:List Int}:(bytesOf ((l.drop 0).take 64)).size≤64:=by rw [ae,List.length_take];exact Nat.min_le_left _ _
def lI (p10:ByteArray) (p11:ByteArray) (p12:List Int) (p13:List Int) (p14:ByteArray) (p15:ByteArray) (p16:ByteArray) (p17:List Int) (p1:ByteArray):List Int :=
 (LY (aC (aD p1) p1.size 0 p1.size) (aC (bv p10 p11 p12 p13 p14 p15 p16 p17) 32 0 32))
def bT (p10:ByteArray) (p11:ByteArray) (p12:List Int) (p13:List Int) (p14:ByteArray) (p15:ByteArray) (p16:ByteArray) (p17:List Int) (p1:ByteArray):ByteArray :=
 (il (bytesOf (((lI p10 p11 p12 p13 p14 p15 p16 p17 p1).drop 0).take 64)))
def pJ (p10:ByteArray) (p11:ByteArray) (p12:List Int) (p13:List Int) (p14:ByteArray) (p15:ByteArray) (p16:ByteArray) (p17:List Int) (p1:ByteArray):List Int :=
 (ta ([aC [31] 1 0 1,aC (bG p14) (4+p14.size) 0 (4+p14.size),aC (bG p16) (4+p16.size) 0 (4+p16.size),aC (bG (bT p10 p11 p12 p13 p14 p15 p16 p17 p1)) (4+(bT p10 p11 p12 p13 p14 p15 p16 p17 p1).size) 0 (4+(bT p10 p11 p12 p13 p14 p15 p16 p17 p1).size)]))
def lr (p10:ByteArray) (p11:ByteArray) (p12:List Int) (p13:List Int) (p14:ByteArray) (p15:ByteArray) (p16:ByteArray) (p17:List Int) (p1:ByteArray):List Int :=
 (pJ p10 p11 p12 p13 p14 p15 p16 p17 p1)
def ge (p10:ByteArray) (p11:ByteArray) (p12:List Int) (p13:List Int) (p14:ByteArray) (p15:ByteArray) (p16:ByteArray) (p17:List Int) (p1:ByteArray):Nat :=
 (kY ([aC [31] 1 0 1,aC (bG p14) (4+p14.size) 0 (4+p14.size),aC (bG p16) (4+p16.size) 0 (4+p16.size),aC (bG (bT p10 p11 p12 p13 p14 p15 p16 p17 p1)) (4+(bT p10 p11 p12 p13 p14 p15 p16 p17 p1).size) 0 (4+(bT p10 p11 p12 p13 p14 p15 p16 p17 p1).size)]))
theorem pW {p10:ByteArray } {p11:ByteArray } {p12:List Int } {p13:List Int } {p14:ByteArray } {p15:ByteArray } {p16:ByteArray } {p17:List Int} {p1:ByteArray}:(bT p10 p11 p12 p13 p14 p15 p16 p17 p1).size≤83:=by
 have hl:∀ l:List Int,(bytesOf ((l.drop 0).take 64)).size≤64:=fun l=>by rw [ae,List.length_take];omega
 unfold bT
 exact Nat.le_trans (AM _ (Nat.le_trans (hl _) (by decide))) (Nat.add_le_add_right (hl _) 19)
def AZ:List AV→List Blk→Option (Prop × Ret)
 |[.agg [.s p10,.s p11,.ro .u8 p12,.ro .u8 p13,.s p14,.s p15,.s p16,.ro .u8 p17],.sc (.s p1)],[]=>some ((fb p10 p11 p12 p13 p14 p15 p16 p17∧p1.size=32),⟨.sc (.sl 0 0 (ge p10 p11 p12 p13 p14 p15 p16 p17 p1) 1 none),[some (.ints .u8 (ge p10 p11 p12 p13 p14 p15 p16 p17 p1) (lr p10 p11 p12 p13 p14 p15 p16 p17 p1))]⟩)
 |_,_=>none
theorem IB:Known Tryz.prog gD 7 ⟨0,1,AZ⟩:=by
 refine Xw Tryz.f7 25 (Zv kA 192 1 <|Zv kA 256 1 <|Zv kA 320 1 <|Zc SU 112 [.ro .u8,.ro .u8] [64,96] [] <|Zc KU 96 [.io] [] [] <|Zc LM 352 [.rob] [336,144,192,256,320] [] <|Zv Lr 304 1 <|Zn) mixed <|fun E args ks C r h hC hlen=>?_
 simp only at h
 unfold AZ at h
 split at h
 rotate_left
 cases h
 rename_i p10 p11 p12 p13 p14 p15 p16 p17 p1
 cases h
 simp only [am] at hlen
 have r0:=hC.1
 obtain ⟨⟨q1,q2,q3,q4,q5,q6,q7,q8⟩,r1⟩:=hC
 refine ⟨rfl,?_⟩
 refine Xt [Ep 2 16] [0] [Mc 16 [.s p10,.s p11,.ro .u8 p12,.ro .u8 p13,.s p14,.s p15,.s p16,.ro .u8 p17]] [] 48 (v2 pT) <|Xt [El 5 112 64] [1] [Mi 112 64 (lI p10 p11 p12 p13 p14 p15 p16 p17 p1)] [] 144 (v2 (pu (Yw 8) (pu (pa pT (lo (fb p10 p11 p12 p13 p14 p15 p16 p17))) (pu (pa (pa (Yw p1.size) (pa (Yw 32) pT)) (pl (show (aC (aD p1) p1.size 0 p1.size).length=32∧(aC (bv p10 p11 p12 p13 p14 p15 p16 p17) 32 0 32).length≤10000 from ⟨by rw [jK,aU];exact r1,aL (by decide) (by rw [kX];decide)⟩))) (v1 pT))))) <|Tri.len 112 rfl <|fun hl1=>Xu [] (some [0,0,2,6,0,16,48,126,0,256,1022,2046,4095,8191,16383]) [El 4 352 (kY ([aC [31] 1 0 1,aC (bG p14) (4+p14.size) 0 (4+p14.size),aC (bG p16) (4+p16.size) 0 (4+p16.size),aC (bG (bT p10 p11 p12 p13 p14 p15 p16 p17 p1)) (4+(bT p10 p11 p12 p13 p14 p15 p16 p17 p1).size) 0 (4+(bT p10 p11 p12 p13 p14 p15 p16 p17 p1).size)]))] [5,2] [Mi 352 (kY ([aC [31] 1 0 1,aC (bG p14) (4+p14.size) 0 (4+p14.size),aC (bG p16) (4+p16.size) 0 (4+p16.size),aC (bG (bT p10 p11 p12 p13 p14 p15 p16 p17 p1)) (4+(bT p10 p11 p12 p13 p14 p15 p16 p17 p1).size) 0 (4+(bT p10 p11 p12 p13 p14 p15 p16 p17 p1).size)])) (pJ p10 p11 p12 p13 p14 p15 p16 p17 p1)] [112,16] 384 (pu (Yf 1) (v1 (pu (Yl 4 8) (pu (pa pT (Ye p14.size 1000000000)) (v1 (pu (Yi 1 2) (pu (Yl 6 8) (pu (pa pT (Ye p16.size 1000000000)) (v1 (pu (Yw 64) (pu (pa pT (pl (show (bytesOf (((lI p10 p11 p12 p13 p14 p15 p16 p17 p1).drop 0).take 64)).size≤1000000000 from by (with_reducible exact Nat.le_trans xm (by omega))))) (pu (pa pT (pl (show (bT p10 p11 p12 p13 p14 p15 p16 p17 p1).size≤1000000000 from Nat.le_trans pW (by decide)))) (pu (Yf 4) (pu (pa (pa (pa (ld (0+4≤4)) (pa (Yw 1) (pa (Yw (4+p14.size)) (pa (Yw (4+p16.size)) (pa (Yw (4+(bT p10 p11 p12 p13 p14 p15 p16 p17 p1).size)) pT))))) pT) (pl (show ([aC [31] 1 0 1,aC (bG p14) (4+p14.size) 0 (4+p14.size),aC (bG p16) (4+p16.size) 0 (4+p16.size),aC (bG (bT p10 p11 p12 p13 p14 p15 p16 p17 p1)) (4+(bT p10 p11 p12 p13 p14 p15 p16 p17 p1).size) 0 (4+(bT p10 p11 p12 p13 p14 p15 p16 p17 p1).size)]).flatten.length≤1000000000∧([aC [31] 1 0 1,aC (bG p14) (4+p14.size) 0 (4+p14.size),aC (bG p16) (4+p16.size) 0 (4+p16.size),aC (bG (bT p10 p11 p12 p13 p14 p15 p16 p17 p1)) (4+(bT p10 p11 p12 p13 p14 p15 p16 p17 p1).size) 0 (4+(bT p10 p11 p12 p13 p14 p15 p16 p17 p1).size)]).length≤1000000000 from FL (aL (xs:=[31]) (by omega) (by simp only [List.length_cons,List.length_nil];omega)) (aL (by omega) (by rw [fN];omega)) (aL (by omega) (by rw [fN];omega)) (aL (Nat.le_trans (Nat.add_le_add_left pW 4) (by decide)) (by rw [fN];exact Nat.le_trans (Nat.add_le_add_left pW 4) (by decide)))))) (v1 pT))))))))))))))) ?_
 exact Xz [(352,0)] pz
def cW (p0:List Int):ByteArray :=
 (aV (bJ (aq p0 false) (ao p0 false)) (bI (aq p0 false) (ao p0 false)))
def bC (p0:List Int):List Int :=
 (bJ (bJ (aq p0 false) (ao p0 false)) (bI (aq p0 false) (ao p0 false)))
def bB (p0:List Int):Bool :=
 (bI (bJ (aq p0 false) (ao p0 false)) (bI (aq p0 false) (ao p0 false)))
def dj (p0:List Int):Bool :=
 (gw (bJ (bC p0) (bB p0)) (bI (bC p0) (bB p0)))
def cD (p0:List Int):ByteArray :=
 (sel (je (aV (bC p0) (bB p0))) (⟨#[]⟩:ByteArray) (sel (((db p0 false):Int) != 31) (⟨#[]⟩:ByteArray) (sel (!(dj p0)) (⟨#[]⟩:ByteArray) (sel (aR (cy (aV (aq p0 false) (ao p0 false))) (⟨#[]⟩:ByteArray)) (⟨#[]⟩:ByteArray) (sel (((((cW p0).size:Nat):Int):Int) != 32) (⟨#[]⟩:ByteArray) (aV (aq p0 false) (ao p0 false)))))))
def bH (p0:List Int):ByteArray :=
 (sel (je (aV (bC p0) (bB p0))) (⟨#[]⟩:ByteArray) (sel (((db p0 false):Int) != 31) (⟨#[]⟩:ByteArray) (sel (!(dj p0)) (⟨#[]⟩:ByteArray) (sel (aR (cy (aV (aq p0 false) (ao p0 false))) (⟨#[]⟩:ByteArray)) (⟨#[]⟩:ByteArray) (sel (((((cW p0).size:Nat):Int):Int) != 32) (⟨#[]⟩:ByteArray) (cW p0))))))
def bp (p0:List Int):Bool :=
 (sel (je (aV (bC p0) (bB p0))) false (sel (((db p0 false):Int) != 31) false (sel (!(dj p0)) false (sel (aR (cy (aV (aq p0 false) (ao p0 false))) (⟨#[]⟩:ByteArray)) false (sel (((((cW p0).size:Nat):Int):Int) != 32) false true)))))
def ag (p0:List Int):List Int :=
 (sel (je (aV (bC p0) (bB p0))) ([]:List Int) (sel (((db p0 false):Int) != 31) ([]:List Int) (sel (!(dj p0)) ([]:List Int) (sel (aR (cy (aV (aq p0 false) (ao p0 false))) (⟨#[]⟩:ByteArray)) ([]:List Int) (sel (((((cW p0).size:Nat):Int):Int) != 32) ([]:List Int) (iW (aV (bC p0) (bB p0))))))))
def aJ (p0:List Int):Nat :=
 (sel (je (aV (bC p0) (bB p0))) 0 (sel (((db p0 false):Int) != 31) 0 (sel (!(dj p0)) 0 (sel (aR (cy (aV (aq p0 false) (ao p0 false))) (⟨#[]⟩:ByteArray)) 0 (sel (((((cW p0).size:Nat):Int):Int) != 32) 0 ((bf (aV (bC p0) (bB p0))).size))))))
def sW:List AV→List Blk→Option (Prop × Ret)
 |[.sc (.ro .u8 p0)],[]=>some ((p0.length≤1000000000),⟨.tup [.sc (.s (cD p0)),.sc (.s (bH p0)),.sc (.sl 0 0 (aJ p0) 1 none),.sc (.b (bp p0))],[some (.ints .u8 (aJ p0) (ag p0))]⟩)
 |_,_=>none
def zz:KL Tryz.prog gD:=Zv oo 480 1 <|Zv oo 1088 1 <|Zc CN 96 [.ro .u8] [] [] <|Zc vG 144 [.io] [] [96] <|Zc vG 752 [.io] [] [96] <|Zc ij 176 [.io] [] [96] <|Zc ij 208 [.io] [] [96] <|Zc ij 240 [.io] [] [96] <|Zc ij 784 [.io] [] [96] <|Zc ij 816 [.io] [] [96] <|Zc ij 848 [.io] [] [96] <|Zv zx 256 1 <|Zv AB 864 1 <|Zc tf 400 [.io] [] [96] <|Zc tf 1008 [.io] [] [96] <|Zn
theorem sm:Known Tryz.prog gD 8 ⟨0,1,sW⟩:=by
 refine Xw Tryz.f8 46 zz mixed <|fun E args ks C r h hC hlen=>?_
 simp only at h
 unfold sW at h
 split at h
 rotate_left
 cases h
 rename_i p0
 cases h
 simp only [am] at hlen
 refine ⟨rfl,?_⟩
 refine Xs [] [] 80 (v4 pT) <|Xt [Ep 6 96] [0] [Mc 96 [.ro .u8 p0,.b false]] [] 128 (v1 (pu (pa pz pT) (v1 pT))) <|Tri.split (je (aV (bC p0) (bB p0))) (fun h1=>?_) (fun h1=>?_)
 refine Xt [(10,.sc (.nils)),Es 9 (cW p0),Es 8 (aV (aq p0 false) (ao p0 false)),Ek 7 .u8 (db p0 false)] [] [Mc 96 [.ro .u8 (bJ (bC p0) (bB p0)),.b (bI (bC p0) (bB p0))]] [96] 336 (v1 (pu pz (v1 (pu pz (v1 (pu pz (v1 (pu pz (pu (pa pT (pa (pl h1) (pl (show (aV (bC p0) (bB p0)).size≤1000000000 from Nat.le_trans (fH _ _) (by decide))))) (v4 pT)))))))))) <|Tri.seq <|Tri.split (((db p0 false):Int) != 31) (fun h2=>?_) (fun h2=>?_)
 have h2':=bO h2
 exact Xu [Eb 24 true] none [Eb 42 true] [7,6] [] [96] 672 (v2 (pg h2 (v9 (v9 pT)))) <|Tri.cond_true (by kernel_rfl) <|Xs [Eb 5 false,(4,.sc (.nils)),Es 3 (⟨#[]⟩:ByteArray),Es 2 (⟨#[]⟩:ByteArray)] [42,10,9,8] 736 (v4 pT) <|Tri.sub (Sub.openNil (U:=736) (U':=752) 4 736 1 .u8 none (.inl rfl) (by decide) (by decide) (by kernel_rfl) (by kernel_rfl)) <|Xy [(736,0)] (pa pT (pa pT (pa pT pz))) (by simp only [cD,bH,bp,ag,aJ,h1,h2,aB,aA] <;> rfl)
 have h2':=ak h2
 refine Tri.split (!(dj p0)) (fun h3=>?_) (fun h3=>?_)
 exact Xu [Eb 24 false,Eb 29 true] none [Eb 42 true] [7,6] [] [96] 672 (v2 (pg h2 (v1 (pu pz (v2 (pg h3 (v4 (v9 pT)))))))) <|Tri.cond_true (by kernel_rfl) <|Xs [Eb 5 false,(4,.sc (.nils)),Es 3 (⟨#[]⟩:ByteArray),Es 2 (⟨#[]⟩:ByteArray)] [42,10,9,8] 736 (v4 pT) <|Tri.sub (Sub.openNil (U:=736) (U':=752) 4 736 1 .u8 none (.inl rfl) (by decide) (by decide) (by kernel_rfl) (by kernel_rfl)) <|Xy [(736,0)] (pa pT (pa pT (pa pT pz))) (by simp only [cD,bH,bp,ag,aJ,h1,h2,h3,aB,aA] <;> rfl)
 refine Tri.split (aR (cy (aV (aq p0 false) (ao p0 false))) (⟨#[]⟩:ByteArray)) (fun h4=>?_) (fun h4=>?_)
 exact Xu [Eb 24 false,Eb 29 false,Eb 34 true] none [Eb 42 true] [7,6] [] [96] 672 (v2 (pg h2 (v1 (pu pz (v2 (pg h3 (v1 (pu (pa pT (pl (show (aV (aq p0 false) (ao p0 false)).size≤1000000000 from Nat.le_trans (fH _ _) (by decide)))) (v2 (pg h4 (v8 pT))))))))))) <|Tri.cond_true (by kernel_rfl) <|Xs [Eb 5 false,(4,.sc (.nils)),Es 3 (⟨#[]⟩:ByteArray),Es 2 (⟨#[]⟩:ByteArray)] [42,10,9,8] 736 (v4 pT) <|Tri.sub (Sub.openNil (U:=736) (U':=752) 4 736 1 .u8 none (.inl rfl) (by decide) (by decide) (by kernel_rfl) (by kernel_rfl)) <|Xy [(736,0)] (pa pT (pa pT (pa pT pz))) (by simp only [cD,bH,bp,ag,aJ,h1,h2,h3,h4,aB,aA] <;> rfl)
 refine Tri.split (((((cW p0).size:Nat):Int):Int) != 32) (fun h5=>?_) (fun h5=>?_)
 have h5':=bO h5
 exact Xu [Eb 24 false,Eb 29 false,Eb 34 false,Eb 39 true] none [Eb 42 true] [7,6] [] [96] 672 (v2 (pg h2 (v1 (pu pz (v2 (pg h3 (v1 (pu (pa pT (pl (show (aV (aq p0 false) (ao p0 false)).size≤1000000000 from Nat.le_trans (fH _ _) (by decide)))) (v2 (pg h4 (v4 (pg h5 (v3 pT))))))))))))) <|Tri.cond_true (by kernel_rfl) <|Xs [Eb 5 false,(4,.sc (.nils)),Es 3 (⟨#[]⟩:ByteArray),Es 2 (⟨#[]⟩:ByteArray)] [42,10,9,8] 736 (v4 pT) <|Tri.sub (Sub.openNil (U:=736) (U':=752) 4 736 1 .u8 none (.inl rfl) (by decide) (by decide) (by kernel_rfl) (by kernel_rfl)) <|Xy [(736,0)] (pa pT (pa pT (pa pT pz))) (by simp only [cD,bH,bp,ag,aJ,h1,h2,h3,h4,h5,aB,aA] <;> rfl)
 have h5':=ak h5
 exact Xu [Eb 24 false,Eb 29 false,Eb 34 false,Eb 39 false] none [Eb 42 true] [7,6] [] [96] 672 (v2 (pg h2 (v1 (pu pz (v2 (pg h3 (v1 (pu (pa pT (pl (show (aV (aq p0 false) (ao p0 false)).size≤1000000000 from Nat.le_trans (fH _ _) (by decide)))) (v2 (pg h4 (v4 (pg h5 (v3 pT))))))))))))) <|Tri.cond_true (by kernel_rfl) <|Xs [Eb 5 false,(4,.sc (.nils)),Es 3 (⟨#[]⟩:ByteArray),Es 2 (⟨#[]⟩:ByteArray)] [42,10,9,8] 736 (v4 pT) <|Tri.sub (Sub.openNil (U:=736) (U':=752) 4 736 1 .u8 none (.inl rfl) (by decide) (by decide) (by kernel_rfl) (by kernel_rfl)) <|Xy [(736,0)] (pa pT (pa pT (pa pT pz))) (by simp only [cD,bH,bp,ag,aJ,h1,h2,h3,h4,h5,aB,aA] <;> rfl)
 refine Tri.sub (Sub.up (U':=736) (by decide)) <|Xt [El 10 864 ((bf (aV (bC p0) (bB p0))).size),Es 9 (cW p0),Es 8 (aV (aq p0 false) (ao p0 false)),Ek 7 .u8 (db p0 false)] [] [Mi 864 ((bf (aV (bC p0) (bB p0))).size) (iW (aV (bC p0) (bB p0))),Mc 96 [.ro .u8 (bJ (bC p0) (bB p0)),.b (bI (bC p0) (bB p0))]] [96] 944 (v1 (pu pz (v1 (pu pz (v1 (pu pz (v1 (pu pz (pu (pa pT (pa (pl h1) (pl (show (aV (bC p0) (bB p0)).size≤1000000000 from Nat.le_trans (fH _ _) (by decide))))) (v4 pT)))))))))) <|Tri.seq <|Tri.split (((db p0 false):Int) != 31) (fun h6=>?_) (fun h6=>?_)
 have h6':=bO h6
 exact Xu [Eb 24 true] none [Eb 42 true] [7,6] [] [96] 1280 (v2 (pg h6 (v9 (v9 pT)))) <|Tri.cond_true (by kernel_rfl) <|Xt [Eb 5 false,(4,.sc (.nils)),Es 3 (⟨#[]⟩:ByteArray),Es 2 (⟨#[]⟩:ByteArray)] [42,10,9,8] [] [864] 1344 (v4 pT) <|Tri.sub (Sub.openNil (U:=1344) (U':=1360) 4 1344 1 .u8 none (.inl rfl) (by decide) (by decide) (by kernel_rfl) (by kernel_rfl)) <|Xy [(1344,0)] (pa pT (pa pT (pa pT pz))) (by simp only [cD,bH,bp,ag,aJ,h1,h6,aB,aA] <;> rfl)
 have h6':=ak h6
 refine Tri.split (!(dj p0)) (fun h7=>?_) (fun h7=>?_)
 exact Xu [Eb 24 false,Eb 29 true] none [Eb 42 true] [7,6] [] [96] 1280 (v2 (pg h6 (v1 (pu pz (v2 (pg h7 (v4 (v9 pT)))))))) <|Tri.cond_true (by kernel_rfl) <|Xt [Eb 5 false,(4,.sc (.nils)),Es 3 (⟨#[]⟩:ByteArray),Es 2 (⟨#[]⟩:ByteArray)] [42,10,9,8] [] [864] 1344 (v4 pT) <|Tri.sub (Sub.openNil (U:=1344) (U':=1360) 4 1344 1 .u8 none (.inl rfl) (by decide) (by decide) (by kernel_rfl) (by kernel_rfl)) <|Xy [(1344,0)] (pa pT (pa pT (pa pT pz))) (by simp only [cD,bH,bp,ag,aJ,h1,h6,h7,aB,aA] <;> rfl)
 refine Tri.split (aR (cy (aV (aq p0 false) (ao p0 false))) (⟨#[]⟩:ByteArray)) (fun h8=>?_) (fun h8=>?_)
 exact Xu [Eb 24 false,Eb 29 false,Eb 34 true] none [Eb 42 true] [7,6] [] [96] 1280 (v2 (pg h6 (v1 (pu pz (v2 (pg h7 (v1 (pu (pa pT (pl (show (aV (aq p0 false) (ao p0 false)).size≤1000000000 from Nat.le_trans (fH _ _) (by decide)))) (v2 (pg h8 (v8 pT))))))))))) <|Tri.cond_true (by kernel_rfl) <|Xt [Eb 5 false,(4,.sc (.nils)),Es 3 (⟨#[]⟩:ByteArray),Es 2 (⟨#[]⟩:ByteArray)] [42,10,9,8] [] [864] 1344 (v4 pT) <|Tri.sub (Sub.openNil (U:=1344) (U':=1360) 4 1344 1 .u8 none (.inl rfl) (by decide) (by decide) (by kernel_rfl) (by kernel_rfl)) <|Xy [(1344,0)] (pa pT (pa pT (pa pT pz))) (by simp only [cD,bH,bp,ag,aJ,h1,h6,h7,h8,aB,aA] <;> rfl)
 refine Tri.split (((((cW p0).size:Nat):Int):Int) != 32) (fun h9=>?_) (fun h9=>?_)
 have h9':=bO h9
 exact Xu [Eb 24 false,Eb 29 false,Eb 34 false,Eb 39 true] none [Eb 42 true] [7,6] [] [96] 1280 (v2 (pg h6 (v1 (pu pz (v2 (pg h7 (v1 (pu (pa pT (pl (show (aV (aq p0 false) (ao p0 false)).size≤1000000000 from Nat.le_trans (fH _ _) (by decide)))) (v2 (pg h8 (v4 (pg h9 (v3 pT))))))))))))) <|Tri.cond_true (by kernel_rfl) <|Xt [Eb 5 false,(4,.sc (.nils)),Es 3 (⟨#[]⟩:ByteArray),Es 2 (⟨#[]⟩:ByteArray)] [42,10,9,8] [] [864] 1344 (v4 pT) <|Tri.sub (Sub.openNil (U:=1344) (U':=1360) 4 1344 1 .u8 none (.inl rfl) (by decide) (by decide) (by kernel_rfl) (by kernel_rfl)) <|Xy [(1344,0)] (pa pT (pa pT (pa pT pz))) (by simp only [cD,bH,bp,ag,aJ,h1,h6,h7,h8,h9,aB,aA] <;> rfl)
 have h9':=ak h9
 exact Xu [Eb 24 false,Eb 29 false,Eb 34 false,Eb 39 false] none [Eb 42 false] [7,6] [] [96] 1280 (v2 (pg h6 (v1 (pu pz (v2 (pg h7 (v1 (pu (pa pT (pl (show (aV (aq p0 false) (ao p0 false)).size≤1000000000 from Nat.le_trans (fH _ _) (by decide)))) (v2 (pg h8 (v4 (pg h9 (v1 (pu (pl (show 0<(bf (aV (bC p0) (bB p0))).size from ME (by assumption))) (v1 pT))))))))))))))) <|Tri.cond_false (by kernel_rfl) <|Tri.skip <|Xs [Eb 5 true,El 4 864 ((bf (aV (bC p0) (bB p0))).size),Es 3 (cW p0),Es 2 (aV (aq p0 false) (ao p0 false))] [42,10,9,8] 1392 (v7 pT) <|Xy [(864,0)] (pa pT (pa pT (pa pT pz))) (by simp only [cD,bH,bp,ag,aJ,h1,h6,h7,h8,h9,aB,aA] <;> rfl)
def cm (p0:List Int):ByteArray :=
 (cB p0 (af p0 (aK p0 0 false) (aO p0 0 false)) (bU p0 (aK p0 0 false) (aO p0 0 false)))
def dO (p0:List Int):Bool :=
 (bU p0 (af p0 (aK p0 0 false) (aO p0 0 false)) (bU p0 (aK p0 0 false) (aO p0 0 false)))
def cM (p0:List Int):ByteArray :=
 (cB p0 (af p0 (af p0 (aK p0 0 false) (aO p0 0 false)) (bU p0 (aK p0 0 false) (aO p0 0 false))) (dO p0))
def lE (p0:List Int):Bool :=
 (bU p0 (af p0 (af p0 (aK p0 0 false) (aO p0 0 false)) (bU p0 (aK p0 0 false) (aO p0 0 false))) (dO p0))
def dy (p0:List Int):Bool :=
 (lH p0 (af p0 (af p0 (af p0 (aK p0 0 false) (aO p0 0 false)) (bU p0 (aK p0 0 false) (aO p0 0 false))) (dO p0)) (lE p0))
def el (p0:List Int):ByteArray :=
 (cp (cB p0 (aK p0 0 false) (aO p0 0 false)) 32)
def cQ (p0:List Int):ByteArray :=
 (sel (((dH p0 0 false):Int) != 31) (⟨#[]⟩:ByteArray) (sel (!(dy p0)) (⟨#[]⟩:ByteArray) (sel (aR (el p0) (⟨#[]⟩:ByteArray)) (⟨#[]⟩:ByteArray) (sel (((((cm p0).size:Nat):Int):Int) != 32) (⟨#[]⟩:ByteArray) (sel (aR (cp (cM p0) 64) (⟨#[]⟩:ByteArray)) (⟨#[]⟩:ByteArray) (cB p0 (aK p0 0 false) (aO p0 0 false)))))))
def bW (p0:List Int):ByteArray :=
 (sel (((dH p0 0 false):Int) != 31) (⟨#[]⟩:ByteArray) (sel (!(dy p0)) (⟨#[]⟩:ByteArray) (sel (aR (el p0) (⟨#[]⟩:ByteArray)) (⟨#[]⟩:ByteArray) (sel (((((cm p0).size:Nat):Int):Int) != 32) (⟨#[]⟩:ByteArray) (sel (aR (cp (cM p0) 64) (⟨#[]⟩:ByteArray)) (⟨#[]⟩:ByteArray) (cm p0))))))
def bF (p0:List Int):ByteArray :=
 (sel (((dH p0 0 false):Int) != 31) (⟨#[]⟩:ByteArray) (sel (!(dy p0)) (⟨#[]⟩:ByteArray) (sel (aR (el p0) (⟨#[]⟩:ByteArray)) (⟨#[]⟩:ByteArray) (sel (((((cm p0).size:Nat):Int):Int) != 32) (⟨#[]⟩:ByteArray) (sel (aR (cp (cM p0) 64) (⟨#[]⟩:ByteArray)) (⟨#[]⟩:ByteArray) (cp (cM p0) 64))))))
def bA (p0:List Int):Bool :=
 (sel (((dH p0 0 false):Int) != 31) false (sel (!(dy p0)) false (sel (aR (el p0) (⟨#[]⟩:ByteArray)) false (sel (((((cm p0).size:Nat):Int):Int) != 32) false (sel (aR (cp (cM p0) 64) (⟨#[]⟩:ByteArray)) false true)))))
def pw:List AV→List Blk→Option (Prop × Ret)
 |[.sc (.ro .u8 p0)],[]=>some ((p0.length≤1000000000),⟨.tup [.sc (.s (cQ p0)),.sc (.s (bW p0)),.sc (.s (bF p0)),.sc (.b (bA p0))],[]⟩)
 |_,_=>none
theorem pZ:Known Tryz.prog gD 9 ⟨0,0,pw⟩:=by
 refine Xw Tryz.f9 47 (Zc yS 160 [.io] [] [112] <|Zc ma 208 [.io] [] [112] <|Zc ma 256 [.io] [] [112] <|Zc ma 304 [.io] [] [112] <|Zc yy 416 [.io] [] [112] <|Zv Aq 320 2 <|Zv Aq 496 2 <|Zn) mixed <|fun E args ks C r h hC hlen=>?_
 simp only at h
 unfold pw at h
 split at h
 rotate_left
 cases h
 rename_i p0
 cases h
 simp only [am] at hlen
 have cs:=Hb hC
 refine ⟨rfl,?_⟩
 refine Xs [] [] 80 (v4 pT) <|Xt [Ep 6 112] [0] [Mc 112 [.ro .u8 p0,.i .i64 0,.b false]] [] 144 (v1 (pu (pa (Ys 0 3) pT) (v2 pT))) <|Xt [Ei 7 (dH p0 0 false)] [] [Mc 112 [.ro .u8 p0,.i .i64 (aK p0 0 false),.b (aO p0 0 false)]] [112] 192 (v1 (pu (pa pT (lo (p0.length≤1000000000∧(0:Int)≤0∧0≤(p0.length:Int)))) (v1 pT))) <|Xt [Es 8 (cB p0 (aK p0 0 false) (aO p0 0 false))] [] [Mc 112 [.ro .u8 p0,.i .i64 (af p0 (aK p0 0 false) (aO p0 0 false)),.b (bU p0 (aK p0 0 false) (aO p0 0 false))]] [112] 240 (v1 (pu (pa pT (pl (show p0.length≤1000000000∧(0:Int)≤(aK p0 0 false)∧(aK p0 0 false)≤(p0.length:Int) from by (show jF _ _;repeat (first|exact cs|refine jv ?_|refine iu ?_|refine tw ?_|refine qn ?_))))) (v1 pT))) ?_
 refine Xt [Es 9 (cm p0)] [] [Mc 112 [.ro .u8 p0,.i .i64 (af p0 (af p0 (aK p0 0 false) (aO p0 0 false)) (bU p0 (aK p0 0 false) (aO p0 0 false))),.b (dO p0)]] [112] 288 (v1 (pu (pa pT (pl (show p0.length≤1000000000∧(0:Int)≤(af p0 (aK p0 0 false) (aO p0 0 false))∧(af p0 (aK p0 0 false) (aO p0 0 false))≤(p0.length:Int) from by (show jF _ _;repeat (first|exact cs|refine jv ?_|refine iu ?_|refine tw ?_|refine qn ?_))))) (v1 pT))) ?_
 refine Xt [Es 10 (cp (cM p0) 64)] [] [Mc 112 [.ro .u8 p0,.i .i64 (af p0 (af p0 (af p0 (aK p0 0 false) (aO p0 0 false)) (bU p0 (aK p0 0 false) (aO p0 0 false))) (dO p0)),.b (lE p0)]] [112] 352 (v1 (pu (pa pT (pl (show p0.length≤1000000000∧(0:Int)≤(af p0 (af p0 (aK p0 0 false) (aO p0 0 false)) (bU p0 (aK p0 0 false) (aO p0 0 false)))∧(af p0 (af p0 (aK p0 0 false) (aO p0 0 false)) (bU p0 (aK p0 0 false) (aO p0 0 false)))≤(p0.length:Int) from by (show jF _ _;repeat (first|exact cs|refine jv ?_|refine iu ?_|refine tw ?_|refine qn ?_))))) (pu (pa pT (pl (show (cM p0).size≤1000000000 from Nat.le_trans (mi _ (by (show jF _ _;repeat (first|exact cs|refine jv ?_|refine iu ?_)))) (by decide)))) (v1 pT)))) ?_
 refine Tri.seq <|Tri.split (((dH p0 0 false):Int) != 31) (fun h1=>?_) (fun h1=>?_)
 have h1':=bO h1
 exact Xu [Eb 25 true] none [Eb 43 true] [7,6] [] [112] 688 (v2 (pg h1 (v9 (v9 pT)))) <|Tri.cond_true (by kernel_rfl) <|Xs [Eb 5 false,Es 4 (⟨#[]⟩:ByteArray),Es 3 (⟨#[]⟩:ByteArray),Es 2 (⟨#[]⟩:ByteArray)] [43,10,9,8] 752 (v4 pT) <|Xy [] (pa pT (pa pT (pa pT pz))) (by simp only [cQ,bW,bF,bA,h1,aB,aA] <;> rfl)
 have h1':=ak h1
 refine Tri.split (!(dy p0)) (fun h2=>?_) (fun h2=>?_)
 exact Xu [Eb 25 false,Eb 30 true] none [Eb 43 true] [7,6] [] [112] 688 (v2 (pg h1 (v1 (pu pz (v2 (pg h2 (v4 (v9 pT)))))))) <|Tri.cond_true (by kernel_rfl) <|Xs [Eb 5 false,Es 4 (⟨#[]⟩:ByteArray),Es 3 (⟨#[]⟩:ByteArray),Es 2 (⟨#[]⟩:ByteArray)] [43,10,9,8] 752 (v4 pT) <|Xy [] (pa pT (pa pT (pa pT pz))) (by simp only [cQ,bW,bF,bA,h1,h2,aB,aA] <;> rfl)
 refine Tri.split (aR (el p0) (⟨#[]⟩:ByteArray)) (fun h3=>?_) (fun h3=>?_)
 refine Xu [Eb 25 false,Eb 30 false,Eb 35 true] none [Eb 43 true] [7,6] [] [112] 688 (v2 (pg h1 (v1 (pu pz (v2 (pg h2 (v1 (pu (pa pT (pl (show (cB p0 (aK p0 0 false) (aO p0 0 false)).size≤1000000000 from Nat.le_trans (mi _ (by (show jF _ _;repeat (first|exact cs|refine jv ?_|refine iu ?_)))) (by decide)))) (v2 (pg h3 (v8 pT))))))))))) ?_
 exact Tri.cond_true (by kernel_rfl) <|Xs [Eb 5 false,Es 4 (⟨#[]⟩:ByteArray),Es 3 (⟨#[]⟩:ByteArray),Es 2 (⟨#[]⟩:ByteArray)] [43,10,9,8] 752 (v4 pT) <|Xy [] (pa pT (pa pT (pa pT pz))) (by simp only [cQ,bW,bF,bA,h1,h2,h3,aB,aA] <;> rfl)
 refine Tri.split (((((cm p0).size:Nat):Int):Int) != 32) (fun h4=>?_) (fun h4=>?_)
 have h4':=bO h4
 refine Xu [Eb 25 false,Eb 30 false,Eb 35 false,Eb 40 true] none [Eb 43 true] [7,6] [] [112] 688 (v2 (pg h1 (v1 (pu pz (v2 (pg h2 (v1 (pu (pa pT (pl (show (cB p0 (aK p0 0 false) (aO p0 0 false)).size≤1000000000 from Nat.le_trans (mi _ (by (show jF _ _;repeat (first|exact cs|refine jv ?_|refine iu ?_)))) (by decide)))) (v2 (pg h3 (v4 (pg h4 (v3 pT))))))))))))) ?_
 exact Tri.cond_true (by kernel_rfl) <|Xs [Eb 5 false,Es 4 (⟨#[]⟩:ByteArray),Es 3 (⟨#[]⟩:ByteArray),Es 2 (⟨#[]⟩:ByteArray)] [43,10,9,8] 752 (v4 pT) <|Xy [] (pa pT (pa pT (pa pT pz))) (by simp only [cQ,bW,bF,bA,h1,h2,h3,h4,aB,aA] <;> rfl)
 have h4':=ak h4
 refine Xu [Eb 25 false,Eb 30 false,Eb 35 false,Eb 40 false] none [Eb 43 (aR (cp (cM p0) 64) (⟨#[]⟩:ByteArray))] [7,6] [] [112] 688 (v2 (pg h1 (v1 (pu pz (v2 (pg h2 (v1 (pu (pa pT (pl (show (cB p0 (aK p0 0 false) (aO p0 0 false)).size≤1000000000 from Nat.le_trans (mi _ (by (show jF _ _;repeat (first|exact cs|refine jv ?_|refine iu ?_)))) (by decide)))) (v2 (pg h3 (v4 (pg h4 (v3 pT))))))))))))) ?_
 refine Xa (fun h5=>?_) (fun h5=>?_)
 exact Xs [Eb 5 false,Es 4 (⟨#[]⟩:ByteArray),Es 3 (⟨#[]⟩:ByteArray),Es 2 (⟨#[]⟩:ByteArray)] [43,10,9,8] 752 (v4 pT) <|Xy [] (pa pT (pa pT (pa pT pz))) (by simp only [cQ,bW,bF,bA,h1,h2,h3,h4,h5,aB,aA] <;> rfl)
 exact Tri.skip <|Xs [Eb 5 true,Es 4 (cp (cM p0) 64),Es 3 (cm p0),Es 2 (cB p0 (aK p0 0 false) (aO p0 0 false))] [43,10,9,8] 800 (v7 pT) <|Xy [] (pa pT (pa pT (pa pT pz))) (by simp only [cQ,bW,bF,bA,h1,h2,h3,h4,h5,aB,aA] <;> rfl)
end Go.Vm
namespace Go.Vm
open Go
def Dg (xs:List Int):Prop:=∀ x∈xs,0≤x∧x<256
theorem tU {xs:List Int} (n:Nat) (h:Dg xs):Dg (xs.drop n):=fun x hx=>h x (List.mem_of_mem_drop hx)
theorem DH {xs:List Int} (n:Nat) (h:Dg xs):Dg (xs.take n):=fun x hx=>h x (List.mem_of_mem_take hx)
theorem fv {xs ys:List Int} (h:Dg xs) (h':Dg ys):Dg (xs++ys):=fun x hx=>(List.mem_append.1 hx).elim (h x) (h' x)
theorem MI {xs:List Int} (h:Dg xs) (j:Nat):0≤xs.getD j 0∧xs.getD j 0<256:=by
 rw [List.getD_eq_getElem?_getD]
 cases hj:xs[j]? with
 |none=>exact ⟨by decide,by decide⟩
 |some x=>exact h x (List.mem_of_getElem? hj)
theorem dg_row {xs:List Int} (h:∀ x∈xs,IntKind.min .u8≤x∧x≤IntKind.max .u8):Dg xs:=fun x hx=>⟨(h x hx).1,Int.lt_of_le_of_lt (h x hx).2 (by decide)⟩
theorem ei:∀ {xs:List Int},Dg xs→aD (bytesOf xs)=xs:=by
 intro xs h
 unfold aD bytesOf
 simp only [List.map_map]
 conv=>rhs;rw [← List.map_id xs]
 refine List.map_congr_left fun x hx=>?_
 have:=h x hx
 show ((UInt8.ofNat x.toNat).toNat:Int)=x
 rw [UInt8.toNat_ofNat']
 omega
theorem fa (s:ByteArray):bytesOf (aD s)=s:=by
 unfold aD bytesOf
 obtain ⟨⟨l⟩⟩:=s
 have e:((fun n:Int=>UInt8.ofNat n.toNat) ∘ fun c:UInt8=>(c.toNat:Int))=id:=by
  funext c
  show UInt8.ofNat ((c.toNat:Int).toNat)=c
  rw [Int.toNat_natCast,UInt8.ofNat_toNat]
 simp only [List.map_map,e,List.map_id]
theorem eb (s:ByteArray):Dg (aD s):=by
 intro x hx
 unfold aD at hx
 obtain ⟨c,_,rfl⟩:=List.mem_map.1 hx
 have:=c.toNat_lt
 omega
theorem Mt {α:Type} {b:Bool} {x y:α} (h:b=true):sel b x y=x:=by rw [h,aB]
def be4 (n:Nat):List Int:=[((n/16777216 % 256:Nat):Int),((n/65536 % 256:Nat):Int),((n/256 % 256:Nat):Int),((n % 256:Nat):Int)]
theorem mT (n:Nat):Dg (be4 n):=by
 intro x hx
 simp only [be4,List.mem_cons,List.not_mem_nil,or_false] at hx
 omega
theorem JO (n:Nat) (h:n<4294967296):[(IntKind.wrap .u8 (aH .u32 (IntKind.wrap .u32 (n:Int)) 24)),(IntKind.wrap .u8 (aH .u32 (IntKind.wrap .u32 (n:Int)) 16)),(IntKind.wrap .u8 (aH .u32 (IntKind.wrap .u32 (n:Int)) 8)),(IntKind.wrap .u8 (IntKind.wrap .u32 (n:Int)))]=be4 n:=by
 have e1:=gZ .u32 (IntKind.wrap .u32 (n:Int)) 24 (by decide)
 have e2:=gZ .u32 (IntKind.wrap .u32 (n:Int)) 16 (by decide)
 have e3:=gZ .u32 (IntKind.wrap .u32 (n:Int)) 8 (by decide)
 have w:IntKind.wrap .u32 (n:Int)=(n:Int):=by rw [mJ];omega
 rw [w] at e1 e2 e3 ⊢
 rw [show (24:Int)=((24:Nat):Int) from rfl,show (16:Int)=((16:Nat):Int) from rfl,show (8:Int)=((8:Nat):Int) from rfl,e1,e2,e3]
 have p1:(2:Int) ^ 24=16777216:=rfl
 have p2:(2:Int) ^ 16=65536:=rfl
 have p3:(2:Int) ^ 8=256:=rfl
 rw [p1,p2,p3,dc,dc,dc,dc]
 have q1:(n:Int)/16777216 % 256=((n/16777216 % 256:Nat):Int):=by omega
 have q2:(n:Int)/65536 % 256=((n/65536 % 256:Nat):Int):=by omega
 have q3:(n:Int)/256 % 256=((n/256 % 256:Nat):Int):=by omega
 have q4:(n:Int) % 256=((n % 256:Nat):Int):=by omega
 rw [q1,q2,q3,q4]
 rfl
theorem or8 (z c:Nat) (hz:z<16777216) (hc:c<256):iOr .u32 (cv .u32 (z:Int) 8) (IntKind.wrap .u32 (c:Int))=((z*256+c:Nat):Int):=by
 have e1:cv .u32 (z:Int) 8=((z*256:Nat):Int):=by
  have:=oK .u32 (z:Int) 8 (by decide)
  rw [show (8:Int)=((8:Nat):Int) from rfl,this,mJ,show (2:Int) ^ 8=256 from rfl]
  omega
 rw [e1,mJ]
 have e2:((c:Int) % 4294967296)=(c:Int):=by omega
 rw [e2]
 unfold iOr
 rw [mJ]
 have e3:(BitVec.ofInt (IntKind.bits .u32) ((z*256:Nat):Int) ||| BitVec.ofInt (IntKind.bits .u32) ((c:Nat):Int)).toNat=z*256+c:=by
  rw [BitVec.toNat_or,BitVec.ofInt_natCast,BitVec.ofInt_natCast,BitVec.toNat_ofNat,BitVec.toNat_ofNat]
  show (z*256 % 4294967296 ||| c % 4294967296)=z*256+c
  rw [Nat.mod_eq_of_lt (by omega),Nat.mod_eq_of_lt (by omega)]
  have:=Nat.two_pow_add_eq_or_of_lt (i:=8) (b:=c) (by omega) z
  rw [show 2 ^ 8*z=z*256 from by omega] at this
  exact this.symm
 rw [e3]
 omega
def lz:List Int→Nat
 |[]=>0
 |x :: r=>if x=0 then lz r+1 else 0
def nA (p:List Int):List Int:=p.drop (lz p)
theorem AX:∀ p,lz p≤p.length
 |[]=>Nat.le_refl _
 |x :: r=>by
  have:=AX r
  unfold lz
  split <;> simp <;> omega
theorem qA:∀ {p:List Int} {j:Nat},j<lz p→p.getD j 0=0
 |[],j,h=>absurd h (Nat.not_lt_zero j)
 |x :: r,j,h=>by
  unfold lz at h
  split at h
  ·rename_i hx
   cases j with
   |zero=>exact hx
   |succ j=>exact qA (p:=r) (by omega)
  ·exact absurd h (Nat.not_lt_zero j)
theorem yN:∀ {p:List Int},lz p<p.length→p.getD (lz p) 0≠0
 |[],h=>absurd h (Nat.lt_irrefl 0)
 |x :: r,h=>by
  unfold lz at h ⊢
  split at h
  ·rename_i hx
   rw [if_pos hx]
   exact yN (p:=r) (by simp at h;omega)
  ·rename_i hx
   rw [if_neg hx]
   exact hx
theorem yD (p:List Int):(nA p).length≤p.length:=by unfold nA;rw [List.length_drop];omega
def pad (t:List Int):List Int:=sel (decide (t.getD 0 0 ≥ 128)) (0 :: t) t
def enc (p:List Int):List Int:=be4 (pad (nA p)).length++pad (nA p)
theorem IH (t:List Int):(pad t).length≤t.length+1:=by
 unfold pad
 cases decide (t.getD 0 0 ≥ 128) <;> simp [aB,aA]
theorem Gd {t:List Int} (h:Dg t):Dg (pad t):=by
 unfold pad
 cases decide (t.getD 0 0 ≥ 128)
 ·rw [aA];exact h
 ·rw [aB]
  intro x hx
  rcases List.mem_cons.1 hx with rfl|hx
  ·decide
  ·exact h x hx
theorem vm (p:List Int):∀ k,itr qu k p=p.drop k
 |0=>by rw [aX];rfl
 |k+1=>by
  rw [aQ,vm p k]
  unfold qu
  rw [List.drop_drop,List.take_of_length_le (by simp only [List.length_drop];omega)]
theorem uh (p:List Int) (k:Nat):sH p k = !(p.getD k 0==0):=by
 unfold sH
 rw [vm]
 have:(p.drop k).getD 0 0=p.getD k 0:=by simp [List.getD_eq_getElem?_getD,List.getElem?_drop]
 rw [this]
 cases p.getD k 0==0 <;> rfl
theorem FQ (p:List Int):ar (sH p) p.length=lz p:=by
 by_cases h:lz p<p.length
 ·refine eA h (fun j hj=>?_) ?_
  ·rw [uh,qA hj];rfl
  ·rw [uh]
   have:=yN h
   rw [beq_eq_false_iff_ne.2 this]
   rfl
 ·have h1:=AX p
  have h2:lz p=p.length:=by omega
  rw [fG (fun j hj=>by rw [uh,qA (by omega)];rfl),h2]
theorem LH (n:Nat) (h:n<4294967296):tK (IntKind.wrap .u32 ((n:Nat):Int))=be4 n:=JO n h
theorem yw (k:Nat) (xs:List Int) (n:Nat) (h:n<4294967296):fB k xs (IntKind.wrap .u32 ((n:Nat):Int))=xs++be4 n:=congrArg (xs++·) (JO n h)
theorem fm (k:Nat) (xs:List Int) (s:ByteArray) (h:s.size<4294967296):ga k xs s=xs++be4 s.size++aD s:=by
 unfold ga
 rw [yw _ _ _ h]
theorem qh (s:ByteArray) (h:s.size<4294967296):nh s=be4 s.size++aD s:=by
 unfold nh
 rw [LH _ h]
theorem FN (p:List Int) (k:Nat):bq p k = !(p.getD k 0==0):=by
 unfold bq
 cases (p.getD k 0==0) <;> rfl
theorem Lx {p:List Int} {S:Nat→Bool} (hS:∀ k,S k = !(p.getD k 0==0)):ar S p.length=lz p∧Nat.blt (lz p) p.length=decide (lz p<p.length):=by
 have hle:=AX p
 refine ⟨?_,?_⟩
 ·by_cases h:lz p<p.length
  ·refine eA h (fun j hj=>?_) ?_
   ·rw [hS,qA hj];rfl
   ·rw [hS]
    have:=yN h
    simpa using this
  ·have e:lz p=p.length:=by omega
   rw [e]
   refine fG fun j hj=>?_
   rw [hS,qA (by omega)]
   rfl
 ·by_cases h:lz p<p.length
  ·rw [eP h,decide_eq_true h]
  ·rw [show lz p=p.length by omega,fg,decide_eq_false (by omega)]
theorem Lf (n:Nat) (h:n<4294967296):ug ((n:Nat):Int)=be4 n:=by
 unfold ug be4
 have q1:ic .i64 ((n:Nat):Int) 16777216=((n/16777216:Nat):Int):=cZ (b:=16777216) (by omega)
 have q2:ic .i64 ((n:Nat):Int) 65536=((n/65536:Nat):Int):=cZ (b:=65536) (by omega)
 have q3:ic .i64 ((n:Nat):Int) 256=((n/256:Nat):Int):=cZ (b:=256) (by omega)
 rw [q1,q2,q3,dc,dc,dc,dc]
 refine List.ext_getElem rfl fun i h1 h2=>?_
 match i,h1 with
 |0,_=>show ((n/16777216:Nat):Int) % 256=((n/16777216 % 256:Nat):Int);omega
 |1,_=>show ((n/65536:Nat):Int) % 256=((n/65536 % 256:Nat):Int);omega
 |2,_=>show ((n/256:Nat):Int) % 256=((n/256 % 256:Nat):Int);omega
 |3,_=>show ((n:Nat):Int) % 256=((n % 256:Nat):Int);omega
theorem jc (s:ByteArray) (h:s.size<4294967296):bG s=be4 s.size++aD s:=by
 unfold bG
 rw [Lf _ h]
theorem wM (t:List Int):(⟨#[0]⟩:ByteArray)++bytesOf t=bytesOf (0 :: t):=by
 apply ByteArray.ext
 rw [ByteArray.data_append]
 unfold bytesOf
 simp
theorem xn {t:List Int} (h:Dg t):eN (bytesOf t) 0=t.getD 0 0:=by
 unfold eN
 rw [ei h]
 rfl
theorem Fc {t:List Int} (h:Dg t) (hl:t.length≤800000000) :
  (sel (!(aR (bytesOf t) (⟨#[]⟩:ByteArray))) (bG (sel (decide ((eN (bytesOf t) 0:Int) ≥ 128)) ((⟨#[0]⟩:ByteArray)++bytesOf t) (bytesOf t))) (bG (bytesOf t)))=be4 (pad t).length++pad t ∧
  (sel (!(aR (bytesOf t) (⟨#[]⟩:ByteArray))) (4+(sel (decide ((eN (bytesOf t) 0:Int) ≥ 128)) ((⟨#[0]⟩:ByteArray)++bytesOf t) (bytesOf t)).size) (4+(bytesOf t).size))=(be4 (pad t).length++pad t).length:=by
 have hp:Dg (pad t):=Gd h
 have hpl:=IH t
 have key:bG (bytesOf (pad t))=be4 (pad t).length++pad t:=by
  rw [jc _ (by rw [ae];omega),ae,ei hp]
 have key2:4+(bytesOf (pad t)).size=(be4 (pad t).length++pad t).length:=by
  rw [ae,List.length_append];rfl
 rw [xn h,wM]
 have e:(sel (decide (t.getD 0 0 ≥ 128)) (bytesOf (0 :: t)) (bytesOf t))=bytesOf (pad t):=by
  unfold pad
  cases decide (t.getD 0 0 ≥ 128) <;> rfl
 rw [e,key,key2]
 cases ht:aR (bytesOf t) (⟨#[]⟩:ByteArray) with
 |false=>exact ⟨rfl,rfl⟩
 |true =>
  have h1:=nc ht
  have h2:t=[]:=by
   have:=congrArg ByteArray.size h1
   rw [ae] at this
   exact List.length_eq_zero_iff.1 this
  subst h2
  exact ⟨key,key2⟩
theorem Kz {p:List Int} (h:Dg p) (hl:p.length≤800000000):jr p=enc p∧cS p=(enc p).length:=by
 obtain ⟨h1,h2⟩:=Lx (p:=p) (FN p)
 have hle:=AX p
 unfold jr cS enc
 rw [h1,h2]
 have e1:(p.drop (lz p)).take (p.length-lz p)=nA p:=by
  rw [List.take_of_length_le (by rw [List.length_drop];exact Nat.le_refl _)];rfl
 rw [e1]
 obtain ⟨r1,r2⟩:=Fc (t:=nA p) (tU _ h) (by have:=yD p;omega)
 by_cases hlt:lz p<p.length
 ·rw [decide_eq_true hlt,aB,aB]
  exact ⟨r1,r2⟩
 ·have he:lz p=p.length:=by omega
  have e2:(p.drop p.length).take (p.length-p.length)=nA p:=by
   rw [Nat.sub_self,List.take_zero]
   unfold nA
   rw [he,List.drop_length]
  rw [e2,decide_eq_false hlt,aA,aA]
  exact ⟨r1,r2⟩
theorem Fj (k:Nat) (xs t:List Int) (h:t.length≤1000000000):(sel (decide (((((t).length:Nat):Int):Int)>0)) (sel (decide (((t).getD 0 0:Int) ≥ 128)) (((fB k xs (IntKind.wrap .u32 ((((t).length)+1:Nat):Int)))++[0])++t) ((fB k xs (IntKind.wrap .u32 (((t).length:Nat):Int)))++t)) ((fB k xs (IntKind.wrap .u32 (((t).length:Nat):Int)))++t))=xs++(be4 (pad t).length++pad t) ∧
  (sel (decide (((((t).length:Nat):Int):Int)>0)) (sel (decide (((t).getD 0 0:Int) ≥ 128)) (((k+4)+1)+((t).length)) ((k+4)+((t).length))) ((k+4)+((t).length)))=k+(be4 (pad t).length++pad t).length:=by
 unfold pad
 rw [yw k xs _ (by omega),yw k xs _ (by omega)]
 cases t with
 |nil=>exact ⟨show (xs++be4 0)++[]=xs++(be4 0++[]) by rw [List.append_nil,List.append_nil],rfl⟩
 |cons a r =>
  rw [Mt (b:=decide ((((a :: r).length:Nat):Int)>0)) (decide_eq_true (by simp only [List.length_cons];omega)),Mt (b:=decide ((((a :: r).length:Nat):Int)>0)) (decide_eq_true (by simp only [List.length_cons];omega))]
  cases decide ((a :: r).getD 0 0 ≥ 128)
  ·simp only [aA]
   exact ⟨by simp,by simp [be4];omega⟩
  ·simp only [aB]
   exact ⟨by simp,by simp [be4];omega⟩
theorem zd (k:Nat) (xs p:List Int) (h:p.length≤1000000000):jJ k xs p=xs++enc p∧ce k xs p=k+(enc p).length:=by
 have hw:=Fj k xs (nA p) (by have:=yD p;omega)
 have hS:ar (cf p) p.length=lz p:=FQ p
 have hL:∀ j,itr aM j p=p.drop j:=vm p
 unfold jJ ce enc
 rw [hS]
 cases hb:Nat.blt (lz p) p.length
 ·have h1:=AX p
  have h2:lz p=p.length:=by
   rcases Nat.lt_or_ge (lz p) p.length with h3|h3
   ·rw [eP h3] at hb;cases hb
   ·omega
  rw [aA,aA,hL,← h2]
  exact hw
 ·rw [aB,aB,hL]
  exact hw
theorem pq (k:Nat) (xs:List Int) (l:List ByteArray) (h:(gI l (⟨#[44]⟩:ByteArray)).size<4294967296):kg k xs l=xs++be4 (gI l (⟨#[44]⟩:ByteArray)).size++aD (gI l (⟨#[44]⟩:ByteArray)):=fm k xs _ h
abbrev Rd:=Option (List Int)
def tkO:Rd→Nat→List Int
 |some s,n=>if n≤s.length then s.take n else []
 |none,_=>[]
def nxO:Rd→Nat→Rd
 |some s,n=>if n≤s.length then some (s.drop n) else none
 |none,_=>none
theorem ji (s:List Int) (n:Nat):tkO (some s) n=if n≤s.length then s.take n else []:=rfl
theorem kj (s:List Int) (n:Nat):nxO (some s) n=if n≤s.length then some (s.drop n) else none:=rfl
def rb:Rd→List Int
 |some s=>s
 |none=>[]
def eY:Rd→Bool
 |some _=>false
 |none=>true
def fS (st:Rd):Prop:=∀ s,st=some s→Dg s∧s.length≤1000000000
theorem fS.nx {st:Rd} (h:fS st) (n:Nat):fS (nxO st n):=by
 intro s hs
 cases st with
 |none=>cases hs
 |some t =>
  rw [kj] at hs
  split at hs
  ·cases hs
   exact ⟨tU _ (h t rfl).1,by rw [List.length_drop];have:=(h t rfl).2;omega⟩
  ·cases hs
theorem fS.tk {st:Rd} (h:fS st) (n:Nat):Dg (tkO st n):=by
 cases st with
 |none=>intro x hx;cases hx
 |some t =>
  rw [ji]
  split
  ·exact DH _ (h t rfl).1
  ·intro x hx;cases hx
theorem Iq (st:Rd) (n:Nat):(tkO st n).length=n∨tkO st n=[]:=by
 cases st with
 |none=>exact .inr rfl
 |some t =>
  rw [ji]
  split
  ·rw [List.length_take];exact .inl (by omega)
  ·exact .inr rfl
theorem QW (st:Rd) (n:Nat):(tkO st n).length≤n:=by
 rcases Iq st n with h|h
 ·omega
 ·rw [h];exact Nat.zero_le _
theorem yM {st:Rd} (h:fS st) {n:Nat} (hn:1000000000<n):nxO st n=none:=by
 cases st with
 |none=>rfl
 |some s =>
  have:=(h s rfl).2
  rw [kj,if_neg (by omega)]
theorem MG {st:Rd} (h:fS st) {n:Nat} (hn:1000000000<n):tkO st n=[]:=by
 cases st with
 |none=>rfl
 |some s =>
  have:=(h s rfl).2
  rw [ji,if_neg (by omega)]
def Ls:List Int→Nat
 |[a,b,c,d]=>a.toNat*16777216+b.toNat*65536+c.toNat*256+d.toNat
 |_=>0
def lL (st:Rd):Nat:=Ls (tkO st 4)
def mH (st:Rd):Int:=(tkO st 1).getD 0 0
def textV (st:Rd):List Int:=if lL st>16384 then [] else tkO (nxO st 4) (lL st)
def textN (st:Rd):Rd:=if lL st>16384 then none else nxO (nxO st 4) (lL st)
theorem KW {x:List Int} (h:Dg x):Ls x<4294967296:=by
 unfold Ls
 split
 ·rename_i a b c d
  have ha:=h a (by simp)
  have hb:=h b (by simp)
  have hc:=h c (by simp)
  have hd:=h d (by simp)
  omega
 ·decide
theorem LA {st:Rd} (h:fS st):lL st<4294967296:=KW (h.tk 4)
theorem fS.textV {st:Rd} (h:fS st):Dg (textV st)∧(textV st).length≤16384:=by
 unfold Vm.textV
 split
 ·exact ⟨fun x hx=>(by cases hx),Nat.zero_le _⟩
 ·exact ⟨(h.nx 4).tk _,Nat.le_trans (QW _ _) (by omega)⟩
theorem fS.textN {st:Rd} (h:fS st):fS (textN st):=by
 unfold Vm.textN
 split
 ·intro s hs;cases hs
 ·exact (h.nx 4).nx _
theorem oB (st:Rd) (n:Int) (h:0≤n):cz (rb st) (eY st) n=tkO st n.toNat∧dV (rb st) (eY st) n=rb (nxO st n.toNat)∧dX (rb st) (eY st) n=eY (nxO st n.toNat):=by
 unfold cz dV dX
 cases st with
 |none=>exact ⟨rfl,rfl,rfl⟩
 |some s =>
  rw [ji,kj]
  show sel false _ _=_∧sel false _ _=_∧sel false _ _=_
  rw [aA,aA,aA]
  show sel (decide (n>(s.length:Int))) _ _=_∧sel (decide (n>(s.length:Int))) _ _=_∧sel (decide (n>(s.length:Int))) _ _=_
  by_cases hn:n.toNat≤s.length
  ·rw [decide_eq_false (show ¬ n>(s.length:Int) by omega),aA,aA,aA,if_pos hn,if_pos hn]
   refine ⟨rfl,?_,rfl⟩
   show (s.drop n.toNat).take (s.length-n.toNat)=_
   rw [List.take_of_length_le (by rw [List.length_drop];exact Nat.le_refl _)]
   rfl
  ·rw [decide_eq_true (show n>(s.length:Int) by omega),aB,aB,aB,if_neg hn,if_neg hn]
   exact ⟨rfl,rfl,rfl⟩
theorem xa (s:List Int) (b:Bool) (n:Int):fY s b n=s.take n.toNat∧jL s b n=s.drop n.toNat:=by
 unfold fY jL
 refine ⟨rfl,?_⟩
 rw [List.take_of_length_le (by rw [List.length_drop];exact Nat.le_refl _)]
theorem nW (st:Rd):db (rb st) (eY st)=mH st∧aq (rb st) (eY st)=rb (nxO st 1)∧ao (rb st) (eY st)=eY (nxO st 1):=by
 unfold db aq ao mH
 cases st with
 |none=>exact ⟨rfl,rfl,rfl⟩
 |some s =>
  rw [ji,kj]
  show sel false _ _=_∧sel false _ _=_∧sel false _ _=_
  rw [aA,aA,aA]
  show sel (decide ((1:Int)>(s.length:Int))) _ _=_∧sel (decide ((1:Int)>(s.length:Int))) _ _=_∧sel (decide ((1:Int)>(s.length:Int))) _ _=_
  by_cases hn:1≤s.length
  ·rw [decide_eq_false (show ¬ (1:Int)>(s.length:Int) by omega),aA,aA,aA,if_pos hn,if_pos hn]
   exact ⟨by show (fY s false 1).getD 0 0=_;rw [(xa s false 1).1];rfl,(xa s false 1).2,rfl⟩
  ·rw [decide_eq_true (show (1:Int)>(s.length:Int) by omega),aB,aB,aB,if_neg hn,if_neg hn]
   exact ⟨rfl,rfl,rfl⟩
theorem MK (st:Rd):Bu (rb st) (eY st)=(mH st != 0)∧kw (rb st) (eY st)=rb (nxO st 1)∧kl (rb st) (eY st)=eY (nxO st 1):=by
 obtain ⟨h1,h2,h3⟩:=nW st
 exact ⟨by unfold Bu;rw [h1],h2,h3⟩
theorem MJ (z:Nat) {x:Int} (hz:z<16777216) (hx:0≤x∧x<256):iOr .u32 (cv .u32 (z:Int) 8) (IntKind.wrap .u32 x)=((z*256+x.toNat:Nat):Int):=by
 have:=or8 z x.toNat hz (by omega)
 rw [show ((x.toNat:Nat):Int)=x by omega] at this
 exact this
theorem Iz {st:Rd} (h:fS st):iX (rb st) (eY st)=(lL st:Int)∧fX (rb st) (eY st)=rb (nxO st 4)∧fW (rb st) (eY st)=eY (nxO st 4):=by
 obtain ⟨h1,h2,h3⟩:=oB st 4 (by decide)
 refine ⟨?_,h2,h3⟩
 have hd:=h.tk 4
 have h1':cz (rb st) (eY st) 4=tkO st 4:=h1
 have f0:∀ k z,lZ (rb st) (eY st) k z=iOr .u32 (cv .u32 z 8) (IntKind.wrap .u32 ((tkO st 4).getD k 0)):=fun k z=>by unfold lZ;rw [h1']
 unfold iX lL
 rw [h1']
 rcases Iq st 4 with hl|hl
 ·generalize tkO st 4=x at *
  match x,hl with
  |[a,b,c,d],_ =>
   have ha:=hd a (by simp)
   have hb:=hd b (by simp)
   have hc:=hd c (by simp)
   have hd':=hd d (by simp)
   show itr _ 4 0=_
   rw [aQ,aQ,aQ,aQ,aX,f0,f0,f0,f0]
   show iOr .u32 (cv .u32 (iOr .u32 (cv .u32 (iOr .u32 (cv .u32 (iOr .u32 (cv .u32 ((0:Nat):Int) 8) (IntKind.wrap .u32 a)) 8) (IntKind.wrap .u32 b)) 8) (IntKind.wrap .u32 c)) 8) (IntKind.wrap .u32 d)=_
   rw [MJ _ (by omega) ha,MJ _ (by omega) hb,MJ _ (by omega) hc,MJ _ (by omega) hd']
   show _=((a.toNat*16777216+b.toNat*65536+c.toNat*256+d.toNat:Nat):Int)
   omega
 ·rw [hl]
  show itr _ 0 0=_
  rw [aX]
  rfl
theorem jZ {st:Rd} (h:fS st):aV (rb st) (eY st)=bytesOf (textV st)∧bJ (rb st) (eY st)=rb (textN st)∧bI (rb st) (eY st)=eY (textN st):=by
 obtain ⟨h1,h2,h3⟩:=Iz h
 have hlt:=LA h
 unfold aV bJ bI textV textN
 rw [h1,h2,h3]
 by_cases hu:lL st>16384
 ·rw [decide_eq_true (show ((lL st:Nat):Int)>16384 by omega),aB,aB,aB,if_pos hu,if_pos hu]
  obtain ⟨_,t2,t3⟩:=oB (nxO st 4) 1073741824 (by decide)
  have:=yM (h.nx 4) (n:=(1073741824:Int).toNat) (by decide)
  rw [this] at t2 t3
  exact ⟨rfl,t2,t3⟩
 ·rw [decide_eq_false (show ¬ ((lL st:Nat):Int)>16384 by omega),aA,aA,aA,if_neg hu,if_neg hu]
  have w:IntKind.wrap .i64 ((lL st:Nat):Int)=((lL st:Nat):Int):=bh (by omega) (by omega)
  rw [w]
  obtain ⟨t1,t2,t3⟩:=oB (nxO st 4) ((lL st:Nat):Int) (by omega)
  rw [Int.toNat_natCast] at t1 t2 t3
  exact ⟨by rw [t1],t2,t3⟩
theorem Hf {st:Rd} (h:fS st) (n:Int):zF (rb st) (eY st) n=(if n<0 then [] else tkO st n.toNat)∧ly (rb st) (eY st) n=rb (if n<0 then none else nxO st n.toNat)∧lh (rb st) (eY st) n=eY (if n<0 then none else nxO st n.toNat):=by
 unfold zF ly lh
 by_cases hn:n<0
 ·rw [decide_eq_true hn,aB,if_pos hn,if_pos hn]
  obtain ⟨t1,t2,t3⟩:=oB st 1073741824 (by decide)
  rw [yM h (n:=(1073741824:Int).toNat) (by decide)] at t2 t3
  rw [MG h (n:=(1073741824:Int).toNat) (by decide)] at t1
  exact ⟨t1,t2,t3⟩
 ·rw [decide_eq_false hn,aA,if_neg hn,if_neg hn]
  exact oB st n (by omega)
theorem nu (st:Rd):gw (rb st) (eY st)=(st==some []):=by
 unfold gw
 cases st with
 |none=>rfl
 |some s=>cases s <;> rfl
def cst (p:List Int) (k:Int) (b:Bool):Rd:=bif b then none else some (p.drop k.toNat)
def js (p:List Int) (k:Int):Prop:=p.length≤1000000000∧(0:Int)≤k∧k≤(p.length:Int)
theorem Hi {p:List Int} {k:Int} (hd:Dg p) (h:js p k) (b:Bool):fS (cst p k b):=by
 intro s hs
 cases b with
 |true=>cases hs
 |false =>
  cases hs
  exact ⟨tU _ hd,by rw [List.length_drop];have:=h.1;omega⟩
theorem uf {p:List Int} {k:Int} (b:Bool) (n:Int) (h:js p k):be p k b n=(if n<0 then [] else tkO (cst p k b) n.toNat)∧cst p (cF p k b n) (bn p k b n)=(if n<0 then none else nxO (cst p k b) n.toNat):=by
 obtain ⟨h1,h2,h3⟩:=h
 rcases qI b n ⟨h1,h2,h3⟩ with ⟨rfl,e1,e2,e3,e4,e5⟩|⟨e0,e3,e4,e5⟩
 ·rw [if_neg (by omega),if_neg (by omega),e3,e4,e5]
  simp only [cst,cond_false,tkO,nxO]
  rw [if_pos (by rw [List.length_drop];omega),if_pos (by rw [List.length_drop];omega),List.drop_drop]
  refine ⟨rfl,?_⟩
  rw [show (k+n).toNat=k.toNat+n.toNat by omega]
 ·rw [e3,e4,e5]
  by_cases hn:n<0
  ·rw [if_pos hn,if_pos hn];exact ⟨rfl,rfl⟩
  ·rw [if_neg hn,if_neg hn]
   cases b with
   |true=>exact ⟨rfl,rfl⟩
   |false =>
    have:¬ n.toNat≤(p.drop k.toNat).length:=by
     rw [List.length_drop]
     intro hle
     exact e0 ⟨rfl,by omega,by omega⟩
    show []=tkO (some (p.drop k.toNat)) n.toNat∧none=nxO (some (p.drop k.toNat)) n.toNat
    rw [ji,kj,if_neg this,if_neg this]
    exact ⟨rfl,rfl⟩
theorem xr (p:List Int) (k:Int) (b:Bool):eY (cst p k b)=b:=by cases b <;> rfl
theorem zU {p:List Int} {k:Int} (b:Bool) (hd:Dg p) (h:js p k):dH p k b=mH (cst p k b)∧cst p (aK p k b) (aO p k b)=nxO (cst p k b) 1:=by
 obtain ⟨h1,h2⟩:=uf b 1 h
 refine ⟨?_,h2⟩
 unfold dH mH
 have h2':cst p (cF p k b 1) (bn p k b 1)=nxO (cst p k b) 1:=h2
 have hb:bn p k b 1=eY (nxO (cst p k b) 1):=by rw [← h2',xr]
 have h1':be p k b 1=tkO (cst p k b) 1:=h1
 rw [hb,h1']
 have hx:=MI ((Hi hd h b).tk 1) 0
 have w:IntKind.wrap .i64 ((tkO (cst p k b) 1).getD 0 0)=(tkO (cst p k b) 1).getD 0 0:=bh (by omega) (by omega)
 rw [w]
 cases hs:cst p k b with
 |none=>rfl
 |some s =>
  simp only [tkO,nxO]
  split <;> rfl
theorem LW {p:List Int} {k:Int} (b:Bool) (hd:Dg p) (h:js p k):ee p k b=(lL (cst p k b):Int)∧cst p (dB p k b) (eQ p k b)=nxO (cst p k b) 4:=by
 obtain ⟨h1,h2⟩:=uf b 4 h
 refine ⟨?_,h2⟩
 unfold ee lL
 have h2':cst p (cF p k b 4) (bn p k b 4)=nxO (cst p k b) 4:=h2
 have hb:bn p k b 4=eY (nxO (cst p k b) 4):=by rw [← h2',xr]
 have h1':be p k b 4=tkO (cst p k b) 4:=h1
 rw [hb,h1']
 have hx:=(Hi hd h b).tk 4
 cases hs:cst p k b with
 |none=>rfl
 |some s =>
  rw [hs] at hx
  simp only [tkO,nxO] at hx ⊢
  by_cases hl:4≤s.length
  ·rw [if_pos hl] at hx ⊢
   rw [if_pos hl]
   show sel false _ _=_
   rw [aA]
   have hl4:(s.take 4).length=4:=by rw [List.length_take];omega
   generalize s.take 4=x at *
   match x,hl4 with
   |[a,b,c,d],_ =>
    have ha:=hx a (by simp)
    have hb:=hx b (by simp)
    have hc:=hx c (by simp)
    have hd:=hx d (by simp)
    show aE .i64 (aE .i64 (aE .i64 (bE .i64 (IntKind.wrap .i64 a) 16777216) (bE .i64 (IntKind.wrap .i64 b) 65536)) (bE .i64 (IntKind.wrap .i64 c) 256)) (IntKind.wrap .i64 d)=((a.toNat*16777216+b.toNat*65536+c.toNat*256+d.toNat:Nat):Int)
    rw [bh (x:=a) (by omega) (by omega),bh (x:=b) (by omega) (by omega),bh (x:=c) (by omega) (by omega),bh (x:=d) (by omega) (by omega)]
    rw [cR (x:=a) (by omega) (by omega),cR (x:=b) (by omega) (by omega),cR (x:=c) (by omega) (by omega),cK (x:=a*16777216) (by omega) (by omega),cK (x:=a*16777216+b*65536) (by omega) (by omega),cK (x:=a*16777216+b*65536+c*256) (by omega) (by omega)]
    omega
  ·rw [if_neg hl,if_neg hl]
   rfl
theorem mI {p:List Int} {k:Int} (b:Bool) (hd:Dg p) (h:js p k):cB p k b=bytesOf (textV (cst p k b))∧cst p (af p k b) (bU p k b)=textN (cst p k b):=by
 obtain ⟨h1,h2⟩:=LW b hd h
 have hc:=qZ b h
 unfold cB af bU textV textN
 rw [h1]
 have hb:eQ p k b=eY (nxO (cst p k b) 4):=by rw [← h2,xr]
 obtain ⟨t1,t2⟩:=uf (sel (decide (((lL (cst p k b):Nat):Int)>16384)) true (eQ p k b)) ((lL (cst p k b):Nat):Int) (show js p (dB p k b) from ⟨h.1,hc.1,hc.2⟩)
 rw [if_neg (by omega),Int.toNat_natCast] at t1 t2
 rw [t1,t2]
 by_cases hu:lL (cst p k b)>16384
 ·rw [if_pos hu,if_pos hu,decide_eq_true (show ((lL (cst p k b):Nat):Int)>16384 by omega),aB]
  exact ⟨rfl,rfl⟩
 ·rw [if_neg hu,if_neg hu,decide_eq_false (show ¬ ((lL (cst p k b):Nat):Int)>16384 by omega),aA,h2]
  exact ⟨rfl,rfl⟩
theorem xz {p:List Int} {k:Int} (b:Bool) (h:js p k):lH p k b=(cst p k b==some []):=by
 unfold lH
 cases b with
 |true=>rfl
 |false =>
  obtain ⟨_,h2,h3⟩:=h
  show sel true _ _=_
  rw [aB]
  show _=(some (p.drop k.toNat)==some [])
  by_cases he:k=(p.length:Int)
  ·have e1:(k==((p.length:Nat):Int))=true:=by simpa using he
   rw [e1,List.drop_of_length_le (by omega)]
   rfl
  ·have e1:(k==((p.length:Nat):Int))=false:=by simpa using he
   rw [e1]
   cases hd:p.drop k.toNat with
   |nil =>
    have:=congrArg List.length hd
    rw [List.length_drop] at this
    simp at this
    omega
   |cons a r=>rfl
def spl:List UInt8→List (List UInt8)
 |[]=>[[]]
 |c :: r=>if c=44 then [] :: spl r else match spl r with
  |h :: t=>(c :: h) :: t
  |[]=>[[c]]
def ba (l:List UInt8):ByteArray:=⟨l.toArray⟩
def tG (s:ByteArray):List ByteArray:=(spl s.data.toList).map ba
theorem Ht:∀ l,spl l≠[]
 |[]=>by simp [spl]
 |c :: r=>by
  unfold spl
  split
  ·simp
  ·cases h:spl r with
   |nil=>simp
   |cons a t=>simp
theorem Kf (s:ByteArray):ba s.data.toList=s:=by
 obtain ⟨⟨l⟩⟩:=s
 rfl
theorem vU (l:List UInt8) (a b:Nat):(ba l).extract a b=ba ((l.drop a).take (b-a)):=by
 apply ByteArray.ext
 rw [ByteArray.data_extract]
 unfold ba
 simp [List.extract_eq_take_drop]
theorem EK (l:List UInt8):(ba l).size=l.length:=rfl
theorem rW:∀ (l:List UInt8),0<l.count 44→∃ u v,l=u++44 :: v∧Lib.indexByte l 44=(u.length:Int)∧spl l=u :: spl v∧l.count 44=v.count 44+1
 |[],h=>by simp at h
 |c :: r,h=>by
  by_cases hc:c=44
  ·subst hc
   refine ⟨[],r,rfl,rfl,?_,by simp⟩
   rw [spl,if_pos rfl]
  ·have hb:(c==44)=false:=by simpa using hc
   rw [List.count_cons,hb] at h
   obtain ⟨u,v,h1,h2,h3,h4⟩:=rW r (by simpa using h)
   refine ⟨c :: u,v,by rw [h1];rfl,?_,?_,?_⟩
   ·unfold Lib.indexByte
    rw [hb,h2]
    have:((u.length:Int)==-1)=false:=by rw [beq_eq_false_iff_ne];omega
    rw [this]
    simp
   ·rw [spl,if_neg hc,h3]
   ·rw [List.count_cons,hb,h4];rfl
theorem Ed:∀ (l:List UInt8),l.count 44=0→spl l=[l]
 |[],_=>rfl
 |c :: r,h=>by
  have hc:c≠44:=fun e=>by subst e;simp at h
  have hb:(c==44)=false:=by simpa using hc
  rw [List.count_cons,hb] at h
  rw [spl,if_neg hc,Ed r (by simpa using h)]
theorem xk:∀ (l:List UInt8),(spl l).length=l.count 44+1
 |[]=>rfl
 |c :: r=>by
  by_cases hc:c=44
  ·subst hc
   rw [spl,if_pos rfl,List.length_cons,xk r,List.count_cons]
   simp
  ·have hb:(c==44)=false:=by simpa using hc
   have ih:=xk r
   cases hs:spl r with
   |nil=>exact absurd hs (Ht r)
   |cons h t =>
    rw [spl,if_neg hc,hs,List.count_cons,hb]
    rw [hs] at ih
    simpa using ih
theorem vD (l:List UInt8):dq (ba l)=Lib.indexByte l 44:=by
 unfold dq jS
 cases h:aR (⟨#[44]⟩:ByteArray) (ba l) with
 |false=>rfl
 |true =>
  have:=congrArg (fun s:ByteArray=>s.data.toList) (nc h)
  have hl:l=[44]:=this.symm
  rw [hl]
  rfl
theorem Bt (l:List UInt8):aW (ba l)=l.count 44:=rfl
theorem vr (l:List UInt8) (hl:l.length≤1000000000):∀ k,k≤l.count 44→∃ P rest,itr cE k (ba l,List.replicate (l.count 44+1) (⟨#[]⟩:ByteArray))=(ba rest,P.map ba++List.replicate (l.count 44+1-k) (⟨#[]⟩:ByteArray)) ∧
  P.length=k∧spl l=P++spl rest∧rest.count 44+k=l.count 44∧rest.length≤1000000000:=by
 intro k
 induction k with
 |zero=>intro _;exact ⟨[],l,by rw [aX];rfl,rfl,rfl,rfl,hl⟩
 |succ k ih =>
  intro hk
  obtain ⟨P,rest,h1,h2,h3,h4,hr⟩:=ih (by omega)
  obtain ⟨u,v,h5,h6,h7,h8⟩:=rW rest (by omega)
  refine ⟨P++[u],v,?_,by simp [h2],by rw [h3,h7];simp,by omega,?_⟩
  rotate_left
  ·have:=congrArg List.length h5
   simp at this
   omega
  rw [aQ,h1]
  unfold cE
  simp only
  rw [vD,h6]
  have hlen:rest.length=u.length+1+v.length:=by rw [h5];simp;omega
  have hlr:rest.length≤1000000000:=hr
  have e1:aE .i64 (u.length:Int) 1=((u.length+1:Nat):Int):=by rw [cK (by omega) (by omega)];omega
  have e2:aE .i64 (u.length:Int) 0=((u.length:Nat):Int):=by rw [cK (by omega) (by omega)];omega
  rw [e1,e2,Int.toNat_natCast,Int.toNat_natCast,vU,vU,EK]
  refine Prod.ext ?_ ?_
  ·show ba _=ba v
   congr 1
   rw [h5,show u++44 :: v=(u++[44])++v by simp,List.drop_left' (by simp),List.take_of_length_le (by simp;omega)]
  ·show ((P.map ba++List.replicate (l.count 44+1-k) (⟨#[]⟩:ByteArray)).set k _)=_
   have e3:(rest.drop 0).take (u.length-0)=u:=by rw [h5];simp
   rw [e3,List.set_append_right _ _ (by simp [h2]),List.length_map,h2,Nat.sub_self,List.map_append,List.append_assoc]
   congr 1
   rw [show l.count 44+1-k=(l.count 44+1-(k+1))+1 by omega,List.replicate_succ]
   rfl
theorem FC (s:ByteArray) (hs:s.size≤1000000000):oZ (gE s) 0 (aa s)=tG s∧aa s=(tG s).length:=by
 obtain ⟨l,rfl⟩:∃ l,s=ba l:=⟨s.data.toList,(Kf s).symm⟩
 have hl:l.length≤1000000000:=hs
 have hc:l.count 44≤l.length:=List.count_le_length
 have hN:min (aW (ba l)+1) ((ba l).size+1)=l.count 44+1:=by rw [Bt,EK];omega
 have hst:ar (bw (ba l)) (l.count 44)=l.count 44:=by
  refine fG fun j hj=>?_
  obtain ⟨P,rest,h1,h2,h3,h4,hr⟩:=vr l hl j (by omega)
  obtain ⟨u,v,h5,h6,h7,h8⟩:=rW rest (by omega)
  unfold bw
  rw [hN,h1]
  simp only
  rw [vD,h6,decide_eq_false (by omega),aA]
 obtain ⟨P,rest,h1,h2,h3,h4,hr⟩:=vr l hl (l.count 44) (Nat.le_refl _)
 unfold gE iO aa
 rw [hN,Nat.add_sub_cancel,hst,fg,aA,aA,h1]
 have hsp:tG (ba l)=P.map ba++[ba rest]:=by
  show (spl l).map ba=_
  rw [h3,Ed rest (by omega),List.map_append]
  rfl
 refine ⟨?_,?_⟩
 ·rw [mL,List.drop_zero,hsp]
  simp only
  rw [show l.count 44+1-l.count 44=1 by omega,List.set_append_right _ _ (by simp [h2]),List.length_map,h2,Nat.sub_self]
  rw [List.take_of_length_le (by simp [h2])]
  rfl
 ·rw [hsp,List.length_append,List.length_map,h2]
  rfl
theorem wW {S S':Nat→Bool}:∀ {n:Nat},(∀ j,j<n→S j=S' j)→ar S n=ar S' n
 |0,_=>rfl
 |n+1,h=>by
  rw [ar,ar,wW (fun j hj=>h j (by omega)),h n (by omega)]
def ur (L:List ByteArray):Bool:=Nat.blt (ar (fun k=>sel (aR (L.getD k (⟨#[]⟩:ByteArray)) (⟨#[]⟩:ByteArray)) true false) L.length) L.length
def vt (T:ByteArray):Option (List ByteArray):=if aR T (⟨#[]⟩:ByteArray) then some [] else if ur (tG T) then none else some (tG T)
def rZ (st:Rd):List ByteArray:=(vt (bytesOf (textV st))).getD []
def ie (st:Rd):Rd:=sel (vt (bytesOf (textV st))).isSome (textN st) none
theorem vO {st:Rd} (h:fS st):jz (rb st) (eY st)=rZ st∧dY (rb st) (eY st)=rb (ie st)∧da (rb st) (eY st)=eY (ie st):=by
 obtain ⟨h1,h2,h3⟩:=jZ h
 have hn:=h.textN
 have hz:(bytesOf (textV st)).size≤1000000000:=by rw [ae];have:=h.textV.2;omega
 obtain ⟨s1,s2⟩:=FC (bytesOf (textV st)) hz
 have hS:ar (fE (rb st) (eY st)) (aa (aV (rb st) (eY st)))=ar (fun k=>sel (aR ((tG (bytesOf (textV st))).getD k (⟨#[]⟩:ByteArray)) (⟨#[]⟩:ByteArray)) true false) (tG (bytesOf (textV st))).length:=by
  rw [h1,s2]
  refine wW fun j hj=>?_
  unfold fE
  rw [h1]
  have:(gE (bytesOf (textV st))).getD j (⟨#[]⟩:ByteArray)=(tG (bytesOf (textV st))).getD j (⟨#[]⟩:ByteArray):=by
   rw [← s1,mL,List.drop_zero,List.getD_eq_getElem?_getD,List.getD_eq_getElem?_getD,List.getElem?_take,if_pos (by rw [s2];exact hj)]
  rw [this]
 unfold jz dY da rZ ie vt
 rw [hS,h1,h2,h3,s1,s2]
 obtain ⟨_,t2,t3⟩:=oB (textN st) 1073741824 (by decide)
 rw [yM hn (n:=(1073741824:Int).toNat) (by decide)] at t2 t3
 rw [t2,t3]
 show sel _ _ (sel (ur (tG (bytesOf (textV st)))) _ _)=_∧sel _ _ (sel (ur (tG (bytesOf (textV st)))) _ _)=_∧sel _ _ (sel (ur (tG (bytesOf (textV st)))) _ _)=_
 cases aR (bytesOf (textV st)) (⟨#[]⟩:ByteArray) with
 |true=>exact ⟨rfl,rfl,rfl⟩
 |false =>
  cases ur (tG (bytesOf (textV st))) <;> exact ⟨rfl,rfl,rfl⟩
theorem HM {n:Nat} (h:n<4294967296):Ls (be4 n)=n:=by
 show (((n/16777216 % 256:Nat):Int)).toNat*16777216+(((n/65536 % 256:Nat):Int)).toNat*65536+(((n/256 % 256:Nat):Int)).toNat*256+(((n % 256:Nat):Int)).toNat=n
 rw [Int.toNat_natCast,Int.toNat_natCast,Int.toNat_natCast,Int.toNat_natCast]
 omega
theorem IZ (n:Nat) (h:n<4294967296) (r:List Int):lL (some (be4 n++r))=n∧nxO (some (be4 n++r)) 4=some r:=by
 have hl:4≤(be4 n++r).length:=by rw [List.length_append];show 4≤4+_;omega
 unfold lL
 have e1:(be4 n++r).take 4=be4 n:=List.take_left' rfl
 have e2:(be4 n++r).drop 4=r:=List.drop_left' rfl
 rw [ji,kj,if_pos hl,if_pos hl,e1,e2]
 exact ⟨HM h,rfl⟩
theorem kH (s r:List Int) (h:s.length≤16384):textV (some (be4 s.length++s++r))=s∧textN (some (be4 s.length++s++r))=some r:=by
 obtain ⟨h1,h2⟩:=IZ s.length (by omega) (s++r)
 rw [List.append_assoc]
 unfold textV textN
 have hl:s.length≤(s++r).length:=by rw [List.length_append];omega
 rw [h1,h2,if_neg (by omega),if_neg (by omega),ji,kj,if_pos hl,if_pos hl,List.take_left' rfl,List.drop_left' rfl]
 exact ⟨rfl,rfl⟩
theorem oP {a:List Int} {n:Nat} (h:n=a.length):aC a n 0 n=a:=ah h.symm
theorem mK {a:List Int} {n:Nat} (h:n=a.length):(a.drop 0).take n=a:=by rw [List.drop_zero,h,List.take_length]
end Go.Vm
namespace Go.Vm
open Go
theorem Dc:∀ l:List UInt8,nX ((spl l).map ba)≤l.length
 |[]=>Nat.le_refl 0
 |c :: r=>by
  have ih:=Dc r
  by_cases hc:c=44
  ·rw [spl,if_pos hc]
   show 0+nX _≤r.length+1
   omega
  ·rw [spl,if_neg hc]
   cases hs:spl r with
   |nil=>exact absurd hs (Ht r)
   |cons h t =>
    rw [hs] at ih
    have ih':h.length+nX (t.map ba)≤r.length:=ih
    show (h.length+1)+nX (t.map ba)≤r.length+1
    omega
def GU (x:List ByteArray):Prop:=x.length≤16385∧nX x≤16384
theorem qc:GU []:=⟨by decide,by decide⟩
theorem Fs {st:Rd} (h:fS st):GU (rZ st):=by
 have h1:=h.textV
 have hs:(bytesOf (textV st)).size≤16384:=by rw [ae];exact h1.2
 have hl:(bytesOf (textV st)).data.toList.length≤16384:=by rw [Array.length_toList];exact hs
 unfold rZ vt
 split
 ·exact qc
 ·split
  ·exact qc
  ·refine ⟨?_,Nat.le_trans (Dc _) hl⟩
   show ((spl _).map ba).length≤_
   rw [List.length_map,xk]
   have:=List.count_le_length (a:=(44:UInt8)) (l:=(bytesOf (textV st)).data.toList)
   omega
theorem oO {st:Rd} (h:fS st):fS (ie st):=by
 unfold ie
 cases (vt (bytesOf (textV st))).isSome
 ·rw [aA];intro s hs;cases hs
 ·rw [aB];exact h.textN
def rdT (st:Rd):Nat→Rd
 |0=>st
 |k+1=>ie (rdT st k)
theorem yi {st:Rd} (h:fS st):∀ k,fS (rdT st k)
 |0=>h
 |k+1=>oO (yi h k)
def wN (st:Rd):Nat→List (List ByteArray)
 |0=>zt 8
 |k+1=>(wN st k).set k (rZ (rdT st k))
theorem AJ (st:Rd):∀ k,(wN st k).length=8
 |0=>rfl
 |k+1=>by rw [wN,List.length_set,AJ st k]
theorem HJ {α:Type} (l:List α) (k j:Nat) (x d:α):(l.set k x).getD j d=x∨(l.set k x).getD j d=l.getD j d:=by
 by_cases e:k=j
 ·subst e
  by_cases hk:k<l.length
  ·left;rw [List.getD_eq_getElem?_getD,List.getElem?_set_self hk];rfl
  ·right;rw [List.getD_eq_getElem?_getD,List.getD_eq_getElem?_getD,List.getElem?_eq_none (by rw [List.length_set];omega),List.getElem?_eq_none (by omega)]
 ·right;rw [List.getD_eq_getElem?_getD,List.getD_eq_getElem?_getD,List.getElem?_set_ne e]
theorem MW (n j:Nat):(zt n).getD j []=[]:=by
 unfold zt
 rw [List.getD_eq_getElem?_getD,List.getElem?_replicate]
 split <;> rfl
theorem ES {st:Rd} (h:fS st):∀ k j,GU ((wN st k).getD j [])
 |0,j=>by rw [wN,MW];exact qc
 |k+1,j=>by
  rw [wN]
  rcases HJ (wN st k) k j (rZ (rdT st k)) [] with e|e
  ·rw [e];exact Fs (yi h k)
  ·rw [e];exact ES h k j
theorem xC {st:Rd} (h:fS st):∀ k,itr (mc) k (zt 8,rb st,eY st)=(wN st k,rb (rdT st k),eY (rdT st k))
 |0=>aX _ _
 |k+1=>by
  rw [aQ,xC h k]
  have n:=vO (yi h k)
  unfold mc
  simp only [n.1,n.2.1,n.2.2]
  rfl
def yO (p:List Int):Rd:=nxO (nxO (some p) 1) 16
def Kk (p:List Int):Rd:=nxO (nxO (ie (ie (rdT (yO p) 8))) 1) 4
def Id (p:List Int):Bool:=(mH (some p)==20) && (Kk p==some [])
def FR (p:List Int):List (List ByteArray):=if Id p then wN (yO p) 8 else zt 8
theorem mS {p:List Int} (hd:Dg p) (hl:p.length≤1000000000):fS (some p):=fun s hs=>by cases hs;exact ⟨hd,hl⟩
theorem xl {p:List Int} (hd:Dg p) (hl:p.length≤1000000000):fS (yO p):=((mS hd hl).nx 1).nx 16
theorem JG (p:List Int):(FR p).length=8:=by
 unfold FR
 split
 ·exact AJ _ _
 ·rfl
theorem Lc {p:List Int} (hd:Dg p) (hl:p.length≤1000000000) (j:Nat):GU ((FR p).getD j []):=by
 unfold FR
 split
 ·exact ES (xl hd hl) 8 j
 ·rw [MW];exact qc
theorem Em (x:Int):(x != 20) = !(x==20):=rfl
theorem EN {α:Type} (a b:Bool) (x y:α):sel (!a) x (sel (!b) x y)=if a && b then y else x:=by cases a <;> cases b <;> rfl
theorem KQ {p:List Int} (hd:Dg p) (hl:p.length≤1000000000):pX p=FR p∧ml p=if Id p then 0 else 3:=by
 have h0:=mS hd hl
 have b1:=nW (some p)
 have b2:=Hf (h0.nx 1) 16
 have e1:db p false=mH (some p):=b1.1
 have e2:aq p false=rb (nxO (some p) 1):=b1.2.1
 have e3:ao p false=eY (nxO (some p) 1):=b1.2.2
 have hi:dP p=(wN (yO p) 8,rb (rdT (yO p) 8),eY (rdT (yO p) 8)):=by
  unfold dP
  rw [e2,e3,b2.2.1,b2.2.2]
  exact xC (xl hd hl) 8
 have hr:=yi (xl hd hl) 8
 have n1:=vO hr
 have n2:=vO (oO hr)
 have f1:=MK (ie (ie (rdT (yO p) 8)))
 have u1:=Iz ((oO (oO hr)).nx 1)
 have v4:gu p=rb (ie (ie (rdT (yO p) 8))):=by unfold gu;rw [hi];simp only [n1.2.1,n1.2.2,n2.2.1]
 have v5:gm p=eY (ie (ie (rdT (yO p) 8))):=by unfold gm;rw [hi];simp only [n1.2.1,n1.2.2,n2.2.2]
 have v6:iy p=rb (Kk p):=by unfold iy;rw [v4,v5,f1.2.1,f1.2.2,u1.2.1];rfl
 have v7:iz p=eY (Kk p):=by unfold iz;rw [v4,v5,f1.2.1,f1.2.2,u1.2.2];rfl
 have ve:gw (iy p) (iz p)=(Kk p==some []):=by rw [v6,v7];exact nu _
 constructor
 ·unfold pX
  rw [e1,ve,hi,Em,EN]
  rfl
 ·unfold ml
  rw [e1,ve,Em,EN]
  rfl
theorem He {p:List Int} (hd:Dg p) (hl:p.length≤1000000000):fK p.length p=FR p∧dM p.length p=if Id p then 0 else 3:=by
 have e:aC p p.length 0 p.length=p:=ah rfl
 have q1:fK p.length p=pX p:=by
  unfold fK gT gO di dt bQ iG iH
  rw [e]
  rfl
 have q2:dM p.length p=ml p:=by
  unfold dM gT gO di dt bQ iG iH
  rw [e]
  rfl
 rw [q1,q2]
 exact KQ hd hl
end Go.Vm
namespace Go.Vm
open Go
def num (B:Int):List Int→Int
 |[]=>0
 |a :: bs=>a+B*num B bs
def bg (B:Int):Nat→Int→List Int
 |0,_=>[]
 |n+1,v=>v % B :: bg B n (v/B)
def Dig (B:Int) (xs:List Int):Prop:=∀ x∈xs,0≤x∧x<B
theorem gb (B a:Int) (bs:List Int):num B (a :: bs)=a+B*num B bs:=rfl
theorem gl (B v:Int) (n:Nat):bg B (n+1) v=v % B :: bg B n (v/B):=rfl
theorem Dig.cons {B a:Int} {bs:List Int} (h:Dig B (a :: bs)):(0≤a∧a<B)∧Dig B bs :=
 ⟨h a (by simp),fun x hx=>h x (List.mem_cons_of_mem _ hx)⟩
theorem Dig.mk_cons {B a:Int} {bs:List Int} (h:0≤a∧a<B) (h':Dig B bs):Dig B (a :: bs):=by
 intro x hx
 rcases List.mem_cons.1 hx with rfl|hx
 ·exact h
 ·exact h' x hx
theorem Dig.nil {B:Int}:Dig B []:=fun _ h=>by cases h
theorem rK {a b:Nat} (h:a≤b):(2:Int) ^ a≤2 ^ b:=by
 obtain ⟨d,rfl⟩:=Nat.exists_eq_add_of_le h
 have h1:(0:Int)<2 ^ a:=Int.pow_pos (by decide)
 have h2:(0:Int)<2 ^ d:=Int.pow_pos (by decide)
 have h3:=Int.mul_le_mul_of_nonneg_left (a:=1) (b:=2 ^ d) (c:=2 ^ a) (by omega) (by omega)
 rw [Int.pow_add]
 omega
theorem iD {B:Int} (hB:0<B) (n:Nat):0<B ^ n:=Int.pow_pos hB
theorem jT {B:Int} (hB:0<B):∀ {xs:List Int},Dig B xs→0≤num B xs∧num B xs<B ^ xs.length
 |[],_=>by simp [num]
 |a :: bs,h=>by
  obtain ⟨ha,hs⟩:=h.cons
  obtain ⟨h1,h2⟩:=jT hB hs
  have h3:0≤B*num B bs:=Int.mul_nonneg (by omega) h1
  have h4:B*(num B bs+1)≤B*B ^ bs.length:=Int.mul_le_mul_of_nonneg_left (by omega) (by omega)
  rw [gb,List.length_cons,Int.pow_succ,Int.mul_comm (B ^ _) B]
  rw [Int.mul_add] at h4
  omega
theorem aw (B:Int):∀ (n:Nat) (v:Int),(bg B n v).length=n
 |0,_=>rfl
 |n+1,v=>by rw [gl,List.length_cons,aw B n]
theorem dd {B:Int} (hB:0<B):∀ (n:Nat) (v:Int),Dig B (bg B n v)
 |0,_=>Dig.nil
 |n+1,v=>Dig.mk_cons ⟨Int.emod_nonneg _ (by omega),Int.emod_lt_of_pos _ hB⟩ (dd hB n _)
theorem gG {B:Int} (hB:0<B):∀ (n:Nat) (v:Int),num B (bg B n v)=v % B ^ n
 |0,v=>by simp [bg,num]
 |n+1,v=>by
  rw [gl,gb,gG hB n,Int.pow_succ,Int.mul_comm (B ^ n) B]
  have h1:=Int.emod_nonneg v (b:=B) (by omega)
  have h2:=Int.emod_lt_of_pos v hB
  have h3:=Int.emod_add_mul_ediv v B
  have h4:=Int.emod_add_mul_ediv (v/B) (B ^ n)
  have hn:=iD hB n
  have h5:=Int.emod_nonneg (v/B) (b:=B ^ n) (by omega)
  have h6:=Int.emod_lt_of_pos (v/B) hn
  have h7:B*(v/B % B ^ n+1)≤B*B ^ n:=Int.mul_le_mul_of_nonneg_left (by omega) (by omega)
  have h8:0≤B*(v/B % B ^ n):=Int.mul_nonneg (by omega) h5
  rw [Int.mul_add] at h7
  have e:v=(v % B+B*(v/B % B ^ n))+(B*B ^ n)*(v/B/B ^ n):=by
   rw [Int.mul_assoc]
   rw [Int.add_assoc,← Int.mul_add,h4,h3]
  have e2:v % (B*B ^ n)=(v % B+B*(v/B % B ^ n)) % (B*B ^ n):=by
   conv=>lhs;rw [e]
   rw [Int.add_mul_emod_self_left]
  rw [e2]
  exact (Int.emod_eq_of_lt (by omega) (by omega)).symm
theorem qJ {B:Int} (hB:0<B):∀ {xs:List Int},Dig B xs→bg B xs.length (num B xs)=xs
 |[],_=>rfl
 |a :: bs,h=>by
  obtain ⟨ha,hs⟩:=h.cons
  rw [List.length_cons,gl,gb,Int.add_mul_emod_self_left,Int.emod_eq_of_lt ha.1 ha.2,Int.add_mul_ediv_left _ _ (by omega),Int.ediv_eq_zero_of_lt ha.1 ha.2,Int.zero_add,qJ hB hs]
theorem lP {B:Int} (hB:0<B) {xs:List Int} {n:Nat} {v:Int} (h:Dig B xs) (hn:xs.length=n) (hv:num B xs=v):xs=bg B n v:=by
 rw [← qJ hB h,hn,hv]
theorem gn {B:Int}:∀ {xs:List Int} {i:Nat} {x:Int},i<xs.length→num B (xs.set i x)=num B xs+(x-xs.getD i 0)*B ^ i
 |[],i,x,h=>by simp at h
 |a :: bs,0,x,h=>by simp [num];omega
 |a :: bs,i+1,x,h=>by
  have:=gn (B:=B) (xs:=bs) (i:=i) (x:=x) (by simpa using h)
  rw [List.set_cons_succ,gb,this,gb,List.getD_cons_succ,Int.pow_succ,Int.mul_add]
  have:B*((x-bs.getD i 0)*B ^ i)=(x-bs.getD i 0)*(B ^ i*B):=by rw [Int.mul_comm B,Int.mul_assoc]
  omega
theorem oA {B:Int} {xs:List Int} {i:Nat} {x:Int} (h:Dig B xs) (hx:0≤x∧x<B):Dig B (xs.set i x):=by
 intro y hy
 rcases List.mem_or_eq_of_mem_set hy with h1|h1
 ·exact h y h1
 ·rw [h1];exact hx
theorem kn {B:Int} (hB:0<B):∀ {xs:List Int} {i:Nat},Dig B xs→xs.getD i 0=num B xs/B ^ i % B
 |[],i,h=>by simp [num]
 |a :: bs,0,h=>by
  obtain ⟨ha,hs⟩:=h.cons
  rw [List.getD_cons_zero,gb,Int.pow_zero,Int.ediv_one,Int.add_mul_emod_self_left,Int.emod_eq_of_lt ha.1 ha.2]
 |a :: bs,i+1,h=>by
  obtain ⟨ha,hs⟩:=h.cons
  rw [List.getD_cons_succ,kn hB (i:=i) hs,gb,Int.pow_succ,Int.mul_comm (B ^ i) B,← Int.ediv_ediv_of_nonneg (by omega),Int.add_mul_ediv_left _ _ (by omega),Int.ediv_eq_zero_of_lt ha.1 ha.2,Int.zero_add]
theorem bD {B:Int} (hB:0<B) {xs:List Int} {i:Nat} (h:Dig B xs):0≤xs.getD i 0∧xs.getD i 0<B:=by
 rw [kn hB h]
 exact ⟨Int.emod_nonneg _ (by omega),Int.emod_lt_of_pos _ hB⟩
theorem dN {B:Int}:∀ {xs:List Int} {i:Nat},num B (xs.take (i+1))=num B (xs.take i)+xs.getD i 0*B ^ i
 |[],i=>by simp [num]
 |a :: bs,0=>by simp [num]
 |a :: bs,i+1=>by
  have:=dN (B:=B) (xs:=bs) (i:=i)
  rw [List.take_succ_cons,gb,this,List.take_succ_cons,gb,List.getD_cons_succ,Int.pow_succ,Int.mul_add]
  have:B*(bs.getD i 0*B ^ i)=bs.getD i 0*(B ^ i*B):=by rw [Int.mul_comm B,Int.mul_assoc]
  omega
theorem kS (B:Int):∀ n,num B (List.replicate n 0)=0
 |0=>rfl
 |n+1=>by rw [List.replicate_succ,gb,kS B n];simp
theorem wG (x:Int) {m r:Nat} (h:r<m):x % 2 ^ m/2 ^ r % 2=x/2 ^ r % 2:=by
 obtain ⟨d,rfl⟩:∃ d,m=r+(d+1):=⟨m-r-1,by omega⟩
 have hr:=iD (B:=2) (by decide) r
 have e1:=Int.emod_add_mul_ediv x (2 ^ (r+(d+1)))
 have e2:x/2 ^ r=x % 2 ^ (r+(d+1))/2 ^ r+2*(2 ^ d*(x/2 ^ (r+(d+1)))):=by
  conv=>lhs;rw [← e1]
  rw [Int.pow_add,Int.mul_assoc,Int.add_mul_ediv_left _ _ (by omega),Int.pow_succ,Int.mul_comm (2 ^ d) 2,Int.mul_assoc]
 rw [e2,Int.add_mul_emod_self_left]
theorem kW {m:Nat} (hm:0<m) {xs:List Int} (h:Dig (2 ^ m) xs) (k:Nat):xs.getD (k/m) 0/2 ^ (k % m) % 2=num (2 ^ m) xs/2 ^ k % 2:=by
 have hB:=iD (B:=2) (by decide) m
 rw [kn hB h,wG _ (Nat.mod_lt _ hm),Int.ediv_ediv_of_nonneg (Int.le_of_lt (iD hB _)),← Int.pow_mul,← Int.pow_add,Nat.div_add_mod]
theorem DI (x:Int) (k:Nat):x % 2 ^ (k+1)=x % 2 ^ k+x/2 ^ k % 2*2 ^ k:=by
 have hk:=iD (B:=2) (by decide) k
 have e1:=Int.emod_add_mul_ediv x (2 ^ k)
 have e2:=Int.emod_add_mul_ediv (x/2 ^ k) 2
 have h1:=Int.emod_nonneg x (b:=2 ^ k) (by omega)
 have h2:=Int.emod_lt_of_pos x hk
 have e:x=(x % 2 ^ k+x/2 ^ k % 2*2 ^ k)+2 ^ (k+1)*(x/2 ^ k/2):=by
  rw [Int.pow_succ,Int.mul_assoc,Int.add_assoc,Int.mul_comm (x/2 ^ k % 2),← Int.mul_add,e2,e1]
 conv=>lhs;rw [e]
 rw [Int.add_mul_emod_self_left]
 rcases Int.emod_two_eq (x/2 ^ k) with h|h <;> rw [h,Int.pow_succ] <;> exact Int.emod_eq_of_lt (by omega) (by omega)
theorem Dh (u v:Int) (n:Nat) (hu:0≤u) (hv:0≤v) (hv':v<2 ^ n) (h:u*2 ^ n+v<18446744073709551616):iOr .u64 (u*2 ^ n) v=u*2 ^ n+v:=by
 obtain ⟨a,rfl⟩:=Int.eq_ofNat_of_zero_le hu
 obtain ⟨b,rfl⟩:=Int.eq_ofNat_of_zero_le hv
 have hb:b<2 ^ n:=by
  have h0:((2:Int) ^ n)=((2 ^ n:Nat):Int):=by rw [Int.natCast_pow];rfl
  have h1:(b:Int)<2 ^ n:=hv'
  rw [h0] at h1
  exact Int.ofNat_lt.1 h1
 have hab:a*2 ^ n+b<18446744073709551616:=by
  have h0:((a:Int)*2 ^ n)=((a*2 ^ n:Nat):Int):=by rw [Int.natCast_mul,Int.natCast_pow];rfl
  have h1:((a:Int))*2 ^ n+(b:Int)<18446744073709551616:=h
  rw [h0] at h1
  omega
 have e:((a:Int)*2 ^ n)=((a*2 ^ n:Nat):Int):=by rw [Int.natCast_mul,Int.natCast_pow];rfl
 rw [e]
 unfold iOr
 rw [gN]
 show (((BitVec.ofInt 64 ((a*2 ^ n:Nat):Int) ||| BitVec.ofInt 64 (b:Int)).toNat:Nat):Int) % 18446744073709551616=_
 rw [BitVec.ofInt_natCast,BitVec.ofInt_natCast,BitVec.toNat_or,BitVec.toNat_ofNat,BitVec.toNat_ofNat,Nat.mod_eq_of_lt (a:=a*2 ^ n) (by omega),Nat.mod_eq_of_lt (a:=b) (by omega)]
 have:a*2 ^ n ||| b=a*2 ^ n+b:=by
  rw [Nat.mul_comm];exact (Nat.two_pow_add_eq_or_of_lt hb a).symm
 rw [this]
 omega
theorem Fk {m n k:Nat} (hm:0<m) (hk:k<m*n) {t:List Int} {v x:Int} (ht:Dig (2 ^ m) t) (hn:t.length=n) (hv:num (2 ^ m) t=v % 2 ^ k) (hx:x=t.getD (k/m) 0+v/2 ^ k % 2*2 ^ (k % m)) :
  t.getD (k/m) 0<2 ^ (k % m)∧Dig (2 ^ m) (t.set (k/m) x)∧(t.set (k/m) x).length=n∧num (2 ^ m) (t.set (k/m) x)=v % 2 ^ (k+1):=by
 have hB:=iD (B:=2) (by decide) m
 have hr:k % m<m:=Nat.mod_lt _ hm
 have hi:k/m<n:=by rw [Nat.div_lt_iff_lt_mul hm,Nat.mul_comm];exact hk
 have hpk:=iD (B:=2) (by decide) k
 have hpr:=iD (B:=2) (by decide) (k % m)
 have h0:=bD hB ht (i:=k/m)
 have hg:t.getD (k/m) 0<2 ^ (k % m):=by
  have h1:0≤v % 2 ^ k:=Int.emod_nonneg _ (by omega)
  have h2:v % 2 ^ k<2 ^ k:=Int.emod_lt_of_pos _ hpk
  have e:(2:Int) ^ k=2 ^ (k % m)*(2 ^ m) ^ (k/m):=by
   rw [← Int.pow_mul,← Int.pow_add,Nat.mod_add_div]
  have h3:v % 2 ^ k/(2 ^ m) ^ (k/m)<2 ^ (k % m):=by
   apply Int.ediv_lt_of_lt_mul (iD hB _)
   rw [← e];exact h2
  have h4:0≤v % 2 ^ k/(2 ^ m) ^ (k/m):=Int.ediv_nonneg h1 (Int.le_of_lt (iD hB _))
  have h5:(2:Int) ^ (k % m)≤2 ^ m:=rK (by omega)
  rw [kn hB ht,hv,Int.emod_eq_of_lt h4 (by omega)]
  exact h3
 refine ⟨hg,oA ht ?_,by rw [List.length_set,hn],?_⟩
 ·have h5:(2:Int) ^ (k % m+1)≤2 ^ m:=rK (by omega)
  rw [Int.pow_succ] at h5
  rw [hx]
  rcases Int.emod_two_eq (v/2 ^ k) with h|h <;> rw [h] <;> omega
 ·rw [gn (by omega),hv,hx,DI]
  have e:(v/2 ^ k % 2*2 ^ (k % m))*(2 ^ m) ^ (k/m)=v/2 ^ k % 2*2 ^ k:=by
   rw [Int.mul_assoc,← Int.pow_mul,← Int.pow_add,Nat.mod_add_div]
  rw [← e]
  congr 2
  omega
end Go.Vm
namespace Go.Vm
open Go
structure Uns (k:IntKind) (N:Nat):Prop where
 bits:2 ^ k.bits=N
 wrap:∀ x,k.wrap x=x % (N:Int)
theorem wJ:Uns .u8 256:=⟨rfl,dc⟩
theorem Dz:Uns .u32 4294967296:=⟨rfl,mJ⟩
theorem fA:Uns .u64 18446744073709551616:=⟨rfl,gN⟩
theorem rR {k:IntKind} {N:Nat} (h:Uns k N) {a:Nat} (ha:a<N):(BitVec.ofInt k.bits (a:Int)).toNat=a:=by
 rw [BitVec.ofInt_natCast,BitVec.toNat_ofNat,h.bits,Nat.mod_eq_of_lt ha]
theorem qq {k:IntKind} {N:Nat} (h:Uns k N) {a:Nat} (ha:a<N):k.wrap (a:Int)=(a:Int):=by
 rw [h.wrap];exact Int.emod_eq_of_lt (by omega) (by omega)
theorem lX {k:IntKind} {N:Nat} (h:Uns k N) {a b:Nat} (ha:a<N) (hb:b<N):iOr k (a:Int) (b:Int)=((a ||| b:Nat):Int):=by
 have:a ||| b<N:=by rw [← h.bits] at *;exact Nat.or_lt_two_pow ha hb
 unfold iOr
 rw [BitVec.toNat_or,rR h ha,rR h hb,qq h this]
theorem eg {k:IntKind} {N:Nat} (h:Uns k N) {a b:Nat} (ha:a<N) (hb:b<N):aG k (a:Int) (b:Int)=((a &&& b:Nat):Int):=by
 have:a &&& b<N:=by have:=Nat.and_le_left (n:=a) (m:=b);omega
 unfold aG
 rw [BitVec.toNat_and,rR h ha,rR h hb,qq h this]
theorem jm {k:IntKind} {N:Nat} (h:Uns k N) {a b:Nat} (ha:a<N) (hb:b<N):aS k (a:Int) (b:Int)=((a ^^^ b:Nat):Int):=by
 have:a ^^^ b<N:=by rw [← h.bits] at *;exact Nat.xor_lt_two_pow ha hb
 unfold aS
 rw [BitVec.toNat_xor,rR h ha,rR h hb,qq h this]
theorem tQ {x:Int} {N:Nat} (h:0≤x∧x<(N:Int)):∃ a:Nat,x=(a:Int)∧a<N:=by
 obtain ⟨a,rfl⟩:=Int.eq_ofNat_of_zero_le h.1
 exact ⟨a,rfl,by omega⟩
theorem AH {k:IntKind} {N:Nat} (h:Uns k N) (hN:1<N) {x:Int} (hx:0≤x∧x<(N:Int)):aG k x 1=x % 2:=by
 obtain ⟨a,rfl,ha⟩:=tQ hx
 have:=eg h ha hN
 rw [Nat.and_one_is_mod] at this
 exact this
theorem xe {k:IntKind} {N:Nat} (h:Uns k N) {u v:Int} {n:Nat} (hu:0≤u) (hv:0≤v) (hv':v<2 ^ n) (hb:v+u*2 ^ n<(N:Int)):iOr k v (u*2 ^ n)=v+u*2 ^ n:=by
 obtain ⟨a,rfl⟩:=Int.eq_ofNat_of_zero_le hu
 obtain ⟨b,rfl⟩:=Int.eq_ofNat_of_zero_le hv
 have e:((a:Int)*2 ^ n)=((a*2 ^ n:Nat):Int):=by rw [Int.natCast_mul,Int.natCast_pow];rfl
 have e2:((2:Int) ^ n)=((2 ^ n:Nat):Int):=by rw [Int.natCast_pow];rfl
 rw [e] at hb ⊢
 rw [e2] at hv'
 rw [lX h (by omega) (by omega)]
 have:b ||| a*2 ^ n=a*2 ^ n+b:=by
  rw [Nat.or_comm,Nat.mul_comm];exact (Nat.two_pow_add_eq_or_of_lt (by omega) a).symm
 rw [this];omega
theorem mZ (n:Nat):(0:Int)<2 ^ n:=Int.pow_pos (by decide)
theorem uZ {k:IntKind} {N:Nat} (h:Uns k N) (hN:1<N) {x:Int} {n:Nat} (hn:n≤k.bits) (hx:0≤x∧x<(N:Int)):aG k (aH k x (n:Int)) 1=x/2 ^ n % 2:=by
 rw [gZ k x n hn,AH h hN]
 have h1:=mZ n
 refine ⟨Int.ediv_nonneg hx.1 (by omega),?_⟩
 have:=Int.ediv_le_self (b:=2 ^ n) (a:=x) hx.1
 omega
theorem Gl {k:IntKind} {N:Nat} (h:Uns k N) {old b:Int} {n:Nat} (hn:n<k.bits) (hb:b=0∨b=1) (ho:0≤old) (ho':old<2 ^ n):iOr k old (cv k (k.wrap b) (n:Int))=old+b*2 ^ n:=by
 have hp:=mZ n
 have h1:(2:Int) ^ (n+1)≤2 ^ k.bits:=rK (by omega)
 have h2:(2:Int) ^ k.bits=(N:Int):=by rw [← h.bits,Int.natCast_pow];rfl
 rw [Int.pow_succ] at h1
 have hw:k.wrap b=b:=by rw [h.wrap];exact Int.emod_eq_of_lt (by omega) (by omega)
 have hb1:b*2 ^ n<(N:Int)∧0≤b*2 ^ n∧old+b*2 ^ n<(N:Int):=by rcases hb with rfl|rfl <;> omega
 rw [hw,oK k b n (by omega),h.wrap,Int.emod_eq_of_lt hb1.2.1 hb1.1]
 exact xe h (by omega) ho ho' hb1.2.2
theorem Mf (x:Int) (n:Nat):x/2 ^ n % 2=0∨x/2 ^ n % 2=1:=Int.emod_two_eq _
end Go.Vm
namespace Go.Vm
open Go
theorem eZ {α β:Type} (R:Nat→α→β→Prop) {f:Nat→α→α} {g:Nat→β→β}:∀ {n:Nat} {x:α} {y:β},R 0 x y→(∀ k,k<n→∀ a b,R k a b→R (k+1) (f k a) (g k b))→R n (itr f n x) (itr g n y):=by
 intro n
 induction n with
 |zero=>intro x y h0 hs;rw [aX,aX];exact h0
 |succ n ih =>
  intro x y h0 hs
  rw [aQ,aQ]
  exact hs n (Nat.lt_succ_self n) _ _ (ih h0 fun k hk=>hs k (Nat.lt_succ_of_lt hk))
theorem MS {w n s x:Nat} (hw:n+s=w) (hx:x<2 ^ w) :
  x*2 ^ s % 2 ^ w=2 ^ s*(x % 2 ^ n)∧x/2 ^ n<2 ^ s∧2 ^ s*(x % 2 ^ n)+x/2 ^ n<2 ^ w∧(x/2 ^ n+x*2 ^ s) % 2 ^ w=2 ^ s*(x % 2 ^ n)+x/2 ^ n:=by
 subst hw
 have e1:x*2 ^ s % 2 ^ (n+s)=2 ^ s*(x % 2 ^ n):=by rw [Nat.pow_add,Nat.mul_comm x,Nat.mul_comm (2 ^ n)];exact Nat.mul_mod_mul_left _ _ _
 have e2:x/2 ^ n<2 ^ s:=Nat.div_lt_of_lt_mul (by rw [← Nat.pow_add];exact hx)
 have e3:2 ^ s*(x % 2 ^ n)+x/2 ^ n<2 ^ (n+s):=by
  have h1:x % 2 ^ n<2 ^ n:=Nat.mod_lt _ (Nat.pow_pos (by decide))
  have h2:2 ^ s*(x % 2 ^ n+1)≤2 ^ s*2 ^ n:=Nat.mul_le_mul_left _ h1
  rw [Nat.pow_add,Nat.mul_comm (2 ^ n)]
  rw [Nat.mul_add] at h2
  omega
 refine ⟨e1,e2,e3,?_⟩
 rw [Nat.add_mod,e1,Nat.mod_eq_of_lt (Nat.lt_of_le_of_lt (Nat.div_le_self _ _) hx),Nat.add_comm,Nat.mod_eq_of_lt e3]
theorem qN {k:IntKind} {N:Nat} (h:Uns k N) {a n:Nat} (hn:n≤k.bits):cv k (a:Int) (n:Int)=((a*2 ^ n % N:Nat):Int):=by
 rw [oK k _ _ hn,h.wrap]
 simp
theorem oR (k:IntKind) {a n:Nat} (hn:n≤k.bits):aH k (a:Int) (n:Int)=((a/2 ^ n:Nat):Int):=by
 rw [gZ k _ _ hn]
 simp
theorem tM {k:IntKind} {N:Nat} (h:Uns k N) (a b:Nat):aE k (a:Int) (b:Int)=(((a+b) % N:Nat):Int):=by
 show k.wrap _=_
 rw [h.wrap]
 simp
theorem ER {k:IntKind} {N:Nat} (h:Uns k N) (a b:Nat):bE k (a:Int) (b:Int)=((a*b % N:Nat):Int):=by
 show k.wrap _=_
 rw [h.wrap]
 simp
theorem pf {k:IntKind} {N:Nat} (h:Uns k N) (a:Nat):k.wrap (a:Int)=((a % N:Nat):Int):=by
 rw [h.wrap]
 simp
theorem Ib {k:IntKind} {w n s x:Nat} (h:Uns k (2 ^ w)) (hk:k.bits=w) (hw:n+s=w) (hx:x<2 ^ w) :
  iOr k (cv k (x:Int) (s:Int)) (aH k (x:Int) (n:Int))=(((x/2 ^ n+x*2 ^ s) % 2 ^ w:Nat):Int):=by
 obtain ⟨e1,e2,e3,e4⟩:=MS hw hx
 rw [qN h (by omega),oR k (by omega),e1,lX h (by omega) (Nat.lt_of_le_of_lt (Nat.div_le_self _ _) hx),e4,← Nat.two_pow_add_eq_or_of_lt e2]
theorem NX {w a b c:Nat} (ha:a<2 ^ w):(a &&& b) ^^^ (((2 ^ w-1) ^^^ a) &&& c)=(a &&& b) ||| (((2 ^ w-1) ^^^ a) &&& c):=by
 apply Nat.eq_of_testBit_eq
 intro i
 simp only [Nat.testBit_xor,Nat.testBit_and,Nat.testBit_or,Nat.testBit_two_pow_sub_one]
 cases hb:a.testBit i
 ·simp
 ·have:i<w:=by
   apply Classical.byContradiction
   intro hn
   rw [Nat.testBit_lt_two_pow (Nat.lt_of_lt_of_le ha (Nat.pow_le_pow_right (by decide) (by omega)))] at hb
   cases hb
  simp [this]
theorem Ly (a b c:Nat):(a &&& b) ^^^ (a &&& c) ^^^ (b &&& c)=((a &&& b) ||| (b &&& c)) ||| (a &&& c):=by
 apply Nat.eq_of_testBit_eq
 intro i
 simp only [Nat.testBit_xor,Nat.testBit_and,Nat.testBit_or]
 cases a.testBit i <;> cases b.testBit i <;> cases c.testBit i <;> rfl
def Wd (w:Nat) (x:Int):Prop:=∃ a:Nat,x=(a:Int)∧a<2 ^ w
theorem Wd.up {w v:Nat} {x:Int} (h:Wd w x) (hv:w≤v):Wd v x:=by
 obtain ⟨a,rfl,h⟩:=h
 exact ⟨a,rfl,Nat.lt_of_lt_of_le h (Nat.pow_le_pow_right (by decide) hv)⟩
theorem Wd.and {w:Nat} {k:IntKind} (h:Uns k (2 ^ w)) {x y:Int} (hx:Wd w x) (hy:Wd w y):Wd w (aG k x y):=by
 obtain ⟨a,rfl,ha⟩:=hx
 obtain ⟨b,rfl,hb⟩:=hy
 exact ⟨_,eg h ha hb,Nat.and_lt_two_pow _ hb⟩
theorem Wd.xor {w:Nat} {k:IntKind} (h:Uns k (2 ^ w)) {x y:Int} (hx:Wd w x) (hy:Wd w y):Wd w (aS k x y):=by
 obtain ⟨a,rfl,ha⟩:=hx
 obtain ⟨b,rfl,hb⟩:=hy
 exact ⟨_,jm h ha hb,Nat.xor_lt_two_pow ha hb⟩
theorem Wd.mod {w:Nat} (x:Int):Wd w (x % ((2 ^ w:Nat):Int)):=by
 have hp:(0:Int)<((2 ^ w:Nat):Int):=Int.natCast_pos.2 (Nat.pow_pos (by decide))
 obtain ⟨a,ha⟩:=Int.eq_ofNat_of_zero_le (Int.emod_nonneg x (Int.ne_of_gt hp))
 have h2:=Int.emod_lt_of_pos x hp
 rw [ha] at h2
 exact ⟨a,ha,Int.ofNat_lt.1 h2⟩
theorem Wd.of {w:Nat} {x:Int} (h:0≤x) (h':x<((2 ^ w:Nat):Int)):Wd w x:=by
 obtain ⟨a,rfl⟩:=Int.eq_ofNat_of_zero_le h
 exact ⟨a,rfl,Int.ofNat_lt.1 h'⟩
theorem HC (o i:Nat):adr o i 1=o+i:=by rw [co];omega
def zy (x:Int):Prop:=∃ b:Nat,x=(b:Int)∧b<256
theorem jj {v w:Nat} {k k':IntKind} (h:Uns k (2 ^ w)) (h':Uns k' (2 ^ v)) (hv:w≤v) {x y:Int} (hx:Wd w x) (hy:Wd w y):aS k' x y=aS k x y:=by
 have hp:2 ^ w≤2 ^ v:=Nat.pow_le_pow_right (by decide) hv
 obtain ⟨a,rfl,ha⟩:=hx
 obtain ⟨b,rfl,hb⟩:=hy
 rw [jm h ha hb,jm h' (by omega) (by omega)]
theorem JH {w n:Nat} (k:IntKind) (hn:n≤k.bits) {x:Int} (hx:Wd w x):Wd w (aH k x (n:Int)):=by
 obtain ⟨a,rfl,ha⟩:=hx
 exact ⟨_,oR k hn,Nat.lt_of_le_of_lt (Nat.div_le_self _ _) ha⟩
theorem pr {w n:Nat} (k k':IntKind) (hn:n≤k.bits) (hn':n≤k'.bits) {x:Int} (hx:Wd w x):aH k' x (n:Int)=aH k x (n:Int):=by
 obtain ⟨a,rfl,ha⟩:=hx
 rw [oR k hn,oR k' hn']
theorem Dv {v w:Nat} {k k':IntKind} (h:Uns k (2 ^ w)) (h':Uns k' (2 ^ v)) (hv:w≤v) {x y z:Int} (hx:Wd w x) (hy:Wd w y) (hz:Wd w z) :
  iOr k' (aG k' x y) (aG k' (aS k' ((2 ^ w-1:Nat):Int) x) z)=aS k (aG k x y) (aG k (aS k ((2 ^ w-1:Nat):Int) x) z):=by
 have hp:2 ^ w≤2 ^ v:=Nat.pow_le_pow_right (by decide) hv
 obtain ⟨a,rfl,ha⟩:=hx
 obtain ⟨b,rfl,hb⟩:=hy
 obtain ⟨c,rfl,hc⟩:=hz
 have hm:2 ^ w-1<2 ^ w:=Nat.sub_lt (Nat.pow_pos (by decide)) (by decide)
 have hq:=Nat.xor_lt_two_pow hm ha
 have h1:a &&& b<2 ^ w:=Nat.and_lt_two_pow _ hb
 have h2:((2 ^ w-1) ^^^ a) &&& c<2 ^ w:=Nat.and_lt_two_pow _ hc
 rw [jm h hm ha,jm h' (by omega) (by omega),eg h ha hb,eg h' (by omega) (by omega),eg h hq hc,eg h' (by omega) (by omega),jm h h1 h2,lX h' (by omega) (by omega),NX ha]
theorem zO {v w:Nat} {k k':IntKind} (h:Uns k (2 ^ w)) (h':Uns k' (2 ^ v)) (hv:w≤v) {x y z:Int} (hx:Wd w x) (hy:Wd w y) (hz:Wd w z) :
  iOr k' (iOr k' (aG k' x y) (aG k' y z)) (aG k' x z)=aS k (aS k (aG k x y) (aG k x z)) (aG k y z):=by
 have hp:2 ^ w≤2 ^ v:=Nat.pow_le_pow_right (by decide) hv
 obtain ⟨a,rfl,ha⟩:=hx
 obtain ⟨b,rfl,hb⟩:=hy
 obtain ⟨c,rfl,hc⟩:=hz
 have h1:a &&& b<2 ^ w:=Nat.and_lt_two_pow _ hb
 have h2:a &&& c<2 ^ w:=Nat.and_lt_two_pow _ hc
 have h3:b &&& c<2 ^ w:=Nat.and_lt_two_pow _ hc
 have h4:=Nat.or_lt_two_pow (n:=w) h1 h3
 rw [eg h ha hb,eg h' (by omega) (by omega),eg h ha hc,eg h' (by omega) (by omega),eg h hb hc,eg h' (by omega) (by omega),jm h h1 h2,jm h (Nat.xor_lt_two_pow h1 h2) h3,
  lX h' (by omega) (by omega),lX h' (by omega) (by omega),Ly]
end Go.Vm
namespace Go.Vm
open Go
theorem ik:Uns .u32 (2 ^ 32):=Dz
theorem AP {n s:Nat} (hw:n+s=32) (h0:0<n) (h1:0<s) {x:Int} (hx:Wd 32 x):eD x (n:Int)=cH x (s:Int)∧Wd 32 (cH x (s:Int)):=by
 obtain ⟨a,rfl,ha⟩:=hx
 have c1:aG .u64 (IntKind.wrap .u64 (s:Int)) 31=(s:Int):=by
  have h:∀ s:Fin 32,aG .u64 (IntKind.wrap .u64 ((s.val:Nat):Int)) 31=((s.val:Nat):Int):=by decide
  exact h ⟨s,by omega⟩
 have c2:aZ .u64 32 (s:Int)=(n:Int):=by rw [vL];omega
 have c3:aZ .i64 32 (n:Int)=(s:Int):=by rw [fI (by omega) (by omega)];omega
 have e1:cH (a:Int) (s:Int)=(((a/2 ^ n+a*2 ^ s) % 2 ^ 32:Nat):Int):=by
  unfold cH
  rw [c1,c2]
  exact Ib ik rfl hw ha
 refine ⟨?_,_,e1,Nat.mod_lt _ (Nat.pow_pos (by decide))⟩
 rw [e1]
 unfold eD
 rw [c3,oR .u64 (show n≤64 by omega),qN fA (show s≤64 by omega),tM fA]
 refine (kP _ 32 (by decide)).trans ?_
 rw [show ((2:Int) ^ 32)=((4294967296:Nat):Int) from rfl,← Int.natCast_emod]
 congr 1
 rw [show (2:Nat) ^ 32=4294967296 from rfl]
 generalize a/2 ^ n=u
 generalize a*2 ^ s=v
 omega
theorem Iu {n1 s1 n2 s2 n3:Nat} (h1:n1+s1=32) (h2:n2+s2=32) (h1':0<n1∧0<s1) (h2':0<n2∧0<s2) (h3:n3<32) {x:Int} (hx:Wd 32 x) :
  ca x [(n1:Int),(n2:Int),(n3:Int)] true=aS .u32 (aS .u32 (cH x (s1:Int)) (cH x (s2:Int))) (aH .u32 x (n3:Int))∧Wd 32 (aS .u32 (aS .u32 (cH x (s1:Int)) (cH x (s2:Int))) (aH .u32 x (n3:Int))):=by
 obtain ⟨a1,a2⟩:=AP h1 h1'.1 h1'.2 hx
 obtain ⟨b1,b2⟩:=AP h2 h2'.1 h2'.2 hx
 have b3:=JH (n:=n3) .u32 (show n3≤32 by omega) hx
 refine ⟨?_,(a2.xor ik b2).xor ik b3⟩
 unfold ca
 rw [aB]
 show aS .u64 (aS .u64 (eD x (n1:Int)) (eD x (n2:Int))) (aH .u64 x (n3:Int))=_
 rw [a1,b1,jj (v:=64) ik fA (by decide) a2 b2,pr .u32 .u64 (show n3≤32 by omega) (show n3≤64 by omega) hx,jj (v:=64) ik fA (by decide) (a2.xor ik b2) b3]
theorem Jt {n1 s1 n2 s2 n3 s3:Nat} (h1:n1+s1=32) (h2:n2+s2=32) (h3:n3+s3=32) (h1':0<n1∧0<s1) (h2':0<n2∧0<s2) (h3':0<n3∧0<s3) {x:Int} (hx:Wd 32 x) :
  ca x [(n1:Int),(n2:Int),(n3:Int)] false=aS .u32 (aS .u32 (cH x (s1:Int)) (cH x (s2:Int))) (cH x (s3:Int))∧Wd 32 (aS .u32 (aS .u32 (cH x (s1:Int)) (cH x (s2:Int))) (cH x (s3:Int))):=by
 obtain ⟨a1,a2⟩:=AP h1 h1'.1 h1'.2 hx
 obtain ⟨b1,b2⟩:=AP h2 h2'.1 h2'.2 hx
 obtain ⟨c1,c2⟩:=AP h3 h3'.1 h3'.2 hx
 refine ⟨?_,(a2.xor ik b2).xor ik c2⟩
 unfold ca
 rw [aA]
 show aS .u64 (aS .u64 (eD x (n1:Int)) (eD x (n2:Int))) (eD x (n3:Int))=_
 rw [a1,b1,c1,jj (v:=64) ik fA (by decide) a2 b2,jj (v:=64) ik fA (by decide) (a2.xor ik b2) c2]
theorem HA {x:Int} (hx:Wd 32 x):ca x [7,18,3] true=(aS .u32 (aS .u32 (cH x 25) (cH x 14)) (aH .u32 x 3)):=(Iu (n1:=7) (s1:=25) (n2:=18) (s2:=14) (n3:=3) rfl rfl (by decide) (by decide) (by decide) hx).1
theorem HR {x:Int} (hx:Wd 32 x):ca x [17,19,10] true=(aS .u32 (aS .u32 (cH x 15) (cH x 13)) (aH .u32 x 10)):=(Iu (n1:=17) (s1:=15) (n2:=19) (s2:=13) (n3:=10) rfl rfl (by decide) (by decide) (by decide) hx).1
theorem Gh {x:Int} (hx:Wd 32 x):ca x [2,13,22] false=(aS .u32 (aS .u32 (cH x 30) (cH x 19)) (cH x 10)):=(Jt (n1:=2) (s1:=30) (n2:=13) (s2:=19) (n3:=22) (s3:=10) rfl rfl rfl (by decide) (by decide) (by decide) hx).1
theorem Gk {x:Int} (hx:Wd 32 x):ca x [6,11,25] false=(aS .u32 (aS .u32 (cH x 26) (cH x 21)) (cH x 7)):=(Jt (n1:=6) (s1:=26) (n2:=11) (s2:=21) (n3:=25) (s3:=7) rfl rfl rfl (by decide) (by decide) (by decide) hx).1
theorem lN (x y:Int):aE .u32 x y=(x+y) % 4294967296:=(ik).wrap _
theorem tW (x:Int):aG .u64 x 4294967295=x % 4294967296:=kP x 32 (by decide)
theorem tc (x:Int):Wd 32 (x % 4294967296):=Wd.mod x
theorem qM (x:Int):x % 18446744073709551616 % 4294967296=x % 4294967296:=Int.emod_emod_of_dvd x (by decide)
def KZ (st x l k g f:Int):Int:=aE .u32 (aE .u32 (aE .u32 (aE .u32 l (aS .u32 (aS .u32 (cH f 26) (cH f 21)) (cH f 7))) (aS .u32 (aG .u32 f g) (aG .u32 (nJ .u32 f) k))) st) x
def PQ (a c d:Int):Int:=aE .u32 (aS .u32 (aS .u32 (cH a 30) (cH a 19)) (cH a 10)) (aS .u32 (aS .u32 (aG .u32 a c) (aG .u32 a d)) (aG .u32 c d))
def LR (st x l k g f:Int):Int:=aG .u64 (aE .u64 (aE .u64 (aE .u64 (aE .u64 l (ca f [6,11,25] false)) (iOr .u64 (aG .u64 f g) (aG .u64 (aS .u64 4294967295 f) k))) st) x) 4294967295
def Oy (a c d:Int):Int:=aE .u64 (ca a [2,13,22] false) (iOr .u64 (iOr .u64 (aG .u64 a c) (aG .u64 c d)) (aG .u64 a d))
def Lt (p0:List Int) (k1:Nat):List Int:=itr (pP) 48 (itr (ko p0 k1) 64 [0,0,0,0,0,0,0,0,0,0,0,0,0,0,0,0,0,0,0,0,0,0,0,0,0,0,0,0,0,0,0,0,0,0,0,0,0,0,0,0,0,0,0,0,0,0,0,0,0,0,0,0,0,0,0,0,0,0,0,0,0,0,0,0])
def ML (p0:List Int) (k1:Nat):List Int:=itr (jN) 48 (itr (gV p0 k1) 64 [0,0,0,0,0,0,0,0,0,0,0,0,0,0,0,0,0,0,0,0,0,0,0,0,0,0,0,0,0,0,0,0,0,0,0,0,0,0,0,0,0,0,0,0,0,0,0,0,0,0,0,0,0,0,0,0,0,0,0,0,0,0,0,0,0,0,0,0,0,0,0,0,0,0,0,0,0,0,0,0])
theorem T32 {st x l k g f:Int} (hl:Wd 32 l) (hk:Wd 32 k) (hg:Wd 32 g) (hf:Wd 32 f):LR st x l k g f=KZ st x l k g f:=by
 unfold LR KZ
 rw [Gk hf,tW]
 simp only [lN,dG]
 have hc:iOr .u64 (aG .u64 f g) (aG .u64 (aS .u64 4294967295 f) k)=aS .u32 (aG .u32 f g) (aG .u32 (nJ .u32 f) k):=Dv (v:=64) ik fA (by decide) hf hg hk
 rw [hc]
 generalize aS .u32 (aG .u32 f g) (aG .u32 (nJ .u32 f) k)=A
 generalize (aS .u32 (aS .u32 (cH f 26) (cH f 21)) (cH f 7))=B
 simp only [Int.emod_add_emod,qM]
theorem U32 {a c d:Int} (ha:Wd 32 a) (hc:Wd 32 c) (hd:Wd 32 d) (t:Int):aG .u64 (aE .u64 t (Oy a c d)) 4294967295=aE .u32 t (PQ a c d):=by
 unfold Oy PQ
 rw [Gh ha,tW]
 simp only [lN,dG]
 have hm:iOr .u64 (iOr .u64 (aG .u64 a c) (aG .u64 c d)) (aG .u64 a d)=aS .u32 (aS .u32 (aG .u32 a c) (aG .u32 a d)) (aG .u32 c d):=zO (v:=64) ik fA (by decide) ha hc hd
 rw [hm]
 generalize aS .u32 (aS .u32 (aG .u32 a c) (aG .u32 a d)) (aG .u32 c d)=A
 generalize (aS .u32 (aS .u32 (cH a 30) (cH a 19)) (cH a 10))=B
 simp only [Int.add_emod_emod,qM]
theorem V32 (e t:Int):aG .u64 (aE .u64 e t) 4294967295=aE .u32 e t:=by
 rw [tW]
 simp only [lN,dG,qM]
def AU (z:Int × Int × Int × Int × Int × Int × Int × Int) (y:List Int):Prop :=
 ∃ l k g f e d c a,z=(l,k,g,f,e,d,c,a)∧y=[a,c,d,e,f,g,k,l]∧Wd 32 l∧Wd 32 k∧Wd 32 g∧Wd 32 f∧Wd 32 e∧Wd 32 d∧Wd 32 c∧Wd 32 a
theorem OA (p0:List Int) (k1 j:Nat) (l k g f e d c a:Int):ck p0 k1 j (l,k,g,f,e,d,c,a) =
  (k,g,f,aE .u32 e (KZ (IntKind.wrap .u32 (aH .u64 (JA.getD (0+j) 0) 32)) ((Lt p0 k1).getD j 0) l k g f),d,c,a,aE .u32 (KZ (IntKind.wrap .u32 (aH .u64 (JA.getD (0+j) 0) 32)) ((Lt p0 k1).getD j 0) l k g f) (PQ a c d)):=rfl
theorem No (p0:List Int) (k1 j:Nat) (l k g f e d c a:Int):kO p0 k1 j [a,c,d,e,f,g,k,l] =
  [aG .u64 (aE .u64 (LR (aH .u64 (JA.getD j 0) 32) ((ML p0 k1).getD j 0) l k g f) (Oy a c d)) 4294967295,a,c,d,aG .u64 (aE .u64 e (LR (aH .u64 (JA.getD j 0) 32) ((ML p0 k1).getD j 0) l k g f)) 4294967295,f,g,k]:=rfl
theorem Hm (j:Nat) (hj:j<64):aH .u64 (JA.getD j 0) 32=(IntKind.wrap .u32 (aH .u64 (JA.getD (0+j) 0) 32)):=by
 have h:∀ j:Fin 64,aH .u64 (JA.getD j.val 0) 32=(IntKind.wrap .u32 (aH .u64 (JA.getD (0+j.val) 0) 32)):=by decide +kernel
 exact h ⟨j,hj⟩
theorem KI {p0:List Int} {k1 j:Nat} (hj:j<64) (hW:(ML p0 k1).getD j 0=(Lt p0 k1).getD j 0) {z:Int × Int × Int × Int × Int × Int × Int × Int} {y:List Int} (h:AU z y) :
  AU (ck p0 k1 j z) (kO p0 k1 j y):=by
 obtain ⟨l,k,g,f,e,d,c,a,rfl,rfl,hl,hk,hg,hf,he,hd,hc,ha⟩:=h
 rw [OA,No,hW,Hm j hj,T32 hl hk hg hf,U32 ha hc hd,V32]
 refine ⟨_,_,_,_,_,_,_,_,rfl,rfl,hk,hg,hf,?_,hd,hc,ha,?_⟩
 ·rw [lN];exact tc _
 ·rw [lN];exact tc _
theorem Lp {a b n:Nat} (hb:b<256) (hn:n<4) (ha:a<256 ^ n) :
  iOr .u32 (cv .u32 (a:Int) 8) (IntKind.wrap .u32 (b:Int))=((a*256+b:Nat):Int)∧aE .u64 (bE .u64 (a:Int) 256) (IntKind.wrap .u64 (b:Int))=((a*256+b:Nat):Int)∧a*256+b<256 ^ (n+1):=by
 have h1:a*256+b<256 ^ (n+1):=by
  have:(a+1)*256≤256 ^ n*256:=Nat.mul_le_mul_right _ ha
  rw [Nat.pow_succ]
  omega
 have h2:256 ^ (n+1)≤4294967296:=by
  have:(256:Nat) ^ (n+1)≤256 ^ 4:=Nat.pow_le_pow_right (by decide) hn
  exact this
 have h3:4294967296≤18446744073709551616:=by decide
 refine ⟨?_,?_,h1⟩
 ·rw [show (8:Int)=((8:Nat):Int) from rfl,qN Dz (show 8≤32 by decide),pf Dz,Nat.mod_eq_of_lt (show b<4294967296 by omega),Nat.mod_eq_of_lt (show a*2 ^ 8<4294967296 by omega),lX Dz (by omega) (by omega)]
  congr 1
  rw [Nat.mul_comm a (2 ^ 8),← Nat.two_pow_add_eq_or_of_lt (i:=8) (show b<2 ^ 8 by omega) a]
 ·rw [show (256:Int)=((256:Nat):Int) from rfl,ER fA,pf fA,tM fA]
  congr 1
  omega
def DC (k:Nat) (c r:List Int):Prop:=c.length=64∧r.length=80∧∀ j,j<64→∃ a:Nat,c.getD j 0=(a:Int)∧r.getD j 0=(a:Int)∧a<256 ^ (min (k-4*j) 4)
theorem Ry (j:Nat):([0,0,0,0,0,0,0,0,0,0,0,0,0,0,0,0,0,0,0,0,0,0,0,0,0,0,0,0,0,0,0,0,0,0,0,0,0,0,0,0,0,0,0,0,0,0,0,0,0,0,0,0,0,0,0,0,0,0,0,0,0,0,0,0]:List Int).getD j 0=0:=by
 show (List.replicate 64 (0:Int)).getD j 0=0
 rw [List.getD_eq_getElem?_getD,List.getElem?_replicate]
 split <;> rfl
theorem Ru (j:Nat):([0,0,0,0,0,0,0,0,0,0,0,0,0,0,0,0,0,0,0,0,0,0,0,0,0,0,0,0,0,0,0,0,0,0,0,0,0,0,0,0,0,0,0,0,0,0,0,0,0,0,0,0,0,0,0,0,0,0,0,0,0,0,0,0,0,0,0,0,0,0,0,0,0,0,0,0,0,0,0,0]:List Int).getD j 0=0:=by
 show (List.replicate 80 (0:Int)).getD j 0=0
 rw [List.getD_eq_getElem?_getD,List.getElem?_replicate]
 split <;> rfl
def Fq (p0:List Int):List Int:=itr (kQ p0) 8 (((itr (bK) ((119-p0.length % 64) % 64) (p0.length+1,p0++[128])).2)++(List.replicate 8 0))
theorem Ox {p0:List Int} {k1:Nat} (hT:Fq p0=fJ p0) (hB:∀ j,zy ((fJ p0).getD j 0)) :
  DC 64 (itr (ko p0 k1) 64 [0,0,0,0,0,0,0,0,0,0,0,0,0,0,0,0,0,0,0,0,0,0,0,0,0,0,0,0,0,0,0,0,0,0,0,0,0,0,0,0,0,0,0,0,0,0,0,0,0,0,0,0,0,0,0,0,0,0,0,0,0,0,0,0]) (itr (gV p0 k1) 64 [0,0,0,0,0,0,0,0,0,0,0,0,0,0,0,0,0,0,0,0,0,0,0,0,0,0,0,0,0,0,0,0,0,0,0,0,0,0,0,0,0,0,0,0,0,0,0,0,0,0,0,0,0,0,0,0,0,0,0,0,0,0,0,0,0,0,0,0,0,0,0,0,0,0,0,0,0,0,0,0]):=by
 refine eZ DC ⟨rfl,rfl,fun j hj=>⟨0,Ry j,Ru j,Nat.pow_pos (by decide)⟩⟩ ?_
 rintro k hk c r ⟨h1,h2,h3⟩
 have e1:ko p0 k1 k c=c.set (k/4) (iOr .u32 (cv .u32 (c.getD (k/4) 0) 8) (IntKind.wrap .u32 ((fJ p0).getD (64*k1+k) 0))):=by
  unfold ko
  rw [HC,Nat.zero_add]
 have e2:gV p0 k1 k r=r.set (k/4) (aE .u64 (bE .u64 (r.getD (k/4) 0) 256) (IntKind.wrap .u64 ((fJ p0).getD (64*k1+k) 0))):=by
  show r.set (8*k/32) (aE .u64 (bE .u64 (r.getD (8*k/32) 0) 256) (IntKind.wrap .u64 ((Fq p0).getD (64*k1+k) 0)))=_
  rw [hT,show 8*k/32=k/4 by omega]
 rw [e1,e2]
 obtain ⟨b,hb,hb'⟩:=hB (64*k1+k)
 obtain ⟨a,ha1,ha2,ha3⟩:=h3 (k/4) (by omega)
 rw [show min (k-4*(k/4)) 4=k % 4 by omega] at ha3
 obtain ⟨q1,q2,q3⟩:=Lp hb' (show k % 4<4 from Nat.mod_lt _ (by decide)) ha3
 rw [ha1,ha2,hb,q1,q2]
 refine ⟨by rw [List.length_set,h1],by rw [List.length_set,h2],fun j hj=>?_⟩
 by_cases hjk:k/4=j
 ·subst hjk
  exact ⟨_,bz (by omega),bz (by omega),by rw [show min (k+1-4*(k/4)) 4=k % 4+1 by omega];exact q3⟩
 ·obtain ⟨x,x1,x2,x3⟩:=h3 j hj
  refine ⟨x,by rw [bN hjk,x1],by rw [bN hjk,x2],Nat.lt_of_lt_of_le x3 (Nat.pow_le_pow_right (by decide) (by omega))⟩
def BC (k:Nat) (c r:List Int):Prop:=c.length=64∧r.length=80∧∀ j,j<k+16→Wd 32 (c.getD j 0)∧r.getD j 0=c.getD j 0
theorem Li {p0:List Int} {k1:Nat} (hT:Fq p0=fJ p0) (hB:∀ j,zy ((fJ p0).getD j 0)):BC 48 (Lt p0 k1) (ML p0 k1):=by
 obtain ⟨h1,h2,h3⟩:=Ox (k1:=k1) hT hB
 refine eZ BC ⟨h1,h2,fun j hj=>?_⟩ ?_
 ·obtain ⟨a,a1,a2,a3⟩:=h3 j (by omega)
  refine ⟨⟨a,a1,Nat.lt_of_lt_of_le a3 ?_⟩,by rw [a1,a2]⟩
  have:(256:Nat) ^ (min (64-4*j) 4)≤256 ^ 4:=Nat.pow_le_pow_right (by decide) (Nat.min_le_right _ _)
  exact this
 ·rintro k hk c r ⟨g1,g2,g3⟩
  obtain ⟨x1,y1⟩:=g3 (k+16-16) (by omega)
  obtain ⟨x2,y2⟩:=g3 (k+16-7) (by omega)
  obtain ⟨x3,y3⟩:=g3 (k+16-15) (by omega)
  obtain ⟨x4,y4⟩:=g3 (k+16-2) (by omega)
  have e:aG .u64 (aE .u64 (aE .u64 (aE .u64 (r.getD (k+16-16) 0) (r.getD (k+16-7) 0)) (ca (r.getD (k+16-15) 0) [7,18,3] true)) (ca (r.getD (k+16-2) 0) [17,19,10] true)) 4294967295 =
    aE .u32 (aE .u32 (aE .u32 (c.getD (k+16-16) 0) (c.getD (k+16-7) 0)) (aS .u32 (aS .u32 (cH (c.getD (k+16-15) 0) 25) (cH (c.getD (k+16-15) 0) 14)) (aH .u32 (c.getD (k+16-15) 0) 3))) (aS .u32 (aS .u32 (cH (c.getD (k+16-2) 0) 15) (cH (c.getD (k+16-2) 0) 13)) (aH .u32 (c.getD (k+16-2) 0) 10)):=by
   rw [y1,y2,y3,y4,HA x3,HR x4,tW]
   simp only [lN,dG]
   generalize (aS .u32 (aS .u32 (cH (c.getD (k+16-15) 0) 25) (cH (c.getD (k+16-15) 0) 14)) (aH .u32 (c.getD (k+16-15) 0) 3))=A
   generalize (aS .u32 (aS .u32 (cH (c.getD (k+16-2) 0) 15) (cH (c.getD (k+16-2) 0) 13)) (aH .u32 (c.getD (k+16-2) 0) 10))=B
   simp only [Int.emod_add_emod,qM]
  have hw:Wd 32 (aE .u32 (aE .u32 (aE .u32 (c.getD (k+16-16) 0) (c.getD (k+16-7) 0)) (aS .u32 (aS .u32 (cH (c.getD (k+16-15) 0) 25) (cH (c.getD (k+16-15) 0) 14)) (aH .u32 (c.getD (k+16-15) 0) 3))) (aS .u32 (aS .u32 (cH (c.getD (k+16-2) 0) 15) (cH (c.getD (k+16-2) 0) 13)) (aH .u32 (c.getD (k+16-2) 0) 10))):=by
   rw [lN];exact tc _
  show BC (k+1) (c.set (k+16) (aE .u32 (aE .u32 (aE .u32 (c.getD (k+16-16) 0) (c.getD (k+16-7) 0)) (aS .u32 (aS .u32 (cH (c.getD (k+16-15) 0) 25) (cH (c.getD (k+16-15) 0) 14)) (aH .u32 (c.getD (k+16-15) 0) 3))) (aS .u32 (aS .u32 (cH (c.getD (k+16-2) 0) 15) (cH (c.getD (k+16-2) 0) 13)) (aH .u32 (c.getD (k+16-2) 0) 10)))) (r.set (k+16) (aG .u64 (aE .u64 (aE .u64 (aE .u64 (r.getD (k+16-16) 0) (r.getD (k+16-7) 0)) (ca (r.getD (k+16-15) 0) [7,18,3] true)) (ca (r.getD (k+16-2) 0) [17,19,10] true)) 4294967295))
  rw [e]
  refine ⟨by rw [List.length_set,g1],by rw [List.length_set,g2],fun j hj=>?_⟩
  by_cases hjk:k+16=j
  ·subst hjk
   rw [bz (by omega),bz (by omega)]
   exact ⟨hw,rfl⟩
  ·rw [bN hjk,bN hjk]
   exact g3 j (by omega)
def nB (z:List Int):Prop:=z.length=8∧∀ j,j<8→Wd 32 (z.getD j 0)
theorem Ka {z:List Int} (h:nB z):AU (z.getD 7 0,z.getD 6 0,z.getD 5 0,z.getD 4 0,z.getD 3 0,z.getD 2 0,z.getD 1 0,z.getD 0 0) z:=by
 obtain ⟨h1,h2⟩:=h
 refine ⟨_,_,_,_,_,_,_,_,rfl,?_,h2 7 (by decide),h2 6 (by decide),h2 5 (by decide),h2 4 (by decide),h2 3 (by decide),h2 2 (by decide),h2 1 (by decide),h2 0 (by decide)⟩
 match z,h1 with
 |[_,_,_,_,_,_,_,_],_=>rfl
theorem KT {p0:List Int} {k1:Nat} (hT:Fq p0=fJ p0) (hB:∀ j,zy ((fJ p0).getD j 0)) {z:List Int} (hz:nB z):mO p0 k1 z=kI p0 k1 z∧nB (mO p0 k1 z):=by
 obtain ⟨w1,w2,w3⟩:=Li (k1:=k1) hT hB
 have hr:AU (itr (ck p0 k1) 64 (z.getD 7 0,z.getD 6 0,z.getD 5 0,z.getD 4 0,z.getD 3 0,z.getD 2 0,z.getD 1 0,z.getD 0 0)) (itr (kO p0 k1) 64 z) :=
  eZ (fun _=>AU) (Ka hz) fun j hj a b hab=>KI hj (w3 j (by omega)).2 hab
 obtain ⟨l,k,g,f,e,d,c,a,e1,e2,hl,hk,hg,hf,he,hd,hc,ha⟩:=hr
 have key:(fun (k:Nat) (x y:List Int)=>x=y∧nB x) 8 (itr (vg p0 k1 z) 8 z) (itr (mM p0 k1 z) 8 z):=by
  refine eZ (fun (k:Nat) (x y:List Int)=>x=y∧nB x) ⟨rfl,hz⟩ ?_
  rintro j hj x y ⟨rfl,hx1,hx2⟩
  have q1:vg p0 k1 z j x=x.set j (aE .u32 (x.getD j 0) ([a,c,d,e,f,g,k,l].getD j 0)):=by
   unfold vg
   rw [e1]
  have q2:mM p0 k1 z j x=x.set j (aG .u64 (aE .u64 (x.getD j 0) ([a,c,d,e,f,g,k,l].getD j 0)) 4294967295):=by
   unfold mM
   rw [e2]
  rw [q1,q2,V32]
  refine ⟨rfl,by rw [List.length_set,hx1],fun i hi=>?_⟩
  by_cases hij:j=i
  ·subst hij
   rw [bz (by omega),lN]
   exact tc _
  ·rw [bN hij]
   exact hx2 i hi
 exact key
theorem KC:(itr (jV) 8 [0,0,0,0,0,0,0,0])=itr (jX) 8 [7640891576956012808,13503953896175478587,4354685564936845355,11912009170470909681,5840696475078001361,11170449401992604703,2270897969802886507,6620516959819538809]:=by kernel_rfl
theorem FJ:nB (itr (jV) 8 [0,0,0,0,0,0,0,0]):=by
 have h:(List.length (itr (jV) 8 [0,0,0,0,0,0,0,0])==8 && (List.range 8).all fun j=>decide (0≤((itr (jV) 8 [0,0,0,0,0,0,0,0]):List Int).getD j 0) && decide (((itr (jV) 8 [0,0,0,0,0,0,0,0]):List Int).getD j 0<((2 ^ 32:Nat):Int)))=true:=by kernel_rfl
 rw [Bool.and_eq_true] at h
 refine ⟨eq_of_beq h.1,fun j hj=>?_⟩
 have h2:=List.all_eq_true.1 h.2 j (List.mem_range.2 hj)
 rw [Bool.and_eq_true] at h2
 exact Wd.of (of_decide_eq_true h2.1) (of_decide_eq_true h2.2)
def mu (p0:List Int):Nat × List Int:=itr (bK) ((119-p0.length % 64) % 64) (p0.length+1,p0++[128])
theorem SC (p0:List Int):(mu p0).2.length=(mu p0).1∧(mu p0).1<p0.length+1+64:=by
 have key:(fun (k:Nat) (a b:Nat × List Int)=>a.2.length=a.1∧a.1=p0.length+1+k) ((119-p0.length % 64) % 64) (mu p0) (itr (fun _ y=>y) ((119-p0.length % 64) % 64) (mu p0)):=by
  refine eZ (fun (k:Nat) (a b:Nat × List Int)=>a.2.length=a.1∧a.1=p0.length+1+k) (g:=fun _ y=>y) (y:=mu p0) ⟨by simp,rfl⟩ ?_
  rintro k hk a b ⟨h1,h2⟩
  show (a.2++[0]).length=a.1+1∧a.1+1=_
  exact ⟨by rw [List.length_append,h1];rfl,by omega⟩
 have h:=key.2
 have hm:((119-p0.length % 64) % 64)<64:=Nat.mod_lt _ (by decide)
 exact ⟨key.1,by omega⟩
theorem RZ {p0:List Int} (hp:Dig 256 p0):Dig 256 (mu p0).2:=by
 refine eZ (fun (k:Nat) (a b:Nat × List Int)=>Dig 256 a.2) (n:=((119-p0.length % 64) % 64)) (y:=(mu p0)) (g:=fun _ y=>y) ?_ ?_
 ·intro x hx
  rcases List.mem_append.1 hx with h|h
  ·exact hp x h
  ·rw [List.mem_singleton.1 h];decide
 ·rintro k hk a b h x hx
  rcases List.mem_append.1 hx with h'|h'
  ·exact h x h'
  ·rw [List.mem_singleton.1 h'];decide
def fR (n k:Nat):Int:=IntKind.wrap .u8 (aH .u64 (bE .u64 (IntKind.wrap .u64 ((n:Nat):Int)) 8) ((8*k:Nat):Int))
theorem Ar (B:List Int) (n:Nat) (hn:B.length=n) (t:List Int) (j:Nat) (x:Int):(B++t).set (n+j) x=B++t.set j x:=by
 subst hn
 rw [List.set_append_right _ _ (by omega)]
 congr 2
 omega
theorem Bq {α:Type} (f:Nat→α→α) (x:α):itr f 8 x=f 7 (f 6 (f 5 (f 4 (f 3 (f 2 (f 1 (f 0 x))))))):=by
 simp only [aQ,aX]
theorem Oq {p0:List Int} (hl:p0.length≤100000000):Fq p0=(mu p0).2++(List.replicate 0 0++[fR p0.length 7,fR p0.length 6,fR p0.length 5,fR p0.length 4,fR p0.length 3,fR p0.length 2,fR p0.length 1,fR p0.length 0]):=by
 obtain ⟨h1,h2⟩:=SC p0
 have hs:∀ (k:Nat) (z:List Int),k<8→kQ p0 k z=z.set ((mu p0).1+(7-k)) (fR p0.length k):=by
  intro k z hk
  show z.set (aZ .i64 ((((mu p0).1+8:Nat):Int)-1-((0:Nat):Int)) (k:Int)).toNat _=_
  rw [fI (by omega) (by omega)]
  have:(((((mu p0).1+8:Nat):Int)-1-((0:Nat):Int))-(k:Int)).toNat=(mu p0).1+(7-k):=by omega
  rw [this]
  rfl
 show itr (kQ p0) 8 ((mu p0).2++List.replicate 8 0)=_
 rw [Bq,hs 0 _ (by decide),hs 1 _ (by decide),hs 2 _ (by decide),hs 3 _ (by decide),hs 4 _ (by decide),hs 5 _ (by decide),hs 6 _ (by decide),hs 7 _ (by decide)]
 simp only [Ar _ _ h1]
 rfl
theorem EP (p0:List Int):fJ p0=(mu p0).2++(List.replicate 0 0++[fR p0.length 7,fR p0.length 6,fR p0.length 5,fR p0.length 4,fR p0.length 3,fR p0.length 2,fR p0.length 1,fR p0.length 0]):=by
 unfold fJ
 rw [Bq]
 show (((((((((mu p0).2++List.replicate 0 0)++[fR p0.length 7])++[fR p0.length 6])++[fR p0.length 5])++[fR p0.length 4])++[fR p0.length 3])++[fR p0.length 2])++[fR p0.length 1])++[fR p0.length 0]=_
 simp only [List.append_assoc,List.cons_append,List.nil_append]
theorem OC (n k:Nat):0≤fR n k∧fR n k<256:=by
 unfold fR
 rw [dc]
 omega
theorem Jx {p0:List Int} (hp:Dig 256 p0):Dig 256 (fJ p0):=by
 rw [EP]
 intro x hx
 rcases List.mem_append.1 hx with h|h
 ·exact RZ hp x h
 ·rcases List.mem_append.1 h with h|h
  ·rw [List.eq_of_mem_replicate h];decide
  ·simp only [List.mem_cons,List.not_mem_nil,or_false] at h
   rcases h with rfl|rfl|rfl|rfl|rfl|rfl|rfl|rfl <;> exact OC _ _
theorem BE {p0:List Int} (hp:Dig 256 p0) (j:Nat):zy ((fJ p0).getD j 0):=by
 obtain ⟨h1,h2⟩:=bD (i:=j) (by decide) (Jx hp)
 obtain ⟨a,ha⟩:=Int.eq_ofNat_of_zero_le h1
 exact ⟨a,ha,by rw [ha] at h2;omega⟩
theorem Lu (p0:List Int):cA p0=(itr (bK) ((119-p0.length % 64) % 64) (p0.length+1,p0++[128])).1+8:=by
 unfold cA
 rw [Bq]
 show (mu p0).1+0+1+1+1+1+1+1+1+1=(mu p0).1+8
 omega
theorem Mp {p0:List Int} (hp:Dig 256 p0) (hl:p0.length≤100000000):yp p0=is p0:=by
 have hT:Fq p0=fJ p0:=(Oq hl).trans (EP p0).symm
 have hB:=fun j=>BE hp j
 have hH:(fun (k:Nat) (x y:List Int)=>x=y∧nB x) ((cA p0)/64) (itr (mO p0) ((cA p0)/64) (itr (jV) 8 [0,0,0,0,0,0,0,0])) (itr (kI p0) ((cA p0)/64) (itr (jX) 8 [7640891576956012808,13503953896175478587,4354685564936845355,11912009170470909681,5840696475078001361,11170449401992604703,2270897969802886507,6620516959819538809])):=by
  refine eZ (fun (k:Nat) (x y:List Int)=>x=y∧nB x) ⟨KC,FJ⟩ ?_
  rintro k hk x y ⟨rfl,hx⟩
  exact KT hT hB hx
 obtain ⟨h1,h2,h3⟩:=hH
 have key:(fun (k:Nat) (x:List Int) (y:Nat × List Int)=>x=y.2++List.replicate (32-k) 0∧y.2.length=k) 32 (yp p0) (itr (dZ p0) 32 (0,[])):=by
  refine eZ (fun (k:Nat) (x:List Int) (y:Nat × List Int)=>x=y.2++List.replicate (32-k) 0∧y.2.length=k) ⟨rfl,rfl⟩ ?_
  rintro k hk x y ⟨rfl,hy⟩
  have hw:=h3 (k/4) (by omega)
  have q1:rT p0 k (y.2++List.replicate (32-k) 0)=(y.2++List.replicate (32-k) 0).set k (IntKind.wrap .u8 (aH .u32 ((itr (mO p0) ((cA p0)/64) (itr (jV) 8 [0,0,0,0,0,0,0,0])).getD (k/4) 0) ((24-(8*(k % 4)):Nat):Int))):=rfl
  have q2:(dZ p0 k y).2=y.2++[IntKind.wrap .u8 (aH .u32 ((itr (mO p0) ((cA p0)/64) (itr (jV) 8 [0,0,0,0,0,0,0,0])).getD (k/4) 0) ((24-(8*(k % 4)):Nat):Int))]:=by
   show y.2++[IntKind.wrap .u8 (aH .u64 ((itr (kI p0) (((itr (bK) ((119-p0.length % 64) % 64) (p0.length+1,p0++[128])).1+8)/64) (itr (jX) 8 [7640891576956012808,13503953896175478587,4354685564936845355,11912009170470909681,5840696475078001361,11170449401992604703,2270897969802886507,6620516959819538809])).getD ((8*k)/32) 0) ((24-((8*k) % 32):Nat):Int))]=_
   rw [← Lu,← h1,show (8*k)/32=k/4 by omega,show 24-((8*k) % 32)=24-(8*(k % 4)) by omega,pr .u32 .u64 (show 24-(8*(k % 4))≤32 by omega) (show 24-(8*(k % 4))≤64 by omega) hw]
  refine ⟨?_,by rw [q2,List.length_append,hy];rfl⟩
  rw [q1,q2,show (32-k)=(32-(k+1))+1 by omega,List.replicate_succ]
  have:=Ar y.2 k hy (0 :: List.replicate (32-(k+1)) 0) 0 (IntKind.wrap .u8 (aH .u32 ((itr (mO p0) ((cA p0)/64) (itr (jV) 8 [0,0,0,0,0,0,0,0])).getD (k/4) 0) ((24-(8*(k % 4)):Nat):Int)))
  rw [show k+0=k from rfl] at this
  rw [this,List.set_cons_zero,List.append_assoc]
  rfl
 have k1:=key.1
 rw [Nat.sub_self,List.replicate_zero,List.append_nil] at k1
 exact k1
end Go.Vm
namespace Go.Vm
open Go
theorem Lo (bs : ByteArray) : ∀ (n i : Nat) (r : List UInt8), bs.size - i = n → i ≤ bs.size → ByteArray.toList.loop bs i r = r.reverse ++ bs.data.toList.drop i := by
  intro n
  induction n with
  | zero =>
    intro i r h hi
    rw [ByteArray.toList.loop]
    have hs : bs.size = bs.data.toList.length := by rw [Array.length_toList]; rfl
    rw [if_neg (by omega), List.drop_of_length_le (by omega), List.append_nil]
  | succ n ih =>
    intro i r h hi
    rw [ByteArray.toList.loop]
    have hs : bs.size = bs.data.toList.length := by rw [Array.length_toList]; rfl
    have hlt : i < bs.data.toList.length := by omega
    rw [if_pos (by omega), ih (i + 1) _ (by omega) (by omega), List.reverse_cons, List.append_assoc]
    congr 1
    have e : bs.get! i = bs.data.toList[i]'hlt := by
      have h2 : i < bs.data.size := by rw [← Array.length_toList]; exact hlt
      show bs.data[i]! = _
      rw [getElem!_pos bs.data i h2, Array.getElem_toList]
    rw [e, List.drop_eq_getElem_cons hlt]
    rfl
theorem xD (bs:ByteArray):bs.toList=bs.data.toList:=by
 show ByteArray.toList.loop bs 0 []=_
 rw [Lo bs _ 0 [] rfl (Nat.zero_le _)]
 rfl
theorem gA (x:ByteArray):aR x x=true:=by unfold aR;exact beq_self_eq_true _
theorem GG (x y:ByteArray):aR x y=true↔x=y:=by
 unfold aR
 rw [xD,xD,beq_iff_eq]
 constructor
 ·intro h
  cases x;cases y
  congr 1
  exact Array.toList_inj.1 h
 ·rintro rfl;rfl
theorem ze {x y:List Int} (hx:Dig 256 x) (hy:Dig 256 y) (h:bytesOf x=bytesOf y):x=y:=by
 unfold bytesOf at h
 have h1:(x.map fun n=>UInt8.ofNat n.toNat)=y.map fun n=>UInt8.ofNat n.toNat:=by
  have:=congrArg (fun b:ByteArray=>b.data.toList) h
  simpa using this
 have back:∀ z:List Int,Dig 256 z→(z.map fun n=>UInt8.ofNat n.toNat).map (fun u=>(u.toNat:Int))=z:=by
  intro z hz
  rw [List.map_map]
  conv=>rhs;rw [← List.map_id z]
  apply List.map_congr_left
  intro a ha
  have:=hz a ha
  simp only [Function.comp,id]
  rw [UInt8.toNat_ofNat']
  omega
 rw [← back x hx,← back y hy,h1]
theorem ng {x y:List Int} (hx:Dig 256 x) (hy:Dig 256 y):aR (bytesOf x) (bytesOf y)=decide (x=y):=by
 by_cases h:x=y
 ·subst h;rw [gA,decide_eq_true rfl]
 ·rw [decide_eq_false h]
  cases hs:aR (bytesOf x) (bytesOf y)
  ·rfl
  ·exact absurd (ze hx hy ((GG _ _).1 hs)) h
end Go.Vm
namespace Go.Vm
open Go
def nmB (x:List ByteArray):List Int:=be4 (gI x (⟨#[44]⟩:ByteArray)).size++aD (gI x (⟨#[44]⟩:ByteArray))
def oS (l:List (List ByteArray)):Nat→List Int
 |0=>[]
 |k+1=>oS l k++nmB (l.getD k [])
theorem Du (x:List ByteArray):(nmB x).length=4+(gI x (⟨#[44]⟩:ByteArray)).size:=by
 unfold nmB
 rw [List.length_append,aU]
 rfl
theorem OF (x:List ByteArray):Dg (nmB x):=fv (mT _) (eb _)
theorem EV (l:List (List ByteArray)):∀ k,Dg (oS l k)
 |0=>fun x hx=>by cases hx
 |k+1=>fv (EV l k) (OF _)
theorem Iw {x:List ByteArray} (h:x.length≤1000∧nX x≤1000):(gI x (⟨#[44]⟩:ByteArray)).size<4294967296:=by
 have:=(tP h).2
 omega
theorem Jw (p:List Int):Dg (is p):=by
 unfold is
 refine (eZ (fun (k:Nat) (a b:Nat × List Int)=>Dg a.2) (g:=fun _ y=>y) (y:=(0,[])) (fun x hx=>by cases hx) ?_:Dg (itr (dZ p) 32 (0,[])).2)
 rintro k hk a b h x hx
 rcases List.mem_append.1 hx with h1|h1
 ·exact h x h1
 ·rw [List.mem_singleton.1 h1,dc];omega
theorem Fa {p0:ByteArray} (p1:Int) (h':p0.size≤2000):BQ p0 p1=xq p0 p1:=by
 have h1:Dig 256 (itr (iA p1) 8 (p0.size,aD p0)).2∧(itr (iA p1) 8 (p0.size,aD p0)).2.length=p0.size+8∧(itr (iA p1) 8 (p0.size,aD p0)).1=p0.size+8:=by
  refine eZ (fun (k:Nat) (a b:Nat × List Int)=>Dig 256 a.2∧a.2.length=p0.size+k∧a.1=p0.size+k) (g:=fun _ y=>y) (y:=(0,[])) ⟨eb p0,aU p0,rfl⟩ ?_
  rintro k hk a b ⟨h1,h2,h3⟩
  refine ⟨?_,?_,?_⟩
  ·intro x hx
   rcases List.mem_append.1 hx with h|h
   ·exact h1 x h
   ·rw [List.mem_singleton.1 h,dc];omega
  ·show (a.2++[_]).length=_
   rw [List.length_append,h2];rfl
  ·show a.1+1=_
   omega
 obtain ⟨h1,h2,h3⟩:=h1
 unfold BQ xq
 have e1:itr (jR p1) 8 (p0.size,aD p0)=itr (iA p1) 8 (p0.size,aD p0):=by
  refine eZ (fun _ a b=>a=b) rfl ?_
  rintro k hk a b rfl
  unfold jR iA
  rw [show 8*(8-1-k)=56-8*k by omega]
 rw [e1,h3,ah h2]
 exact Mp h1 (by omega)
theorem Eg (p0:ByteArray) (p1:Int):(xq p0 p1).length=32:=by unfold xq;exact wV _
theorem OM (p0:ByteArray) (p1:Int):Dg (xq p0 p1):=by unfold xq;exact Jw _
def sP (d:ByteArray):List Int:=[20]++(xq d 0).take 16
def Aw (l:List (List ByteArray)) (d:ByteArray):List Int:=(sP d++oS l 8)++List.replicate 13 0
theorem xH (d:ByteArray):(sP d).length=17:=by
 unfold sP
 rw [List.length_append,List.length_take,Eg]
 rfl
theorem HQ (d:ByteArray):Dg (sP d):=by
 refine fv (fun x hx=>?_) (DH 16 (OM d 0))
 rw [List.mem_singleton.1 hx]
 exact ⟨by decide,by decide⟩
theorem Cu (l:List (List ByteArray)) (d:ByteArray):Dg (Aw l d):=by
 refine fv (fv (HQ d) (EV l 8)) fun x hx=>?_
 rw [List.eq_of_mem_replicate hx]
 exact ⟨by decide,by decide⟩
theorem KG (d:ByteArray):[20]++(aC (xq d 0) 32 0 16)=sP d:=by
 rw [iF (Eg d 0)]
 rfl
theorem wx {l:List (List ByteArray)} (h:pY l) (xs:List Int) (n:Nat) (hn:xs.length=n):∀ k,itr (po l) k (n,xs)=((xs++oS l k).length,xs++oS l k)
 |0=>by rw [aX,oS,List.append_nil,hn]
 |k+1=>by
  rw [aQ,wx h xs n hn k]
  unfold po
  rw [pq _ _ _ (Iw (h.2 k))]
  unfold aj
  have e1:xs++oS l (k+1)=(xs++oS l k)++nmB (l.getD k []):=by rw [oS,List.append_assoc]
  have e2:((xs++oS l k)++nmB (l.getD k [])).length=(xs++oS l k).length+(nmB (l.getD k [])).length:=List.length_append
  rw [e1,e2,Du]
  refine Prod.ext ?_ ?_
  ·exact Nat.add_assoc _ _ _
  ·exact List.append_assoc _ _ _
theorem Il (k:Nat) (xs:List Int):kg k xs []=xs++List.replicate 4 0:=by
 rw [pq _ _ _ (by decide),List.append_assoc]
 rfl
theorem Dt {l:List (List ByteArray)} {d:ByteArray} (h:pY l) (hd:d.size≤1000):nD l d=Aw l d∧gL l d=(Aw l d).length:=by
 have hi:bX l d=((sP d++oS l 8).length,sP d++oS l 8):=by
  unfold bX
  rw [Fa 0 (by omega),KG]
  exact wx h _ 17 (xH d) 8
 have j0:(gI [] (⟨#[44]⟩:ByteArray)).size=0:=rfl
 constructor
 ·unfold nD wC At tj fZ
  rw [hi,Il,Il]
  unfold qk
  rw [aA]
  show _++[_,_,_,_]=_
  unfold Aw
  simp only [List.append_assoc]
  rfl
 ·unfold gL aj
  rw [hi,j0]
  have e:(Aw l d).length=(sP d++oS l 8).length+13:=List.length_append
  rw [e]
theorem EZ {l:List (List ByteArray)} (h:pY l):∀ k,(oS l k).length≤2004*k
 |0=>Nat.zero_le _
 |k+1=>by
  rw [oS,List.length_append,Du]
  have h1:=EZ h k
  have h2:=ou (l.getD k []) (⟨#[44]⟩:ByteArray)
  rw [show (⟨#[44]⟩:ByteArray).size=1 from rfl] at h2
  have:=h.2 k
  omega
theorem Df {l:List (List ByteArray)} (h:pY l) (d:ByteArray):(Aw l d).length≤20000:=by
 unfold Aw
 rw [List.length_append,List.length_append,xH,List.length_replicate]
 have:=EZ h 8
 omega
theorem Gt {p:List (List ByteArray)} (h:p.length=8) (h':∀ j,GU (p.getD j [])):kc p:=⟨h,fun k=>Nat.le_trans (h' k).1 (by decide)⟩
theorem Ql {α:Type} {P:α→Prop} {l:List α} {d:α} (h:∀ k,k<l.length→P (l.getD k d)) (hd:P d) (k:Nat):P (l.getD k d):=by
 rcases Nat.lt_or_ge k l.length with hk|hk
 ·exact h k hk
 ·rw [List.getD_eq_getElem?_getD,List.getElem?_eq_none hk];exact hd
theorem gk:pY gK:=⟨rfl,Ql (P:=fun (x:List ByteArray)=>x.length≤1000∧nX x≤1000) (by decide) (by decide)⟩
theorem vl:kc gK:=⟨rfl,Ql (P:=fun (x:List ByteArray)=>x.length≤1000000000) (by decide) (by decide)⟩
theorem iM {l:List (List ByteArray)} {d:ByteArray} (h:pY l) (hd:d.size≤1000):kc (fK (gL l d) (nD l d)):=by
 have e:=Dt h hd
 have hl:=Df h d
 rw [e.1,e.2,(He (Cu l d) (by omega)).1]
 exact Gt (JG _) (Lc (Cu l d) (by omega))
end Go.Vm
namespace Go.Vm
open Go Go.Proofs
theorem OD {l:List (List ByteArray)} {d:ByteArray} (h:pY l) (hd:d.size≤1000):gL l d≤20000:=by
 rw [(Dt h hd).2]
 exact Df h d
def jY:List (List ByteArray) :=
 (fK (gL (gK) (⟨#[100]⟩:ByteArray)) (nD (gK) (⟨#[100]⟩:ByteArray)))
def EM:ByteArray :=
 (cy (rf (bytesOf (((List.replicate 32 0).drop 0).take 32))))
def se:Bool :=
 (sel (((dM (gL (gK) (⟨#[100]⟩:ByteArray)) (nD (gK) (⟨#[100]⟩:ByteArray))):Int)==0) (sel (((oH (jY) (gK)):Int)==0) (sel (aR (nM (⟨#[83,83,72,45,50,46,48,45,120]⟩:ByteArray)) (⟨#[83,83,72,45,50,46,48,45,120]⟩:ByteArray)) (!(aR (EM) (⟨#[]⟩:ByteArray))) false) false) false)
def MY:List AV→List Blk→Option (Prop × Ret)
 |[],[]=>some (True,⟨.sc (.b (se)),[]⟩)
 |_,_=>none
theorem Ph:Known Tryz.prog gD 4 ⟨0,0,MY⟩:=by
 refine Xw Tryz.f4 34 (Zc KN 336 [.io] [] [] <|Zc zi 64 [.io] [] [48] <|Zc Nq 48 [.io,.val] [] [] <|Zv JV 32 0 <|Zv JV 240 0 <|Zc KA 256 [.io,.io] [] [] <|Zv OE 416 1 <|Zv oo 528 1 <|Zv Nh 512 1 <|Zn) mixed <|fun E args ks C r h hC hlen=>?_
 simp only at h
 unfold MY at h
 split at h
 rotate_left
 cases h
 cases h
 simp only [am] at hlen
 refine ⟨rfl,?_⟩
 refine Xs [] [] 32 (v1 pT) <|Xt [Ei 2 (dM (gL (gK) (⟨#[100]⟩:ByteArray)) (nD (gK) (⟨#[100]⟩:ByteArray))),Ep 1 128] [] [(128,.vec .tab (jY))] [] 176 (pu pz (pu (pa pT (pl (show pY (gK)∧(⟨#[100]⟩:ByteArray).size≤1000 from ⟨gk,by decide⟩))) (pu (pa pT (pa (Yr (gL (gK) (⟨#[100]⟩:ByteArray))) (pl (show (gL (gK) (⟨#[100]⟩:ByteArray))≤1000000000 from Nat.le_trans (OD gk (by decide)) (by decide))))) (v4 (pu (pa (pl (show (jY).length=8 from (iM gk (by decide)).1)) (Yr 8)) (v1 pT)))))) <|Tri.split (((dM (gL (gK) (⟨#[100]⟩:ByteArray)) (nD (gK) (⟨#[100]⟩:ByteArray))):Int)==0) (fun h1=>?_) (fun h1=>?_)
 have h1':=fC h1
 refine Tri.split (((oH (jY) (gK)):Int)==0) (fun h2=>?_) (fun h2=>?_)
 have h2':=fC h2
 refine Tri.split (aR (nM (⟨#[83,83,72,45,50,46,48,45,120]⟩:ByteArray)) (⟨#[83,83,72,45,50,46,48,45,120]⟩:ByteArray)) (fun h3=>?_) (fun h3=>?_)
 exact Xu [Eb 11 true,Eb 17 true,Eb 27 true] (some [0,1,3,7,7,31,63,127,255,511,1023,2047,4095,8191,16383,32767,65535,131071,262143,524287,1048575,2097151,4194303,8388607,16777215,33554431]) [Eb 0 (!(aR (EM) (⟨#[]⟩:ByteArray)))] [2,1] [] [128] 592 (v2 (pg h1 (pu (pl (show 8=(jY).length from (iM gk (by decide)).1.symm)) (pu pz (pu (pa pT (pl (show kc (jY)∧kc (gK) from ⟨iM gk (by decide),vl⟩))) (v2 (pg h2 (v1 (pu (pa pT (pa (Yr (⟨#[]⟩:ByteArray)) (pa (Yr (⟨#[]⟩:ByteArray)) (pa (Yr (⟨#[]⟩:ByteArray)) (pa (Yr (⟨#[]⟩:ByteArray)) (pa (Yr (⟨#[]⟩:ByteArray)) pT)))))) (v4 (pu pz (v2 (pg h3 (pu (pa (lo ((0:Int)≤32∧(32:Int)=32)) (pa (lo (32≤(140737488355328:Int))) (lo (((1:Nat):Int)*32≤281474976710656)))) (pu (Yw 32) (pu (pa pT (Ye ((bytesOf (((List.replicate 32 0).drop 0).take 32)).size) 1000000000)) (pu (pa pT (Ye ((rf (bytesOf (((List.replicate 32 0).drop 0).take 32))).size) 1000000000)) (v3 pT)))))))))))))))))) <|Xy [] pz (by simp only [se,h1,h2,h3,aB,aA] <;> rfl)
 exact Xu [Eb 11 true,Eb 17 true,Eb 27 false] (some [0,1,3,7,7,31,63,127,255,511,1023,2047,4095,8191,16383,32767,65535,131071,262143,524287,1048575,2097151,4194303,8388607,16777215,33554431]) [Eb 0 false] [2,1] [] [128] 592 (v2 (pg h1 (pu (pl (show 8=(jY).length from (iM gk (by decide)).1.symm)) (pu pz (pu (pa pT (pl (show kc (jY)∧kc (gK) from ⟨iM gk (by decide),vl⟩))) (v2 (pg h2 (v1 (pu (pa pT (pa (Yr (⟨#[]⟩:ByteArray)) (pa (Yr (⟨#[]⟩:ByteArray)) (pa (Yr (⟨#[]⟩:ByteArray)) (pa (Yr (⟨#[]⟩:ByteArray)) (pa (Yr (⟨#[]⟩:ByteArray)) pT)))))) (v4 (pu pz (v2 (pg h3 (v7 pT)))))))))))))) <|Xy [] pz (by simp only [se,h1,h2,h3,aB,aA] <;> rfl)
 have h2':=eL h2
 exact Xu [Eb 11 true,Eb 17 false] (some [0,1,3,7,7,31,63,127,255,511,1023,2047,4095,8191,16383,32767,65535,131071,262143,524287,1048575,2097151,4194303,8388607,16777215,33554431]) [Eb 0 false] [2,1] [] [128] 592 (v2 (pg h1 (pu (pl (show 8=(jY).length from (iM gk (by decide)).1.symm)) (pu pz (pu (pa pT (pl (show kc (jY)∧kc (gK) from ⟨iM gk (by decide),vl⟩))) (v2 (pg h2 (v8 (v9 pT))))))))) <|Xy [] pz (by simp only [se,h1,h2,aB,aA] <;> rfl)
 have h1':=eL h1
 exact Xu [Eb 11 false] (some [0,1,3,7,7,31,63,127,255,511,1023,2047,4095,8191,16383,32767,65535,131071,262143,524287,1048575,2097151,4194303,8388607,16777215,33554431]) [Eb 0 false] [2,1] [] [128] 592 (v2 (pg h1 (v5 (v9 (v9 pT))))) <|Xy [] pz (by simp only [se,h1,aB,aA] <;> rfl)
end Go.Vm
namespace Go.Vm
open Go
theorem Gg:se=true:=by kernel_rfl
end Go.Vm
namespace Go.Vm
open Go
theorem nf {b:Bool} (h:(!b)=false):b=true:=by cases b <;> first|rfl|cases h
theorem tg {a b:ByteArray} {c d:List Int} {e f g:ByteArray} {h:List Int} (hb:tX a b c d e f g h) (hs:oD a b c d e f g h=true):fb a b c d e f g h:=by
 obtain ⟨q1,q2,q3,q4,q5,q6,q7,q8⟩:=hb
 unfold oD at hs
 have hs':=of_decide_eq_true hs
 exact ⟨by omega,by omega,by omega,by omega,by omega,by omega,by omega,by omega⟩
end Go.Vm
namespace Go.Vm
open Go
def txB (s:ByteArray):List Int:=be4 s.size++aD s
def lM (l:List ByteArray):Nat→List Int
 |0=>[]
 |k+1=>lM l k++txB (l.getD k ⟨#[]⟩)
theorem NS (s:ByteArray):Dg (txB s):=fv (mT _) (eb _)
theorem Cr (l:List ByteArray):∀ k,Dg (lM l k)
 |0=>fun x hx=>by cases hx
 |k+1=>fv (Cr l k) (NS _)
theorem yU (s:ByteArray):(txB s).length=4+s.size:=by
 unfold txB
 rw [List.length_append,aU]
 rfl
theorem EQ {l:List ByteArray} (h:∀ k,(l.getD k ⟨#[]⟩).size≤2000):∀ k,(lM l k).length≤2004*k
 |0=>Nat.zero_le _
 |k+1=>by
  rw [lM,List.length_append,yU]
  have:=EQ h k
  have:=h k
  omega
theorem MM {p:List Int} (h:Dg p):Dg (nA p):=tU _ h
theorem NL {p:List Int} (h:Dg p):Dg (enc p):=fv (mT _) (Gd (MM h))
theorem Nf (p:List Int):(enc p).length≤p.length+5:=by
 unfold enc
 rw [List.length_append]
 have h1:=IH (nA p)
 have h2:=yD p
 show 4+_≤_
 omega
def iv (a b:ByteArray) (c d:List Int) (e f g:ByteArray):List ByteArray:=[a,b,bytesOf c,bytesOf d,e,f,g]
theorem uE {a b:ByteArray} {c d:List Int} {e f g:ByteArray} {h:List Int} (ht:fb a b c d e f g h) (k:Nat):((iv a b c d e f g).getD k ⟨#[]⟩).size≤2000:=by
 obtain ⟨q1,q2,q3,q4,q5,q6,q7,q8⟩:=ht
 exact tJ ⟨q1,q2,by rw [ae];exact q3,by rw [ae];exact q4,q5,q6,q7⟩ k
theorem wX {a b:ByteArray} {c d:List Int} {e f g:ByteArray} {h:List Int} (ht:fb a b c d e f g h):∀ k,itr (qU a b c d e f g) k (0,[])=((lM (iv a b c d e f g) k).length,lM (iv a b c d e f g) k)
 |0=>by rw [aX];rfl
 |k+1=>by
  rw [aQ,wX ht k]
  have hs:=uE ht k
  unfold qU vQ
  rw [show ([a,b,(bytesOf c),(bytesOf d),e,f,g]:List ByteArray)=iv a b c d e f g from rfl,fm _ _ _ (by omega)]
  refine Prod.ext ?_ ?_
  ·show (lM (iv a b c d e f g) k).length+4+_=(lM (iv a b c d e f g) (k+1)).length
   rw [lM,List.length_append,yU,Nat.add_assoc]
  ·show _++be4 _++aD _=lM (iv a b c d e f g) (k+1)
   rw [List.append_assoc]
   rfl
theorem uD {a b:ByteArray} {c d:List Int} {e f g:ByteArray} {h:List Int} (ht:fb a b c d e f g h):∀ k,itr (oN a b c d e f g) k (0,[])=((lM (iv a b c d e f g) k).length,lM (iv a b c d e f g) k)
 |0=>by rw [aX];rfl
 |k+1=>by
  rw [aQ,uD ht k]
  have hs:=uE ht k
  unfold oN rz
  rw [show ([a,b,(bytesOf c),(bytesOf d),e,f,g]:List ByteArray)=iv a b c d e f g from rfl,jc _ (by omega),oP (by rw [List.length_append,aU];rfl)]
  refine Prod.ext ?_ ?_
  ·show (lM (iv a b c d e f g) k).length+_=(lM (iv a b c d e f g) (k+1)).length
   rw [lM,List.length_append,yU]
  ·rfl
def JU (a b:ByteArray) (c d:List Int) (e f g:ByteArray) (h:List Int):List Int:=lM (iv a b c d e f g) 7++enc h
theorem MF {a b:ByteArray} {c d:List Int} {e f g:ByteArray} {h:List Int} (ht:fb a b c d e f g h):fc a b c d e f g h=yp (JU a b c d e f g h):=by
 have hi:eW a b c d e f g=((lM (iv a b c d e f g) 7).length,lM (iv a b c d e f g) 7):=wX ht 7
 obtain ⟨q1,q2,q3,q4,q5,q6,q7,q8⟩:=ht
 have hw:=zd (lM (iv a b c d e f g) 7).length (lM (iv a b c d e f g) 7) h (by omega)
 unfold fc uc vI
 rw [hi]
 simp only
 rw [hw.1,hw.2,oP (List.length_append).symm]
 rfl
theorem Ij {a b:ByteArray} {c d:List Int} {e f g:ByteArray} {h:List Int} (ht:fb a b c d e f g h) (hd:Dg h):bv a b c d e f g h=is (JU a b c d e f g h):=by
 have hi:fD a b c d e f g=((lM (iv a b c d e f g) 7).length,lM (iv a b c d e f g) 7):=uD ht 7
 obtain ⟨q1,q2,q3,q4,q5,q6,q7,q8⟩:=ht
 have hw:=Kz hd (show h.length≤800000000 by omega)
 unfold bv rF
 rw [hi]
 simp only
 rw [hw.1,hw.2,ah rfl,oP (List.length_append).symm]
 rfl
theorem wb {a b:ByteArray} {c d:List Int} {e f g:ByteArray} {h:List Int} (ht:fb a b c d e f g h) (hd:Dg h):fc a b c d e f g h=bv a b c d e f g h:=by
 rw [MF ht,Ij ht hd]
 have h1:=EQ (uE ht) 7
 have h2:=Nf h
 obtain ⟨q1,q2,q3,q4,q5,q6,q7,q8⟩:=ht
 refine Mp (fv (Cr _ 7) (NL hd)) ?_
 unfold JU
 rw [List.length_append]
 omega
theorem tp {a b:ByteArray} {c d:List Int} {e f g:ByteArray} {h:List Int}:Dg (bv a b c d e f g h):=Jw _
end Go.Vm
namespace Go.Vm
open Go
def dK:List Int→Int
 |[a,b,c,d,e]=>a+b*2251799813685248+c*5070602400912917605986812821504+d*11417981541647679048466287755595961091061972992+e*25711008708143844408671393477458601640355247900524685364822016
 |_=>0
theorem xQ (x:Int):aH .u64 x 51=x/2251799813685248:=gZ .u64 x 51 (by decide)
theorem My (x:Int):aG .u64 x 2251799813685247=x % 2251799813685248:=kP x 51 (by decide)
theorem jb {a b c d e:Int} (ha:0≤a∧a<9223372036854775808) (hb:0≤b∧b<9223372036854775808) (hc:0≤c∧c<9223372036854775808) (hd:0≤d∧d<9223372036854775808) (he:0≤e∧e<9223372036854775808) :
  ∃ q r0 r1 r2 r3 r4:Int,F45 [a,b,c,d,e]=[r0,r1,r2,r3,r4]∧(0≤r0∧r0<2251799813685248+19*4097)∧(0≤r1∧r1<2251799813685248)∧(0≤r2∧r2<2251799813685248)∧(0≤r3∧r3<2251799813685248)∧(0≤r4∧r4<2251799813685248) ∧
   dK [a,b,c,d,e]=dK [r0,r1,r2,r3,r4]+q*57896044618658097711785492504343953926634992332820282019728792003956564819949:=by
 have e1:t1 a=a:=by unfold t1;rw [dG];omega
 have e2:t2 a b=b+a/2251799813685248:=by unfold t2;rw [e1,dG,xQ];omega
 have e3:t3 a b c=c+(b+a/2251799813685248)/2251799813685248:=by unfold t3;rw [e2,dG,xQ];omega
 have e4:t4 a b c d=d+(c+(b+a/2251799813685248)/2251799813685248)/2251799813685248:=by unfold t4;rw [e3,dG,xQ];omega
 have e5:t5 a b c d e=e+(d+(c+(b+a/2251799813685248)/2251799813685248)/2251799813685248)/2251799813685248:=by unfold t5;rw [e4,dG,xQ];omega
 rw [GV]
 simp only [Fw,My,xQ,e1,e2,e3,e4,e5,dG,mC]
 generalize ha':a/2251799813685248=a1
 generalize hb':(b+a1)/2251799813685248=b1
 generalize hc':(c+b1)/2251799813685248=c1
 generalize hd':(d+c1)/2251799813685248=d1
 generalize he':(e+d1)/2251799813685248=e6
 clear e1 e2 e3 e4 e5
 have h1:0≤a1∧a1≤4095:=by omega
 have h2:0≤b1∧b1≤4096:=by omega
 have h3:0≤c1∧c1≤4096:=by omega
 have h4:0≤d1∧d1≤4096:=by omega
 have h5:0≤e6∧e6≤4096:=by omega
 have h6:19*e6 % 18446744073709551616=19*e6:=Int.emod_eq_of_lt (by omega) (by omega)
 have h7:(a % 2251799813685248+19*e6) % 18446744073709551616=a % 2251799813685248+19*e6:=Int.emod_eq_of_lt (by omega) (by omega)
 rw [h6,h7]
 refine ⟨e6,_,_,_,_,_,rfl,?_,?_,?_,?_,?_,?_⟩
 ·omega
 ·omega
 ·omega
 ·omega
 ·omega
 ·simp only [dK]
  omega
abbrev PF:Int:=57896044618658097711785492504343953926634992332820282019728792003956564819949
def Fe (xs:List Int):Prop:=∃ a b c d e,xs=[a,b,c,d,e]∧(0≤a∧a<4503599627370496)∧(0≤b∧b<4503599627370496)∧(0≤c∧c<4503599627370496)∧(0≤d∧d<4503599627370496)∧(0≤e∧e<4503599627370496)
theorem uN {x y q:Int} (h:x=y+q*PF):x % PF=y % PF:=by
 rw [h,Int.add_mul_emod_self_right]
theorem Of (a b c d e a' b' c' d' e':Int):F16 [a,b,c,d,e] [a',b',c',d',e']=F45 [aE .u64 a a',aE .u64 b b',aE .u64 c c',aE .u64 d d',aE .u64 e e']:=by
 unfold F16
 congr 1
 kernel_rfl
theorem ED {x y:List Int} (hx:Fe x) (hy:Fe y):Fe (F16 x y)∧dK (F16 x y) % PF=(dK x+dK y) % PF:=by
 obtain ⟨a,b,c,d,e,rfl,ha,hb,hc,hd,he⟩:=hx
 obtain ⟨a',b',c',d',e',rfl,ha',hb',hc',hd',he'⟩:=hy
 have s:∀ u v:Int,(0≤u∧u<4503599627370496)→(0≤v∧v<4503599627370496)→aE .u64 u v=u+v:=by
  intro u v hu hv
  rw [dG];exact Int.emod_eq_of_lt (by omega) (by omega)
 rw [Of,s a a' ha ha',s b b' hb hb',s c c' hc hc',s d d' hd hd',s e e' he he']
 obtain ⟨q,r0,r1,r2,r3,r4,h,h0,h1,h2,h3,h4,hv⟩:=jb (a:=a+a') (b:=b+b') (c:=c+c') (d:=d+d') (e:=e+e') (by omega) (by omega) (by omega) (by omega) (by omega)
 rw [h]
 refine ⟨⟨r0,r1,r2,r3,r4,rfl,by omega,by omega,by omega,by omega,by omega⟩,?_⟩
 have:dK [a,b,c,d,e]+dK [a',b',c',d',e']=dK [r0,r1,r2,r3,r4]+q*PF:=by
  rw [← hv];simp only [dK];omega
 exact (uN this).symm
theorem NT (a b c d e r0 r1 r2 r3 r4:Int) {y:List Int} (h:F45 y=[r0,r1,r2,r3,r4]):F18 [a,b,c,d,e] y=F45 [aE .u64 a (aZ .u64 9007199254740916 r0),aE .u64 b (aZ .u64 9007199254740988 r1),aE .u64 c (aZ .u64 9007199254740988 r2),aE .u64 d (aZ .u64 9007199254740988 r3),aE .u64 e (aZ .u64 9007199254740988 r4)]:=by
 unfold F18 Ds
 rw [h]
 congr 1
 kernel_rfl
theorem Dy {x y:List Int} (hx:Fe x) (hy:Fe y):Fe (F18 x y)∧dK (F18 x y) % PF=(dK x-dK y) % PF:=by
 obtain ⟨a,b,c,d,e,rfl,ha,hb,hc,hd,he⟩:=hx
 obtain ⟨a',b',c',d',e',rfl,ha',hb',hc',hd',he'⟩:=hy
 obtain ⟨q',r0',r1',r2',r3',r4',h',h0',h1',h2',h3',h4',hv'⟩:=jb (a:=a') (b:=b') (c:=c') (d:=d') (e:=e') (by omega) (by omega) (by omega) (by omega) (by omega)
 have s:∀ k u v:Int,(9007199254740916≤k∧k≤9007199254740988)→(0≤u∧u<4503599627370496)→(0≤v∧v<4503599627370496)→aE .u64 u (aZ .u64 k v)=u+(k-v):=by
  intro k u v hk hu hv
  rw [dG,vL,Int.emod_eq_of_lt (a:=k-v) (by omega) (by omega)];exact Int.emod_eq_of_lt (by omega) (by omega)
 rw [NT a b c d e r0' r1' r2' r3' r4' h',s _ a r0' (by decide) ha (by omega),s _ b r1' (by decide) hb (by omega),s _ c r2' (by decide) hc (by omega),s _ d r3' (by decide) hd (by omega),s _ e r4' (by decide) he (by omega)]
 obtain ⟨q,r0,r1,r2,r3,r4,h,h0,h1,h2,h3,h4,hv⟩:=jb (a:=a+(9007199254740916-r0')) (b:=b+(9007199254740988-r1')) (c:=c+(9007199254740988-r2')) (d:=d+(9007199254740988-r3')) (e:=e+(9007199254740988-r4')) (by omega) (by omega) (by omega) (by omega) (by omega)
 rw [h]
 refine ⟨⟨r0,r1,r2,r3,r4,rfl,by omega,by omega,by omega,by omega,by omega⟩,?_⟩
 have:dK [a,b,c,d,e]-dK [a',b',c',d',e']=dK [r0,r1,r2,r3,r4]+(q-q'-4)*PF:=by
  simp only [dK,PF] at hv hv' ⊢
  omega
 exact (uN this).symm
end Go.Vm
namespace Go.Vm
open Go
def W (p:Int × Int) (x y:Int):Int × Int:=(dJ p.1 (mq x y) (cT p.2 (gJ x y) 0),dJ p.2 (gJ x y) 0)
theorem zN {p:Int × Int} {x y:Int} (h1:0≤p.1) (h2:0≤p.2) (h2':p.2<18446744073709551616) (hx:0≤x) (hy:0≤y) (hb:p.1*18446744073709551616+p.2+x*y<340282366920938463463374607431768211456) :
  0≤(W p x y).1∧0≤(W p x y).2∧(W p x y).2<18446744073709551616∧(W p x y).1*18446744073709551616+(W p x y).2=p.1*18446744073709551616+p.2+x*y:=by
 have hxy:0≤x*y:=Int.mul_nonneg hx hy
 simp only [W,dJ,cT,mq,gJ]
 generalize x*y=m at *
 generalize p.1=a at *
 generalize p.2=b at *
 have e1:(a+m/18446744073709551616+(b+m % 18446744073709551616+0)/18446744073709551616) % 18446744073709551616=a+m/18446744073709551616+(b+m % 18446744073709551616+0)/18446744073709551616 :=
  Int.emod_eq_of_lt (by omega) (by omega)
 rw [e1]
 omega
theorem OI {x y:List Int} {f0 f1 f2 f3 f4 g0 g1 g2 g3 g4:Int} (hx:F45 x=[f0,f1,f2,f3,f4]) (hy:F45 y=[g0,g1,g2,g3,g4]) :
  itr (it x y) 5 [0,0,0,0,0,0,0,0,0,0] =
   let n:=fun g=>bE .u64 g 19
   let c0:=W (W (W (W (W (0,0) f0 g0) f1 (n g4)) f2 (n g3)) f3 (n g2)) f4 (n g1)
   let c1:=W (W (W (W (W (0,0) f0 g1) f1 g0) f2 (n g4)) f3 (n g3)) f4 (n g2)
   let c2:=W (W (W (W (W (0,0) f0 g2) f1 g1) f2 g0) f3 (n g4)) f4 (n g3)
   let c3:=W (W (W (W (W (0,0) f0 g3) f1 g2) f2 g1) f3 g0) f4 (n g4)
   let c4:=W (W (W (W (W (0,0) f0 g4) f1 g3) f2 g2) f3 g1) f4 g0
   [c0.1,c0.2,c1.1,c1.2,c2.1,c2.2,c3.1,c3.2,c4.1,c4.2]:=by
 unfold it Eh
 rw [hx,hy]
 kernel_rfl
theorem nR {x y:Int} (hx:0≤x∧x<4503599627370496) (hy:0≤y∧y<144115188075855872):0≤x*y∧x*y≤649037107316853453566312041152512:=by
 refine ⟨Int.mul_nonneg hx.1 hy.1,?_⟩
 have h:=Int.mul_le_mul (a:=x) (b:=y) (c:=4503599627370496) (d:=144115188075855872) (by omega) (by omega) hy.1 (by omega)
 have e:(4503599627370496:Int)*144115188075855872=649037107316853453566312041152512:=by decide
 omega
theorem W5 {x0 x1 x2 x3 x4 y0 y1 y2 y3 y4:Int} (hx0:0≤x0∧x0<4503599627370496) (hx1:0≤x1∧x1<4503599627370496) (hx2:0≤x2∧x2<4503599627370496) (hx3:0≤x3∧x3<4503599627370496) (hx4:0≤x4∧x4<4503599627370496)
  (hy0:0≤y0∧y0<144115188075855872) (hy1:0≤y1∧y1<144115188075855872) (hy2:0≤y2∧y2<144115188075855872) (hy3:0≤y3∧y3<144115188075855872) (hy4:0≤y4∧y4<144115188075855872) :
  ∃ h l:Int,W (W (W (W (W (0,0) x0 y0) x1 y1) x2 y2) x3 y3) x4 y4=(h,l)∧(0≤h∧h<2251799813685247)∧(0≤l∧l<18446744073709551616)∧h*18446744073709551616+l=x0*y0+x1*y1+x2*y2+x3*y3+x4*y4:=by
 have b0:=nR hx0 hy0
 have b1:=nR hx1 hy1
 have b2:=nR hx2 hy2
 have b3:=nR hx3 hy3
 have b4:=nR hx4 hy4
 obtain ⟨p1,p2,p3,p4⟩:=zN (p:=(0,0)) (x:=x0) (y:=y0) (by decide) (by decide) (by decide) hx0.1 hy0.1 (by simp only;omega)
 obtain ⟨q1,q2,q3,q4⟩:=zN (p:=W (0,0) x0 y0) (x:=x1) (y:=y1) p1 p2 p3 hx1.1 hy1.1 (by simp only at p4;omega)
 obtain ⟨r1,r2,r3,r4⟩:=zN (p:=W (W (0,0) x0 y0) x1 y1) (x:=x2) (y:=y2) q1 q2 q3 hx2.1 hy2.1 (by simp only at p4;omega)
 obtain ⟨s1,s2,s3,s4⟩:=zN (p:=W (W (W (0,0) x0 y0) x1 y1) x2 y2) (x:=x3) (y:=y3) r1 r2 r3 hx3.1 hy3.1 (by simp only at p4;omega)
 obtain ⟨t1,t2,t3,t4⟩:=zN (p:=W (W (W (W (0,0) x0 y0) x1 y1) x2 y2) x3 y3) (x:=x4) (y:=y4) s1 s2 s3 hx4.1 hy4.1 (by simp only at p4;omega)
 have tot:(W (W (W (W (W (0,0) x0 y0) x1 y1) x2 y2) x3 y3) x4 y4).1*18446744073709551616+(W (W (W (W (W (0,0) x0 y0) x1 y1) x2 y2) x3 y3) x4 y4).2=x0*y0+x1*y1+x2*y2+x3*y3+x4*y4:=by
  simp only at p4;omega
 refine ⟨(W (W (W (W (W (0,0) x0 y0) x1 y1) x2 y2) x3 y3) x4 y4).1,(W (W (W (W (W (0,0) x0 y0) x1 y1) x2 y2) x3 y3) x4 y4).2,rfl,⟨t1,?_⟩,⟨t2,t3⟩,tot⟩
 clear p4 q4 r4 s4 t4 p1 p2 p3 q1 q2 q3 r1 r2 r3 s1 s2 s3
 have bd:x0*y0+x1*y1+x2*y2+x3*y3+x4*y4≤3245185536584267267831560205762560:=by omega
 rw [← tot] at bd
 omega
end Go.Vm
namespace Go.Vm
open Go
theorem Ff {h l r:Int} (hh:0≤h) (hl:0≤l∧l<18446744073709551616) (hr:0≤r∧r<18446744073709551616) (hb:h<2251799813685247) :
  iOr .u64 (cv .u64 (aE .u64 h (cT l r 0)) 13) (aH .u64 (dJ l r 0) 51)=(h*18446744073709551616+l+r)/2251799813685248 ∧
  aG .u64 (dJ l r 0) 2251799813685247=(h*18446744073709551616+l+r) % 2251799813685248:=by
 have s51:∀ x:Int,aH .u64 x 51=x/2251799813685248:=fun x=>gZ .u64 x 51 (by decide)
 have a51:∀ x:Int,aG .u64 x 2251799813685247=x % 2251799813685248:=fun x=>kP x 51 (by decide)
 have l13:∀ x:Int,cv .u64 x 13=(x*8192) % 18446744073709551616:=fun x=>by rw [show (13:Int)=((13:Nat):Int) from rfl,oK .u64 x 13 (by decide),gN];rfl
 rw [s51,a51,l13,dG]
 simp only [dJ,cT]
 have e1:(h+(l+r+0)/18446744073709551616) % 18446744073709551616=h+(l+r+0)/18446744073709551616:=Int.emod_eq_of_lt (by omega) (by omega)
 rw [e1]
 have e2:(h+(l+r+0)/18446744073709551616)*8192 % 18446744073709551616=(h+(l+r+0)/18446744073709551616)*2 ^ 13:=by
  rw [Int.emod_eq_of_lt (by omega) (by omega)];rfl
 rw [e2,Dh _ _ 13 (by omega) (by omega) (by show _<(8192:Int);omega) (by show _*(8192:Int)+_<_;omega)]
 refine ⟨?_,by omega⟩
 show _*(8192:Int)+_=_
 omega
end Go.Vm
namespace Go.Vm
open Go
def nx (h l r:Int):Int:=iOr .u64 (cv .u64 (aE .u64 h (cT l r 0)) 13) (aH .u64 (dJ l r 0) 51)
def loD (l r:Int):Int:=aG .u64 (dJ l r 0) 2251799813685247
theorem NJ {x y:List Int} {h0 l0 h1 l1 h2 l2 h3 l3 h4 l4:Int} (h:itr (it x y) 5 [0,0,0,0,0,0,0,0,0,0]=[h0,l0,h1,l1,h2,l2,h3,l3,h4,l4]) :
  F20 x y =
   let r1:=nx h0 l0 0
   let r2:=nx h1 l1 r1
   let r3:=nx h2 l2 r2
   let r4:=nx h3 l3 r3
   let r5:=nx h4 l4 r4
   F45 [aE .u64 (loD l0 0) (bE .u64 19 r5),loD l1 r1,loD l2 r2,loD l3 r3,loD l4 r4]:=by
 unfold F20 ni
 rw [h]
 show F45 _=F45 _
 congr 1
 kernel_rfl
end Go.Vm
namespace Go.Vm
open Go
theorem qF {x y:Int} (hx:0≤x∧x<4503599627370496) (hy:0≤y∧y<4503599627370496):x*y≤20282409603651670423947251286016:=by
 have h:=Int.mul_le_mul (a:=x) (b:=y) (c:=4503599627370496) (d:=4503599627370496) (by omega) (by omega) hy.1 (by omega)
 have e:(4503599627370496:Int)*4503599627370496=20282409603651670423947251286016:=by decide
 omega
theorem vh {h l r s:Int} (hh:0≤h∧h<2251799813685247) (hl:0≤l∧l<18446744073709551616) (hr:0≤r∧r<18446744073709551616) (hs:h*18446744073709551616+l=s) :
  nx h l r=(s+r)/2251799813685248∧loD l r=(s+r) % 2251799813685248∧0≤nx h l r∧nx h l r<18446744073709551616:=by
 obtain ⟨h1,h2⟩:=Ff hh.1 hl hr (by omega)
 rw [hs] at h1 h2
 have h1':nx h l r=(s+r)/2251799813685248:=h1
 refine ⟨h1',h2,?_,?_⟩ <;> rw [h1'] <;> omega
theorem ON (f0 f1 f2 f3 f4 g0 g1 g2 g3 g4:Int):dK [f0,f1,f2,f3,f4]*dK [g0,g1,g2,g3,g4] =
  dK [f0*g0+f1*(19*g4)+f2*(19*g3)+f3*(19*g2)+f4*(19*g1),f0*g1+f1*g0+f2*(19*g4)+f3*(19*g3)+f4*(19*g2),f0*g2+f1*g1+f2*g0+f3*(19*g4)+f4*(19*g3),f0*g3+f1*g2+f2*g1+f3*g0+f4*(19*g4),f0*g4+f1*g3+f2*g2+f3*g1+f4*g0] +
  (f1*g4+f2*g3+f3*g2+f4*g1+2251799813685248*(f2*g4+f3*g3+f4*g2)+5070602400912917605986812821504*(f3*g4+f4*g3)+11417981541647679048466287755595961091061972992*(f4*g4))*PF:=by
 simp only [dK,PF]
 grind -lia -linarith
theorem EI {x y:List Int} (hx:Fe x) (hy:Fe y):Fe (F20 x y)∧dK (F20 x y) % PF=(dK x*dK y) % PF:=by
 obtain ⟨a,b,c,d,e,rfl,ha,hb,hc,hd,he⟩:=hx
 obtain ⟨a',b',c',d',e',rfl,ha',hb',hc',hd',he'⟩:=hy
 obtain ⟨q,f0,f1,f2,f3,f4,hf,hf0,hf1,hf2,hf3,hf4,hfv⟩:=jb (a:=a) (b:=b) (c:=c) (d:=d) (e:=e) (by omega) (by omega) (by omega) (by omega) (by omega)
 obtain ⟨q',g0,g1,g2,g3,g4,hg,hg0,hg1,hg2,hg3,hg4,hgv⟩:=jb (a:=a') (b:=b') (c:=c') (d:=d') (e:=e') (by omega) (by omega) (by omega) (by omega) (by omega)
 have n:∀ g:Int,(0≤g∧g<4503599627370496)→bE .u64 g 19=19*g:=by
  intro g hg
  rw [mC,Int.emod_eq_of_lt (by omega) (by omega)];omega
 have hacc:=OI hf hg
 simp only [n g1 (by omega),n g2 (by omega),n g3 (by omega),n g4 (by omega)] at hacc
 obtain ⟨h0,l0,e0,hh0,hl0,s0⟩:=W5 (x0:=f0) (x1:=f1) (x2:=f2) (x3:=f3) (x4:=f4) (y0:=g0) (y1:=19*g4) (y2:=19*g3) (y3:=19*g2) (y4:=19*g1) (by omega) (by omega) (by omega) (by omega) (by omega) (by omega) (by omega) (by omega) (by omega) (by omega)
 obtain ⟨h1,l1,e1,hh1,hl1,s1⟩:=W5 (x0:=f0) (x1:=f1) (x2:=f2) (x3:=f3) (x4:=f4) (y0:=g1) (y1:=g0) (y2:=19*g4) (y3:=19*g3) (y4:=19*g2) (by omega) (by omega) (by omega) (by omega) (by omega) (by omega) (by omega) (by omega) (by omega) (by omega)
 obtain ⟨h2,l2,e2,hh2,hl2,s2⟩:=W5 (x0:=f0) (x1:=f1) (x2:=f2) (x3:=f3) (x4:=f4) (y0:=g2) (y1:=g1) (y2:=g0) (y3:=19*g4) (y4:=19*g3) (by omega) (by omega) (by omega) (by omega) (by omega) (by omega) (by omega) (by omega) (by omega) (by omega)
 obtain ⟨h3,l3,e3,hh3,hl3,s3⟩:=W5 (x0:=f0) (x1:=f1) (x2:=f2) (x3:=f3) (x4:=f4) (y0:=g3) (y1:=g2) (y2:=g1) (y3:=g0) (y4:=19*g4) (by omega) (by omega) (by omega) (by omega) (by omega) (by omega) (by omega) (by omega) (by omega) (by omega)
 obtain ⟨h4,l4,e4,hh4,hl4,s4⟩:=W5 (x0:=f0) (x1:=f1) (x2:=f2) (x3:=f3) (x4:=f4) (y0:=g4) (y1:=g3) (y2:=g2) (y3:=g1) (y4:=g0) (by omega) (by omega) (by omega) (by omega) (by omega) (by omega) (by omega) (by omega) (by omega) (by omega)
 rw [e0,e1,e2,e3,e4] at hacc
 have key:=NJ hacc
 have hid:=ON f0 f1 f2 f3 f4 g0 g1 g2 g3 g4
 have b40:=qF (x:=f0) (y:=g4) (by omega) (by omega)
 have b41:=qF (x:=f1) (y:=g3) (by omega) (by omega)
 have b42:=qF (x:=f2) (y:=g2) (by omega) (by omega)
 have b43:=qF (x:=f3) (y:=g1) (by omega) (by omega)
 have b44:=qF (x:=f4) (y:=g0) (by omega) (by omega)
 generalize hq2:(f1*g4+f2*g3+f3*g2+f4*g1+2251799813685248*(f2*g4+f3*g3+f4*g2)+5070602400912917605986812821504*(f3*g4+f4*g3)+11417981541647679048466287755595961091061972992*(f4*g4))=q2 at hid
 rw [← s0,← s1,← s2,← s3,← s4] at hid
 have bd4:h4*18446744073709551616+l4≤101412048018258352119736256430080:=by omega
 generalize ht0:h0*18446744073709551616+l0=t0 at hid
 generalize ht1:h1*18446744073709551616+l1=t1 at hid
 generalize ht2:h2*18446744073709551616+l2=t2 at hid
 generalize ht3:h3*18446744073709551616+l3=t3 at hid
 generalize ht4:h4*18446744073709551616+l4=t4 at hid bd4
 obtain ⟨u0,v0,w0,w0'⟩:=vh (r:=0) hh0 hl0 (by omega) ht0
 obtain ⟨u1,v1,w1,w1'⟩:=vh (r:=nx h0 l0 0) hh1 hl1 ⟨w0,w0'⟩ ht1
 obtain ⟨u2,v2,w2,w2'⟩:=vh (r:=nx h1 l1 (nx h0 l0 0)) hh2 hl2 ⟨w1,w1'⟩ ht2
 obtain ⟨u3,v3,w3,w3'⟩:=vh (r:=nx h2 l2 (nx h1 l1 (nx h0 l0 0))) hh3 hl3 ⟨w2,w2'⟩ ht3
 obtain ⟨u4,v4,w4,w4'⟩:=vh (r:=nx h3 l3 (nx h2 l2 (nx h1 l1 (nx h0 l0 0)))) hh4 hl4 ⟨w3,w3'⟩ ht4
 simp only at key
 generalize nx h0 l0 0=r1 at *
 generalize nx h1 l1 r1=r2 at *
 generalize nx h2 l2 r2=r3 at *
 generalize nx h3 l3 r3=r4 at *
 generalize nx h4 l4 r4=r5 at *
 rw [v0,v1,v2,v3,v4] at key
 clear v0 v1 v2 v3 v4 hacc e0 e1 e2 e3 e4 s0 s1 s2 s3 s4 b40 b41 b42 b43 b44 hq2 hf hg n
 have r5b:r5≤45035996273713152:=by omega
 have m1:bE .u64 19 r5=19*r5:=by rw [mC];exact Int.emod_eq_of_lt (by omega) (by omega)
 have m2:aE .u64 ((t0+0) % 2251799813685248) (19*r5)=(t0+0) % 2251799813685248+19*r5:=by rw [dG];exact Int.emod_eq_of_lt (by omega) (by omega)
 rw [m1,m2] at key
 obtain ⟨q3,p0,p1,p2,p3,p4,hp,hp0,hp1,hp2,hp3,hp4,hpv⟩:=jb (a:=(t0+0) % 2251799813685248+19*r5) (b:=(t1+r1) % 2251799813685248) (c:=(t2+r2) % 2251799813685248) (d:=(t3+r3) % 2251799813685248) (e:=(t4+r4) % 2251799813685248) (by omega) (by omega) (by omega) (by omega) (by omega)
 rw [hp] at key
 rw [key]
 refine ⟨⟨p0,p1,p2,p3,p4,rfl,by omega,by omega,by omega,by omega,by omega⟩,?_⟩
 have e5:dK [t0,t1,t2,t3,t4]=dK [p0,p1,p2,p3,p4]+(q3+r5)*PF:=by
  have:dK [t0,t1,t2,t3,t4]=dK [(t0+0) % 2251799813685248+19*r5,(t1+r1) % 2251799813685248,(t2+r2) % 2251799813685248,(t3+r3) % 2251799813685248,(t4+r4) % 2251799813685248]+r5*PF:=by
   simp only [dK,PF]
   clear hpv hid hfv hgv
   omega
  rw [this,hpv];show dK _+q3*PF+r5*PF=_;rw [Int.add_mul,Int.add_assoc]
 have f:dK [a,b,c,d,e]*dK [a',b',c',d',e']=dK [p0,p1,p2,p3,p4]+(q3+r5+q2+q*dK [g0,g1,g2,g3,g4]+q'*dK [f0,f1,f2,f3,f4]+q*q'*PF)*PF:=by
  rw [hfv,hgv]
  have h7:dK [f0,f1,f2,f3,f4]*dK [g0,g1,g2,g3,g4]=dK [p0,p1,p2,p3,p4]+(q3+r5)*PF+q2*PF:=by rw [hid,e5]
  generalize dK [f0,f1,f2,f3,f4]=A at *
  generalize dK [g0,g1,g2,g3,g4]=Bv at *
  generalize dK [p0,p1,p2,p3,p4]=Cv at *
  show (A+q*PF)*(Bv+q'*PF)=_
  generalize PF=M at *
  grind -lia -linarith
 exact (uN f).symm
end Go.Vm
namespace Go.Vm
open Go
theorem zf (a b c d e:Int):dK [a,b,c,d,e]=num (2 ^ 51) [a,b,c,d,e]:=by
 simp only [num,dK]
 show _=a+2251799813685248*(b+2251799813685248*(c+2251799813685248*(d+2251799813685248*(e+2251799813685248*0))))
 omega
theorem Ng {x:List Int} {l0 l1 l2 l3 l4:Int} (h:F45 (F45 x)=[l0,l1,l2,l3,l4]) :
  F52 x =
   let q0:=aH .u64 (aE .u64 l0 19) 51
   let q1:=aH .u64 (aE .u64 l1 q0) 51
   let q2:=aH .u64 (aE .u64 l2 q1) 51
   let q3:=aH .u64 (aE .u64 l3 q2) 51
   let q4:=aH .u64 (aE .u64 l4 q3) 51
   let m0:=aE .u64 l0 (bE .u64 19 q4)
   let m1:=aE .u64 l1 (aH .u64 m0 51)
   let m2:=aE .u64 l2 (aH .u64 m1 51)
   let m3:=aE .u64 l3 (aH .u64 m2 51)
   let m4:=aE .u64 l4 (aH .u64 m3 51)
   [aG .u64 m0 2251799813685247,aG .u64 m1 2251799813685247,aG .u64 m2 2251799813685247,aG .u64 m3 2251799813685247,aG .u64 m4 2251799813685247]:=by
 unfold F52 od
 rw [h]
 kernel_rfl
theorem we {x:List Int} (hx:Fe x):Dig (2 ^ 51) (F52 x)∧(F52 x).length=5∧num (2 ^ 51) (F52 x)=dK x % PF:=by
 obtain ⟨a,b,c,d,e,rfl,ha,hb,hc,hd,he⟩:=hx
 obtain ⟨q,f0,f1,f2,f3,f4,hf,hf0,hf1,hf2,hf3,hf4,hfv⟩:=jb (a:=a) (b:=b) (c:=c) (d:=d) (e:=e) (by omega) (by omega) (by omega) (by omega) (by omega)
 obtain ⟨q',l0,l1,l2,l3,l4,hl,hl0,hl1,hl2,hl3,hl4,hlv⟩:=jb (a:=f0) (b:=f1) (c:=f2) (d:=f3) (e:=f4) (by omega) (by omega) (by omega) (by omega) (by omega)
 have key:=Ng (x:=[a,b,c,d,e]) (by rw [hf,hl])
 have s:∀ u v:Int,(0≤u∧u<4503599627370496)→(0≤v∧v<4503599627370496)→aE .u64 u v=u+v:=by
  intro u v hu hv
  rw [dG];exact Int.emod_eq_of_lt (by omega) (by omega)
 simp only at key
 have hv:dK [a,b,c,d,e] % PF=dK [l0,l1,l2,l3,l4] % PF:=by rw [uN hfv,uN hlv]
 simp only [xQ,My] at key
 rw [s l0 19 (by omega) (by omega)] at key
 generalize g0:(l0+19)/2251799813685248=q0 at key
 have b0:0≤q0∧q0≤1:=by omega
 rw [s l1 q0 (by omega) (by omega)] at key
 generalize g1:(l1+q0)/2251799813685248=q1 at key
 have b1:0≤q1∧q1≤1:=by omega
 rw [s l2 q1 (by omega) (by omega)] at key
 generalize g2:(l2+q1)/2251799813685248=q2 at key
 have b2:0≤q2∧q2≤1:=by omega
 rw [s l3 q2 (by omega) (by omega)] at key
 generalize g3:(l3+q2)/2251799813685248=q3 at key
 have b3:0≤q3∧q3≤1:=by omega
 rw [s l4 q3 (by omega) (by omega)] at key
 generalize g4:(l4+q3)/2251799813685248=q4 at key
 have b4:0≤q4∧q4≤1:=by omega
 have e0:bE .u64 19 q4=19*q4:=by rw [mC];exact Int.emod_eq_of_lt (by omega) (by omega)
 rw [e0,s l0 (19*q4) (by omega) (by omega)] at key
 generalize j0:(l0+19*q4)/2251799813685248=c0 at key
 have d0:0≤c0∧c0≤1:=by omega
 rw [s l1 c0 (by omega) (by omega)] at key
 generalize j1:(l1+c0)/2251799813685248=c1 at key
 have d1:0≤c1∧c1≤1:=by omega
 rw [s l2 c1 (by omega) (by omega)] at key
 generalize j2:(l2+c1)/2251799813685248=c2 at key
 have d2:0≤c2∧c2≤1:=by omega
 rw [s l3 c2 (by omega) (by omega)] at key
 generalize j3:(l3+c2)/2251799813685248=c3 at key
 have d3:0≤c3∧c3≤1:=by omega
 rw [s l4 c3 (by omega) (by omega)] at key
 clear hfv hlv hf hl hf0 hf1 hf2 hf3 hf4 ha hb hc hd he
 rw [key,hv]
 refine ⟨?_,rfl,?_⟩
 ·intro y hy
  simp only [List.mem_cons,List.not_mem_nil,or_false] at hy
  show 0≤y∧y<2251799813685248
  rcases hy with rfl|rfl|rfl|rfl|rfl <;> omega
 ·rw [← zf]
  have hlt:0≤dK [l0,l1,l2,l3,l4]-q4*PF∧dK [l0,l1,l2,l3,l4]-q4*PF<PF:=by
   simp only [dK,PF];omega
  have:dK [l0,l1,l2,l3,l4] % PF=dK [l0,l1,l2,l3,l4]-q4*PF:=by
   have:=uN (x:=dK [l0,l1,l2,l3,l4]) (y:=dK [l0,l1,l2,l3,l4]-q4*PF) (q:=q4) (by omega)
   rw [this];exact Int.emod_eq_of_lt hlt.1 hlt.2
  rw [this]
  simp only [dK,PF] at hlt ⊢
  omega
theorem zT {m n:Nat} (hm:0<m) {v:Int} {f:Nat→List Int→List Int} {K:Nat} (hK:K≤m*n)
  (hf:∀ k t,k<K→Dig (2 ^ m) t→t.length=n→0≤t.getD (k/m) 0→t.getD (k/m) 0<2 ^ (k % m)→f k t=t.set (k/m) (t.getD (k/m) 0+v/2 ^ k % 2*2 ^ (k % m))) :
  ∀ {z:List Int},Dig (2 ^ m) z→z.length=n→num (2 ^ m) z=0→∀ j,j≤K→Dig (2 ^ m) (itr f j z)∧(itr f j z).length=n∧num (2 ^ m) (itr f j z)=v % 2 ^ j:=by
 intro z hz hl h0 j
 induction j with
 |zero =>
  intro _
  rw [aX]
  exact ⟨hz,hl,by rw [h0,Int.pow_zero,Int.emod_one]⟩
 |succ j ih =>
  intro hj
  obtain ⟨h1,h2,h3⟩:=ih (by omega)
  obtain ⟨h4,h5,h6,h7⟩:=Fk hm (show j<m*n by omega) h1 h2 h3 rfl
  rw [aQ,hf j _ (by omega) h1 h2 (bD (mZ m) h1).1 h4]
  exact ⟨h5,h6,h7⟩
theorem Dig.zeros {B:Int} (hB:0<B) (n:Nat):Dig B (List.replicate n 0):=by
 intro x hx
 rw [List.eq_of_mem_replicate hx]
 omega
theorem FW {x:List Int} (hx:Fe x):F33 x=bg 256 32 (dK x % PF):=by
 obtain ⟨w1,w2,w3⟩:=we hx
 have h:=zT (m:=8) (n:=32) (by decide) (v:=dK x % PF) (f:=wv x) (K:=255) (by decide) (by
  intro k t hk ht hl h1 h2
  unfold wv
  have hd:=bD (mZ 51) w1 (i:=k/51)
  have hd':0≤(F52 x).getD (k/51) 0∧(F52 x).getD (k/51) 0<((18446744073709551616:Nat):Int):=⟨hd.1,Int.lt_trans hd.2 (by decide)⟩
  rw [uZ fA (by decide) (show k % 51≤64 by omega) hd',kW (by decide) w1,w3,Gl wJ (show k % 8<8 by omega) (Mf _ _) h1 h2]) (z:=List.replicate 32 0) (Dig.zeros (by decide) 32) rfl (kS _ 32) 255 (by decide)
 obtain ⟨h1,h2,h3⟩:=h
 have e:F33 x=itr (wv x) 255 (List.replicate 32 0):=rfl
 rw [e]
 refine lP (by decide) h1 h2 ?_
 show num (2 ^ 8) _=_
 rw [h3]
 have p1:=Int.emod_nonneg (dK x) (b:=PF) (by decide)
 have p2:=Int.emod_lt_of_pos (dK x) (b:=PF) (by decide)
 refine Int.emod_eq_of_lt p1 (Int.lt_trans p2 (by decide))
end Go.Vm
namespace Go.Vm
open Go
def Bd (K:Int) (xs:List Int):Prop:=∀ x∈xs,-K≤x∧x≤K
theorem Bd.at {K:Int} (hK:0≤K) {xs:List Int} (h:Bd K xs) (i:Nat):-K≤xs.getD i 0∧xs.getD i 0≤K:=by
 rw [List.getD_eq_getElem?_getD]
 cases hj:xs[i]? with
 |none=>simp;omega
 |some v=>exact h v (List.mem_of_getElem? hj)
theorem Bd.set {K:Int} {xs:List Int} {i:Nat} {v:Int} (h:Bd K xs) (hv:-K≤v∧v≤K):Bd K (xs.set i v):=by
 intro y hy
 rcases List.mem_or_eq_of_mem_set hy with h1|h1
 ·exact h y h1
 ·rw [h1];exact hv
theorem Dig.bd {B K:Int} (hK:B≤K) {xs:List Int} (h:Dig B xs):Bd K xs:=by
 intro x hx
 have:=h x hx
 omega
theorem yR {K:Int} (hK:0≤K):∀ {xs:List Int},Bd K xs→-(K*65536 ^ xs.length-K)≤65535*num 65536 xs∧65535*num 65536 xs≤K*65536 ^ xs.length-K
 |[],_=>by simp [num]
 |a :: bs,h=>by
  obtain ⟨h1,h2⟩:=yR hK (xs:=bs) (fun x hx=>h x (List.mem_cons_of_mem _ hx))
  have ha:=h a (by simp)
  rw [List.length_cons,gb,Int.pow_succ,← Int.mul_assoc K]
  omega
def ch (k:Nat) (z:Int × List Int):Int × List Int :=
 ((aH .i64 (aE .i64 (z.2.getD k 0) z.1) 16),z.2.set k (aZ .i64 (aE .i64 (z.2.getD k 0) z.1) (cv .i64 (aH .i64 (aE .i64 (z.2.getD k 0) z.1) 16) 16)))
theorem EA {x:Int} {n:Nat} (hn:n≤64) (h:-9223372036854775808≤x*2 ^ n) (h':x*2 ^ n<9223372036854775808):cv .i64 x (n:Int)=x*2 ^ n:=by
 rw [oK .i64 x n hn];exact bh h h'
theorem QK {k:Nat} {c:Int} {d:List Int} (h1:-2305843009213693952≤d.getD k 0∧d.getD k 0≤2305843009213693952) (h2:-70368744177664≤c∧c≤70368744177664) :
  ch k (c,d)=((d.getD k 0+c)/65536,d.set k ((d.getD k 0+c) % 65536)):=by
 unfold ch
 simp only
 rw [cK (by omega) (by omega)]
 have hx:-4611686018427387904≤d.getD k 0+c∧d.getD k 0+c≤4611686018427387904:=by omega
 generalize d.getD k 0+c=x at *
 have e:aH .i64 x 16=x/65536:=gZ .i64 x 16 (by decide)
 have e2:cv .i64 (x/65536) 16=x/65536*65536:=EA (n:=16) (by decide) (by show _≤_*(65536:Int);omega) (by show _*(65536:Int)<_;omega)
 rw [e,e2,fI (by omega) (by omega)]
 congr 2
 omega
theorem nn {α:Type} {xs:List α} {k:Nat} {v:α}:(xs.set k v).take k=xs.take k:=by
 rw [List.take_set,List.set_eq_of_length_le]
 rw [List.length_take];omega
theorem Fm {d:List Int} (hd:Bd 2305843009213693952 d):∀ j,j≤d.length →
  (itr ch j (0,d)).2.length=d.length∧(∀ i,i<j→0≤(itr ch j (0,d)).2.getD i 0∧(itr ch j (0,d)).2.getD i 0<65536) ∧
  (∀ i,j≤i→(itr ch j (0,d)).2.getD i 0=d.getD i 0)∧(-70368744177664≤(itr ch j (0,d)).1∧(itr ch j (0,d)).1≤70368744177664) ∧
  num 65536 ((itr ch j (0,d)).2.take j)+(itr ch j (0,d)).1*65536 ^ j=num 65536 (d.take j):=by
 intro j
 induction j with
 |zero=>intro _;rw [aX];refine ⟨rfl,fun i hi=>absurd hi (by omega),fun _ _=>rfl,by simp only;omega,by simp [num]⟩
 |succ j ih =>
  intro hj
  obtain ⟨h1,h2,h3,h4,h5⟩:=ih (by omega)
  rw [aQ]
  generalize itr ch j (0,d)=z at *
  obtain ⟨c,d'⟩:=z
  simp only at h1 h2 h3 h4 h5
  have hb:=hd.at (by decide) j
  rw [← h3 j (Nat.le_refl j)] at hb
  rw [QK hb h4]
  simp only
  refine ⟨by rw [List.length_set];exact h1,?_,?_,?_,?_⟩
  ·intro i hi
   by_cases hij:i=j
   ·subst hij;rw [bz (by omega)];omega
   ·rw [bN (by omega)];exact h2 i (by omega)
  ·intro i hi
   rw [bN (by omega)];exact h3 i (by omega)
  ·omega
  ·rw [dN,nn,bz (by omega),dN,← h3 j (Nat.le_refl j),← h5,Int.pow_succ]
   generalize (65536:Int) ^ j=p
   generalize d'.getD j 0=x
   have:=Int.emod_add_mul_ediv (x+c) 65536
   generalize (x+c) % 65536=r at *
   generalize (x+c)/65536=q at *
   have e:x=r+65536*q-c:=by omega
   subst e
   grind -lia -linarith
theorem nC {B:Int} {xs:List Int} (h:∀ i,i<xs.length→0≤xs.getD i 0∧xs.getD i 0<B):Dig B xs:=by
 intro x hx
 obtain ⟨j,hj,rfl⟩:=List.mem_iff_getElem.1 hx
 have:=h j hj
 rw [List.getD_eq_getElem?_getD,List.getElem?_eq_getElem hj] at this
 exact this
theorem Io:∀ (n:Nat) (v:Int),bg 65536 n (v % 65536 ^ n)=bg 65536 n v:=by
 intro n
 induction n with
 |zero=>intro v;rfl
 |succ n ih =>
  intro v
  rw [gl,gl,Int.pow_succ,Int.mul_comm (65536 ^ n)]
  have hq:(0:Int)<65536 ^ n:=Int.pow_pos (by decide)
  have a1:v % (65536*65536 ^ n) % 65536=v % 65536:=Int.emod_emod_of_dvd _ ⟨65536 ^ n,rfl⟩
  have a2:v % (65536*65536 ^ n)/65536=v/65536 % 65536 ^ n:=by
   have x1:=Int.emod_add_mul_ediv v (65536*65536 ^ n)
   have x2:v/(65536*65536 ^ n)=v/65536/65536 ^ n:=(Int.ediv_ediv_of_nonneg (by decide)).symm
   have x3:=Int.emod_add_mul_ediv (v/65536) (65536 ^ n)
   rw [x2,Int.mul_assoc] at x1
   generalize 65536 ^ n*(v/65536/65536 ^ n)=y at *
   omega
  rw [a1,a2,ih]
theorem rB {d:List Int} {n:Nat} (hn:d.length=n) (hd:Bd 2305843009213693952 d):itr ch n (0,d)=(num 65536 d/65536 ^ n,bg 65536 n (num 65536 d)):=by
 obtain ⟨h1,h2,h3,h4,h5⟩:=Fm hd n (by omega)
 generalize itr ch n (0,d)=z at *
 obtain ⟨c,d'⟩:=z
 simp only at h1 h2 h3 h4 h5
 rw [List.take_of_length_le (by omega),List.take_of_length_le (by omega)] at h5
 have hD:Dig 65536 d':=nC (fun i hi=>h2 i (by omega))
 obtain ⟨b1,b2⟩:=jT (by decide) hD
 have hp:(0:Int)<65536 ^ n:=Int.pow_pos (by decide)
 rw [h1,hn] at b2
 have e1:num 65536 d/65536 ^ n=c:=by
  rw [← h5,Int.add_mul_ediv_right _ _ (by omega),Int.ediv_eq_zero_of_lt b1 b2];omega
 have e2:num 65536 d % 65536 ^ n=num 65536 d':=by
  rw [← h5,Int.add_mul_emod_self_right,Int.emod_eq_of_lt b1 b2]
 rw [e1]
 congr 1
 rw [← Io,e2]
 exact lP (by decide) hD (by omega) rfl
end Go.Vm
namespace Go.Vm
open Go
theorem GS:gz=ch:=rfl
theorem JP:ol=ch:=rfl
theorem If:xd=ch:=rfl
def gg (v:Int):Int:=v % 57896044618658097711785492504343953926634992332820282019728792003956564819968+19*(v/57896044618658097711785492504343953926634992332820282019728792003956564819968)
theorem BV (v:Int):gg v % PF=v % PF:=by
 have:gg v=v+(-(v/57896044618658097711785492504343953926634992332820282019728792003956564819968))*PF:=by
  unfold gg PF;omega
 exact uN this
theorem dg {B:Int} (hB:0<B):∀ (n i:Nat) (v:Int),i<n→(bg B n v).getD i 0=v/B ^ i % B
 |0,i,v,h=>absurd h (by omega)
 |n+1,0,v,_=>by rw [gl,List.getD_cons_zero,Int.pow_zero,Int.ediv_one]
 |n+1,i+1,v,h=>by
  rw [gl,List.getD_cons_succ,dg hB n i _ (by omega),Int.ediv_ediv_of_nonneg (by omega),Int.pow_succ,Int.mul_comm (B ^ i)]
theorem qb {w u:Int} {x:Int} (hx:0≤x∧x<65536) (h:u=w % 115792089237316195423570985008687907853269984665640564039457584007913129639936+(x-w/1766847064778384329583297500742918515827483896875618958121606201292619776 % 65536)*1766847064778384329583297500742918515827483896875618958121606201292619776):(bg 65536 16 w).set 15 x=bg 65536 16 u:=by
 have hD:=dd (B:=65536) (by decide) 16 w
 have hl:=aw 65536 16 w
 refine lP (by decide) (oA hD hx) (by rw [List.length_set,hl]) ?_
 rw [gn (by omega),gG (by decide),dg (by decide) _ _ _ (by decide),h]
 rfl
theorem nw {d:List Int} (hl:d.length=16) (hd:Bd 1099511627776 d) (k:Nat) :
  ∃ e,cX k d=(bg 65536 16 (num 65536 d % 57896044618658097711785492504343953926634992332820282019728792003956564819968)).set 0 e ∧
   e=num 65536 d % 65536+19*(num 65536 d/57896044618658097711785492504343953926634992332820282019728792003956564819968) ∧
   Bd 1099511627776 (cX k d)∧(cX k d).length=16∧num 65536 (cX k d)=gg (num 65536 d):=by
 have hb:Bd 2305843009213693952 d:=fun x hx=>by have:=hd x hx;omega
 have hch:=rB hl hb
 have ha:=yR (by decide) hd
 rw [hl] at ha
 have hp:(65536:Int) ^ 16=115792089237316195423570985008687907853269984665640564039457584007913129639936:=by rfl
 rw [hp] at ha hch
 have hq:(65536:Int) ^ 15=1766847064778384329583297500742918515827483896875618958121606201292619776:=by rfl
 unfold cX
 rw [GS,hch]
 generalize num 65536 d=v at *
 simp only
 rw [dg (by decide) 16 15 v (by decide),hq]
 have e15:aH .i64 (v/1766847064778384329583297500742918515827483896875618958121606201292619776 % 65536) 15=v/1766847064778384329583297500742918515827483896875618958121606201292619776 % 65536/32768:=gZ .i64 _ 15 (by decide)
 rw [e15]
 have e16:cv .i64 (v/1766847064778384329583297500742918515827483896875618958121606201292619776 % 65536/32768) 15=v/1766847064778384329583297500742918515827483896875618958121606201292619776 % 65536/32768*32768 :=
  EA (n:=15) (by decide) (by show _≤_*(32768:Int);omega) (by show _*(32768:Int)<_;omega)
 rw [e16,fI (by omega) (by omega)]
 rw [qb (u:=v % 57896044618658097711785492504343953926634992332820282019728792003956564819968) (by omega) (by omega)]
 rw [cR (by omega) (by omega),cR (by omega) (by omega),dg (by decide) 16 0 _ (by decide),Int.pow_zero,Int.ediv_one]
 rw [cK (x:=19*_) (by omega) (by omega),cK (by omega) (by omega)]
 refine ⟨_,rfl,by omega,?_,by rw [List.length_set,aw],?_⟩
 ·exact ((dd (B:=65536) (by decide) 16 _).bd (by decide)).set (by omega)
 ·rw [gn (by rw [aw];decide),gG (by decide),hp,dg (by decide) 16 0 _ (by decide),Int.pow_zero,Int.ediv_one]
  unfold gg
  omega
theorem Lj {d:List Int} (hl:d.length=16) (hd:Bd 1099511627776 d):F46 d=bg 65536 16 (num 65536 d % PF):=by
 have ha:=yR (by decide) hd
 rw [hl] at ha
 have hp:(65536:Int) ^ 16=115792089237316195423570985008687907853269984665640564039457584007913129639936:=by rfl
 rw [hp] at ha
 obtain ⟨e1,_,_,b1,l1,n1⟩:=nw hl hd 0
 obtain ⟨e2,_,_,b2,l2,n2⟩:=nw l1 b1 1
 obtain ⟨e3,_,_,b3,l3,n3⟩:=nw l2 b2 2
 obtain ⟨e4,h4,he4,b4,l4,n4⟩:=nw l3 b3 3
 have hi:itr cX 4 d=cX 3 (cX 2 (cX 1 (cX 0 d))):=by rw [aQ,aQ,aQ,aQ,aX]
 have hm:num 65536 (cX 2 (cX 1 (cX 0 d))) % PF=num 65536 d % PF:=by rw [n3,BV,n2,BV,n1,BV]
 have hu:0≤num 65536 (cX 2 (cX 1 (cX 0 d)))∧num 65536 (cX 2 (cX 1 (cX 0 d)))<57896044618658097711785492504343953926634992332820282019728792003956564819968:=by
  rw [n3,n2,n1]
  have a1:-4294967296≤gg (num 65536 d)∧gg (num 65536 d)<57896044618658097711785492504343953926634992332820282019728792003956564819968+4294967296:=by
   clear n1 n2 n3 n4 he4 h4 hm
   unfold gg;omega
  generalize gg (num 65536 d)=y at *
  have a2:0≤gg y∧gg y<57896044618658097711785492504343953926634992332820282019728792003956564819968:=by clear n1 n2 n3 n4 he4 h4 hm ha;unfold gg;omega
  generalize gg y=x at *
  unfold gg;omega
 generalize num 65536 (cX 2 (cX 1 (cX 0 d)))=u at *
 rw [← hm]
 have h4':cX 3 (cX 2 (cX 1 (cX 0 d)))=bg 65536 16 u:=by
  rw [h4,he4,Int.emod_eq_of_lt hu.1 hu.2]
  refine lP (by decide) (oA (dd (by decide) _ _) (by omega)) (by rw [List.length_set,aw]) ?_
  rw [gn (by rw [aw];decide),gG (by decide),hp,dg (by decide) 16 0 _ (by decide),Int.pow_zero,Int.ediv_one]
  omega
 unfold F46
 rw [hi,h4',JP]
 rw [dg (by decide) 16 0 _ (by decide),Int.pow_zero,Int.ediv_one,cK (by omega) (by omega)]
 have hc:=rB (d:=(bg 65536 16 u).set 0 (u % 65536+19)) (n:=16) (by rw [List.length_set,aw]) (((dd (B:=65536) (by decide) 16 _).bd (by decide)).set (by omega))
 have hv:num 65536 ((bg 65536 16 u).set 0 (u % 65536+19))=u+19:=by
  rw [gn (by rw [aw];decide),gG (by decide),hp,dg (by decide) 16 0 _ (by decide),Int.pow_zero,Int.ediv_one]
  omega
 rw [hv] at hc
 rw [hc]
 simp only
 have hq:(65536:Int) ^ 15=1766847064778384329583297500742918515827483896875618958121606201292619776:=by rfl
 rw [dg (by decide) 16 15 (u+19) (by decide),hq]
 by_cases hge:PF≤u
 ·have t:decide ((u+19)/1766847064778384329583297500742918515827483896875618958121606201292619776 % 65536 ≥ 32768)=true:=by
   apply decide_eq_true
   show 32768≤_
   unfold PF at hge
   omega
  have hu2:u % PF=u-PF:=by
   have:=uN (x:=u) (y:=u-PF) (q:=1) (by omega)
   rw [this];refine Int.emod_eq_of_lt (by omega) ?_
   unfold PF;omega
  unfold PF at hge
  rw [t,aB,hu2,fI (by omega) (by omega)]
  refine qb (by omega) ?_
  unfold PF
  omega
 ·have t:decide ((u+19)/1766847064778384329583297500742918515827483896875618958121606201292619776 % 65536 ≥ 32768)=false:=by
   apply decide_eq_false
   show ¬ 32768≤_
   unfold PF at hge
   omega
  rw [t,aA,Int.emod_eq_of_lt hu.1 (by omega)]
end Go.Vm
namespace Go.Vm
open Go
def E (x:List Int) (v:Int):Prop:=Fe x∧dK x % PF=v % PF
theorem E.to {x:List Int} {v w:Int} (h:E x v) (e:v % PF=w % PF):E x w:=⟨h.1,h.2.trans e⟩
theorem QD {x y:List Int} {v w:Int} (hx:E x v) (hy:E y w):E (F16 x y) (v+w) :=
 ⟨(ED hx.1 hy.1).1,by rw [(ED hx.1 hy.1).2,Int.add_emod,hx.2,hy.2,← Int.add_emod]⟩
theorem Ri {x y:List Int} {v w:Int} (hx:E x v) (hy:E y w):E (F18 x y) (v-w) :=
 ⟨(Dy hx.1 hy.1).1,by rw [(Dy hx.1 hy.1).2,Int.sub_emod,hx.2,hy.2,← Int.sub_emod]⟩
theorem xA {x y:List Int} {v w:Int} (hx:E x v) (hy:E y w):E (F20 x y) (v*w) :=
 ⟨(EI hx.1 hy.1).1,by rw [(EI hx.1 hy.1).2,Int.mul_emod,hx.2,hy.2,← Int.mul_emod]⟩
theorem lQ {n:Int} (h:0≤n∧n<4294967296):E (F30 n) n:=by
 have e:F30 n=[n,0,0,0,0]:=by
  unfold F30
  rw [gN,Int.emod_eq_of_lt (by omega) (by omega)]
 rw [e]
 refine ⟨⟨n,0,0,0,0,rfl,by omega,by omega,by omega,by omega,by omega⟩,?_⟩
 simp only [dK]
 congr 1
 omega
theorem JQ {b:List Int} (hb:Dig 256 b) (hl:b.length=32):E (F23 b) (num 256 b % 57896044618658097711785492504343953926634992332820282019728792003956564819968):=by
 have h:=zT (m:=51) (n:=5) (by decide) (v:=num 256 b) (f:=xZ b) (K:=255) (by decide) (by
  intro k t hk ht hl h1 h2
  unfold xZ
  have hd:=bD (B:=256) (by decide) hb (i:=k/8)
  rw [uZ wJ (by decide) (show k % 8≤8 by omega) hd,show b.getD (k/8) 0/2 ^ (k % 8) % 2=num 256 b/2 ^ k % 2 from kW (m:=8) (by decide) hb k,
   Gl fA (show k % 51<64 by omega) (Mf _ _) h1 h2]) (z:=List.replicate 5 0) (Dig.zeros (by decide) 5) rfl (kS _ 5) 255 (by decide)
 obtain ⟨h1,h2,h3⟩:=h
 have e:F23 b=itr (xZ b) 255 (List.replicate 5 0):=by
  unfold F23
  have:((((b.length:Nat):Int):Int) != 32)=false:=by rw [hl];rfl
  rw [this,aA]
  rfl
 rw [← e] at h1 h2 h3
 obtain ⟨a,b',c,d,e',he⟩:=wP h2
 rw [he] at h1 h3 ⊢
 have hm:∀ x,x∈[a,b',c,d,e']→0≤x∧x<4503599627370496:=fun x hx=>⟨(h1 x hx).1,Int.lt_trans (h1 x hx).2 (by decide)⟩
 refine ⟨⟨a,b',c,d,e',rfl,hm a (by simp),hm b' (by simp),hm c (by simp),hm d (by simp),hm e' (by simp)⟩,?_⟩
 rw [zf,h3]
 rfl
theorem Cw {b:List Int}:mn b=decide (b.length=32):=by
 unfold mn
 by_cases h:b.length=32
 ·have:((((b.length:Nat):Int):Int) != 32)=false:=by rw [h];rfl
  rw [this,aA,decide_eq_true h]
 ·have:((((b.length:Nat):Int):Int) != 32)=true:=by
   have:((b.length:Nat):Int)≠32:=by omega
   simpa using this
  rw [this,aB,decide_eq_false h]
theorem E.bytes {x:List Int} {v:Int} (h:E x v):F33 x=bg 256 32 (v % PF):=by rw [FW h.1,h.2]
theorem mp (v:Int):0≤v % PF∧v % PF<PF:=⟨Int.emod_nonneg _ (by decide),Int.emod_lt_of_pos _ (by decide)⟩
theorem Ho {v w:Int} (h:bg 256 32 (v % PF)=bg 256 32 (w % PF)):v % PF=w % PF:=by
 have h1:=congrArg (num 256) h
 rw [gG (by decide),gG (by decide)] at h1
 have a:=mp v
 have b:=mp w
 rw [Int.emod_eq_of_lt a.1 (Int.lt_trans a.2 (by decide)),Int.emod_eq_of_lt b.1 (Int.lt_trans b.2 (by decide))] at h1
 exact h1
theorem E.same {x y:List Int} {v w:Int} (hx:E x v) (hy:E y w):F29 x y=decide (v % PF=w % PF):=by
 unfold F29
 rw [hx.bytes,hy.bytes]
 by_cases h:v % PF=w % PF
 ·rw [h,decide_eq_true rfl];exact beq_self_eq_true _
 ·rw [decide_eq_false h]
  exact beq_eq_false_iff_ne.2 fun e=>h (Ho e)
theorem E.odd {x:List Int} {v:Int} (hx:E x v):F32 x=decide (v % PF % 2=1):=by
 obtain ⟨w1,w2,w3⟩:=we hx.1
 have hd:=bD (mZ 51) w1 (i:=0)
 have hb:=kW (m:=51) (by decide) w1 0
 have e0:∀ z:Int,z/2 ^ 0 % 2=z % 2:=fun z=>by rw [Int.pow_zero,Int.ediv_one]
 have hb':(F52 x).getD 0 0 % 2=v % PF % 2:=by rw [← hx.2,← w3,← e0 ((F52 x).getD 0 0),← e0 (num _ _)];exact hb
 unfold F32
 rw [AH fA (by decide) ⟨hd.1,Int.lt_trans hd.2 (by decide)⟩,hb']
 rfl
theorem mm {b:List Int} (hb:Dig 256 b):∃ N:Nat,num 256 b=(N:Int)∧N<2 ^ (8*b.length):=by
 obtain ⟨h1,h2⟩:=jT (B:=256) (by decide) hb
 obtain ⟨N,hN⟩:=Int.eq_ofNat_of_zero_le h1
 refine ⟨N,hN,?_⟩
 have e:(256:Int) ^ b.length=((2 ^ (8*b.length):Nat):Int):=by
  rw [Nat.pow_mul,Int.natCast_pow];rfl
 rw [hN,e] at h2
 exact Int.ofNat_lt.1 h2
theorem qQ {b:List Int} (hb:Dig 256 b) {N:Nat} (hN:num 256 b=(N:Int)) (j:Nat):aG .u8 (aH .u8 (b.getD (j/8) 0) ((j % 8:Nat):Int)) 1=((N/2 ^ j % 2:Nat):Int):=by
 have hd:=bD (B:=256) (by decide) hb (i:=j/8)
 rw [uZ wJ (by decide) (show j % 8≤8 by omega) hd,show b.getD (j/8) 0/2 ^ (j % 8) % 2=num 256 b/2 ^ j % 2 from kW (m:=8) (by decide) hb j,hN]
 rw [Int.natCast_emod,Int.natCast_ediv,Int.natCast_pow]
 rfl
theorem yZ {x b:List Int} {v:Int} (hx:E x v) (hb:Dig 256 b) {N:Nat} (hN:num 256 b=(N:Int)):E (F26 x b) (v ^ N):=by
 have hlt:N<2 ^ (8*b.length):=by
  obtain ⟨M,h1,h2⟩:=mm hb
  rw [hN] at h1
  have:N=M:=by omega
  rw [this];exact h2
 have key:∀ k,k≤8*b.length→E (itr (xK x b) k (F30 1)) (v ^ (N/2 ^ (8*b.length-k))):=by
  intro k
  induction k with
  |zero =>
   intro _
   rw [aX,Nat.sub_zero,Nat.div_eq_of_lt hlt,Int.pow_zero]
   exact lQ (by decide)
  |succ k ih =>
   intro hk
   have h:=ih (by omega)
   rw [aQ]
   generalize itr (xK x b) k (F30 1)=z at *
   unfold xK
   have ej:8*b.length-1-k=8*b.length-(k+1):=by omega
   rw [qQ hb hN,ej]
   have e1:N/2 ^ (8*b.length-k)=N/2 ^ (8*b.length-(k+1))/2:=by
    rw [Nat.div_div_eq_div_mul,← Nat.pow_succ]
    congr 2
    omega
   rw [e1] at h
   generalize N/2 ^ (8*b.length-(k+1))=n at *
   have hsq:=xA h h
   rw [← Int.pow_add] at hsq
   rcases Nat.mod_two_eq_zero_or_one n with h0|h0
   ·rw [h0]
    have:(((0:Nat):Int)==1)=false:=rfl
    rw [this,aA]
    have:n/2+n/2=n:=by omega
    rw [this] at hsq
    exact hsq
   ·rw [h0]
    have:(((1:Nat):Int)==1)=true:=rfl
    rw [this,aB]
    have hm:=xA hsq hx
    rw [← Int.pow_succ] at hm
    have:(n/2+n/2).succ=n:=by omega
    rw [this] at hm
    exact hm
 have:=key (8*b.length) (Nat.le_refl _)
 rw [Nat.sub_self,Nat.pow_zero,Nat.div_one] at this
 exact this
end Go.Vm
namespace Go.Vm
open Go
def R (d:List Int) (v:Int):Prop:=d=bg 65536 16 (v % PF)
theorem R.to {x:List Int} {v w:Int} (h:R x v) (e:v % PF=w % PF):R x w:=by unfold R at *;rw [h,e]
def su (B:Int) (h:Nat→Int):Nat→Int
 |0=>0
 |j+1=>su B h j+h j*B ^ j
theorem jA (B:Int) (h:Nat→Int) (j:Nat):su B h (j+1)=su B h j+h j*B ^ j:=rfl
theorem Dd (B:Int) (xs:List Int):∀ j,su B (fun i=>xs.getD i 0) j=num B (xs.take j)
 |0=>by simp [su,num]
 |j+1=>by rw [jA,Dd B xs j,dN]
theorem jp {B:Int} {xs:List Int} {n:Nat} (h:xs.length=n):su B (fun i=>xs.getD i 0) n=num B xs:=by
 rw [Dd,List.take_of_length_le (by omega)]
theorem rY (B:Int) (f g:Nat→Int):∀ j,su B (fun i=>f i+g i) j=su B f j+su B g j
 |0=>rfl
 |j+1=>by rw [jA,jA,jA,rY B f g j,Int.add_mul];omega
theorem sD (B a:Int) (f:Nat→Int):∀ j,su B (fun i=>a*f i) j=a*su B f j
 |0=>by simp [su]
 |j+1=>by rw [jA,jA,sD B a f j,Int.mul_add,Int.mul_assoc]
theorem qG {B:Int} {f g:Nat→Int}:∀ {j:Nat},(∀ i,i<j→f i=g i)→su B f j=su B g j
 |0,_=>rfl
 |j+1,h=>by rw [jA,jA,qG (fun i hi=>h i (by omega)),h j (by omega)]
theorem rl {B:Int} {f:Nat→List Int→List Int} {g:Nat→Int} {p:List Int} {n o:Nat} (hn:n+o≤p.length)
  (hf:∀ k z,k<n→z.length=p.length→z.getD (k+o) 0=p.getD (k+o) 0→f k z=z.set (k+o) (g k)) :
  ∀ j,j≤n→(itr f j p).length=p.length∧(∀ i,i<j→(itr f j p).getD (i+o) 0=g i)∧(∀ i,i<o∨j+o≤i→(itr f j p).getD i 0=p.getD i 0) ∧
   num B (itr f j p)=num B p+su B (fun i=>g i-p.getD (i+o) 0) j*B ^ o:=by
 intro j
 induction j with
 |zero=>intro _;rw [aX];exact ⟨rfl,fun i hi=>absurd hi (by omega),fun _ _=>rfl,by simp [su]⟩
 |succ j ih =>
  intro hj
  obtain ⟨h1,h2,h3,h4⟩:=ih (by omega)
  rw [aQ]
  generalize itr f j p=z at *
  have hz:=h3 (j+o) (Or.inr (Nat.le_refl _))
  rw [hf j z (by omega) h1 hz]
  refine ⟨by rw [List.length_set,h1],?_,?_,?_⟩
  ·intro i hi
   by_cases hij:i=j
   ·subst hij;rw [bz (by omega)]
   ·rw [bN (by omega)];exact h2 i (by omega)
  ·intro i hi
   rw [bN (by omega)];exact h3 i (by omega)
  ·rw [gn (by omega),h4,hz,jA,Int.add_mul,Int.mul_assoc _ (B ^ j),← Int.pow_add]
   omega
theorem pU {K:Int} {xs:List Int} (h:∀ i,i<xs.length→-K≤xs.getD i 0∧xs.getD i 0≤K):Bd K xs:=by
 intro x hx
 obtain ⟨j,hj,rfl⟩:=List.mem_iff_getElem.1 hx
 have:=h j hj
 rw [List.getD_eq_getElem?_getD,List.getElem?_eq_getElem hj] at this
 exact this
theorem tN {f:Nat→List Int→List Int} {g:Nat→Int} {p:List Int} {n:Nat} (hn:p.length=n) (K:Int)
  (hf:∀ k z,k<n→z.getD k 0=p.getD k 0→f k z=z.set k (g k)) (hg:∀ k,k<n→-K≤g k∧g k≤K) :
  (itr f n p).length=n∧Bd K (itr f n p)∧num 65536 (itr f n p)=su 65536 g n:=by
 obtain ⟨h1,h2,h3,h4⟩:=rl (B:=65536) (f:=f) (g:=g) (p:=p) (n:=n) (o:=0) (by omega) (fun k z hk _ h=>hf k z hk h) n (Nat.le_refl _)
 refine ⟨by omega,?_,?_⟩
 ·apply pU
  intro i hi
  have:=h2 i (by omega)
  rw [Nat.add_zero] at this
  rw [this]
  exact hg i (by omega)
 ·rw [h4,Int.pow_zero,Int.mul_one,← jp hn]
  have:∀ j,su 65536 (fun i=>p.getD i 0) j+su 65536 (fun i=>g i-p.getD (i+0) 0) j=su 65536 g j:=by
   intro j
   rw [← rY]
   exact qG fun i _=>by rw [Nat.add_zero];omega
  exact this n
theorem R.len {d:List Int} {v:Int} (h:R d v):d.length=16:=by rw [h,aw]
theorem R.dig {d:List Int} {v:Int} (h:R d v):Dig 65536 d:=by rw [h];exact dd (by decide) _ _
theorem R.num {d:List Int} {v:Int} (h:R d v):num 65536 d=v % PF:=by
 rw [h,gG (by decide)]
 have a:=mp v
 exact Int.emod_eq_of_lt a.1 (Int.lt_trans a.2 (by decide))
theorem R.at {d:List Int} {v:Int} (h:R d v) (i:Nat):0≤d.getD i 0∧d.getD i 0<65536:=bD (by decide) h.dig
theorem Ak {d:List Int} {v:Int} (hl:d.length=16) (hd:Bd 1099511627776 d) (hv:Go.Vm.num 65536 d % PF=v % PF):R (F46 d) v:=by
 unfold R;rw [Lj hl hd,hv]
theorem Pa {x y:List Int} {v w:Int} (hx:R x v) (hy:R y w):R (F17 x y) (v+w):=by
 obtain ⟨h1,h2,h3⟩:=tN (f:=zI y) (g:=fun k=>x.getD k 0+y.getD k 0) hx.len 1099511627776 (by
  intro k z hk hz
  unfold zI
  have a:=hx.at k
  have b:=hy.at k
  rw [hz,cK (by omega) (by omega)]) (by
  intro k hk
  have a:=hx.at k
  have b:=hy.at k
  omega)
 refine Ak h1 h2 ?_
 rw [h3,rY,jp hx.len,jp hy.len,hx.num,hy.num,← Int.add_emod]
theorem lT {n:Int} (h:-1099511627776≤n∧n≤1099511627776):R (F31 n) n:=by
 unfold F31
 refine Ak rfl ?_ ?_
 ·intro x hx
  simp only [List.mem_cons,List.not_mem_nil,or_false] at hx
  omega
 ·simp [num]
theorem RA {x y:List Int} {v w:Int} (hx:R x v) (hy:R y w):R (F19 x y) (v-w):=by
 obtain ⟨h1,h2,h3⟩:=tN (f:=iV y) (g:=fun k=>x.getD k 0+(-1)*y.getD k 0) hx.len 65536 (by
  intro k z hk hz
  unfold iV
  have a:=hx.at k
  have b:=hy.at k
  rw [hz,fI (by omega) (by omega)];congr 1;omega) (by
  intro k hk
  have a:=hx.at k
  have b:=hy.at k
  omega)
 rw [rY,sD,jp hx.len,jp hy.len,hx.num,hy.num] at h3
 unfold F19
 generalize itr (iV y) 16 x=z at *
 have z0:=h2.at (by decide) 0
 rw [cK (y:=131034) (by omega) (by omega)]
 obtain ⟨k1,k2,k3,k4⟩:=rl (B:=65536) (f:=oV) (g:=fun k=>z.getD (k+1) 0+131070) (p:=z.set 0 (z.getD 0 0+131034)) (n:=14) (o:=1) (by rw [List.length_set];omega) (by
  intro k z' hk hl hz
  unfold oV
  rw [bN (by omega)] at hz
  have b:=h2.at (by decide) (k+1)
  rw [hz,cK (by omega) (by omega)]) 14 (Nat.le_refl _)
 generalize itr oV 14 (z.set 0 (z.getD 0 0+131034))=u at *
 have u15:=k3 15 (by omega)
 rw [bN (by omega)] at u15
 have z15:=h2.at (by decide) 15
 rw [u15,cK (by omega) (by omega)]
 have ul:u.length=16:=by rw [k1,List.length_set,h1]
 refine Ak (by rw [List.length_set,ul]) ?_ ?_
 ·refine Bd.set (pU ?_) (by omega)
  intro i hi
  by_cases i0:i=0
  ·have:=k3 0 (by omega)
   rw [bz (by omega)] at this
   rw [i0,this];omega
  ·by_cases i15:i=15
   ·rw [i15,u15];omega
   ·have:=k2 (i-1) (by omega)
    rw [show i-1+1=i by omega] at this
    have b:=h2.at (by decide) i
    rw [this];omega
 ·rw [gn (by omega),u15,k4,gn (by omega),h3]
  have e:su 65536 (fun i=>z.getD (i+1) 0+131070-(z.set 0 (z.getD 0 0+131034)).getD (i+1) 0) 14=su 65536 (fun _=>131070) 14:=qG fun i _=>by rw [bN (by omega)];omega
  have e2:su 65536 (fun _=>131070) 14=53919893334301279589334030174039261347274288845081144962207220498430:=by kernel_rfl
  rw [e,e2]
  have q0:(65536:Int) ^ 0=1:=rfl
  have q1:(65536:Int) ^ 1=65536:=rfl
  have q15:(65536:Int) ^ 15=1766847064778384329583297500742918515827483896875618958121606201292619776:=rfl
  rw [q0,q1,q15]
  have:v % PF + -1*(w % PF)+(z.getD 0 0+131034-z.getD 0 0)*1+53919893334301279589334030174039261347274288845081144962207220498430*65536+(z.getD 15 0+65534-z.getD 15 0)*1766847064778384329583297500742918515827483896875618958121606201292619776=(v % PF-w % PF)+2*PF:=by
   unfold PF;omega
  rw [this,uN rfl,← Int.sub_emod]
theorem By (n i:Nat):(List.replicate n (0:Int)).getD i 0=0:=by
 rw [List.getD_eq_getElem?_getD,List.getElem?_replicate]
 split <;> rfl
theorem lY {B:Int} (hB:0<B):∀ (n m:Nat) (v:Int),bg B (n+m) v=bg B n v++bg B m (v/B ^ n)
 |0,m,v=>by rw [Nat.zero_add,Int.pow_zero,Int.ediv_one];rfl
 |n+1,m,v=>by
  rw [Nat.add_right_comm,gl,lY hB n m,gl,List.cons_append,Int.ediv_ediv_of_nonneg (by omega),Int.pow_succ,Int.mul_comm B]
theorem Gf {a b:Int} (ha:0≤a∧a<65536) (hb:0≤b∧b<65536):0≤a*b∧a*b≤4294967296:=by
 refine ⟨Int.mul_nonneg ha.1 hb.1,?_⟩
 have h:=Int.mul_le_mul (a:=a) (b:=b) (c:=65536) (d:=65536) (by omega) (by omega) hb.1 (by omega)
 omega
theorem sn {x y:List Int} {v w:Int} (hx:R x v) (hy:R y w):R (F21 x y) (v*w):=by
 have inner:∀ k0:Nat,k0<16→∀ z:List Int,z.length=32→Bd ((k0:Int)*4294967296) z →
   (mB x y k0 z).length=32∧Bd (((k0+1:Nat):Int)*4294967296) (mB x y k0 z)∧num 65536 (mB x y k0 z)=num 65536 z+x.getD k0 0*num 65536 y*65536 ^ k0:=by
  intro k0 h0 z hz hb
  have hx0:=hx.at k0
  obtain ⟨h1,h2,h3,h4⟩:=rl (B:=65536) (f:=DG x y k0) (g:=fun k=>z.getD (k+k0) 0+x.getD k0 0*y.getD k 0) (p:=z) (n:=16) (o:=k0) (by omega) (by
   intro k z' hk hl he
   unfold DG
   have a:=hb.at (by omega) (k+k0)
   have b:=Gf hx0 (hy.at k)
   rw [Nat.add_comm k0 k,he,cR (by omega) (by omega),cK (by omega) (by omega)]) 16 (Nat.le_refl _)
  unfold mB
  refine ⟨by rw [h1,hz],?_,?_⟩
  ·apply pU
   intro i hi
   have a:=hb.at (by omega) i
   have e:((k0+1:Nat):Int)*4294967296=(k0:Int)*4294967296+4294967296:=by omega
   by_cases hik:i<k0∨16+k0≤i
   ·rw [h3 i hik,e];omega
   ·have:=h2 (i-k0) (by omega)
    rw [show i-k0+k0=i by omega] at this
    have b:=Gf hx0 (hy.at (i-k0))
    rw [this,e];omega
  ·rw [h4]
   congr 2
   have e:su 65536 (fun i=>z.getD (i+k0) 0+x.getD k0 0*y.getD i 0-z.getD (i+k0) 0) 16=su 65536 (fun i=>x.getD k0 0*y.getD i 0) 16:=qG fun i _=>by omega
   rw [e,sD,jp hy.len]
 have outer:∀ j,j≤16→(itr (mB x y) j (List.replicate 32 0)).length=32∧Bd ((j:Int)*4294967296) (itr (mB x y) j (List.replicate 32 0))∧num 65536 (itr (mB x y) j (List.replicate 32 0))=num 65536 (x.take j)*num 65536 y:=by
  intro j
  induction j with
  |zero =>
   intro _
   rw [aX]
   refine ⟨rfl,?_,by rw [kS];simp [num]⟩
   intro a ha
   rw [List.eq_of_mem_replicate ha];omega
  |succ j ih =>
   intro hj
   obtain ⟨h1,h2,h3⟩:=ih (by omega)
   obtain ⟨i1,i2,i3⟩:=inner j (by omega) _ h1 h2
   rw [aQ]
   refine ⟨i1,i2,?_⟩
   rw [i3,h3,dN,Int.add_mul]
   congr 1
   rw [Int.mul_assoc,Int.mul_assoc,Int.mul_comm (65536 ^ j)]
 obtain ⟨o1,o2,o3⟩:=outer 16 (Nat.le_refl _)
 rw [List.take_of_length_le (by rw [hx.len];decide),hx.num,hy.num] at o3
 have hch:=rB (n:=32) o1 (fun a ha=>by have:=o2 a ha;omega)
 rw [o3] at hch
 have hV:0≤v % PF*(w % PF):=Int.mul_nonneg (mp v).1 (mp w).1
 have hV2:v % PF*(w % PF)≤3351951982485649274893506249551461531869841455148098344430890360930441007516186694504959566828678008207342894297409383004791299986236948390458062788362601:=by
  have h:=Int.mul_le_mul (a:=v % PF) (b:=w % PF) (c:=PF) (d:=PF) (Int.le_of_lt (mp v).2) (Int.le_of_lt (mp w).2) (mp w).1 (by decide)
  have e:PF*PF=3351951982485649274893506249551461531869841455148098344430890360930441007516186694504959566828678008207342894297409383004791299986236948390458062788362601:=by kernel_rfl
  rw [e] at h
  exact h
 refine R.to (v:=v % PF*(w % PF)) ?_ (Int.mul_emod v w PF).symm
 generalize v % PF*(w % PF)=V at *
 have hsp:=lY (B:=65536) (by decide) 16 16 V
 have e0:F21 x y=F46 (itr (xE x y) 16 (List.replicate 16 0)):=rfl
 have ez:([0,0,0,0,0,0,0,0,0,0,0,0,0,0,0,0,0,0,0,0,0,0,0,0,0,0,0,0,0,0,0,0]:List Int)=List.replicate 32 0:=rfl
 have g1:∀ k,k<16→(bg 65536 32 V).getD k 0=(bg 65536 16 V).getD k 0:=by
  intro k hk
  rw [show 32=16+16 from rfl,hsp,List.getD_eq_getElem?_getD,List.getElem?_append_left (by rw [aw];exact hk),← List.getD_eq_getElem?_getD]
 have g2:∀ k,k<16→(bg 65536 32 V).getD (k+16) 0=(bg 65536 16 (V/65536 ^ 16)).getD k 0:=by
  intro k hk
  rw [show 32=16+16 from rfl,hsp,List.getD_eq_getElem?_getD,List.getElem?_append_right (by rw [aw];omega),aw,Nat.add_sub_cancel,← List.getD_eq_getElem?_getD]
 obtain ⟨h1,h2,h3⟩:=tN (f:=xE x y) (p:=List.replicate 16 0) (n:=16) (g:=fun k=>(bg 65536 16 V).getD k 0+38*(bg 65536 16 (V/65536 ^ 16)).getD k 0) rfl 1099511627776 (by
  intro k z hk hz
  unfold xE
  rw [ez,If,hch]
  simp only
  rw [g1 k hk,g2 k hk]
  have a:=bD (i:=k) (by decide) (dd (B:=65536) (by decide) 16 V)
  have b:=bD (i:=k) (by decide) (dd (B:=65536) (by decide) 16 (V/65536 ^ 16))
  rw [cR (by omega) (by omega),cK (by omega) (by omega)]) (by
  intro k hk
  have a:=bD (i:=k) (by decide) (dd (B:=65536) (by decide) 16 V)
  have b:=bD (i:=k) (by decide) (dd (B:=65536) (by decide) 16 (V/65536 ^ 16))
  omega)
 rw [e0]
 refine Ak h1 h2 ?_
 have hp:(65536:Int) ^ 16=115792089237316195423570985008687907853269984665640564039457584007913129639936:=by rfl
 rw [h3,rY,sD,jp (aw _ _ _),jp (aw _ _ _),gG (by decide),gG (by decide),hp]
 have:V=V % 115792089237316195423570985008687907853269984665640564039457584007913129639936+38*(V/115792089237316195423570985008687907853269984665640564039457584007913129639936 % 115792089237316195423570985008687907853269984665640564039457584007913129639936)+(2*(V/115792089237316195423570985008687907853269984665640564039457584007913129639936))*PF:=by
  unfold PF;omega
 exact (uN this).symm
end Go.Vm
namespace Go.Vm
open Go
theorem zc (b:List Int):∀ j,su 65536 (fun k=>b.getD (2*k) 0+256*b.getD (2*k+1) 0) j=num 256 (b.take (2*j))
 |0=>by simp [su,num]
 |j+1=>by
  rw [jA,zc b j,show 2*(j+1)=2*j+1+1 by omega,dN,dN,Int.pow_succ]
  have e:(65536:Int) ^ j=256 ^ (2*j):=by rw [Int.pow_mul];rfl
  rw [e,Int.add_mul]
  generalize (256:Int) ^ (2*j)=p
  rw [Int.mul_comm p 256,← Int.mul_assoc,Int.mul_comm 256 (b.getD _ _)]
  omega
theorem gh {x:Int} (h:0≤x∧x<256):IntKind.wrap .i64 x=x:=bh (by omega) (by omega)
theorem Oa {b:List Int} (hb:Dig 256 b) (hl:b.length=32):R (F24 b) (num 256 b % 57896044618658097711785492504343953926634992332820282019728792003956564819968):=by
 obtain ⟨h1,h2,h3⟩:=tN (f:=iw b) (p:=List.replicate 16 0) (n:=16) (g:=fun k=>b.getD (2*k) 0+256*b.getD (2*k+1) 0) rfl 65536 (by
  intro k z hk hz
  unfold iw
  have a:=bD (i:=2*k) (by decide) hb
  have c:=bD (i:=2*k+1) (by decide) hb
  rw [gh a,gh c,cR (by omega) (by omega),cK (by omega) (by omega)]) (by
  intro k hk
  have a:=bD (i:=2*k) (by decide) hb
  have c:=bD (i:=2*k+1) (by decide) hb
  omega)
 have h15:0≤(itr (iw b) 16 (List.replicate 16 0)).getD 15 0:=by
  obtain ⟨k1,k2,k3,k4⟩:=rl (B:=65536) (f:=iw b) (p:=List.replicate 16 0) (n:=16) (o:=0) (g:=fun k=>b.getD (2*k) 0+256*b.getD (2*k+1) 0) (by decide) (by
   intro k z hk _ hz
   unfold iw
   have a:=bD (i:=2*k) (by decide) hb
   have c:=bD (i:=2*k+1) (by decide) hb
   rw [gh a,gh c,cR (by omega) (by omega),cK (by omega) (by omega)];rfl) 16 (Nat.le_refl _)
  have:=k2 15 (by decide)
  have a:=bD (i:=30) (by decide) hb
  have c:=bD (i:=31) (by decide) hb
  have e:(itr (iw b) 16 (List.replicate 16 0)).getD 15 0=b.getD 30 0+256*b.getD 31 0:=this
  omega
 rw [zc,List.take_of_length_le (by omega)] at h3
 have e0:F24 b=F46 ((itr (iw b) 16 (List.replicate 16 0)).set 15 (bm ((itr (iw b) 16 (List.replicate 16 0)).getD 15 0) 32768)):=rfl
 have hD:Dig 65536 (itr (iw b) 16 (List.replicate 16 0)):=by
  obtain ⟨k1,k2,k3,k4⟩:=rl (B:=65536) (f:=iw b) (p:=List.replicate 16 0) (n:=16) (o:=0) (g:=fun k=>b.getD (2*k) 0+256*b.getD (2*k+1) 0) (by decide) (by
   intro k z hk _ hz
   unfold iw
   have a:=bD (i:=2*k) (by decide) hb
   have c:=bD (i:=2*k+1) (by decide) hb
   rw [gh a,gh c,cR (by omega) (by omega),cK (by omega) (by omega)];rfl) 16 (Nat.le_refl _)
  apply nC
  intro i hi
  have e:=k2 i (by omega)
  have a:=bD (i:=2*i) (by decide) hb
  have c:=bD (i:=2*i+1) (by decide) hb
  rw [Nat.add_zero] at e
  rw [e];omega
 rw [e0]
 have g15:=kn (B:=65536) (by decide) (i:=15) hD
 rw [h3] at g15
 generalize itr (iw b) 16 (List.replicate 16 0)=d at *
 have b15:=bD (i:=15) (by decide) hD
 have erem:bm (d.getD 15 0) 32768=d.getD 15 0 % 32768:=by
  unfold bm;exact Int.tmod_eq_emod_of_nonneg h15
 rw [erem]
 refine Ak (by rw [List.length_set,h1]) ((hD.bd (by decide)).set (by omega)) ?_
 rw [gn (by omega),h3,g15]
 have hq:(65536:Int) ^ 15=1766847064778384329583297500742918515827483896875618958121606201292619776:=rfl
 rw [hq]
 congr 1
 obtain ⟨n1,n2⟩:=jT (B:=256) (by decide) hb
 rw [hl] at n2
 have hp:(256:Int) ^ 32=115792089237316195423570985008687907853269984665640564039457584007913129639936:=rfl
 rw [hp] at n2
 omega
theorem R.beq {m n:List Int} {v w:Int} (hm:R m v) (hn:R n w):(m==n)=decide (v % PF=w % PF):=by
 by_cases h:v % PF=w % PF
 ·rw [decide_eq_true h]
  unfold R at hm hn
  rw [hm,hn,h];exact beq_self_eq_true _
 ·rw [decide_eq_false h]
  refine beq_eq_false_iff_ne.2 fun e=>h ?_
  rw [← hm.num,← hn.num,e]
theorem wn {b:List Int} (hb:Dig 256 b) {N:Nat} (hN:num 256 b=(N:Int)) (k j:Nat) (hj:j<8):bm (aH .u8 (b.getD k 0) (j:Int)) 2=((N/2 ^ (8*k+j) % 2:Nat):Int):=by
 have h:=qQ hb hN (8*k+j)
 rw [show (8*k+j)/8=k by omega,show (8*k+j) % 8=j by omega] at h
 have hd:=bD (B:=256) (by decide) hb (i:=k)
 rw [uZ wJ (by decide) (show j≤8 by omega) hd] at h
 rw [← h,gZ .u8 _ j (show j≤8 by omega)]
 unfold bm
 exact Int.tmod_eq_emod_of_nonneg (Int.ediv_nonneg hd.1 (Int.le_of_lt (mZ j)))
theorem sr (x k:Nat):x % 2 ^ (k+1)=x % 2 ^ k+x/2 ^ k % 2*2 ^ k:=by
 have h:=DI (x:Int) k
 have e:∀ n:Nat,(2:Int) ^ n=((2 ^ n:Nat):Int):=fun n=>by rw [Int.natCast_pow];rfl
 rw [e,e] at h
 exact_mod_cast h
theorem GO {x b:List Int} {v:Int} (hx:R x v) (hb:Dig 256 b) {N:Nat} (hN:num 256 b=(N:Int)):R (F27 x b) (v ^ N):=by
 have inner:∀ k,∀ z:List Int × List Int,R z.1 (v ^ (N % 2 ^ (8*k)))→R z.2 (v ^ (2 ^ (8*k)))→∀ j,j≤8 →
   R (itr (vJ b k) j z).1 (v ^ (N % 2 ^ (8*k+j)))∧R (itr (vJ b k) j z).2 (v ^ (2 ^ (8*k+j))):=by
  intro k z h1 h2 j
  induction j with
  |zero=>intro _;rw [aX];exact ⟨h1,h2⟩
  |succ j ih =>
   intro hj
   obtain ⟨g1,g2⟩:=ih (by omega)
   rw [aQ]
   generalize itr (vJ b k) j z=u at *
   unfold vJ
   simp only
   rw [wn hb hN k j (by omega)]
   refine ⟨?_,?_⟩
   ·rw [show 8*k+(j+1)=(8*k+j)+1 by omega,sr]
    generalize 8*k+j=i at *
    rcases Nat.mod_two_eq_zero_or_one (N/2 ^ i) with h0|h0
    ·rw [h0,Nat.zero_mul,Nat.add_zero]
     have:(((0:Nat):Int)==1)=false:=rfl
     rw [this,aA]
     exact g1
    ·rw [h0,Nat.one_mul]
     have:(((1:Nat):Int)==1)=true:=rfl
     rw [this,aB,Int.pow_add]
     exact sn g1 g2
   ·rw [show 8*k+(j+1)=(8*k+j)+1 by omega,Nat.pow_succ,Nat.mul_two,Int.pow_add]
    exact sn g2 g2
 have outer:∀ k,k≤b.length→R (itr (Ad b) k (F31 1,x)).1 (v ^ (N % 2 ^ (8*k)))∧R (itr (Ad b) k (F31 1,x)).2 (v ^ (2 ^ (8*k))):=by
  intro k
  induction k with
  |zero =>
   intro _
   rw [aX,Nat.mul_zero,Nat.pow_zero,Nat.mod_one,Int.pow_zero,Int.pow_one]
   exact ⟨lT (by decide),hx⟩
  |succ k ih =>
   intro hk
   obtain ⟨g1,g2⟩:=ih (by omega)
   rw [aQ]
   obtain ⟨i1,i2⟩:=inner k _ g1 g2 8 (Nat.le_refl _)
   rw [show 8*(k+1)=8*k+8 by omega]
   exact ⟨i1,i2⟩
 have hlt:N<2 ^ (8*b.length):=by
  obtain ⟨M,h1,h2⟩:=mm hb
  rw [hN] at h1
  have:N=M:=by omega
  rw [this];exact h2
 have:=(outer b.length (Nat.le_refl _)).1
 rw [Nat.mod_eq_of_lt hlt] at this
 unfold F27
 rw [Nat.sub_zero]
 exact this
theorem FA (v:Int) (j:Nat):v/65536 ^ j=v/256 ^ (2*j):=by
 rw [Int.pow_mul];rfl
theorem Lz {d:List Int} {v:Int} (hd:R d v):∀ j,j≤16→itr (mE d) j (0,[])=(2*j,bg 256 (2*j) (v % PF)):=by
 intro j
 induction j with
 |zero=>intro _;rw [aX];rfl
 |succ j ih =>
  intro hj
  rw [aQ,ih (by omega)]
  unfold mE
  simp only
  have h1:d.getD j 0=v % PF/65536 ^ j % 65536:=by rw [hd,dg (by decide) 16 j _ (by omega)]
  have h2:=hd.at j
  have e1:IntKind.wrap .u8 (bm (d.getD j 0) 256)=d.getD j 0 % 256:=by
   unfold bm
   rw [Int.tmod_eq_emod_of_nonneg h2.1,dc];omega
  have e2:IntKind.wrap .u8 (ic .i64 (d.getD j 0) 256)=d.getD j 0/256:=by
   unfold ic
   rw [Int.tdiv_eq_ediv_of_nonneg h2.1,bh (by omega) (by omega),dc];omega
  rw [e1,e2,show 2*(j+1)=2*j+2 by omega,lY (by decide) (2*j) 2]
  refine Prod.ext rfl ?_
  simp only
  congr 1
  rw [h1,FA]
  generalize v % PF/256 ^ (2*j)=u
  show _=[u % 256,u/256 % 256]
  congr 1
  ·omega
  ·congr 1;omega
theorem Ko {d:List Int} {v:Int} (hd:R d v):F49 d=bg 256 32 (v % PF):=by
 unfold F49;rw [Lz hd 16 (Nat.le_refl _)]
theorem AG:F50 255 21=[235,255,255,255,255,255,255,255,255,255,255,255,255,255,255,255,255,255,255,255,255,255,255,255,255,255,255,255,255,255,255,127]:=by kernel_rfl
theorem CK:F50 252 2=[254,255,255,255,255,255,255,255,255,255,255,255,255,255,255,255,255,255,255,255,255,255,255,255,255,255,255,255,255,255,255,15]:=by kernel_rfl
theorem BK:F50 253 5=[251,255,255,255,255,255,255,255,255,255,255,255,255,255,255,255,255,255,255,255,255,255,255,255,255,255,255,255,255,255,255,31]:=by kernel_rfl
theorem CS:F51 255 21=[235,255,255,255,255,255,255,255,255,255,255,255,255,255,255,255,255,255,255,255,255,255,255,255,255,255,255,255,255,255,255,127]:=by kernel_rfl
theorem Fd:F51 252 2=[254,255,255,255,255,255,255,255,255,255,255,255,255,255,255,255,255,255,255,255,255,255,255,255,255,255,255,255,255,255,255,15]:=by kernel_rfl
theorem FB:F51 253 5=[251,255,255,255,255,255,255,255,255,255,255,255,255,255,255,255,255,255,255,255,255,255,255,255,255,255,255,255,255,255,255,31]:=by kernel_rfl
def tF:Nat:=57896044618658097711785492504343953926634992332820282019728792003956564819947
def eT:Nat:=7237005577332262213973186563042994240829374041602535252466099000494570602494
def tE:Nat:=14474011154664524427946373126085988481658748083205070504932198000989141204987
theorem oC (xs:List Int) (h:xs.length=32):aC xs 32 0 32=xs:=ah h
theorem Pr {x:List Int} {v:Int} (hx:E x v):E (F25 x) (v ^ tF):=by
 unfold F25
 rw [AG,oC _ rfl]
 exact yZ hx (by unfold Dig;decide) (N:=tF) (by kernel_rfl)
theorem Ro {x:List Int} {v:Int} (hx:R x v):R (F28 x) (v ^ tF):=by
 unfold F28
 rw [CS,oC _ rfl]
 exact GO hx (by unfold Dig;decide) (N:=tF) (by kernel_rfl)
end Go.Vm
namespace Tabn
def br (n:Nat):Prop:=2≤n∧∀ m,m ∣ n→m=1∨m=n
theorem br.coprime_of_lt {p k:Nat} (hp:br p) (h0:0<k) (h1:k<p):Nat.Coprime p k:=by
 rcases hp.2 (Nat.gcd p k) (Nat.gcd_dvd_left p k) with h|h
 ·exact h
 ·have:=Nat.gcd_dvd_right p k
  rw [h] at this
  have:=Nat.le_of_dvd h0 this
  omega
theorem br.dvd_mul {p a b:Nat} (hp:br p) (h:p ∣ a*b):p ∣ a∨p ∣ b:=by
 rcases hp.2 (Nat.gcd p a) (Nat.gcd_dvd_left p a) with h1|h1
 ·exact .inr (Nat.Coprime.dvd_of_dvd_mul_left h1 h)
 ·exact .inl (h1 ▸ Nat.gcd_dvd_right p a)
def cY:Nat→Nat→Nat
 |_,0=>1
 |0,_+1=>0
 |n+1,k+1=>cY n k+cY n (k+1)
theorem mb:∀ n k,n<k→cY n k=0
 |0,0,h=>by omega
 |0,k+1,_=>rfl
 |n+1,0,h=>by omega
 |n+1,k+1,h=>by
  show cY n k+cY n (k+1)=0
  rw [mb n k (by omega),mb n (k+1) (by omega)]
theorem lR (n:Nat):cY n 0=1:=by cases n <;> rfl
theorem sR:∀ n,cY n n=1
 |0=>rfl
 |n+1=>by
  show cY n n+cY n (n+1)=1
  rw [sR n,mb n (n+1) (by omega)]
theorem pG:∀ n k,(n+1)*cY n k=cY (n+1) (k+1)*(k+1)
 |n,0=>by
  show (n+1)*cY n 0=(cY n 0+cY n 1)*1
  induction n with
  |zero=>rfl
  |succ n ih =>
   simp only [lR] at ih ⊢
   have:cY (n+1) 1=cY n 0+cY n 1:=rfl
   rw [this,lR]
   omega
 |0,k+1=>by
  show (0+1)*cY 0 (k+1)=(cY 0 (k+1)+cY 0 (k+2))*(k+2)
  simp [cY]
 |n+1,k+1=>by
  have h1:=pG n k
  have h2:=pG n (k+1)
  have e1:cY (n+2) (k+2)=cY (n+1) (k+1)+cY (n+1) (k+2):=rfl
  have e2:cY (n+1) (k+1)=cY n k+cY n (k+1):=rfl
  show (n+1+1)*cY (n+1) (k+1)=cY (n+2) (k+2)*(k+1+1)
  rw [e1]
  grind
theorem sC {p k:Nat} (hp:br p) (h0:0<k) (h1:k<p):p ∣ cY p k:=by
 obtain ⟨n,rfl⟩:∃ n,p=n+1:=⟨p-1,by omega⟩
 obtain ⟨j,rfl⟩:∃ j,k=j+1:=⟨k-1,by omega⟩
 have h:=pG n j
 have hd:(n+1) ∣ cY (n+1) (j+1)*(j+1):=⟨cY n j,h.symm⟩
 exact Nat.Coprime.dvd_of_dvd_mul_right (hp.coprime_of_lt h0 h1) hd
def gX (n a:Nat):Nat→Nat
 |0=>0
 |m+1=>gX n a m+cY n m*a ^ m
theorem sk (n a:Nat):∀ m,gX (n+1) a (m+1)=gX n a (m+1)+a*gX n a m
 |0=>by simp [gX,lR]
 |m+1=>by
  have ih:=sk n a m
  have e:cY (n+1) (m+1)=cY n m+cY n (m+1):=rfl
  rw [gX,ih,e,gX,gX,gX,Nat.pow_succ]
  grind
theorem zL (a:Nat):∀ n,(a+1) ^ n=gX n a (n+1)
 |0=>by simp [gX,cY]
 |n+1=>by
  have e:gX n a (n+1+1)=gX n a (n+1):=by
   rw [gX,mb n (n+1) (by omega)];simp
  rw [Nat.pow_succ,zL a n,sk,e]
  grind
theorem uC {p:Nat} (hp:br p) (a:Nat):∀ m,m+1≤p→gX p a (m+1) % p=1 % p
 |0,_=>by simp [gX,lR]
 |m+1,h=>by
  rw [gX,Nat.add_mod,uC hp a m (by omega)]
  obtain ⟨c,hc⟩:=sC hp (show 0<m+1 by omega) (by omega)
  rw [hc,Nat.mul_assoc,Nat.mul_mod_right]
  simp
theorem Fp {p:Nat} (hp:br p) (a:Nat):(a+1) ^ p % p=(a ^ p+1) % p:=by
 have h2:=hp.1
 rw [zL,gX,sR,Nat.one_mul]
 obtain ⟨q,hq⟩:∃ q,p=q+1:=⟨p-1,by omega⟩
 have:=uC hp a q (by omega)
 rw [← hq] at this
 rw [Nat.add_mod,this,← Nat.add_mod,Nat.add_comm]
theorem Ig {p:Nat} (hp:br p):∀ a,a ^ p % p=a % p
 |0=>by rw [Nat.zero_pow (by have:=hp.1;omega)]
 |a+1=>by
  rw [Fp hp,Nat.add_mod,Ig hp a,← Nat.add_mod]
theorem nT {p a b:Nat} (h:a % p=b % p):p ∣ a-b:=Nat.dvd_of_mod_eq_zero (Nat.sub_mod_eq_zero_of_mod_eq h)
theorem nH {p a b:Nat} (hle:b≤a) (h:p ∣ a-b):a % p=b % p:=by
 obtain ⟨c,hc⟩:=h
 have:a=b+p*c:=by omega
 rw [this,Nat.add_mul_mod_self_left]
theorem Ay {p a b c:Nat} (hp:br p) (ha:¬ p ∣ a) (h:a*b % p=a*c % p):b % p=c % p:=by
 rcases Nat.le_total b c with hbc|hbc
 ·have h1:p ∣ a*c-a*b:=nT h.symm
  rw [← Nat.mul_sub] at h1
  rcases hp.dvd_mul h1 with h2|h2
  ·exact absurd h2 ha
  ·exact (nH hbc h2).symm
 ·have h1:p ∣ a*b-a*c:=nT h
  rw [← Nat.mul_sub] at h1
  rcases hp.dvd_mul h1 with h2|h2
  ·exact absurd h2 ha
  ·exact (nH hbc h2)
theorem fermat_one {p a:Nat} (hp:br p) (ha:¬ p ∣ a):a ^ (p-1) % p=1 % p:=by
 refine Ay hp ha ?_
 have h2:=hp.1
 have e:a*a ^ (p-1)=a ^ p:=by
  rw [← Nat.pow_succ'];congr 1;omega
 rw [e,Nat.mul_one,Ig hp]
def vV (m:Nat):Nat→Nat→Nat→Nat
 |0,_,_=>1 % m
 |f+1,a,e=>if e=0 then 1 % m else if e % 2=1 then a*vV m f (a*a % m) (e/2) % m else vV m f (a*a % m) (e/2)
theorem pmod_eq (m:Nat):∀ f a e,e<2 ^ f→vV m f a e=a ^ e % m
 |0,a,e,h=>by
  have:e=0:=by simpa using h
  subst this
  rfl
 |f+1,a,e,h=>by
  have hlt:e/2<2 ^ f:=by rw [Nat.pow_succ] at h;omega
  have hs:(a*a % m) ^ (e/2) % m=a ^ (2*(e/2)) % m:=by
   rw [← Nat.pow_mod,Nat.pow_mul,Nat.pow_two]
  unfold vV
  by_cases h0:e=0
  ·subst h0;simp
  ·rw [if_neg h0,pmod_eq m f _ _ hlt,hs]
   by_cases h1:e % 2=1
   ·rw [if_pos h1]
    rw [Nat.mul_mod,Nat.mod_mod,← Nat.mul_mod,← Nat.pow_succ']
    congr 2;omega
   ·rw [if_neg h1]
    congr 2;omega
theorem qj:∀ n,2≤n→∃ r,br r∧r ∣ n:=by
 intro n
 induction n using Nat.strongRecOn with
 |_ n ih =>
  intro hn
  by_cases hp:br n
  ·exact ⟨n,hp,Nat.dvd_refl n⟩
  ·have:∃ m,m ∣ n∧m≠1∧m≠n:=by
    apply Classical.byContradiction
    intro h
    apply hp
    refine ⟨hn,fun m hm=>?_⟩
    apply Classical.byContradiction
    intro h2
    exact h ⟨m,hm,fun e=>h2 (.inl e),fun e=>h2 (.inr e)⟩
   obtain ⟨m,hm,h1,h2⟩:=this
   have hle:=Nat.le_of_dvd (by omega) hm
   have h0:m≠0:=by rintro rfl;have:=Nat.eq_zero_of_zero_dvd hm;omega
   obtain ⟨r,hr,hd⟩:=ih m (by omega) (by omega)
   exact ⟨r,hr,Nat.dvd_trans hd hm⟩
theorem nU {n:Nat} (hn:2≤n) (h:∀ r,br r→r ∣ n→n<r*r):br n:=by
 refine ⟨hn,fun m hm=>?_⟩
 obtain ⟨e,he⟩:=hm
 by_cases h1:m=1
 ·exact .inl h1
 by_cases h2:e=1
 ·subst h2;right;omega
 exfalso
 have hm0:m≠0:=by rintro rfl;omega
 have he0:e≠0:=by rintro rfl;omega
 obtain ⟨r,hr,hrd⟩:=qj m (by omega)
 obtain ⟨s,hs,hsd⟩:=qj e (by omega)
 have a1:=h r hr (Nat.dvd_trans hrd ⟨e,he⟩)
 have a2:=h s hs (Nat.dvd_trans hsd ⟨m,by rw [he,Nat.mul_comm]⟩)
 have b1:=Nat.le_of_dvd (by omega) hrd
 have b2:=Nat.le_of_dvd (by omega) hsd
 rcases Nat.le_total m e with hle|hle
 ·have:r*r≤m*e:=Nat.mul_le_mul b1 (Nat.le_trans b1 hle)
  omega
 ·have:s*s≤m*e:=Nat.mul_le_mul (Nat.le_trans b2 hle) b2
  omega
theorem zK {p b m:Nat} (k:Nat) (h:b ^ m % p=1 % p):b ^ (m*k) % p=1 % p:=by
 rw [Nat.pow_mul,Nat.pow_mod,h,← Nat.pow_mod,Nat.one_pow]
theorem Ae {p b:Nat}:∀ m n,b ^ m % p=1 % p→b ^ n % p=1 % p→b ^ (Nat.gcd m n) % p=1 % p:=by
 intro m n
 induction m,n using Nat.gcd.induction with
 |H0 n=>intro _ h;simpa using h
 |H1 m n hm ih =>
  intro h1 h2
  rw [Nat.gcd_rec]
  refine ih ?_ h1
  have e:b ^ n=b ^ (m*(n/m))*b ^ (n % m):=by
   rw [← Nat.pow_add,Nat.div_add_mod]
  rw [e,Nat.mul_mod,zK _ h1,← Nat.mul_mod,Nat.one_mul] at h2
  exact h2
theorem uI {n q a t:Nat} (hn:2≤n) (hq:br q) (he:t*q=n-1) (h1:a ^ (n-1) % n=1 % n)
  (hg:Nat.gcd (a ^ t % n+(n-1)) n=1) {r:Nat} (hr:br r) (hd:r ∣ n):q ∣ r-1:=by
 have hr2:=hr.1
 have hmod:∀ {x y:Nat},x % n=y % n→x % r=y % r:=by
  intro x y h
  rw [← Nat.mod_mod_of_dvd x hd,h,Nat.mod_mod_of_dvd y hd]
 have hbq:(a ^ t) ^ q % r=1 % r:=by
  rw [← Nat.pow_mul,he];exact hmod h1
 have hrb:¬ r ∣ a ^ t:=by
  intro hdv
  have hz:a ^ t % r=0:=Nat.mod_eq_zero_of_dvd hdv
  rw [Nat.pow_mod,hz,Nat.zero_pow (by have:=hq.1;omega)] at hbq
  rw [Nat.mod_eq_of_lt (by omega:1<r)] at hbq
  simp at hbq
 have hfl:=fermat_one hr hrb
 rcases hq.2 (Nat.gcd q (r-1)) (Nat.gcd_dvd_left _ _) with hgc|hgc
 ·exfalso
  have hone:=Ae q (r-1) hbq hfl
  rw [hgc,Nat.pow_one] at hone
  have hdg:r ∣ a ^ t % n+(n-1):=by
   have h3:(a ^ t % n) % r=1 % r:=by rw [Nat.mod_mod_of_dvd _ hd];exact hone
   have h4:(a ^ t % n+(n-1)) % r=0:=by
    rw [Nat.add_mod,h3,← Nat.add_mod]
    have:1+(n-1)=n:=by omega
    rw [this];exact Nat.mod_eq_zero_of_dvd hd
   exact Nat.dvd_of_mod_eq_zero h4
  have:=Nat.dvd_gcd hdg hd
  rw [hg] at this
  have:=Nat.le_of_dvd (by omega) this
  omega
 ·have:=Nat.gcd_dvd_right q (r-1)
  rwa [hgc] at this
theorem DS {n q a t f:Nat} (hq:br q) (hn:2≤n) (he:t*q=n-1) (hf:n-1<2 ^ f) (h1:vV n f a (n-1)=1)
  (hg:Nat.gcd (vV n f a t+(n-1)) n=1) (hb:n<q*q):br n:=by
 have ht:t≤n-1:=by rw [← he];exact Nat.le_mul_of_pos_right t (by have:=hq.1;omega)
 rw [pmod_eq n f a _ hf] at h1
 rw [pmod_eq n f a _ (by omega)] at hg
 refine nU hn fun r hr hd=>?_
 have h:=uI hn hq he (by rw [h1,Nat.mod_eq_of_lt (by omega:1<n)]) hg hr hd
 have:=Nat.le_of_dvd (by have:=hr.1;omega) h
 have:=Nat.mul_le_mul (show q≤r by omega) (show q≤r by omega)
 omega
theorem xX {n q q' a t t' f:Nat} (hq:br q) (hq':br q') (hne:q'<q) (hn:2≤n) (he:t*q=n-1) (he':t'*q'=n-1) (hf:n-1<2 ^ f)
  (h1:vV n f a (n-1)=1) (hg:Nat.gcd (vV n f a t+(n-1)) n=1) (hg':Nat.gcd (vV n f a t'+(n-1)) n=1) (hb:n<(q*q')*(q*q')):br n:=by
 have ht:t≤n-1:=by rw [← he];exact Nat.le_mul_of_pos_right t (by have:=hq.1;omega)
 have ht':t'≤n-1:=by rw [← he'];exact Nat.le_mul_of_pos_right t' (by have:=hq'.1;omega)
 rw [pmod_eq n f a _ hf] at h1
 rw [pmod_eq n f a _ (by omega)] at hg
 rw [pmod_eq n f a _ (by omega)] at hg'
 have h1':a ^ (n-1) % n=1 % n:=by rw [h1,Nat.mod_eq_of_lt (by omega:1<n)]
 refine nU hn fun r hr hd=>?_
 have h:=uI hn hq he h1' hg hr hd
 have h':=uI hn hq' he' h1' hg' hr hd
 have hc:Nat.Coprime q q':=hq.coprime_of_lt (by have:=hq'.1;omega) hne
 have:=Nat.le_of_dvd (by have:=hr.1;omega) (Nat.Coprime.mul_dvd_of_dvd_of_dvd hc h h')
 have:=Nat.mul_le_mul (show q*q'≤r by omega) (show q*q'≤r by omega)
 omega
def vC (n:Nat):Bool:=(List.range n).all fun m=>m<2 || n % m != 0
theorem cw {n:Nat} (hn:2≤n) (h:vC n=true):br n:=by
 refine ⟨hn,fun m hm=>?_⟩
 have hle:=Nat.le_of_dvd (by omega) hm
 by_cases h2:m=n
 ·exact .inr h2
 unfold vC at h
 rw [List.all_eq_true] at h
 have:=h m (List.mem_range.2 (by omega))
 have hz:n % m=0:=Nat.mod_eq_zero_of_dvd hm
 simp [hz] at this
 left
 have h0:m≠0:=by rintro rfl;have:=Nat.eq_zero_of_zero_dvd hm;omega
 omega
theorem KM:br 97:=cw (by decide) (by decide +kernel)
theorem Lv:br 103:=cw (by decide) (by decide +kernel)
theorem KR:br 127:=cw (by decide) (by decide +kernel)
theorem LU:br 419:=cw (by decide) (by decide +kernel)
theorem Lm:br 991:=cw (by decide) (by decide +kernel)
theorem Lh:br 1723:=cw (by decide) (by decide +kernel)
theorem Kv:br 4153:=cw (by decide) (by decide +kernel)
theorem MP:br 430751:=DS (q:=1723) (a:=2) (t:=250) (f:=19) Lh (by decide +kernel) (by decide +kernel) (by decide +kernel) (by decide +kernel) (by decide +kernel) (by decide +kernel)
theorem Kb:br 569003:=xX (q:=419) (q':=97) (a:=2) (t:=1358) (t':=5866) (f:=20) LU KM (by decide +kernel) (by decide +kernel) (by decide +kernel) (by decide +kernel) (by decide +kernel) (by decide +kernel) (by decide +kernel) (by decide +kernel) (by decide +kernel)
theorem KP:br 8574133:=xX (q:=991) (q':=103) (a:=2) (t:=8652) (t':=83244) (f:=24) Lm Lv (by decide +kernel) (by decide +kernel) (by decide +kernel) (by decide +kernel) (by decide +kernel) (by decide +kernel) (by decide +kernel) (by decide +kernel) (by decide +kernel)
theorem HD:br 2773320623:=DS (q:=569003) (a:=2) (t:=4874) (f:=32) Kb (by decide +kernel) (by decide +kernel) (by decide +kernel) (by decide +kernel) (by decide +kernel) (by decide +kernel)
theorem JB:br 72106336199:=DS (q:=2773320623) (a:=2) (t:=26) (f:=37) HD (by decide +kernel) (by decide +kernel) (by decide +kernel) (by decide +kernel) (by decide +kernel) (by decide +kernel)
theorem Gr:br 1919519569386763:=xX (q:=8574133) (q':=127) (a:=2) (t:=223873314) (t':=15114327318006) (f:=51) KP KR (by decide +kernel) (by decide +kernel) (by decide +kernel) (by decide +kernel) (by decide +kernel) (by decide +kernel) (by decide +kernel) (by decide +kernel) (by decide +kernel)
theorem HZ:br 31757755568855353:=xX (q:=430751) (q':=4153) (a:=2) (t:=73726481352) (t':=7646943310584) (f:=55) MP Kv (by decide +kernel) (by decide +kernel) (by decide +kernel) (by decide +kernel) (by decide +kernel) (by decide +kernel) (by decide +kernel) (by decide +kernel) (by decide +kernel)
theorem Jr:br 75445702479781427272750846543864801:=xX (q:=1919519569386763) (q':=72106336199) (a:=2) (t:=39304471641247389600) (t':=1046311689884858398375200) (f:=116) Gr JB (by decide +kernel) (by decide +kernel) (by decide +kernel) (by decide +kernel) (by decide +kernel) (by decide +kernel) (by decide +kernel) (by decide +kernel) (by decide +kernel)
theorem Iy:br 74058212732561358302231226437062788676166966415465897661863160754340907:=xX (q:=75445702479781427272750846543864801) (q':=31757755568855353) (a:=2) (t:=981609426360740691344999861639072106) (t':=2331972502653487852620185443007392165117953542933313402) (f:=236) Jr HZ (by decide +kernel) (by decide +kernel) (by decide +kernel) (by decide +kernel) (by decide +kernel) (by decide +kernel) (by decide +kernel) (by decide +kernel) (by decide +kernel)
theorem Ip:br 57896044618658097711785492504343953926634992332820282019728792003956564819949:=DS (q:=74058212732561358302231226437062788676166966415465897661863160754340907) (a:=2) (t:=781764) (f:=255) Iy (by decide +kernel) (by decide +kernel) (by decide +kernel) (by decide +kernel) (by decide +kernel) (by decide +kernel)
def P:Nat:=57896044618658097711785492504343953926634992332820282019728792003956564819949
theorem prime_P:br P:=Ip
end Tabn
namespace Tabn
abbrev F:=Fin P
instance:NeZero P:=⟨by decide⟩
theorem NA:0<P:=by decide
theorem kD {a b:F} (h:a*b=0):a=0∨b=0:=by
 have h1:(a*b).val=0:=by rw [h];rfl
 rw [Fin.val_mul] at h1
 have h2:P ∣ a.val*b.val:=Nat.dvd_of_mod_eq_zero h1
 have small:∀ c:F,P ∣ c.val→c=0:=by
  intro c hc
  apply Fin.ext
  show c.val=0
  rcases Nat.eq_zero_or_pos c.val with h0|h0
  ·exact h0
  ·have:=Nat.le_of_dvd h0 hc
   have:=c.isLt
   omega
 rcases prime_P.dvd_mul h2 with h3|h3
 ·exact .inl (small _ h3)
 ·exact .inr (small _ h3)
theorem eC {a b:F} (ha:a≠0) (hb:b≠0):a*b≠0:=fun h=>by
 rcases kD h with h|h
 ·exact ha h
 ·exact hb h
theorem qa {a b c:F} (ha:a≠0) (h:a*b=a*c):b=c:=by
 have h1:a*(b-c)=0:=by grind -lia -linarith
 rcases kD h1 with h2|h2
 ·exact absurd h2 ha
 ·grind -lia -linarith
def eI:Nat:=57896044618658097711785492504343953926634992332820282019728792003956564819947
def Qa (e:Nat) (a:F):F:=⟨a.val ^ e % P,Nat.mod_lt _ NA⟩
def finv (a:F):F:=Qa eI a
theorem jl {a:F} (h:a≠0):a*finv a=1:=by
 apply Fin.ext
 rw [Fin.val_mul]
 show a.val*(a.val ^ eI % P) % P=1 % P
 have e:eI+1=P-1:=by decide
 rw [Nat.mul_mod_mod,Nat.mul_comm,← Nat.pow_succ]
 show a.val ^ (eI+1) % P=1 % P
 rw [e]
 apply fermat_one prime_P
 intro hd
 apply h
 apply Fin.ext
 show a.val=0
 rcases Nat.eq_zero_or_pos a.val with h0|h0
 ·exact h0
 ·have:=Nat.le_of_dvd h0 hd
  have:=a.isLt
  omega
theorem eI_lit:eI=57896044618658097711785492504343953926634992332820282019728792003956564819947:=rfl
attribute [irreducible] eI
theorem finv_val (a:F):(finv a).val=a.val ^ eI % P:=rfl
attribute [irreducible] finv
theorem fdiv {a b c:F} (hb:b≠0) (h:c=a*finv b):c*b=a:=by
 have:=jl hb
 grind -lia -linarith
theorem yI {a b c:F} (hb:b≠0) (h:c*b=a):c=a*finv b:=by
 have:=jl hb
 grind -lia -linarith
theorem Ow:(2:F)≠0:=by decide
theorem ST {a:F} (h:2*a=0):a=0:=by
 rcases kD h with h|h
 ·exact absurd h Ow
 ·exact h
structure Crv where
 a:F
 d:F
 r:F
 sq:r*r=a
 an:a≠0
 nsq:∀ s,s*s≠d
theorem Crv.rn (C:Crv):C.r≠0:=fun h=>C.an (by rw [← C.sq,h];grind -lia -linarith)
theorem Crv.dn (C:Crv):C.d≠0:=fun h=>C.nsq 0 (by rw [h];grind -lia -linarith)
def On (C:Crv) (x y:F):Prop:=C.a*x ^ 2+y ^ 2=1+C.d*x ^ 2*y ^ 2
theorem BF (C:Crv) {p q:F} (hq:q≠0) (h:p ^ 2=C.d*q ^ 2):False:=by
 have:=jl hq
 exact C.nsq (p*finv q) (by grind -lia -linarith)
theorem Crv.complete (C:Crv) {x1 y1 x2 y2:F} (h1:On C x1 y1) (h2:On C x2 y2) (e:F) (he:e*e=1):C.d*x1*x2*y1*y2≠e:=by
 intro h
 unfold On at h1 h2
 have hr:=C.sq
 have hne:e≠0:=by
  intro h0
  rw [h0] at he
  have:(0:F)=1:=by grind -lia -linarith
  exact absurd this (by decide)
 have hx1:x1≠0:=by intro h0;apply hne;rw [← h,h0];grind -lia -linarith
 have hy1:y1≠0:=by intro h0;apply hne;rw [← h,h0];grind -lia -linarith
 have hx2:x2≠0:=by intro h0;apply hne;rw [← h,h0];grind -lia -linarith
 have k1:(C.r*x1+e*y1) ^ 2=C.d*(x1*y1*(C.r*x2+y2)) ^ 2:=by grind -lia -linarith
 have k2:(C.r*x1-e*y1) ^ 2=C.d*(x1*y1*(C.r*x2-y2)) ^ 2:=by grind -lia -linarith
 by_cases g1:C.r*x2+y2=0
 ·by_cases g2:C.r*x2-y2=0
  ·have:2*(C.r*x2)=0:=by grind -lia -linarith
   rcases kD (ST this) with h3|h3
   ·exact C.rn h3
   ·exact hx2 h3
  ·exact BF C (eC (eC hx1 hy1) g2) k2
 ·exact BF C (eC (eC hx1 hy1) g1) k1
theorem Crv.dp (C:Crv) {x1 y1 x2 y2:F} (h1:On C x1 y1) (h2:On C x2 y2):1+C.d*x1*x2*y1*y2≠0:=fun h =>
 C.complete h1 h2 (-1) (by grind -lia -linarith) (by grind -lia -linarith)
theorem Crv.dm (C:Crv) {x1 y1 x2 y2:F} (h1:On C x1 y1) (h2:On C x2 y2):1-C.d*x1*x2*y1*y2≠0:=fun h =>
 C.complete h1 h2 1 (by grind -lia -linarith) (by grind -lia -linarith)
structure Pt (C:Crv) where
 x:F
 y:F
 on:On C x y
theorem Pt.eq {C:Crv} {p q:Pt C} (hx:p.x=q.x) (hy:p.y=q.y):p=q:=by
 cases p;cases q;simp only at hx hy;subst hx hy;rfl
def Fh (C:Crv) (x1 y1 x2 y2:F):F:=(x1*y2+x2*y1)*finv (1+C.d*x1*x2*y1*y2)
def FZ (C:Crv) (x1 y1 x2 y2:F):F:=(y1*y2-C.a*x1*x2)*finv (1-C.d*x1*x2*y1*y2)
theorem PK (a d x1 y1 x2 y2:F) (h1:a*x1^2+y1^2=1+d*x1^2*y1^2) (h2:a*x2^2+y2^2=1+d*x2^2*y2^2) :
 a*(x1*y2+x2*y1)^2*(1-d*x1*x2*y1*y2)^2+(y1*y2-a*x1*x2)^2*(1+d*x1*x2*y1*y2)^2=(1+d*x1*x2*y1*y2)^2*(1-d*x1*x2*y1*y2)^2+d*(x1*y2+x2*y1)^2*(y1*y2-a*x1*x2)^2:=by
 grind -lia -linarith
theorem Oz (C:Crv) {x1 y1 x2 y2:F} (h1:On C x1 y1) (h2:On C x2 y2):On C (Fh C x1 y1 x2 y2) (FZ C x1 y1 x2 y2):=by
 have p:=jl (C.dp h1 h2)
 have m:=jl (C.dm h1 h2)
 have k:=PK C.a C.d x1 y1 x2 y2 h1 h2
 unfold On Fh FZ
 generalize finv (1+C.d*x1*x2*y1*y2)=u at *
 generalize finv (1-C.d*x1*x2*y1*y2)=v at *
 generalize 1+C.d*x1*x2*y1*y2=s at *
 generalize 1-C.d*x1*x2*y1*y2=t at *
 generalize x1*y2+x2*y1=X at *
 generalize y1*y2-C.a*x1*x2=Y at *
 have hs:s ^ 2*u ^ 2=1:=by grind -lia -linarith
 have ht:t ^ 2*v ^ 2=1:=by grind -lia -linarith
 grind -lia -linarith
def Pt.add {C:Crv} (p q:Pt C):Pt C:=⟨Fh C p.x p.y q.x q.y,FZ C p.x p.y q.x q.y,Oz C p.on q.on⟩
def Pt.zero (C:Crv):Pt C:=⟨0,1,by unfold On;grind -lia -linarith⟩
def Pt.neg {C:Crv} (p:Pt C):Pt C:=⟨-p.x,p.y,by have:=p.on;unfold On at *;grind -lia -linarith⟩
theorem Pt.add_comm {C:Crv} (p q:Pt C):p.add q=q.add p:=by
 apply Pt.eq
 ·show Fh C _ _ _ _=Fh C _ _ _ _
  unfold Fh
  have e:1+C.d*p.x*q.x*p.y*q.y=1+C.d*q.x*p.x*q.y*p.y:=by grind -lia -linarith
  rw [e];grind -lia -linarith
 ·show FZ C _ _ _ _=FZ C _ _ _ _
  unfold FZ
  have e:1-C.d*p.x*q.x*p.y*q.y=1-C.d*q.x*p.x*q.y*p.y:=by grind -lia -linarith
  rw [e];grind -lia -linarith
theorem uF {C:Crv} (p q:Pt C):(p.add q).x*(1+C.d*p.x*q.x*p.y*q.y)=p.x*q.y+q.x*p.y:=fdiv (C.dp p.on q.on) rfl
theorem vB {C:Crv} (p q:Pt C):(p.add q).y*(1-C.d*p.x*q.x*p.y*q.y)=p.y*q.y-C.a*p.x*q.x:=fdiv (C.dm p.on q.on) rfl
theorem Gy {C:Crv} {p q s:Pt C} (hx:s.x*(1+C.d*p.x*q.x*p.y*q.y)=p.x*q.y+q.x*p.y) (hy:s.y*(1-C.d*p.x*q.x*p.y*q.y)=p.y*q.y-C.a*p.x*q.x):p.add q=s:=by
 apply Pt.eq
 ·apply qa (C.dp p.on q.on)
  have:=uF p q
  grind -lia -linarith
 ·apply qa (C.dm p.on q.on)
  have:=vB p q
  grind -lia -linarith
theorem Pt.zero_add {C:Crv} (p:Pt C):(Pt.zero C).add p=p:=by
 apply Gy
 ·show p.x*(1+C.d*0*p.x*1*p.y)=0*p.y+p.x*1;grind -lia -linarith
 ·show p.y*(1-C.d*0*p.x*1*p.y)=1*p.y-C.a*0*p.x;grind -lia -linarith
theorem Pt.neg_add {C:Crv} (p:Pt C):p.neg.add p=Pt.zero C:=by
 have:=p.on
 unfold On at this
 apply Gy
 ·show 0*(1+C.d*(-p.x)*p.x*p.y*p.y)=(-p.x)*p.y+p.x*p.y;grind -lia -linarith
 ·show 1*(1-C.d*(-p.x)*p.x*p.y*p.y)=p.y*p.y-C.a*(-p.x)*p.x;grind -lia -linarith
theorem Lb (a d x1 y1 x2 y2 x3 y3:F) (h1:a*x1^2+y1^2=1+d*x1^2*y1^2) (h2:a*x2^2+y2^2=1+d*x2^2*y2^2) (h3:a*x3^2+y3^2=1+d*x3^2*y3^2) :
 ((x1*y2+x2*y1)*y3*(1-d*x1*x2*y1*y2)+x3*(y1*y2-a*x1*x2)*(1+d*x1*x2*y1*y2))*(1-(d*x2*x3*y2*y3)^2+d*(x2*y3+x3*y2)*(y2*y3-a*x2*x3)*x1*y1)
 =(x1*(y2*y3-a*x2*x3)*(1+d*x2*x3*y2*y3)+(x2*y3+x3*y2)*y1*(1-d*x2*x3*y2*y3))*(1-(d*x1*x2*y1*y2)^2+d*(x1*y2+x2*y1)*(y1*y2-a*x1*x2)*x3*y3):=by
 grind -lia -linarith
theorem LG (a d x1 y1 x2 y2 x3 y3:F) (h1:a*x1^2+y1^2=1+d*x1^2*y1^2) (h2:a*x2^2+y2^2=1+d*x2^2*y2^2) (h3:a*x3^2+y3^2=1+d*x3^2*y3^2) :
 ((y1*y2-a*x1*x2)*y3*(1+d*x1*x2*y1*y2)-a*(x1*y2+x2*y1)*x3*(1-d*x1*x2*y1*y2))*(1-(d*x2*x3*y2*y3)^2-d*(x2*y3+x3*y2)*(y2*y3-a*x2*x3)*x1*y1)
 =(y1*(y2*y3-a*x2*x3)*(1+d*x2*x3*y2*y3)-a*x1*(x2*y3+x3*y2)*(1-d*x2*x3*y2*y3))*(1-(d*x1*x2*y1*y2)^2-d*(x1*y2+x2*y1)*(y1*y2-a*x1*x2)*x3*y3):=by
 grind -lia -linarith
theorem Jq (D d u X v Y x y l e:F) (hu:u*(1+D)=X) (hv:v*(1-D)=Y) (hl:l*(1+d*u*x*v*y)=u*y+x*v) :
  l*(1-D ^ 2+d*X*Y*x*y)=X*y*(1-D)+x*Y*(1+D):=by
 subst hu hv
 grind -lia -linarith
theorem Da (D a d u X v Y x y l e:F) (hu:u*(1+D)=X) (hv:v*(1-D)=Y) (hl:l*(1-d*u*x*v*y)=v*y-a*u*x) :
  l*(1-D ^ 2-d*X*Y*x*y)=Y*y*(1+D)-a*X*x*(1-D):=by
 subst hu hv
 grind -lia -linarith
theorem wU {D d u X v Y x y:F} (hu:u*(1+D)=X) (hv:v*(1-D)=Y) (n1:1+D≠0) (n2:1-D≠0) (n3:1+d*u*x*v*y≠0):1-D ^ 2+d*X*Y*x*y≠0:=by
 have e:1-D ^ 2+d*X*Y*x*y=(1+D)*(1-D)*(1+d*u*x*v*y):=by
  subst hu hv
  grind -lia -linarith
 rw [e];exact eC (eC n1 n2) n3
theorem tn {D d u X v Y x y:F} (hu:u*(1+D)=X) (hv:v*(1-D)=Y) (n1:1+D≠0) (n2:1-D≠0) (n3:1-d*u*x*v*y≠0):1-D ^ 2-d*X*Y*x*y≠0:=by
 have e:1-D ^ 2-d*X*Y*x*y=(1+D)*(1-D)*(1-d*u*x*v*y):=by
  subst hu hv
  grind -lia -linarith
 rw [e];exact eC (eC n1 n2) n3
theorem Dq {l r nl dl nr dr:F} (h1:l*dl=nl) (h2:r*dr=nr) (h3:nl*dr=nr*dl) (n1:dl≠0) (n2:dr≠0):l=r:=by
 apply qa (eC n1 n2)
 subst h1 h2
 grind -lia -linarith
theorem Pt.add_assoc {C:Crv} (p q s:Pt C):(p.add q).add s=p.add (q.add s):=by
 have ax:=Lb C.a C.d p.x p.y q.x q.y s.x s.y p.on q.on s.on
 have ay:=LG C.a C.d p.x p.y q.x q.y s.x s.y p.on q.on s.on
 have ux:=uF p q
 have uy:=vB p q
 have vx:=uF q s
 have vy:=vB q s
 have n1:=C.dp p.on q.on
 have n2:=C.dm p.on q.on
 have n3:=C.dp q.on s.on
 have n4:=C.dm q.on s.on
 apply Pt.eq
 ·have lx:=Jq _ C.d _ _ _ _ s.x s.y _ 0 ux uy (uF (p.add q) s)
  have rx:=Jq _ C.d _ _ _ _ p.x p.y ((q.add s).add p).x 0 vx vy (uF (q.add s) p)
  have m1:=wU (d:=C.d) (x:=s.x) (y:=s.y) ux uy n1 n2 (C.dp (p.add q).on s.on)
  have m2:=wU (d:=C.d) (x:=p.x) (y:=p.y) vx vy n3 n4 (C.dp (q.add s).on p.on)
  rw [Pt.add_comm p (q.add s)]
  exact Dq lx rx (by clear lx rx m1 m2 ux uy vx vy n1 n2 n3 n4 ay;grind -lia -linarith) m1 m2
 ·have lx:=Da _ C.a C.d _ _ _ _ s.x s.y _ 0 ux uy (vB (p.add q) s)
  have rx:=Da _ C.a C.d _ _ _ _ p.x p.y ((q.add s).add p).y 0 vx vy (vB (q.add s) p)
  have m1:=tn (d:=C.d) (x:=s.x) (y:=s.y) ux uy n1 n2 (C.dm (p.add q).on s.on)
  have m2:=tn (d:=C.d) (x:=p.x) (y:=p.y) vx vy n3 n4 (C.dm (q.add s).on p.on)
  rw [Pt.add_comm p (q.add s)]
  exact Dq lx rx (by clear lx rx m1 m2 ux uy vx vy n1 n2 n3 n4 ax;grind -lia -linarith) m1 m2
def Pt.mul {C:Crv}:Nat→Pt C→Pt C
 |0,_=>Pt.zero C
 |n+1,p=>(Pt.mul n p).add p
theorem Pt.add_zero {C:Crv} (p:Pt C):p.add (Pt.zero C)=p:=by rw [Pt.add_comm,Pt.zero_add]
theorem Pt.mul_one {C:Crv} (p:Pt C):Pt.mul 1 p=p:=Pt.zero_add p
theorem Pt.add_mul {C:Crv} (m n:Nat) (p:Pt C):Pt.mul (m+n) p=(Pt.mul m p).add (Pt.mul n p):=by
 induction n with
 |zero=>show Pt.mul m p=(Pt.mul m p).add (Pt.zero C);rw [Pt.add_zero]
 |succ n ih=>show (Pt.mul (m+n) p).add p=(Pt.mul m p).add ((Pt.mul n p).add p);rw [ih,Pt.add_assoc]
theorem Pt.mul_mul {C:Crv} (m n:Nat) (p:Pt C):Pt.mul (m*n) p=Pt.mul m (Pt.mul n p):=by
 induction m with
 |zero=>rw [Nat.zero_mul];rfl
 |succ m ih=>rw [Nat.succ_mul,Pt.add_mul,ih];rfl
theorem Pt.mul_zero {C:Crv} (m:Nat):Pt.mul m (Pt.zero C)=Pt.zero C:=by
 induction m with
 |zero=>rfl
 |succ m ih=>show (Pt.mul m (Pt.zero C)).add _=_;rw [ih,Pt.zero_add]
end Tabn
end
