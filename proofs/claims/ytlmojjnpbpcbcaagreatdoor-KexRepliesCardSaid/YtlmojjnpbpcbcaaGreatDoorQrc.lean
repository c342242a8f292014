/- A part of a proof (pack3): the small machine that walks the program, the walks of its functions, and what they compute in plain. -/
import Derived.Test.YtlmojjnpbpcbcaaGreatDoorQrb
import Derived.Test.YtlmojjnpbpcbcaaGreatDoorChecked
set_option maxHeartbeats 2000000
set_option maxRecDepth 4000
set_option linter.unusedVariables false
set_option linter.unusedSimpArgs false
noncomputable section
namespace Go.Vm
open Go Go.Proofs
def bK (k0:Nat) (z0:Nat × List Int):Nat × List Int :=
 (z0.1+1,z0.2++[0])
def kQ (p0:List Int) (k1:Nat) (z1:List Int):List Int :=
 z1.set (((aZ .i64 (((((itr (bK) ((119-p0.length % 64) % 64) (p0.length+1,p0++[128])).1)+8:Nat):Int)-1-((0:Nat):Int)) ((k1:Nat):Int))).toNat) (IntKind.wrap .u8 (aH .u64 (bE .u64 (IntKind.wrap .u64 ((p0.length:Nat):Int)) 8) ((8*k1:Nat):Int)))
def jX (k2:Nat) (z2:List Int):List Int :=
 z2.set k2 (aH .u64 (z2.getD k2 0) 32)
def gV (p0:List Int) (k3:Nat) (k4:Nat) (z4:List Int):List Int :=
 z4.set ((8*k4)/32) (aE .u64 (bE .u64 (z4.getD ((8*k4)/32) 0) 256) (IntKind.wrap .u64 ((itr (kQ p0) 8 (((itr (bK) ((119-p0.length % 64) % 64) (p0.length+1,p0++[128])).2)++(List.replicate 8 0))).getD ((64*k3)+k4) 0)))
def jN (k5:Nat) (z5:List Int):List Int :=
 z5.set (k5+16) (aG .u64 (aE .u64 (aE .u64 (aE .u64 (z5.getD ((k5+16)-16) 0) (z5.getD ((k5+16)-7) 0)) (ca (z5.getD ((k5+16)-15) 0) [7,18,3] true)) (ca (z5.getD ((k5+16)-2) 0) [17,19,10] true)) 4294967295)
def kO (p0:List Int) (k3:Nat) (k6:Nat) (z6:List Int):List Int :=
 [(aG .u64 (aE .u64 (aG .u64 (aE .u64 (aE .u64 (aE .u64 (aE .u64 (z6.getD 7 0) (ca (z6.getD 4 0) [6,11,25] false)) (iOr .u64 (aG .u64 (z6.getD 4 0) (z6.getD 5 0)) (aG .u64 (aS .u64 4294967295 (z6.getD 4 0)) (z6.getD 6 0)))) (aH .u64 ((rS).getD k6 0) 32)) ((itr (jN) 48 (itr (gV p0 k3) 64 [0,0,0,0,0,0,0,0,0,0,0,0,0,0,0,0,0,0,0,0,0,0,0,0,0,0,0,0,0,0,0,0,0,0,0,0,0,0,0,0,0,0,0,0,0,0,0,0,0,0,0,0,0,0,0,0,0,0,0,0,0,0,0,0,0,0,0,0,0,0,0,0,0,0,0,0,0,0,0,0])).getD k6 0)) 4294967295) (aE .u64 (ca (z6.getD 0 0) [2,13,22] false) (iOr .u64 (iOr .u64 (aG .u64 (z6.getD 0 0) (z6.getD 1 0)) (aG .u64 (z6.getD 1 0) (z6.getD 2 0))) (aG .u64 (z6.getD 0 0) (z6.getD 2 0))))) 4294967295),z6.getD 0 0,z6.getD 1 0,z6.getD 2 0,(aG .u64 (aE .u64 (z6.getD 3 0) (aG .u64 (aE .u64 (aE .u64 (aE .u64 (aE .u64 (z6.getD 7 0) (ca (z6.getD 4 0) [6,11,25] false)) (iOr .u64 (aG .u64 (z6.getD 4 0) (z6.getD 5 0)) (aG .u64 (aS .u64 4294967295 (z6.getD 4 0)) (z6.getD 6 0)))) (aH .u64 ((rS).getD k6 0) 32)) ((itr (jN) 48 (itr (gV p0 k3) 64 [0,0,0,0,0,0,0,0,0,0,0,0,0,0,0,0,0,0,0,0,0,0,0,0,0,0,0,0,0,0,0,0,0,0,0,0,0,0,0,0,0,0,0,0,0,0,0,0,0,0,0,0,0,0,0,0,0,0,0,0,0,0,0,0,0,0,0,0,0,0,0,0,0,0,0,0,0,0,0,0])).getD k6 0)) 4294967295)) 4294967295),z6.getD 4 0,z6.getD 5 0,z6.getD 6 0]
def mM (p0:List Int) (k3:Nat) (z3:List Int) (k7:Nat) (z7:List Int):List Int :=
 z7.set k7 (aG .u64 (aE .u64 (z7.getD k7 0) ((itr (kO p0 k3) 64 z3).getD k7 0)) 4294967295)
def kI (p0:List Int) (k3:Nat) (z3:List Int):List Int :=
 (itr (mM p0 k3 z3) 8 z3)
def dZ (p0:List Int) (k8:Nat) (z8:Nat × List Int):Nat × List Int :=
 (z8.1+1,z8.2++([(IntKind.wrap .u8 (aH .u64 ((itr (kI p0) ((((itr (bK) ((119-p0.length % 64) % 64) (p0.length+1,p0++[128])).1)+8)/64) (itr (jX) 8 [7640891576956012808,13503953896175478587,4354685564936845355,11912009170470909681,5840696475078001361,11170449401992604703,2270897969802886507,6620516959819538809])).getD ((8*k8)/32) 0) ((24-((8*k8) % 32):Nat):Int)))]))
def is (p0:List Int):List Int :=
 (itr (dZ p0) 32 (0,([]:List Int))).2
theorem EJ (p0:List Int):(itr (dZ p0) 32 (0,[])).1=32:=by
 have h0:∀ (k:Nat) (z:Nat × List Int),(itr (dZ p0) k z).1=z.1+k:=by
  intro k z
  induction k with
  |zero=>rw [aX];rfl
  |succ k ih=>rw [aQ];show (itr (dZ p0) k z).1+1=_;rw [ih];omega
 rw [h0]
def DM:List AV→List Blk→Option (Prop × Ret)
 |[.sc (.ro .u8 p0),.sc (.i .i64 p1)],[]=>some ((((32:Int)=p1)∧(p0.length≤100000000)),⟨.sc (.sl 0 0 32 1 none),[some (.ints .u8 32 (is p0))]⟩)
 |_,_=>none
theorem DQ:Known Tryz.prog gD 52 ⟨0,1,DM⟩:=by
 refine Xw Tryz.f52 292 (Zv QZ 800 0 <|Zv Ra 848 0 <|Zv tR 1440 4 <|Zv tR 1584 4 <|Zv tR 1616 4 <|Zv tR 1984 4 <|Zn) mixed <|fun E args ks C r h hC hlen=>?_
 simp only at h
 unfold DM at h
 split at h
 rotate_left
 cases h
 rename_i p0 p1
 cases h
 simp only [am] at hlen
 obtain ⟨hEp1,hC⟩:=hC
 subst hEp1
 refine ⟨rfl,?_⟩
 refine Xs [] [] 32 (v1 pT) <|Xs [Ek 6 .u64 18446744073709551615,Ei 5 80] [] 64 (v2 pT) <|Xt [Ep 7 144] [] [Mk 144 .i64 12 [1,8,7,19,61,6,14,18,41,28,34,39]] [] 176 (pu (Yb 3) (pu (Yb 3) (pu (Yb 3) (pu (Yb 3) (pu (pa (pa (Ye (0+3) 12) (Yr 3)) (pa (pa (Ye (3+3) 12) (Yr 3)) (pa (pa (Ye (6+3) 12) (Yr 3)) (pa (pa (Ye (9+3) 12) (Yr 3)) pT)))) (v1 (pu (Yz 12) pT))))))) <|Tri.seq <|Xs [Eb 33 true] [] 208 (v2 pT) <|Tri.cond_true (by kernel_rfl) <|Xs [Ei 5 64] [33,6,5] 224 (v1 pT) <|Xs [Ek 6 .u64 4294967295] [] 240 (v1 pT) <|Wt [] [] [Mk 144 .i64 12 [7,18,3,17,19,10,6,11,25,2,13,22]] [144] 336 (pu (Yb 3) (pu (Yb 3) (pu (Yb 3) (pu (Yb 3) (pu (pa (pa (Ye (0+3) 12) (Yr 3)) (pa (pa (Ye (3+3) 12) (Yr 3)) (pa (pa (Ye (6+3) 12) (Yr 3)) (pa (pa (Ye (9+3) 12) (Yr 3)) pT)))) (pu (Yz 12) pT)))))) <|Xs [Ei 8 64] [] 384 (v3 pT) <|Xt [El 9 432 (p0.length+1)] [] [Mi 432 (p0.length+1) (p0++[128])] [] 464 (v1 (pu (YN pT 1 p0.length p0.length p0.length) (pu (Yf 1) (pu (Ya (Yw 1) 1 (p0.length+1) 1 1 p0.length p0.length) (v1 pT))))) <|Tri.seq <|Tri.block <|Xc ((119-p0.length % 64) % 64) (bK) (p0.length+1,p0++[128]) (fun k0 z0=>z0.1=(p0.length+1)+1*k0) (fun k0 z0=>[El 9 432 z0.1]) (fun k0 z0=>[Mi 432 z0.1 z0.2]) (by simp) <|fun k0 z0 hk0 hz0 hJ0=>?_
 refine Tri.seq <|Xu [Ej 49 (z0.1+8),Ej 51 ((z0.1+8) % 64)] none [Eb 52 (((((z0.1+8) % 64:Nat):Int):Int) != 0)] [] [] [] 592 (v3 (pu (Yn 4) (pv pT (Yp z0.1 8) (v1 (pv (Yn 64) (pl (dQ (a:=z0.1+8) (b:=64))) (v1 pT)))))) <|Xa (fun h1=>?_) (fun h1=>?_)
 have h1':=bO h1
 refine Tri.skip <|Tri.block <|Wt [El 9 624 (z0.1+1)] [52,9] [Mi 624 (z0.1+1) (z0.2++[0])] [432] 656 (v1 (pu (Yf 1) (pu (Ya (Yw 1) 1 (z0.1+1) 1 1 z0.1 z0.1) (v1 pT)))) <|?_
 repeat (refine jf ?_)
 exact iJ (by have h9:=bO h1;omega) (show z0.1+1=(p0.length+1)+1*(k0+1) by omega) <|Xn [(432,624)]
 have h1':=ak h1
 refine Tri.exit <|?_
 have hend0:k0=((119-p0.length % 64) % 64):=by (have h9:=ak h1;omega)
 subst hend0;subst hz0
 refine Xt [El 9 640 (((itr (bK) ((119-p0.length % 64) % 64) (p0.length+1,p0++[128])).1)+8)] [52,9] [Mi 640 (((itr (bK) ((119-p0.length % 64) % 64) (p0.length+1,p0++[128])).1)+8) (((itr (bK) ((119-p0.length % 64) % 64) (p0.length+1,p0++[128])).2)++(List.replicate 8 0))] [432] 672 (v2 (pu (Yn 4) (pu (Ya (pa (pa (Y0 8) (lo (8≤(140737488355328:Int)))) (lo (((1:Nat):Int)*8≤281474976710656))) 1 (((itr (bK) ((119-p0.length % 64) % 64) (p0.length+1,p0++[128])).1)+8) 8 8 ((itr (bK) ((119-p0.length % 64) % 64) (p0.length+1,p0++[128])).1) ((itr (bK) ((119-p0.length % 64) % 64) (p0.length+1,p0++[128])).1)) (v1 pT)))) <|Xs [Ek 10 .u64 (bE .u64 (IntKind.wrap .u64 ((p0.length:Nat):Int)) 8)] [0] 752 (v5 pT) <|Tri.seq <|Xs [Ei 11 0] [] 768 (v1 pT) <|Tri.block <|Xc 8 (kQ p0) (((itr (bK) ((119-p0.length % 64) % 64) (p0.length+1,p0++[128])).2)++(List.replicate 8 0)) (fun k1 z1=>True) (fun k1 z1=>[Ej 11 k1]) (fun k1 z1=>[Mi 640 (((itr (bK) ((119-p0.length % 64) % 64) (p0.length+1,p0++[128])).1)+8) z1]) trivial <|fun k1 z1 hk1 hz1 hJ1=>Tri.seq <|Xs [Eb 65 (decide ((((k1:Nat):Int):Int)<8))] [] 800 (v2 pT) <|Xb (fun h2 h2'=>?_) (fun h2 h2'=>?_)
 exact Tri.skip <|Tri.seq <|Tri.block <|Wu [Ei 71 (((((itr (bK) ((119-p0.length % 64) % 64) (p0.length+1,p0++[128])).1)+8:Nat):Int)-1-((0:Nat):Int)),Ej 76 (8*k1)] none [] [65] [Mi 640 (((itr (bK) ((119-p0.length % 64) % 64) (p0.length+1,p0++[128])).1)+8) (z1.set (((aZ .i64 (((((itr (bK) ((119-p0.length % 64) % 64) (p0.length+1,p0++[128])).1)+8:Nat):Int)-1-((0:Nat):Int)) ((k1:Nat):Int))).toNat) (IntKind.wrap .u8 (aH .u64 (bE .u64 (IntKind.wrap .u64 ((p0.length:Nat):Int)) 8) ((8*k1:Nat):Int))))] [640] 1008 (v3 (pv pT (pl (show (aZ .i64 ((((itr (bK) ((119-p0.length % 64) % 64) (p0.length+1,p0++[128])).1)+8:Nat):Int) 1)=(((((itr (bK) ((119-p0.length % 64) % 64) (p0.length+1,p0++[128])).1)+8:Nat):Int)-1-((0:Nat):Int)) from mF (by omega))) (v4 (pv pT (Yt 8 k1) (pu (Y0 ((8*k1:Nat):Int)) (v1 (pu (li ((0:Int)≤(aZ .i64 (((((itr (bK) ((119-p0.length % 64) % 64) (p0.length+1,p0++[128])).1)+8:Nat):Int)-1-((0:Nat):Int)) ((k1:Nat):Int))∧(aZ .i64 (((((itr (bK) ((119-p0.length % 64) % 64) (p0.length+1,p0++[128])).1)+8:Nat):Int)-1-((0:Nat):Int)) ((k1:Nat):Int))<((((itr (bK) ((119-p0.length % 64) % 64) (p0.length+1,p0++[128])).1)+8:Nat):Int))) (pu (pa (li (((aZ .i64 (((((itr (bK) ((119-p0.length % 64) % 64) (p0.length+1,p0++[128])).1)+8:Nat):Int)-1-((0:Nat):Int)) ((k1:Nat):Int))).toNat<((itr (bK) ((119-p0.length % 64) % 64) (p0.length+1,p0++[128])).1)+8)) (Yr 1)) pT)))))))) <|Wu [Ej 67 (k1+1)] none [Ej 11 (k1+1)] [11] [] [] 1056 (v1 (pv pT (Yp k1 1) (v1 pT))) <|Xo [] trivial
 refine Tri.exit <|?_
 obtain rfl:k1=8:=(by omega);subst hz1
 refine Xt [Ep 12 816] [65,11,10] [Mk 816 .u64 8 [7640891576956012808,13503953896175478587,4354685564936845355,11912009170470909681,5840696475078001361,11170449401992604703,2270897969802886507,6620516959819538809]] [] 848 (pu pz (v1 (pu (Yz 8) pT))) <|Xt [Ep 13 864] [] [Mk 864 .u64 80 (rS)] [] 896 (pu pz (v1 (pu (Yz 80) pT))) <|Tri.seq <|Xs [Ei 14 0] [] 912 (v1 pT) <|Tri.block <|Xc 8 (jX) [7640891576956012808,13503953896175478587,4354685564936845355,11912009170470909681,5840696475078001361,11170449401992604703,2270897969802886507,6620516959819538809] (fun k2 z2=>True) (fun k2 z2=>[Ej 14 k2]) (fun k2 z2=>[Mk 816 .u64 8 z2]) trivial <|fun k2 z2 hk2 hz2 hJ2=>Tri.seq <|Xs [Eb 83 (decide ((((k2:Nat):Int):Int)<8))] [] 944 (v2 pT) <|Xb (fun h3 h3'=>?_) (fun h3 h3'=>?_)
 exact Tri.skip <|Tri.seq <|Tri.block <|Wt [] [83] [Mk 816 .u64 8 (z2.set k2 (aH .u64 (z2.getD k2 0) 32))] [816] 1088 (v2 (pu (Yj k2 8) (pu (Yl k2 8) (v2 (pu (Y0 32) (pu (Yj k2 8) (pu (Ys k2 8) pT))))))) <|Wu [Ej 85 (k2+1)] none [Ej 14 (k2+1)] [14] [] [] 1136 (v1 (pv pT (Yp k2 1) (v1 pT))) <|Xo [] trivial
 refine Tri.exit <|?_
 obtain rfl:k2=8:=(by omega);subst hz2
 refine Tri.seq <|Xs [Ei 15 0] [83,14] 960 (v1 pT) <|Tri.block <|Xc ((((itr (bK) ((119-p0.length % 64) % 64) (p0.length+1,p0++[128])).1)+8)/64) (kI p0) (itr (jX) 8 [7640891576956012808,13503953896175478587,4354685564936845355,11912009170470909681,5840696475078001361,11170449401992604703,2270897969802886507,6620516959819538809]) (fun k3 z3=>True) (fun k3 z3=>[Ej 15 (64*k3)]) (fun k3 z3=>[Mk 816 .u64 8 z3]) trivial <|fun k3 z3 hk3 hz3 hJ3=>Tri.seq <|Xs [Eb 97 (decide ((((64*k3:Nat):Int):Int)<((((itr (bK) ((119-p0.length % 64) % 64) (p0.length+1,p0++[128])).1)+8:Nat):Int)))] [] 1024 (v4 pT) <|Xb (fun h4 h4'=>?_) (fun h4 h4'=>?_)
 refine Tri.skip <|Tri.seq <|Tri.block <|Xt [Ep 16 1024] [97] [Mk 1024 .u64 80 [0,0,0,0,0,0,0,0,0,0,0,0,0,0,0,0,0,0,0,0,0,0,0,0,0,0,0,0,0,0,0,0,0,0,0,0,0,0,0,0,0,0,0,0,0,0,0,0,0,0,0,0,0,0,0,0,0,0,0,0,0,0,0,0,0,0,0,0,0,0,0,0,0,0,0,0,0,0,0,0]] [] 1040 (v1 pT) <|Tri.seq <|Xs [Ei 17 0] [] 1056 (v1 pT) <|Tri.block <|Xc 64 (gV p0 k3) [0,0,0,0,0,0,0,0,0,0,0,0,0,0,0,0,0,0,0,0,0,0,0,0,0,0,0,0,0,0,0,0,0,0,0,0,0,0,0,0,0,0,0,0,0,0,0,0,0,0,0,0,0,0,0,0,0,0,0,0,0,0,0,0,0,0,0,0,0,0,0,0,0,0,0,0,0,0,0,0] (fun k4 z4=>True) (fun k4 z4=>[Ej 17 k4]) (fun k4 z4=>[Mk 1024 .u64 80 z4]) trivial <|fun k4 z4 hk4 hz4 hJ4=>Tri.seq <|Xs [Eb 103 (decide ((((k4:Nat):Int):Int)<64))] [] 1104 (v3 pT) <|Xb (fun h5 h5'=>?_) (fun h5 h5'=>?_)
 exact Tri.skip <|Tri.seq <|Tri.block <|Wu [Ej 107 (8*k4),Ej 109 ((8*k4)/32),Ej 111 (8*k4),Ej 113 ((8*k4)/32),Ej 120 ((64*k3)+k4)] (some [0,1,0,7,0,16,0,112,240,496,1008,0,0,0,12288,30720,63488,129024,262128,524287,1048575]) [] [103] [Mk 1024 .u64 80 (z4.set ((8*k4)/32) (aE .u64 (bE .u64 (z4.getD ((8*k4)/32) 0) 256) (IntKind.wrap .u64 ((itr (kQ p0) 8 (((itr (bK) ((119-p0.length % 64) % 64) (p0.length+1,p0++[128])).2)++(List.replicate 8 0))).getD ((64*k3)+k4) 0))))] [1024] 1440 (v1 (pv pT (Yt 8 k4) (v1 (pv (Yn 32) (pl (cZ (a:=8*k4) (b:=32) (by omega))) (v1 (pv pT (Yt 8 k4) (v1 (pv (Yn 32) (pl (cZ (a:=8*k4) (b:=32) (by omega))) (pu (Yj ((8*k4)/32) 80) (pu (Yl ((8*k4)/32) 80) (v4 (pv pT (Yp (64*k3) k4) (pu (Yj ((64*k3)+k4) (((itr (bK) ((119-p0.length % 64) % 64) (p0.length+1,p0++[128])).1)+8)) (pu (Yl ((64*k3)+k4) (((itr (bK) ((119-p0.length % 64) % 64) (p0.length+1,p0++[128])).1)+8)) (v2 (pu (Yj ((8*k4)/32) 80) (pu (Ys ((8*k4)/32) 80) pT))))))))))))))))) <|Wu [Ej 105 (k4+1)] none [Ej 17 (k4+1)] [17] [] [] 1488 (v1 (pv pT (Yp k4 1) (v1 pT))) <|Xo [] trivial
 refine Tri.exit <|?_
 obtain rfl:k4=64:=(by omega);subst hz4
 refine Tri.seq <|Xs [Ei 18 16] [103,17] 1120 (v1 pT) <|Tri.block <|Xc 48 (jN) (itr (gV p0 k3) 64 [0,0,0,0,0,0,0,0,0,0,0,0,0,0,0,0,0,0,0,0,0,0,0,0,0,0,0,0,0,0,0,0,0,0,0,0,0,0,0,0,0,0,0,0,0,0,0,0,0,0,0,0,0,0,0,0,0,0,0,0,0,0,0,0,0,0,0,0,0,0,0,0,0,0,0,0,0,0,0,0]) (fun k5 z5=>True) (fun k5 z5=>[Ej 18 (k5+16)]) (fun k5 z5=>[Mk 1024 .u64 80 z5]) trivial <|fun k5 z5 hk5 hz5 hJ5=>Tri.seq <|Xs [Eb 128 (decide ((((k5+16:Nat):Int):Int)<64))] [] 1168 (v3 pT) <|Xb (fun h6 h6'=>?_) (fun h6 h6'=>?_)
 refine Tri.skip <|Tri.seq <|Tri.block <|Wu [Ej 133 ((k5+16)-16),Ej 137 ((k5+16)-7),Ej 142 ((k5+16)-15),Ej 151 ((k5+16)-2)] (some [0,0,2,6,14,0,32,96,224,510,0,1024,3072,7168,0,16384,0,130048,262142,0,524288,1572864,3670016,0,8388608,0,66845696,134217726,0,536870910,1073741823,2147483647]) [] [128] [Mk 1024 .u64 80 (z5.set (k5+16) (aG .u64 (aE .u64 (aE .u64 (aE .u64 (z5.getD ((k5+16)-16) 0) (z5.getD ((k5+16)-7) 0)) (ca (z5.getD ((k5+16)-15) 0) [7,18,3] true)) (ca (z5.getD ((k5+16)-2) 0) [17,19,10] true)) 4294967295))] [1024] 1680 (v2 (pv pT (pl (cu (a:=k5+16) (b:=16) (by omega) (by omega))) (pu (Yj ((k5+16)-16) 80) (pu (Yl ((k5+16)-16) 80) (v1 (pv pT (pl (cu (a:=k5+16) (b:=7) (by omega) (by omega))) (pu (Yj ((k5+16)-7) 80) (pu (Yl ((k5+16)-7) 80) (v2 (pv pT (pl (cu (a:=k5+16) (b:=15) (by omega) (by omega))) (pu (Yj ((k5+16)-15) 80) (pu (Yl ((k5+16)-15) 80) (pu (Yi 0 4) (pu (Ye (0+3) 12) (v1 (pu (pa pT (pa (Yr (32:Int)) (pl (show jE 32 [7,18,3] from by unfold jE;decide)))) (v2 (pv pT (pl (cu (a:=k5+16) (b:=2) (by omega) (by omega))) (pu (Yj ((k5+16)-2) 80) (pu (Yl ((k5+16)-2) 80) (pu (Yi 1 4) (pu (Ye (3+3) 12) (v1 (pu (pa pT (pa (Yr (32:Int)) (pl (show jE 32 [17,19,10] from by unfold jE;decide)))) (v3 (pu (Yj (k5+16) 80) (pu (Ys (k5+16) 80) pT))))))))))))))))))))))))))) ?_
 exact Wu [Ej 130 ((k5+16)+1)] none [Ej 18 ((k5+16)+1)] [18] [] [] 1728 (v1 (pv pT (Yp (k5+16) 1) (v1 pT))) <|Xo [] trivial
 refine Tri.exit <|?_
 obtain rfl:k5=48:=(by omega);subst hz5
 refine Xt [Ep 19 1184] [128,18] [Mk 1184 .u64 8 z3] [] 1216 (v2 (pu (Yz 8) pT)) <|Tri.seq <|Xs [Ei 20 0] [] 1232 (v1 pT) <|Tri.block <|Xc 64 (kO p0 k3) z3 (fun k6 z6=>True) (fun k6 z6=>[Ej 20 k6]) (fun k6 z6=>[Mk 1184 .u64 8 z6]) trivial <|fun k6 z6 hk6 hz6 hJ6=>Tri.seq <|Xs [Eb 165 (decide ((((k6:Nat):Int):Int)<64))] [] 1280 (v3 pT) <|Xb (fun h7 h7'=>?_) (fun h7 h7'=>?_)
 refine Tri.skip <|Tri.seq <|Tri.block <|Xs [Ek 21 .u64 (iOr .u64 (aG .u64 (z6.getD 4 0) (z6.getD 5 0)) (aG .u64 (aS .u64 4294967295 (z6.getD 4 0)) (z6.getD 6 0)))] [165] 1504 (pu (Yi 4 8) (pu (Yl 4 8) (pu (Yi 5 8) (pu (Yl 5 8) (v2 (pu (Yi 4 8) (pu (Yl 4 8) (v1 (pu (Yi 6 8) (pu (Yl 6 8) (v3 pT))))))))))) <|Xu [] (some [0,1,0,4,0,16,0,124,255,0,1023,0,2048,6144,0,16384,63488,131071,0,262144,786432,2097151,0,8388607,16777215]) [Ek 22 .u64 (aG .u64 (aE .u64 (aE .u64 (aE .u64 (aE .u64 (z6.getD 7 0) (ca (z6.getD 4 0) [6,11,25] false)) (iOr .u64 (aG .u64 (z6.getD 4 0) (z6.getD 5 0)) (aG .u64 (aS .u64 4294967295 (z6.getD 4 0)) (z6.getD 6 0)))) (aH .u64 ((rS).getD k6 0) 32)) ((itr (jN) 48 (itr (gV p0 k3) 64 [0,0,0,0,0,0,0,0,0,0,0,0,0,0,0,0,0,0,0,0,0,0,0,0,0,0,0,0,0,0,0,0,0,0,0,0,0,0,0,0,0,0,0,0,0,0,0,0,0,0,0,0,0,0,0,0,0,0,0,0,0,0,0,0,0,0,0,0,0,0,0,0,0,0,0,0,0,0,0,0])).getD k6 0)) 4294967295)] [21] [] [] 1904 (pu (Yi 7 8) (pu (Yl 7 8) (pu (Yi 4 8) (pu (Yl 4 8) (pu (Yi 2 4) (pu (Ye (6+3) 12) (v1 (pu (pa pT (pa (Yr (32:Int)) (pl (show jE 32 [6,11,25] from by unfold jE;decide)))) (v4 (pu (Yj k6 80) (pu (Yl k6 80) (v2 (pu (Y0 32) (v2 (pu (Yj k6 80) (pu (Yl k6 80) (v4 pT))))))))))))))))) ?_
 refine Xu [] (some [0,1,0,4,0,31,0,64,0,256,960,0,2048,0,8192,30720,65472,0,131072,0,524288,1966080,4194240,8388607,16777215]) [Ek 23 .u64 (aE .u64 (ca (z6.getD 0 0) [2,13,22] false) (iOr .u64 (iOr .u64 (aG .u64 (z6.getD 0 0) (z6.getD 1 0)) (aG .u64 (z6.getD 1 0) (z6.getD 2 0))) (aG .u64 (z6.getD 0 0) (z6.getD 2 0))))] [] [] [] 2304 (pu (Yi 0 8) (pu (Yl 0 8) (pu (Yi 3 4) (pu (Ye (9+3) 12) (v1 (pu (pa pT (pa (Yr (32:Int)) (pl (show jE 32 [2,13,22] from by unfold jE;decide)))) (pu (Yi 0 8) (pu (Yl 0 8) (pu (Yi 1 8) (pu (Yl 1 8) (v1 (pu (Yi 1 8) (pu (Yl 1 8) (pu (Yi 2 8) (pu (Yl 2 8) (v2 (pu (Yi 0 8) (pu (Yl 0 8) (pu (Yi 2 8) (pu (Yl 2 8) (v4 pT))))))))))))))))))))) ?_
 exact Wt [] [23,22] [Mk 1184 .u64 8 ([(aG .u64 (aE .u64 (aG .u64 (aE .u64 (aE .u64 (aE .u64 (aE .u64 (z6.getD 7 0) (ca (z6.getD 4 0) [6,11,25] false)) (iOr .u64 (aG .u64 (z6.getD 4 0) (z6.getD 5 0)) (aG .u64 (aS .u64 4294967295 (z6.getD 4 0)) (z6.getD 6 0)))) (aH .u64 ((rS).getD k6 0) 32)) ((itr (jN) 48 (itr (gV p0 k3) 64 [0,0,0,0,0,0,0,0,0,0,0,0,0,0,0,0,0,0,0,0,0,0,0,0,0,0,0,0,0,0,0,0,0,0,0,0,0,0,0,0,0,0,0,0,0,0,0,0,0,0,0,0,0,0,0,0,0,0,0,0,0,0,0,0,0,0,0,0,0,0,0,0,0,0,0,0,0,0,0,0])).getD k6 0)) 4294967295) (aE .u64 (ca (z6.getD 0 0) [2,13,22] false) (iOr .u64 (iOr .u64 (aG .u64 (z6.getD 0 0) (z6.getD 1 0)) (aG .u64 (z6.getD 1 0) (z6.getD 2 0))) (aG .u64 (z6.getD 0 0) (z6.getD 2 0))))) 4294967295),z6.getD 0 0,z6.getD 1 0,z6.getD 2 0,(aG .u64 (aE .u64 (z6.getD 3 0) (aG .u64 (aE .u64 (aE .u64 (aE .u64 (aE .u64 (z6.getD 7 0) (ca (z6.getD 4 0) [6,11,25] false)) (iOr .u64 (aG .u64 (z6.getD 4 0) (z6.getD 5 0)) (aG .u64 (aS .u64 4294967295 (z6.getD 4 0)) (z6.getD 6 0)))) (aH .u64 ((rS).getD k6 0) 32)) ((itr (jN) 48 (itr (gV p0 k3) 64 [0,0,0,0,0,0,0,0,0,0,0,0,0,0,0,0,0,0,0,0,0,0,0,0,0,0,0,0,0,0,0,0,0,0,0,0,0,0,0,0,0,0,0,0,0,0,0,0,0,0,0,0,0,0,0,0,0,0,0,0,0,0,0,0,0,0,0,0,0,0,0,0,0,0,0,0,0,0,0,0])).getD k6 0)) 4294967295)) 4294967295),z6.getD 4 0,z6.getD 5 0,z6.getD 6 0])] [1184] 2704 (v5 (pu (Yi 0 8) (pu (Yl 0 8) (pu (Yi 1 8) (pu (Yl 1 8) (pu (Yi 2 8) (pu (Yl 2 8) (pu (Yi 3 8) (pu (Yl 3 8) (v4 (pu (Yi 4 8) (pu (Yl 4 8) (pu (Yi 5 8) (pu (Yl 5 8) (pu (Yi 6 8) (pu (Yl 6 8) (pu (Yb 8) (pu (Yz 8) pT)))))))))))))))))) <|Wu [Ej 167 (k6+1)] none [Ej 20 (k6+1)] [20] [] [] 2752 (v1 (pv pT (Yp k6 1) (v1 pT))) <|Xo [] trivial
 refine Tri.exit <|?_
 obtain rfl:k6=64:=(by omega);subst hz6
 refine Xt [Ei 24 0] [165,20,16] [] [1024] 1296 (v1 pT) <|Tri.block <|Xc 8 (mM p0 k3 z3) z3 (fun k7 z7=>True) (fun k7 z7=>[Ej 24 k7]) (fun k7 z7=>[Mk 816 .u64 8 z7]) trivial <|fun k7 z7 hk7 hz7 hJ7=>Tri.seq <|Xs [Eb 254 (decide ((((k7:Nat):Int):Int)<8))] [] 1328 (v2 pT) <|Xb (fun h8 h8'=>?_) (fun h8 h8'=>?_)
 exact Tri.skip <|Tri.seq <|Tri.block <|Wu [] (some [0,0,2,6,0,16,48,126,0,510,1023,2047]) [] [254] [Mk 816 .u64 8 (z7.set k7 (aG .u64 (aE .u64 (z7.getD k7 0) ((itr (kO p0 k3) 64 z3).getD k7 0)) 4294967295))] [816] 1520 (v2 (pu (Yj k7 8) (pu (Yl k7 8) (v1 (pu (Yj k7 8) (pu (Yl k7 8) (v3 (pu (Yj k7 8) (pu (Ys k7 8) pT))))))))) <|Wu [Ej 256 (k7+1)] none [Ej 24 (k7+1)] [24] [] [] 1568 (v1 (pv pT (Yp k7 1) (v1 pT))) <|Xo [] trivial
 refine Tri.exit <|?_
 obtain rfl:k7=8:=(by omega);subst hz7
 exact Wu [Ej 100 ((64*k3)+64)] none [Ej 15 ((64*k3)+64)] [254,24,19,15] [] [1184] 1392 (v2 (pv pT (Yp (64*k3) 64) (v1 pT))) <|Xo [] trivial
 refine Tri.exit <|?_
 obtain rfl:k3=((((itr (bK) ((119-p0.length % 64) % 64) (p0.length+1,p0++[128])).1)+8)/64):=(by omega);subst hz3
 refine Xt [(25,.sc (.nils))] [97,15,13,9,8,6,5,7] [] [864,640,144] 1040 (v1 pT) <|Tri.seq <|Xs [Ei 26 0] [] 1056 (v1 pT) <|Tri.block <|Tri.sub (Sub.openNil (U:=1056) (U':=1072) 25 1056 1 .u8 none (.inl rfl) (by decide) (by decide) (by kernel_rfl) (by kernel_rfl)) <|Xc 32 (dZ p0) (0,([]:List Int)) (fun k8 z8=>z8.1=1*k8) (fun k8 z8=>[El 25 1056 z8.1,Ej 26 k8]) (fun k8 z8=>[Mi 1056 z8.1 z8.2]) rfl <|fun k8 z8 hk8 hz8 hJ8=>Tri.seq <|Xs [Eb 270 (decide ((((k8:Nat):Int):Int)<32))] [] 1120 (v3 pT) <|Xb (fun h9 h9'=>?_) (fun h9 h9'=>?_)
 exact Tri.skip <|Tri.seq <|Tri.block <|Wu [Ej 275 (8*k8),Ej 277 ((8*k8)/32),Ej 283 (8*k8),Ej 285 ((8*k8) % 32),Ej 286 (24-((8*k8) % 32))] (some [0,0,2,0,14,30,62,0,128,0,512,0,3584,8064,16382,32766,65534,131071,262143]) [El 25 1392 (z8.1+1)] [270,25] [Mi 1392 (z8.1+1) (z8.2++([(IntKind.wrap .u8 (aH .u64 ((itr (kI p0) ((((itr (bK) ((119-p0.length % 64) % 64) (p0.length+1,p0++[128])).1)+8)/64) (itr (jX) 8 [7640891576956012808,13503953896175478587,4354685564936845355,11912009170470909681,5840696475078001361,11170449401992604703,2270897969802886507,6620516959819538809])).getD ((8*k8)/32) 0) ((24-((8*k8) % 32):Nat):Int)))]))] [1056] 1424 (v2 (pv pT (Yt 8 k8) (v1 (pv (Yn 32) (pl (cZ (a:=8*k8) (b:=32) (by omega))) (pu (Yj ((8*k8)/32) 8) (pu (Yl ((8*k8)/32) 8) (v3 (pv pT (Yt 8 k8) (v1 (pv (Yn 32) (pl (dQ (a:=8*k8) (b:=32))) (pv pT (pl (cu (a:=24) (b:=(8*k8) % 32) (by omega) (by omega))) (pu (Y0 ((24-((8*k8) % 32):Nat):Int)) (v1 (pu (Yf 1) (pu (Ya (Yw 1) 1 (z8.1+1) 1 1 z8.1 z8.1) (v1 pT)))))))))))))))) <|Wu [Ej 272 (k8+1)] none [Ej 26 (k8+1)] [26] [] [] 1472 (v1 (pv pT (Yp k8 1) (v1 pT))) <|Xo [(1056,1392)] (show z8.1+1=1*(k8+1) by omega)
 refine Tri.exit <|?_
 obtain rfl:k8=32:=(by omega);subst hz8
 exact Xt [El 4 1056 ((itr (dZ p0) 32 (0,([]:List Int))).1)] [270,25,26,12,1] [] [816] 1152 (v2 pT) <|Xy (r':=⟨.sc (.sl 0 0 ((itr (dZ p0) 32 (0,([]:List Int))).1) 1 none),[some (.ints .u8 ((itr (dZ p0) 32 (0,([]:List Int))).1) ((itr (dZ p0) 32 (0,([]:List Int))).2))]⟩) [(1056,0)] pz (by simp only [is,EJ,aB,aA])
theorem wV (p0:List Int):(is p0).length=32:=by
 have h0:∀ (k:Nat) (z:Nat × List Int),z.2.length=z.1→(itr (dZ p0) k z).2.length=(itr (dZ p0) k z).1:=by
  intro k z hz
  induction k with
  |zero=>rw [aX];exact hz
  |succ k ih=>rw [aQ];show ((itr (dZ p0) k z).2++[_]).length=(itr (dZ p0) k z).1+1;rw [List.length_append,ih];rfl
 unfold is
 rw [h0 32 _ rfl,EJ]
def bL (k0:Nat) (z0:Nat × List Int):Nat × List Int :=
 (z0.1+1,z0.2++[0])
def kU (p0:List Int) (k1:Nat) (z1:List Int):List Int :=
 z1.set (((aZ .i64 (((((itr (bL) ((239-p0.length % 128) % 128) (p0.length+1,p0++[128])).1)+16:Nat):Int)-1-((0:Nat):Int)) ((k1:Nat):Int))).toNat) (IntKind.wrap .u8 (aH .u64 (bE .u64 (IntKind.wrap .u64 ((p0.length:Nat):Int)) 8) ((8*k1:Nat):Int)))
def jH (k2:Nat) (z2:List Int):List Int :=
 z2.set k2 (aH .u64 (z2.getD k2 0) 0)
def gP (p0:List Int) (k3:Nat) (k4:Nat) (z4:List Int):List Int :=
 z4.set ((8*k4)/64) (aE .u64 (bE .u64 (z4.getD ((8*k4)/64) 0) 256) (IntKind.wrap .u64 ((itr (kU p0) 8 (((itr (bL) ((239-p0.length % 128) % 128) (p0.length+1,p0++[128])).2)++(List.replicate 16 0))).getD ((128*k3)+k4) 0)))
def jP (k5:Nat) (z5:List Int):List Int :=
 z5.set (k5+16) (aG .u64 (aE .u64 (aE .u64 (aE .u64 (z5.getD ((k5+16)-16) 0) (z5.getD ((k5+16)-7) 0)) (cd (z5.getD ((k5+16)-15) 0) [1,8,7] true)) (cd (z5.getD ((k5+16)-2) 0) [19,61,6] true)) 18446744073709551615)
def kJ (p0:List Int) (k3:Nat) (k6:Nat) (z6:List Int):List Int :=
 [(aG .u64 (aE .u64 (aG .u64 (aE .u64 (aE .u64 (aE .u64 (aE .u64 (z6.getD 7 0) (cd (z6.getD 4 0) [14,18,41] false)) (iOr .u64 (aG .u64 (z6.getD 4 0) (z6.getD 5 0)) (aG .u64 (aS .u64 18446744073709551615 (z6.getD 4 0)) (z6.getD 6 0)))) (aH .u64 ((rS).getD k6 0) 0)) ((itr (jP) 64 (itr (gP p0 k3) 128 [0,0,0,0,0,0,0,0,0,0,0,0,0,0,0,0,0,0,0,0,0,0,0,0,0,0,0,0,0,0,0,0,0,0,0,0,0,0,0,0,0,0,0,0,0,0,0,0,0,0,0,0,0,0,0,0,0,0,0,0,0,0,0,0,0,0,0,0,0,0,0,0,0,0,0,0,0,0,0,0])).getD k6 0)) 18446744073709551615) (aE .u64 (cd (z6.getD 0 0) [28,34,39] false) (iOr .u64 (iOr .u64 (aG .u64 (z6.getD 0 0) (z6.getD 1 0)) (aG .u64 (z6.getD 1 0) (z6.getD 2 0))) (aG .u64 (z6.getD 0 0) (z6.getD 2 0))))) 18446744073709551615),z6.getD 0 0,z6.getD 1 0,z6.getD 2 0,(aG .u64 (aE .u64 (z6.getD 3 0) (aG .u64 (aE .u64 (aE .u64 (aE .u64 (aE .u64 (z6.getD 7 0) (cd (z6.getD 4 0) [14,18,41] false)) (iOr .u64 (aG .u64 (z6.getD 4 0) (z6.getD 5 0)) (aG .u64 (aS .u64 18446744073709551615 (z6.getD 4 0)) (z6.getD 6 0)))) (aH .u64 ((rS).getD k6 0) 0)) ((itr (jP) 64 (itr (gP p0 k3) 128 [0,0,0,0,0,0,0,0,0,0,0,0,0,0,0,0,0,0,0,0,0,0,0,0,0,0,0,0,0,0,0,0,0,0,0,0,0,0,0,0,0,0,0,0,0,0,0,0,0,0,0,0,0,0,0,0,0,0,0,0,0,0,0,0,0,0,0,0,0,0,0,0,0,0,0,0,0,0,0,0])).getD k6 0)) 18446744073709551615)) 18446744073709551615),z6.getD 4 0,z6.getD 5 0,z6.getD 6 0]
def ln (p0:List Int) (k3:Nat) (z3:List Int) (k7:Nat) (z7:List Int):List Int :=
 z7.set k7 (aG .u64 (aE .u64 (z7.getD k7 0) ((itr (kJ p0 k3) 80 z3).getD k7 0)) 18446744073709551615)
def kG (p0:List Int) (k3:Nat) (z3:List Int):List Int :=
 (itr (ln p0 k3 z3) 8 z3)
def dW (p0:List Int) (k8:Nat) (z8:Nat × List Int):Nat × List Int :=
 (z8.1+1,z8.2++([(IntKind.wrap .u8 (aH .u64 ((itr (kG p0) ((((itr (bL) ((239-p0.length % 128) % 128) (p0.length+1,p0++[128])).1)+16)/128) (itr (jH) 8 [7640891576956012808,13503953896175478587,4354685564936845355,11912009170470909681,5840696475078001361,11170449401992604703,2270897969802886507,6620516959819538809])).getD ((8*k8)/64) 0) ((56-((8*k8) % 64):Nat):Int)))]))
def bc (p0:List Int):List Int :=
 (itr (dW p0) 64 (0,([]:List Int))).2
theorem Cl (p0:List Int):(itr (dW p0) 64 (0,[])).1=64:=by
 have h0:∀ (k:Nat) (z:Nat × List Int),(itr (dW p0) k z).1=z.1+k:=by
  intro k z
  induction k with
  |zero=>rw [aX];rfl
  |succ k ih=>rw [aQ];show (itr (dW p0) k z).1+1=_;rw [ih];omega
 rw [h0]
def EX:List AV→List Blk→Option (Prop × Ret)
 |[.sc (.ro .u8 p0),.sc (.i .i64 p1)],[]=>some ((((64:Int)=p1)∧(p0.length≤100000000)),⟨.sc (.sl 0 0 64 1 none),[some (.ints .u8 64 (bc p0))]⟩)
 |_,_=>none
theorem yJ:Known Tryz.prog gD 52 ⟨0,1,EX⟩:=by
 refine Xw Tryz.f52 292 (Zv QZ 672 0 <|Zv Ra 720 0 <|Zv td 1312 4 <|Zv td 1456 4 <|Zv td 1488 4 <|Zv td 1856 4 <|Zn) mixed <|fun E args ks C r h hC hlen=>?_
 simp only at h
 unfold EX at h
 split at h
 rotate_left
 cases h
 rename_i p0 p1
 cases h
 simp only [am] at hlen
 obtain ⟨hEp1,hC⟩:=hC
 subst hEp1
 refine ⟨rfl,?_⟩
 refine Xs [] [] 32 (v1 pT) <|Xs [Ek 6 .u64 18446744073709551615,Ei 5 80] [] 64 (v2 pT) <|Xt [Ep 7 144] [] [Mk 144 .i64 12 [1,8,7,19,61,6,14,18,41,28,34,39]] [] 176 (pu (Yb 3) (pu (Yb 3) (pu (Yb 3) (pu (Yb 3) (pu (pa (pa (Ye (0+3) 12) (Yr 3)) (pa (pa (Ye (3+3) 12) (Yr 3)) (pa (pa (Ye (6+3) 12) (Yr 3)) (pa (pa (Ye (9+3) 12) (Yr 3)) pT)))) (v1 (pu (Yz 12) pT))))))) <|Tri.seq <|Xs [Eb 33 false] [] 208 (v2 pT) <|Tri.cond_false (by kernel_rfl) <|Tri.skip <|Xs [Ei 8 128] [33] 256 (v3 pT) <|Xt [El 9 304 (p0.length+1)] [] [Mi 304 (p0.length+1) (p0++[128])] [] 336 (v1 (pu (YN pT 1 p0.length p0.length p0.length) (pu (Yf 1) (pu (Ya (Yw 1) 1 (p0.length+1) 1 1 p0.length p0.length) (v1 pT))))) <|Tri.seq <|Tri.block <|Xc ((239-p0.length % 128) % 128) (bL) (p0.length+1,p0++[128]) (fun k0 z0=>z0.1=(p0.length+1)+1*k0) (fun k0 z0=>[El 9 304 z0.1]) (fun k0 z0=>[Mi 304 z0.1 z0.2]) (by simp) <|fun k0 z0 hk0 hz0 hJ0=>Tri.seq <|Xu [Ej 49 (z0.1+16),Ej 51 ((z0.1+16) % 128)] none [Eb 52 (((((z0.1+16) % 128:Nat):Int):Int) != 0)] [] [] [] 464 (v3 (pu (Yn 4) (pv pT (Yp z0.1 16) (v1 (pv (Yn 128) (pl (dQ (a:=z0.1+16) (b:=128))) (v1 pT)))))) <|?_
 refine Xa (fun h1=>?_) (fun h1=>?_)
 have h1':=bO h1
 refine Tri.skip <|Tri.block <|Wt [El 9 496 (z0.1+1)] [52,9] [Mi 496 (z0.1+1) (z0.2++[0])] [304] 528 (v1 (pu (Yf 1) (pu (Ya (Yw 1) 1 (z0.1+1) 1 1 z0.1 z0.1) (v1 pT)))) <|?_
 repeat (refine jf ?_)
 exact iJ (by have h9:=bO h1;omega) (show z0.1+1=(p0.length+1)+1*(k0+1) by omega) <|Xn [(304,496)]
 have h1':=ak h1
 refine Tri.exit <|?_
 have hend0:k0=((239-p0.length % 128) % 128):=by (have h9:=ak h1;omega)
 subst hend0;subst hz0
 refine Xt [El 9 512 (((itr (bL) ((239-p0.length % 128) % 128) (p0.length+1,p0++[128])).1)+16)] [52,9] [Mi 512 (((itr (bL) ((239-p0.length % 128) % 128) (p0.length+1,p0++[128])).1)+16) (((itr (bL) ((239-p0.length % 128) % 128) (p0.length+1,p0++[128])).2)++(List.replicate 16 0))] [304] 544 (v2 (pu (Yn 4) (pu (Ya (pa (pa (Y0 16) (lo (16≤(140737488355328:Int)))) (lo (((1:Nat):Int)*16≤281474976710656))) 1 (((itr (bL) ((239-p0.length % 128) % 128) (p0.length+1,p0++[128])).1)+16) 16 16 ((itr (bL) ((239-p0.length % 128) % 128) (p0.length+1,p0++[128])).1) ((itr (bL) ((239-p0.length % 128) % 128) (p0.length+1,p0++[128])).1)) (v1 pT)))) <|Xs [Ek 10 .u64 (bE .u64 (IntKind.wrap .u64 ((p0.length:Nat):Int)) 8)] [0] 624 (v5 pT) <|Tri.seq <|Xs [Ei 11 0] [] 640 (v1 pT) <|Tri.block <|Xc 8 (kU p0) (((itr (bL) ((239-p0.length % 128) % 128) (p0.length+1,p0++[128])).2)++(List.replicate 16 0)) (fun k1 z1=>True) (fun k1 z1=>[Ej 11 k1]) (fun k1 z1=>[Mi 512 (((itr (bL) ((239-p0.length % 128) % 128) (p0.length+1,p0++[128])).1)+16) z1]) trivial <|fun k1 z1 hk1 hz1 hJ1=>Tri.seq <|Xs [Eb 65 (decide ((((k1:Nat):Int):Int)<8))] [] 672 (v2 pT) <|Xb (fun h2 h2'=>?_) (fun h2 h2'=>?_)
 exact Tri.skip <|Tri.seq <|Tri.block <|Wu [Ei 71 (((((itr (bL) ((239-p0.length % 128) % 128) (p0.length+1,p0++[128])).1)+16:Nat):Int)-1-((0:Nat):Int)),Ej 76 (8*k1)] none [] [65] [Mi 512 (((itr (bL) ((239-p0.length % 128) % 128) (p0.length+1,p0++[128])).1)+16) (z1.set (((aZ .i64 (((((itr (bL) ((239-p0.length % 128) % 128) (p0.length+1,p0++[128])).1)+16:Nat):Int)-1-((0:Nat):Int)) ((k1:Nat):Int))).toNat) (IntKind.wrap .u8 (aH .u64 (bE .u64 (IntKind.wrap .u64 ((p0.length:Nat):Int)) 8) ((8*k1:Nat):Int))))] [512] 880 (v3 (pv pT (pl (show (aZ .i64 ((((itr (bL) ((239-p0.length % 128) % 128) (p0.length+1,p0++[128])).1)+16:Nat):Int) 1)=(((((itr (bL) ((239-p0.length % 128) % 128) (p0.length+1,p0++[128])).1)+16:Nat):Int)-1-((0:Nat):Int)) from mF (by omega))) (v4 (pv pT (Yt 8 k1) (pu (Y0 ((8*k1:Nat):Int)) (v1 (pu (li ((0:Int)≤(aZ .i64 (((((itr (bL) ((239-p0.length % 128) % 128) (p0.length+1,p0++[128])).1)+16:Nat):Int)-1-((0:Nat):Int)) ((k1:Nat):Int))∧(aZ .i64 (((((itr (bL) ((239-p0.length % 128) % 128) (p0.length+1,p0++[128])).1)+16:Nat):Int)-1-((0:Nat):Int)) ((k1:Nat):Int))<((((itr (bL) ((239-p0.length % 128) % 128) (p0.length+1,p0++[128])).1)+16:Nat):Int))) (pu (pa (li (((aZ .i64 (((((itr (bL) ((239-p0.length % 128) % 128) (p0.length+1,p0++[128])).1)+16:Nat):Int)-1-((0:Nat):Int)) ((k1:Nat):Int))).toNat<((itr (bL) ((239-p0.length % 128) % 128) (p0.length+1,p0++[128])).1)+16)) (Yr 1)) pT)))))))) <|Wu [Ej 67 (k1+1)] none [Ej 11 (k1+1)] [11] [] [] 928 (v1 (pv pT (Yp k1 1) (v1 pT))) <|Xo [] trivial
 refine Tri.exit <|?_
 obtain rfl:k1=8:=(by omega);subst hz1
 refine Xt [Ep 12 688] [65,11,10] [Mk 688 .u64 8 [7640891576956012808,13503953896175478587,4354685564936845355,11912009170470909681,5840696475078001361,11170449401992604703,2270897969802886507,6620516959819538809]] [] 720 (pu pz (v1 (pu (Yz 8) pT))) <|Xt [Ep 13 736] [] [Mk 736 .u64 80 (rS)] [] 768 (pu pz (v1 (pu (Yz 80) pT))) <|Tri.seq <|Xs [Ei 14 0] [] 784 (v1 pT) <|Tri.block <|Xc 8 (jH) [7640891576956012808,13503953896175478587,4354685564936845355,11912009170470909681,5840696475078001361,11170449401992604703,2270897969802886507,6620516959819538809] (fun k2 z2=>True) (fun k2 z2=>[Ej 14 k2]) (fun k2 z2=>[Mk 688 .u64 8 z2]) trivial <|fun k2 z2 hk2 hz2 hJ2=>Tri.seq <|Xs [Eb 83 (decide ((((k2:Nat):Int):Int)<8))] [] 816 (v2 pT) <|Xb (fun h3 h3'=>?_) (fun h3 h3'=>?_)
 exact Tri.skip <|Tri.seq <|Tri.block <|Wt [] [83] [Mk 688 .u64 8 (z2.set k2 (aH .u64 (z2.getD k2 0) 0))] [688] 960 (v2 (pu (Yj k2 8) (pu (Yl k2 8) (v2 (pu (Y0 0) (pu (Yj k2 8) (pu (Ys k2 8) pT))))))) <|Wu [Ej 85 (k2+1)] none [Ej 14 (k2+1)] [14] [] [] 1008 (v1 (pv pT (Yp k2 1) (v1 pT))) <|Xo [] trivial
 refine Tri.exit <|?_
 obtain rfl:k2=8:=(by omega);subst hz2
 refine Tri.seq <|Xs [Ei 15 0] [83,14] 832 (v1 pT) <|Tri.block <|Xc ((((itr (bL) ((239-p0.length % 128) % 128) (p0.length+1,p0++[128])).1)+16)/128) (kG p0) (itr (jH) 8 [7640891576956012808,13503953896175478587,4354685564936845355,11912009170470909681,5840696475078001361,11170449401992604703,2270897969802886507,6620516959819538809]) (fun k3 z3=>True) (fun k3 z3=>[Ej 15 (128*k3)]) (fun k3 z3=>[Mk 688 .u64 8 z3]) trivial <|fun k3 z3 hk3 hz3 hJ3=>Tri.seq <|Xs [Eb 97 (decide ((((128*k3:Nat):Int):Int)<((((itr (bL) ((239-p0.length % 128) % 128) (p0.length+1,p0++[128])).1)+16:Nat):Int)))] [] 896 (v4 pT) <|Xb (fun h4 h4'=>?_) (fun h4 h4'=>?_)
 refine Tri.skip <|Tri.seq <|Tri.block <|Xt [Ep 16 896] [97] [Mk 896 .u64 80 [0,0,0,0,0,0,0,0,0,0,0,0,0,0,0,0,0,0,0,0,0,0,0,0,0,0,0,0,0,0,0,0,0,0,0,0,0,0,0,0,0,0,0,0,0,0,0,0,0,0,0,0,0,0,0,0,0,0,0,0,0,0,0,0,0,0,0,0,0,0,0,0,0,0,0,0,0,0,0,0]] [] 912 (v1 pT) <|Tri.seq <|Xs [Ei 17 0] [] 928 (v1 pT) <|Tri.block <|Xc 128 (gP p0 k3) [0,0,0,0,0,0,0,0,0,0,0,0,0,0,0,0,0,0,0,0,0,0,0,0,0,0,0,0,0,0,0,0,0,0,0,0,0,0,0,0,0,0,0,0,0,0,0,0,0,0,0,0,0,0,0,0,0,0,0,0,0,0,0,0,0,0,0,0,0,0,0,0,0,0,0,0,0,0,0,0] (fun k4 z4=>True) (fun k4 z4=>[Ej 17 k4]) (fun k4 z4=>[Mk 896 .u64 80 z4]) trivial <|fun k4 z4 hk4 hz4 hJ4=>Tri.seq <|Xs [Eb 103 (decide ((((k4:Nat):Int):Int)<128))] [] 976 (v3 pT) <|Xb (fun h5 h5'=>?_) (fun h5 h5'=>?_)
 exact Tri.skip <|Tri.seq <|Tri.block <|Wu [Ej 107 (8*k4),Ej 109 ((8*k4)/64),Ej 111 (8*k4),Ej 113 ((8*k4)/64),Ej 120 ((128*k3)+k4)] (some [0,1,0,7,0,16,0,112,240,496,1008,0,0,0,12288,30720,63488,129024,262128,524287,1048575]) [] [103] [Mk 896 .u64 80 (z4.set ((8*k4)/64) (aE .u64 (bE .u64 (z4.getD ((8*k4)/64) 0) 256) (IntKind.wrap .u64 ((itr (kU p0) 8 (((itr (bL) ((239-p0.length % 128) % 128) (p0.length+1,p0++[128])).2)++(List.replicate 16 0))).getD ((128*k3)+k4) 0))))] [896] 1312 (v1 (pv pT (Yt 8 k4) (v1 (pv (Yn 64) (pl (cZ (a:=8*k4) (b:=64) (by omega))) (v1 (pv pT (Yt 8 k4) (v1 (pv (Yn 64) (pl (cZ (a:=8*k4) (b:=64) (by omega))) (pu (Yj ((8*k4)/64) 80) (pu (Yl ((8*k4)/64) 80) (v4 (pv pT (Yp (128*k3) k4) (pu (Yj ((128*k3)+k4) (((itr (bL) ((239-p0.length % 128) % 128) (p0.length+1,p0++[128])).1)+16)) (pu (Yl ((128*k3)+k4) (((itr (bL) ((239-p0.length % 128) % 128) (p0.length+1,p0++[128])).1)+16)) (v2 (pu (Yj ((8*k4)/64) 80) (pu (Ys ((8*k4)/64) 80) pT))))))))))))))))) <|Wu [Ej 105 (k4+1)] none [Ej 17 (k4+1)] [17] [] [] 1360 (v1 (pv pT (Yp k4 1) (v1 pT))) <|Xo [] trivial
 refine Tri.exit <|?_
 obtain rfl:k4=128:=(by omega);subst hz4
 refine Tri.seq <|Xs [Ei 18 16] [103,17] 992 (v1 pT) <|Tri.block <|Xc 64 (jP) (itr (gP p0 k3) 128 [0,0,0,0,0,0,0,0,0,0,0,0,0,0,0,0,0,0,0,0,0,0,0,0,0,0,0,0,0,0,0,0,0,0,0,0,0,0,0,0,0,0,0,0,0,0,0,0,0,0,0,0,0,0,0,0,0,0,0,0,0,0,0,0,0,0,0,0,0,0,0,0,0,0,0,0,0,0,0,0]) (fun k5 z5=>True) (fun k5 z5=>[Ej 18 (k5+16)]) (fun k5 z5=>[Mk 896 .u64 80 z5]) trivial <|fun k5 z5 hk5 hz5 hJ5=>Tri.seq <|Xs [Eb 128 (decide ((((k5+16:Nat):Int):Int)<80))] [] 1040 (v3 pT) <|Xb (fun h6 h6'=>?_) (fun h6 h6'=>?_)
 refine Tri.skip <|Tri.seq <|Tri.block <|Wu [Ej 133 ((k5+16)-16),Ej 137 ((k5+16)-7),Ej 142 ((k5+16)-15),Ej 151 ((k5+16)-2)] (some [0,0,2,6,14,0,32,96,224,510,0,1024,3072,7168,0,16384,0,130048,262142,0,524288,1572864,3670016,0,8388608,0,66845696,134217726,0,536870910,1073741823,2147483647]) [] [128] [Mk 896 .u64 80 (z5.set (k5+16) (aG .u64 (aE .u64 (aE .u64 (aE .u64 (z5.getD ((k5+16)-16) 0) (z5.getD ((k5+16)-7) 0)) (cd (z5.getD ((k5+16)-15) 0) [1,8,7] true)) (cd (z5.getD ((k5+16)-2) 0) [19,61,6] true)) 18446744073709551615))] [896] 1552 (v2 (pv pT (pl (cu (a:=k5+16) (b:=16) (by omega) (by omega))) (pu (Yj ((k5+16)-16) 80) (pu (Yl ((k5+16)-16) 80) (v1 (pv pT (pl (cu (a:=k5+16) (b:=7) (by omega) (by omega))) (pu (Yj ((k5+16)-7) 80) (pu (Yl ((k5+16)-7) 80) (v2 (pv pT (pl (cu (a:=k5+16) (b:=15) (by omega) (by omega))) (pu (Yj ((k5+16)-15) 80) (pu (Yl ((k5+16)-15) 80) (pu (Yi 0 4) (pu (Ye (0+3) 12) (v1 (pu (pa pT (pa (Yr (64:Int)) (pl (show jE 64 [1,8,7] from by unfold jE;decide)))) (v2 (pv pT (pl (cu (a:=k5+16) (b:=2) (by omega) (by omega))) (pu (Yj ((k5+16)-2) 80) (pu (Yl ((k5+16)-2) 80) (pu (Yi 1 4) (pu (Ye (3+3) 12) (v1 (pu (pa pT (pa (Yr (64:Int)) (pl (show jE 64 [19,61,6] from by unfold jE;decide)))) (v3 (pu (Yj (k5+16) 80) (pu (Ys (k5+16) 80) pT))))))))))))))))))))))))))) ?_
 exact Wu [Ej 130 ((k5+16)+1)] none [Ej 18 ((k5+16)+1)] [18] [] [] 1600 (v1 (pv pT (Yp (k5+16) 1) (v1 pT))) <|Xo [] trivial
 refine Tri.exit <|?_
 obtain rfl:k5=64:=(by omega);subst hz5
 refine Xt [Ep 19 1056] [128,18] [Mk 1056 .u64 8 z3] [] 1088 (v2 (pu (Yz 8) pT)) <|Tri.seq <|Xs [Ei 20 0] [] 1104 (v1 pT) <|Tri.block <|Xc 80 (kJ p0 k3) z3 (fun k6 z6=>True) (fun k6 z6=>[Ej 20 k6]) (fun k6 z6=>[Mk 1056 .u64 8 z6]) trivial <|fun k6 z6 hk6 hz6 hJ6=>Tri.seq <|Xs [Eb 165 (decide ((((k6:Nat):Int):Int)<80))] [] 1152 (v3 pT) <|Xb (fun h7 h7'=>?_) (fun h7 h7'=>?_)
 refine Tri.skip <|Tri.seq <|Tri.block <|Xs [Ek 21 .u64 (iOr .u64 (aG .u64 (z6.getD 4 0) (z6.getD 5 0)) (aG .u64 (aS .u64 18446744073709551615 (z6.getD 4 0)) (z6.getD 6 0)))] [165] 1376 (pu (Yi 4 8) (pu (Yl 4 8) (pu (Yi 5 8) (pu (Yl 5 8) (v2 (pu (Yi 4 8) (pu (Yl 4 8) (v1 (pu (Yi 6 8) (pu (Yl 6 8) (v3 pT))))))))))) <|Xu [] (some [0,1,0,4,0,16,0,124,255,0,1023,0,2048,6144,0,16384,63488,131071,0,262144,786432,2097151,0,8388607,16777215]) [Ek 22 .u64 (aG .u64 (aE .u64 (aE .u64 (aE .u64 (aE .u64 (z6.getD 7 0) (cd (z6.getD 4 0) [14,18,41] false)) (iOr .u64 (aG .u64 (z6.getD 4 0) (z6.getD 5 0)) (aG .u64 (aS .u64 18446744073709551615 (z6.getD 4 0)) (z6.getD 6 0)))) (aH .u64 ((rS).getD k6 0) 0)) ((itr (jP) 64 (itr (gP p0 k3) 128 [0,0,0,0,0,0,0,0,0,0,0,0,0,0,0,0,0,0,0,0,0,0,0,0,0,0,0,0,0,0,0,0,0,0,0,0,0,0,0,0,0,0,0,0,0,0,0,0,0,0,0,0,0,0,0,0,0,0,0,0,0,0,0,0,0,0,0,0,0,0,0,0,0,0,0,0,0,0,0,0])).getD k6 0)) 18446744073709551615)] [21] [] [] 1776 (pu (Yi 7 8) (pu (Yl 7 8) (pu (Yi 4 8) (pu (Yl 4 8) (pu (Yi 2 4) (pu (Ye (6+3) 12) (v1 (pu (pa pT (pa (Yr (64:Int)) (pl (show jE 64 [14,18,41] from by unfold jE;decide)))) (v4 (pu (Yj k6 80) (pu (Yl k6 80) (v2 (pu (Y0 0) (v2 (pu (Yj k6 80) (pu (Yl k6 80) (v4 pT))))))))))))))))) ?_
 refine Xu [] (some [0,1,0,4,0,31,0,64,0,256,960,0,2048,0,8192,30720,65472,0,131072,0,524288,1966080,4194240,8388607,16777215]) [Ek 23 .u64 (aE .u64 (cd (z6.getD 0 0) [28,34,39] false) (iOr .u64 (iOr .u64 (aG .u64 (z6.getD 0 0) (z6.getD 1 0)) (aG .u64 (z6.getD 1 0) (z6.getD 2 0))) (aG .u64 (z6.getD 0 0) (z6.getD 2 0))))] [] [] [] 2176 (pu (Yi 0 8) (pu (Yl 0 8) (pu (Yi 3 4) (pu (Ye (9+3) 12) (v1 (pu (pa pT (pa (Yr (64:Int)) (pl (show jE 64 [28,34,39] from by unfold jE;decide)))) (pu (Yi 0 8) (pu (Yl 0 8) (pu (Yi 1 8) (pu (Yl 1 8) (v1 (pu (Yi 1 8) (pu (Yl 1 8) (pu (Yi 2 8) (pu (Yl 2 8) (v2 (pu (Yi 0 8) (pu (Yl 0 8) (pu (Yi 2 8) (pu (Yl 2 8) (v4 pT))))))))))))))))))))) ?_
 exact Wt [] [23,22] [Mk 1056 .u64 8 ([(aG .u64 (aE .u64 (aG .u64 (aE .u64 (aE .u64 (aE .u64 (aE .u64 (z6.getD 7 0) (cd (z6.getD 4 0) [14,18,41] false)) (iOr .u64 (aG .u64 (z6.getD 4 0) (z6.getD 5 0)) (aG .u64 (aS .u64 18446744073709551615 (z6.getD 4 0)) (z6.getD 6 0)))) (aH .u64 ((rS).getD k6 0) 0)) ((itr (jP) 64 (itr (gP p0 k3) 128 [0,0,0,0,0,0,0,0,0,0,0,0,0,0,0,0,0,0,0,0,0,0,0,0,0,0,0,0,0,0,0,0,0,0,0,0,0,0,0,0,0,0,0,0,0,0,0,0,0,0,0,0,0,0,0,0,0,0,0,0,0,0,0,0,0,0,0,0,0,0,0,0,0,0,0,0,0,0,0,0])).getD k6 0)) 18446744073709551615) (aE .u64 (cd (z6.getD 0 0) [28,34,39] false) (iOr .u64 (iOr .u64 (aG .u64 (z6.getD 0 0) (z6.getD 1 0)) (aG .u64 (z6.getD 1 0) (z6.getD 2 0))) (aG .u64 (z6.getD 0 0) (z6.getD 2 0))))) 18446744073709551615),z6.getD 0 0,z6.getD 1 0,z6.getD 2 0,(aG .u64 (aE .u64 (z6.getD 3 0) (aG .u64 (aE .u64 (aE .u64 (aE .u64 (aE .u64 (z6.getD 7 0) (cd (z6.getD 4 0) [14,18,41] false)) (iOr .u64 (aG .u64 (z6.getD 4 0) (z6.getD 5 0)) (aG .u64 (aS .u64 18446744073709551615 (z6.getD 4 0)) (z6.getD 6 0)))) (aH .u64 ((rS).getD k6 0) 0)) ((itr (jP) 64 (itr (gP p0 k3) 128 [0,0,0,0,0,0,0,0,0,0,0,0,0,0,0,0,0,0,0,0,0,0,0,0,0,0,0,0,0,0,0,0,0,0,0,0,0,0,0,0,0,0,0,0,0,0,0,0,0,0,0,0,0,0,0,0,0,0,0,0,0,0,0,0,0,0,0,0,0,0,0,0,0,0,0,0,0,0,0,0])).getD k6 0)) 18446744073709551615)) 18446744073709551615),z6.getD 4 0,z6.getD 5 0,z6.getD 6 0])] [1056] 2576 (v5 (pu (Yi 0 8) (pu (Yl 0 8) (pu (Yi 1 8) (pu (Yl 1 8) (pu (Yi 2 8) (pu (Yl 2 8) (pu (Yi 3 8) (pu (Yl 3 8) (v4 (pu (Yi 4 8) (pu (Yl 4 8) (pu (Yi 5 8) (pu (Yl 5 8) (pu (Yi 6 8) (pu (Yl 6 8) (pu (Yb 8) (pu (Yz 8) pT)))))))))))))))))) <|Wu [Ej 167 (k6+1)] none [Ej 20 (k6+1)] [20] [] [] 2624 (v1 (pv pT (Yp k6 1) (v1 pT))) <|Xo [] trivial
 refine Tri.exit <|?_
 obtain rfl:k6=80:=(by omega);subst hz6
 refine Xt [Ei 24 0] [165,20,16] [] [896] 1168 (v1 pT) <|Tri.block <|Xc 8 (ln p0 k3 z3) z3 (fun k7 z7=>True) (fun k7 z7=>[Ej 24 k7]) (fun k7 z7=>[Mk 688 .u64 8 z7]) trivial <|fun k7 z7 hk7 hz7 hJ7=>Tri.seq <|Xs [Eb 254 (decide ((((k7:Nat):Int):Int)<8))] [] 1200 (v2 pT) <|Xb (fun h8 h8'=>?_) (fun h8 h8'=>?_)
 exact Tri.skip <|Tri.seq <|Tri.block <|Wu [] (some [0,0,2,6,0,16,48,126,0,510,1023,2047]) [] [254] [Mk 688 .u64 8 (z7.set k7 (aG .u64 (aE .u64 (z7.getD k7 0) ((itr (kJ p0 k3) 80 z3).getD k7 0)) 18446744073709551615))] [688] 1392 (v2 (pu (Yj k7 8) (pu (Yl k7 8) (v1 (pu (Yj k7 8) (pu (Yl k7 8) (v3 (pu (Yj k7 8) (pu (Ys k7 8) pT))))))))) <|Wu [Ej 256 (k7+1)] none [Ej 24 (k7+1)] [24] [] [] 1440 (v1 (pv pT (Yp k7 1) (v1 pT))) <|Xo [] trivial
 refine Tri.exit <|?_
 obtain rfl:k7=8:=(by omega);subst hz7
 exact Wu [Ej 100 ((128*k3)+128)] none [Ej 15 ((128*k3)+128)] [254,24,19,15] [] [1056] 1264 (v2 (pv pT (Yp (128*k3) 128) (v1 pT))) <|Xo [] trivial
 refine Tri.exit <|?_
 obtain rfl:k3=((((itr (bL) ((239-p0.length % 128) % 128) (p0.length+1,p0++[128])).1)+16)/128):=(by omega);subst hz3
 refine Xt [(25,.sc (.nils))] [97,15,13,9,8,7,6,5] [] [736,512,144] 912 (v1 pT) <|Tri.seq <|Xs [Ei 26 0] [] 928 (v1 pT) <|Tri.block <|Tri.sub (Sub.openNil (U:=928) (U':=944) 25 928 1 .u8 none (.inl rfl) (by decide) (by decide) (by kernel_rfl) (by kernel_rfl)) <|Xc 64 (dW p0) (0,([]:List Int)) (fun k8 z8=>z8.1=1*k8) (fun k8 z8=>[El 25 928 z8.1,Ej 26 k8]) (fun k8 z8=>[Mi 928 z8.1 z8.2]) rfl <|fun k8 z8 hk8 hz8 hJ8=>Tri.seq <|Xs [Eb 270 (decide ((((k8:Nat):Int):Int)<64))] [] 992 (v3 pT) <|Xb (fun h9 h9'=>?_) (fun h9 h9'=>?_)
 exact Tri.skip <|Tri.seq <|Tri.block <|Wu [Ej 275 (8*k8),Ej 277 ((8*k8)/64),Ej 283 (8*k8),Ej 285 ((8*k8) % 64),Ej 286 (56-((8*k8) % 64))] (some [0,0,2,0,14,30,62,0,128,0,512,0,3584,8064,16382,32766,65534,131071,262143]) [El 25 1264 (z8.1+1)] [270,25] [Mi 1264 (z8.1+1) (z8.2++([(IntKind.wrap .u8 (aH .u64 ((itr (kG p0) ((((itr (bL) ((239-p0.length % 128) % 128) (p0.length+1,p0++[128])).1)+16)/128) (itr (jH) 8 [7640891576956012808,13503953896175478587,4354685564936845355,11912009170470909681,5840696475078001361,11170449401992604703,2270897969802886507,6620516959819538809])).getD ((8*k8)/64) 0) ((56-((8*k8) % 64):Nat):Int)))]))] [928] 1296 (v2 (pv pT (Yt 8 k8) (v1 (pv (Yn 64) (pl (cZ (a:=8*k8) (b:=64) (by omega))) (pu (Yj ((8*k8)/64) 8) (pu (Yl ((8*k8)/64) 8) (v3 (pv pT (Yt 8 k8) (v1 (pv (Yn 64) (pl (dQ (a:=8*k8) (b:=64))) (pv pT (pl (cu (a:=56) (b:=(8*k8) % 64) (by omega) (by omega))) (pu (Y0 ((56-((8*k8) % 64):Nat):Int)) (v1 (pu (Yf 1) (pu (Ya (Yw 1) 1 (z8.1+1) 1 1 z8.1 z8.1) (v1 pT)))))))))))))))) <|Wu [Ej 272 (k8+1)] none [Ej 26 (k8+1)] [26] [] [] 1344 (v1 (pv pT (Yp k8 1) (v1 pT))) <|Xo [(928,1264)] (show z8.1+1=1*(k8+1) by omega)
 refine Tri.exit <|?_
 obtain rfl:k8=64:=(by omega);subst hz8
 exact Xt [El 4 928 ((itr (dW p0) 64 (0,([]:List Int))).1)] [270,25,26,12,1] [] [688] 1024 (v2 pT) <|Xy (r':=⟨.sc (.sl 0 0 ((itr (dW p0) 64 (0,([]:List Int))).1) 1 none),[some (.ints .u8 ((itr (dW p0) 64 (0,([]:List Int))).1) ((itr (dW p0) 64 (0,([]:List Int))).2))]⟩) [(928,0)] pz (by simp only [bc,Cl,aB,aA])
theorem kV (p0:List Int):(bc p0).length=64:=by
 have h0:∀ (k:Nat) (z:Nat × List Int),z.2.length=z.1→(itr (dW p0) k z).2.length=(itr (dW p0) k z).1:=by
  intro k z hz
  induction k with
  |zero=>rw [aX];exact hz
  |succ k ih=>rw [aQ];show ((itr (dW p0) k z).2++[_]).length=(itr (dW p0) k z).1+1;rw [List.length_append,ih];rfl
 unfold bc
 rw [h0 64 _ rfl,Cl]
def jR (p1:Int) (k0:Nat) (z0:Nat × List Int):Nat × List Int :=
 (z0.1+1,z0.2++[(IntKind.wrap .u8 (aH .u64 p1 ((8*(8-1-k0):Nat):Int)))])
def BQ (p0:ByteArray) (p1:Int):List Int :=
 (yp (aC ((itr (jR p1) 8 (p0.size,aD p0)).2) ((itr (jR p1) 8 (p0.size,aD p0)).1) 0 ((itr (jR p1) 8 (p0.size,aD p0)).1)))
def RS:List AV→List Blk→Option (Prop × Ret)
 |[.sc (.s p0),.sc (.i .u64 p1)],[]=>some ((p0.size≤100000),⟨.ints .u8 32 (BQ p0 p1),[]⟩)
 |_,_=>none
theorem SZ:Known Tryz.prog gD 62 ⟨0,0,RS⟩:=by
 refine Xw Tryz.f62 23 (Zc OH 144 [.ro .u8] [48] [] <|Zn) mixed <|fun E args ks C r h hC hlen=>?_
 simp only at h
 unfold RS at h
 split at h
 rotate_left
 cases h
 rename_i p0 p1
 cases h
 simp only [am] at hlen
 refine ⟨rfl,?_⟩
 refine Xt [Ep 4 16] [] [Mi 16 32 [0,0,0,0,0,0,0,0,0,0,0,0,0,0,0,0,0,0,0,0,0,0,0,0,0,0,0,0,0,0,0,0]] [] 32 (v1 pT) <|Xt [El 5 48 p0.size] [0] [Mi 48 p0.size (aD p0)] [] 80 (v3 pT) <|Tri.seq <|Xs [Ei 6 7] [] 96 (v1 pT) <|Tri.block <|Xc 8 (jR p1) (p0.size,aD p0) (fun k0 z0=>z0.1=p0.size+1*k0) (fun k0 z0=>[Ei 6 (((8:Nat):Int)-1-((k0:Nat):Int)),El 5 48 z0.1]) (fun k0 z0=>[Mi 48 z0.1 z0.2]) (by simp) <|fun k0 z0 hk0 hz0 hJ0=>Tri.seq <|Xs [Eb 10 (decide (((((8:Nat):Int)-1-((k0:Nat):Int)):Int) ≥ 0))] [] 128 (v2 pT) <|Xb (fun h1 h1'=>?_) (fun h1 h1'=>?_)
 refine Tri.skip <|Tri.seq <|Tri.block <|Wu [Ej 16 (8*(8-1-k0))] none [El 5 240 (z0.1+1)] [10,5] [Mi 240 (z0.1+1) (z0.2++[(IntKind.wrap .u8 (aH .u64 p1 ((8*(8-1-k0):Nat):Int)))])] [48] 272 (v3 (pv pT (pl (show (bE .i64 8 (((8:Nat):Int)-1-((k0:Nat):Int)))=((8*(8-1-k0):Nat):Int) from by rw [iB (by omega)];exact pc (a:=8) (b:=8-1-k0) (by omega))) (pu (Y0 ((8*(8-1-k0):Nat):Int)) (v1 (pu (Yf 1) (pu (Ya (Yw 1) 1 (z0.1+1) 1 1 z0.1 z0.1) (v1 pT))))))) ?_
 exact Wu [Ei 12 (((8:Nat):Int)-1-((k0+1:Nat):Int))] none [Ei 6 (((8:Nat):Int)-1-((k0+1:Nat):Int))] [6] [] [] 320 (v1 (pv pT (pl (show (aZ .i64 (((8:Nat):Int)-1-((k0:Nat):Int)) 1)=(((8:Nat):Int)-1-((k0+1:Nat):Int)) from iq (by omega) (by omega))) (v1 pT))) <|Xo [(48,240)] (show z0.1+1=p0.size+1*(k0+1) by omega)
 refine Tri.exit <|?_
 obtain rfl:k0=8:=(by omega);subst hz0
 exact Tri.len 48 rfl <|fun hl2=>Xt [] [10,6,5,1] [Mi 16 32 (yp (aC ((itr (jR p1) 8 (p0.size,aD p0)).2) ((itr (jR p1) 8 (p0.size,aD p0)).1) 0 ((itr (jR p1) 8 (p0.size,aD p0)).1)))] [48,16] 176 (v1 (pu (pa (pa (Yw ((itr (jR p1) 8 (p0.size,aD p0)).1)) pT) (Ye ((aC ((itr (jR p1) 8 (p0.size,aD p0)).2) ((itr (jR p1) 8 (p0.size,aD p0)).1) 0 ((itr (jR p1) 8 (p0.size,aD p0)).1)).length) 100000000)) (pu (Yz 32) pT))) <|Xz [] pz
def iA (p1:Int) (k0:Nat) (z0:Nat × List Int):Nat × List Int :=
 (z0.1+1,z0.2++[(IntKind.wrap .u8 (aH .u64 p1 ((56-(8*k0):Nat):Int)))])
def xq (p0:ByteArray) (p1:Int):List Int :=
 (is (aC ((itr (iA p1) 8 (p0.size,aD p0)).2) ((itr (iA p1) 8 (p0.size,aD p0)).1) 0 ((itr (iA p1) 8 (p0.size,aD p0)).1)))
def QM:List AV→List Blk→Option (Prop × Ret)
 |[.sc (.s p0),.sc (.i .u64 p1)],[]=>some ((p0.size≤100000),⟨.sc (.sl 0 0 32 1 none),[some (.ints .u8 32 (xq p0 p1))]⟩)
 |_,_=>none
theorem Rw:Known Tryz.prog gD 19 ⟨0,1,QM⟩:=by
 refine Xw Tryz.f19 24 (Zc DQ 144 [.ro .u8,.val] [48] [] <|Zn) mixed <|fun E args ks C r h hC hlen=>?_
 simp only at h
 unfold QM at h
 split at h
 rotate_left
 cases h
 rename_i p0 p1
 cases h
 simp only [am] at hlen
 refine ⟨rfl,?_⟩
 refine Xs [] [] 32 (v1 pT) <|Xt [El 5 48 p0.size] [0] [Mi 48 p0.size (aD p0)] [] 80 (v3 pT) <|Tri.seq <|Xs [Ei 6 0] [] 96 (v1 pT) <|Tri.block <|Xc 8 (iA p1) (p0.size,aD p0) (fun k0 z0=>z0.1=p0.size+1*k0) (fun k0 z0=>[Ej 6 k0,El 5 48 z0.1]) (fun k0 z0=>[Mi 48 z0.1 z0.2]) (by simp) <|fun k0 z0 hk0 hz0 hJ0=>Tri.seq <|Xs [Eb 10 (decide ((((k0:Nat):Int):Int)<8))] [] 128 (v2 pT) <|Xb (fun h1 h1'=>?_) (fun h1 h1'=>?_)
 exact Tri.skip <|Tri.seq <|Tri.block <|Wu [Ej 16 (8*k0),Ej 17 (56-(8*k0))] none [El 5 256 (z0.1+1)] [10,5] [Mi 256 (z0.1+1) (z0.2++[(IntKind.wrap .u8 (aH .u64 p1 ((56-(8*k0):Nat):Int)))])] [48] 288 (v3 (pv pT (Yt 8 k0) (pv pT (pl (cu (a:=56) (b:=8*k0) (by omega) (by omega))) (pu (Y0 ((56-(8*k0):Nat):Int)) (v1 (pu (Yf 1) (pu (Ya (Yw 1) 1 (z0.1+1) 1 1 z0.1 z0.1) (v1 pT)))))))) <|Wu [Ej 12 (k0+1)] none [Ej 6 (k0+1)] [6] [] [] 336 (v1 (pv pT (Yp k0 1) (v1 pT))) <|Xo [(48,256)] (show z0.1+1=p0.size+1*(k0+1) by omega)
 refine Tri.exit <|?_
 obtain rfl:k0=8:=(by omega);subst hz0
 exact Tri.len 48 rfl <|fun hl2=>Xt [El 4 144 32] [10,6,5,1] [Mi 144 32 (is (aC ((itr (iA p1) 8 (p0.size,aD p0)).2) ((itr (iA p1) 8 (p0.size,aD p0)).1) 0 ((itr (iA p1) 8 (p0.size,aD p0)).1)))] [48] 176 (v1 (pu (pa (pa (Yw ((itr (iA p1) 8 (p0.size,aD p0)).1)) pT) (pa (Yr (32:Int)) (Ye ((aC ((itr (iA p1) 8 (p0.size,aD p0)).2) ((itr (iA p1) 8 (p0.size,aD p0)).1) 0 ((itr (iA p1) 8 (p0.size,aD p0)).1)).length) 100000000))) (v1 pT))) <|Xz [(144,0)] pz
end Go.Vm
namespace Go.Vm
open Go Go.Proofs
def vv (p0:Int) (p1:Int):List Int :=
 (F20 (F30 p0) (F25 (F30 p1)))
def QF:List AV→List Blk→Option (Prop × Ret)
 |[.sc (.i .u32 p0),.sc (.i .u32 p1)],[]=>some (True,⟨.ints .u64 5 (vv p0 p1),[]⟩)
 |_,_=>none
theorem PZ:Known Tryz.prog gD 104 ⟨0,0,QF⟩:=by
 refine Xw Tryz.f104 11 (Zv K30 48 1 <|Zv K30 80 1 <|Zv K25 96 1 <|Zv K20 112 2 <|Zn) mixed <|fun E args ks C r h hC hlen=>?_
 simp only at h
 unfold QF at h
 split at h
 rotate_left
 cases h
 rename_i p0 p1
 cases h
 simp only [am] at hlen
 refine ⟨rfl,?_⟩
 exact Xt [Ep 4 16] [] [Mk 16 .u64 5 [0,0,0,0,0]] [] 32 (v1 pT) <|Xt [] [0,1] [Mk 16 .u64 5 (F20 (F30 p0) (F25 (F30 p1)))] [16] 144 (v1 (pu pz (v1 (pu pz (pu pz (pu pz (pu (Yz 5) pT))))))) <|Xz [] pz
def cG:List Int :=
 (F18 (F30 0) (vv 121665 121666))
def RP:List AV→List Blk→Option (Prop × Ret)
 |[],[]=>some (True,⟨.ints .u64 5 (cG),[]⟩)
 |_,_=>none
theorem Rb:Known Tryz.prog gD 107 ⟨0,0,RP⟩:=by
 refine Xw Tryz.f107 4 (Zv PZ 48 2 <|Zv K30 32 1 <|Zv K18 64 2 <|Zn) mixed <|fun E args ks C r h hC hlen=>?_
 simp only at h
 unfold RP at h
 split at h
 rotate_left
 cases h
 cases h
 simp only [am] at hlen
 refine ⟨rfl,?_⟩
 exact Xt [Ep 0 16] [] [Mk 16 .u64 5 [0,0,0,0,0]] [] 32 (v1 pT) <|Xt [] [] [Mk 16 .u64 5 (F18 (F30 0) (vv 121665 121666))] [16] 96 (pu pz (pu pz (pu pz (pu (Yz 5) pT)))) <|Xz [] pz
def rh (p0:List Int):List Int :=
 (sel (!(mn p0)) [0,0,0,0,0,0,0,0,0,0,0,0,0,0,0,0,0,0,0,0] (sel (((iOr .u8 ((F33 (F23 p0)).getD 31 0) (aG .u8 (p0.getD 31 0) 128)):Int) != p0.getD 31 0) [0,0,0,0,0,0,0,0,0,0,0,0,0,0,0,0,0,0,0,0] (sel (!(aR (bytesOf (((F33 (F23 p0)).drop 0).take 31)) (bytesOf ((p0.drop 0).take 31)))) [0,0,0,0,0,0,0,0,0,0,0,0,0,0,0,0,0,0,0,0] (sel (!(ut (F20 (F18 (F20 (F23 p0) (F23 p0)) (F30 1)) (F25 (F16 (F20 (F20 (F23 p0) (F23 p0)) (cG)) (F30 1)))))) [0,0,0,0,0,0,0,0,0,0,0,0,0,0,0,0,0,0,0,0] (sel (F29 (F34 (F20 (F18 (F20 (F23 p0) (F23 p0)) (F30 1)) (F25 (F16 (F20 (F20 (F23 p0) (F23 p0)) (cG)) (F30 1))))) (F30 0)) (sel (decide ((p0.getD 31 0:Int) ≥ 128)) [0,0,0,0,0,0,0,0,0,0,0,0,0,0,0,0,0,0,0,0] (aT (aT (aT (aT [0,0,0,0,0,0,0,0,0,0,0,0,0,0,0,0,0,0,0,0] 0 (sel (!((F32 (F34 (F20 (F18 (F20 (F23 p0) (F23 p0)) (F30 1)) (F25 (F16 (F20 (F20 (F23 p0) (F23 p0)) (cG)) (F30 1))))))==(decide ((p0.getD 31 0:Int) ≥ 128)))) (F18 (F30 0) (F34 (F20 (F18 (F20 (F23 p0) (F23 p0)) (F30 1)) (F25 (F16 (F20 (F20 (F23 p0) (F23 p0)) (cG)) (F30 1)))))) (F34 (F20 (F18 (F20 (F23 p0) (F23 p0)) (F30 1)) (F25 (F16 (F20 (F20 (F23 p0) (F23 p0)) (cG)) (F30 1))))))) 5 (F23 p0)) 10 (F30 1)) 15 (F20 (sel (!((F32 (F34 (F20 (F18 (F20 (F23 p0) (F23 p0)) (F30 1)) (F25 (F16 (F20 (F20 (F23 p0) (F23 p0)) (cG)) (F30 1))))))==(decide ((p0.getD 31 0:Int) ≥ 128)))) (F18 (F30 0) (F34 (F20 (F18 (F20 (F23 p0) (F23 p0)) (F30 1)) (F25 (F16 (F20 (F20 (F23 p0) (F23 p0)) (cG)) (F30 1)))))) (F34 (F20 (F18 (F20 (F23 p0) (F23 p0)) (F30 1)) (F25 (F16 (F20 (F20 (F23 p0) (F23 p0)) (cG)) (F30 1)))))) (F23 p0)))) (aT (aT (aT (aT [0,0,0,0,0,0,0,0,0,0,0,0,0,0,0,0,0,0,0,0] 0 (sel (!((F32 (F34 (F20 (F18 (F20 (F23 p0) (F23 p0)) (F30 1)) (F25 (F16 (F20 (F20 (F23 p0) (F23 p0)) (cG)) (F30 1))))))==(decide ((p0.getD 31 0:Int) ≥ 128)))) (F18 (F30 0) (F34 (F20 (F18 (F20 (F23 p0) (F23 p0)) (F30 1)) (F25 (F16 (F20 (F20 (F23 p0) (F23 p0)) (cG)) (F30 1)))))) (F34 (F20 (F18 (F20 (F23 p0) (F23 p0)) (F30 1)) (F25 (F16 (F20 (F20 (F23 p0) (F23 p0)) (cG)) (F30 1))))))) 5 (F23 p0)) 10 (F30 1)) 15 (F20 (sel (!((F32 (F34 (F20 (F18 (F20 (F23 p0) (F23 p0)) (F30 1)) (F25 (F16 (F20 (F20 (F23 p0) (F23 p0)) (cG)) (F30 1))))))==(decide ((p0.getD 31 0:Int) ≥ 128)))) (F18 (F30 0) (F34 (F20 (F18 (F20 (F23 p0) (F23 p0)) (F30 1)) (F25 (F16 (F20 (F20 (F23 p0) (F23 p0)) (cG)) (F30 1)))))) (F34 (F20 (F18 (F20 (F23 p0) (F23 p0)) (F30 1)) (F25 (F16 (F20 (F20 (F23 p0) (F23 p0)) (cG)) (F30 1)))))) (F23 p0))))))))
def lA (p0:List Int):Bool :=
 (sel (!(mn p0)) false (sel (((iOr .u8 ((F33 (F23 p0)).getD 31 0) (aG .u8 (p0.getD 31 0) 128)):Int) != p0.getD 31 0) false (sel (!(aR (bytesOf (((F33 (F23 p0)).drop 0).take 31)) (bytesOf ((p0.drop 0).take 31)))) false (sel (!(ut (F20 (F18 (F20 (F23 p0) (F23 p0)) (F30 1)) (F25 (F16 (F20 (F20 (F23 p0) (F23 p0)) (cG)) (F30 1)))))) false (sel (F29 (F34 (F20 (F18 (F20 (F23 p0) (F23 p0)) (F30 1)) (F25 (F16 (F20 (F20 (F23 p0) (F23 p0)) (cG)) (F30 1))))) (F30 0)) (sel (decide ((p0.getD 31 0:Int) ≥ 128)) false true) true)))))
def Pp:List AV→List Blk→Option (Prop × Ret)
 |[.sc (.ro .u8 p0)],[]=>some (True,⟨.tup [.ints .u64 20 (rh p0),.sc (.b (lA p0))],[]⟩)
 |_,_=>none
def SN:KL Tryz.prog gD:=Zv K33 224 1 <|Zv Rb 720 0 <|Zv K16 768 2 <|Zv K30 672 1 <|Zv K30 752 1 <|Zv K30 1072 1 <|Zv K30 1232 1 <|Zv K30 1328 1 <|Zv K25 784 1 <|Zv K20 608 2 <|Zv K20 736 2 <|Zv K20 800 2 <|Zv K20 1376 2 <|Zv K32 1184 1 <|Zc K23 64 [.ro .u8] [] [] <|Zv K18 688 2 <|Zv K18 1264 2 <|Zv K34 816 1 <|Zv K29 1088 2 <|Zn
theorem SF:Known Tryz.prog gD 106 ⟨0,0,Pp⟩:=by
 refine Xw Tryz.f106 87 SN mixed <|fun E args ks C r h hC hlen=>?_
 simp only at h
 unfold Pp at h
 split at h
 rotate_left
 cases h
 rename_i p0
 cases h
 simp only [am] at hlen
 refine ⟨rfl,?_⟩
 refine Xt [Ep 2 16] [] [Mk 16 .u64 20 [0,0,0,0,0,0,0,0,0,0,0,0,0,0,0,0,0,0,0,0]] [] 48 (v2 pT) <|Xt [Eb 5 (mn p0),Ep 4 128] [] [Mk 128 .u64 5 (F23 p0)] [] 176 (v1 (pu (pa pz pT) (v4 (pu (Yz 5) (v1 pT))))) <|Tri.seq <|Xs [Eb 17 (!(mn p0))] [5] 208 (v2 pT) <|Xa (fun h1=>?_) (fun h1=>?_)
 exact Xt [Eb 3 false] [17,4,0] [] [128] 256 (v1 (pu (Yz 20) (v1 pT))) <|Xy [] (pa pT pz) (by simp only [rh,lA,h1,aB,aA] <;> rfl)
 refine Tri.skip <|Xt [Ep 6 240] [17] [Mi 240 32 (F33 (F23 p0))] [] 272 (v1 (pu pz (v1 (pu (Yz 32) pT)))) <|Tri.seq <|Tri.split (((iOr .u8 ((F33 (F23 p0)).getD 31 0) (aG .u8 (p0.getD 31 0) 128)):Int) != p0.getD 31 0) (fun h2=>?_) (fun h2=>?_)
 have h2':=bO h2
 refine Xu [Eb 32 true] (some [0,1,0,4,12,28,63,0,128,384,1023,2047,4095,8191,4095,20479,53247,131071,262143]) [Eb 39 true] [6] [] [240] 576 (pu (Yi 31 32) (pu (Yl 31 32) (v1 (pu (pl (show (0:Int)≤31∧31<(p0.length:Int) from by (have hl:=lJ (p0:=p0) (by assumption);omega))) (pu (pl (show 31<p0.length from by (have hl:=lJ (p0:=p0) (by assumption);omega))) (v3 (pu (pl (show (0:Int)≤31∧31<(p0.length:Int) from by (have hl:=lJ (p0:=p0) (by assumption);omega))) (pu (pl (show 31<p0.length from by (have hl:=lJ (p0:=p0) (by assumption);omega))) (v1 (pg h2 (v7 pT))))))))))) ?_
 exact Tri.cond_true (by kernel_rfl) <|Xt [Eb 3 false] [39,4,0] [] [128] 624 (v1 (pu (Yz 20) (v1 pT))) <|Xy [] (pa pT pz) (by simp only [rh,lA,h1,h2,aB,aA] <;> rfl)
 have h2':=ak h2
 refine Xu [Eb 32 false] (some [0,1,0,4,12,28,63,0,128,384,1023,2047,4095,8191,4095,20479,53247,131071,262143]) [Eb 39 (!(aR (bytesOf (((F33 (F23 p0)).drop 0).take 31)) (bytesOf ((p0.drop 0).take 31))))] [6] [] [240] 576 (pu (Yi 31 32) (pu (Yl 31 32) (v1 (pu (pl (show (0:Int)≤31∧31<(p0.length:Int) from by (have hl:=lJ (p0:=p0) (by assumption);omega))) (pu (pl (show 31<p0.length from by (have hl:=lJ (p0:=p0) (by assumption);omega))) (v3 (pu (pl (show (0:Int)≤31∧31<(p0.length:Int) from by (have hl:=lJ (p0:=p0) (by assumption);omega))) (pu (pl (show 31<p0.length from by (have hl:=lJ (p0:=p0) (by assumption);omega))) (v1 (pg h2 (pu (pa (lo ((0:Int)≤0∧(0:Int)≤31∧31≤((32:Nat):Int))) (Ye 32 32)) (pu (Ye (0+31) 32) (v1 (pu (pl (show (0:Int)≤0∧(0:Int)≤31∧31≤(p0.length:Int) from by (have hl:=lJ (p0:=p0) (by assumption);omega))) (v3 pT))))))))))))))) ?_
 refine Xa (fun h3=>?_) (fun h3=>?_)
 exact Xt [Eb 3 false] [39,4,0] [] [128] 624 (v1 (pu (Yz 20) (v1 pT))) <|Xy [] (pa pT pz) (by simp only [rh,lA,h1,h2,h3,aB,aA] <;> rfl)
 refine Tri.skip <|Xt [Ep 7 624] [39] [Mk 624 .u64 5 (F20 (F23 p0) (F23 p0))] [] 656 (v2 (pu pz (v1 (pu (Yz 5) pT)))) <|Xu [] (some [0,0,3,0,7,31,63,127,255,511,1023,2047,4095,4095,0,24575,65535]) [Eb 9 (ut (F20 (F18 (F20 (F23 p0) (F23 p0)) (F30 1)) (F25 (F16 (F20 (F20 (F23 p0) (F23 p0)) (cG)) (F30 1))))),Ep 8 880] [7] [Mk 880 .u64 5 (F34 (F20 (F18 (F20 (F23 p0) (F23 p0)) (F30 1)) (F25 (F16 (F20 (F20 (F23 p0) (F23 p0)) (cG)) (F30 1)))))] [624] 928 (v1 (pu pz (pu pz (v1 (pu pz (pu pz (pu pz (pu pz (pu pz (pu pz (pu pz (v4 (pu (Yz 5) (v1 pT)))))))))))))) <|Xs [Eb 10 (decide ((p0.getD 31 0:Int) ≥ 128))] [0] 1008 (v1 (pu (pl (show (0:Int)≤31∧31<(p0.length:Int) from by (have hl:=lJ (p0:=p0) (by assumption);omega))) (pu (pl (show 31<p0.length from by (have hl:=lJ (p0:=p0) (by assumption);omega))) (v2 pT)))) ?_
 refine Tri.seq <|Tri.split (!(ut (F20 (F18 (F20 (F23 p0) (F23 p0)) (F30 1)) (F25 (F16 (F20 (F20 (F23 p0) (F23 p0)) (cG)) (F30 1)))))) (fun h4=>?_) (fun h4=>?_)
 exact Xu [Eb 64 true] (some [0,1,3,7,7,31,63,127,255,511]) [Eb 71 true] [9] [] [] 1168 (v2 (pg h4 (v7 pT))) <|Tri.cond_true (by kernel_rfl) <|Xt [Eb 3 false] [71,10,8,4] [] [880,128] 1216 (v1 (pu (Yz 20) (v1 pT))) <|Xy [] (pa pT pz) (by simp only [rh,lA,h1,h2,h3,h4,aB,aA] <;> rfl)
 refine Tri.split (F29 (F34 (F20 (F18 (F20 (F23 p0) (F23 p0)) (F30 1)) (F25 (F16 (F20 (F20 (F23 p0) (F23 p0)) (cG)) (F30 1))))) (F30 0)) (fun h5=>?_) (fun h5=>?_)
 refine Xu [Eb 64 false,Eb 68 true] (some [0,1,3,7,7,31,63,127,255,511]) [Eb 71 (decide ((p0.getD 31 0:Int) ≥ 128))] [9] [] [] 1168 (v2 (pg h4 (v1 (pu pz (pu pz (pg h5 (v3 pT))))))) <|Xb (fun h6 h6'=>?_) (fun h6 h6'=>?_)
 exact Xt [Eb 3 false] [71,10,8,4] [] [880,128] 1216 (v1 (pu (Yz 20) (v1 pT))) <|Xy [] (pa pT pz) (by simp only [rh,lA,h1,h2,h3,h4,h5,h6,aB,aA] <;> rfl)
 refine Tri.skip <|Tri.seq <|Xs [Eb 76 (!((F32 (F34 (F20 (F18 (F20 (F23 p0) (F23 p0)) (F30 1)) (F25 (F16 (F20 (F20 (F23 p0) (F23 p0)) (cG)) (F30 1))))))==(decide ((p0.getD 31 0:Int) ≥ 128))))] [71,10] 1232 (v1 (pu pz (v2 pT))) <|Xj (x:=(!((F32 (F34 (F20 (F18 (F20 (F23 p0) (F23 p0)) (F30 1)) (F25 (F16 (F20 (F20 (F23 p0) (F23 p0)) (cG)) (F30 1))))))==(decide ((p0.getD 31 0:Int) ≥ 128))))) (fun bb=>[]) [76] (fun bb=>[Mk 880 .u64 5 (sel bb (F18 (F30 0) (F34 (F20 (F18 (F20 (F23 p0) (F23 p0)) (F30 1)) (F25 (F16 (F20 (F20 (F23 p0) (F23 p0)) (cG)) (F30 1)))))) (F34 (F20 (F18 (F20 (F23 p0) (F23 p0)) (F30 1)) (F25 (F16 (F20 (F20 (F23 p0) (F23 p0)) (cG)) (F30 1))))))]) [880] 1296 (fun h7=>?_) (fun h7=>?_) ?_
 exact Wu [] (some [0,0,3,7]) [] [76] [Mk 880 .u64 5 (F18 (F30 0) (F34 (F20 (F18 (F20 (F23 p0) (F23 p0)) (F30 1)) (F25 (F16 (F20 (F20 (F23 p0) (F23 p0)) (cG)) (F30 1))))))] [880] 1296 (pu pz (v1 (pu pz (pu (Yz 5) pT)))) <|Xe [] [Mk 880 .u64 5 (F18 (F30 0) (F34 (F20 (F18 (F20 (F23 p0) (F23 p0)) (F30 1)) (F25 (F16 (F20 (F20 (F23 p0) (F23 p0)) (cG)) (F30 1))))))]
 exact Tri.skip <|Xe [] [Mk 880 .u64 5 (F34 (F20 (F18 (F20 (F23 p0) (F23 p0)) (F30 1)) (F25 (F16 (F20 (F20 (F23 p0) (F23 p0)) (cG)) (F30 1)))))]
 exact Xu [] (some [0,0,0,0,0,28,63,127,255]) [Eb 3 true] [8,4] [Mk 16 .u64 20 (aT (aT (aT (aT [0,0,0,0,0,0,0,0,0,0,0,0,0,0,0,0,0,0,0,0] 0 (sel (!((F32 (F34 (F20 (F18 (F20 (F23 p0) (F23 p0)) (F30 1)) (F25 (F16 (F20 (F20 (F23 p0) (F23 p0)) (cG)) (F30 1))))))==(decide ((p0.getD 31 0:Int) ≥ 128)))) (F18 (F30 0) (F34 (F20 (F18 (F20 (F23 p0) (F23 p0)) (F30 1)) (F25 (F16 (F20 (F20 (F23 p0) (F23 p0)) (cG)) (F30 1)))))) (F34 (F20 (F18 (F20 (F23 p0) (F23 p0)) (F30 1)) (F25 (F16 (F20 (F20 (F23 p0) (F23 p0)) (cG)) (F30 1))))))) 5 (F23 p0)) 10 (F30 1)) 15 (F20 (sel (!((F32 (F34 (F20 (F18 (F20 (F23 p0) (F23 p0)) (F30 1)) (F25 (F16 (F20 (F20 (F23 p0) (F23 p0)) (cG)) (F30 1))))))==(decide ((p0.getD 31 0:Int) ≥ 128)))) (F18 (F30 0) (F34 (F20 (F18 (F20 (F23 p0) (F23 p0)) (F30 1)) (F25 (F16 (F20 (F20 (F23 p0) (F23 p0)) (cG)) (F30 1)))))) (F34 (F20 (F18 (F20 (F23 p0) (F23 p0)) (F30 1)) (F25 (F16 (F20 (F20 (F23 p0) (F23 p0)) (cG)) (F30 1)))))) (F23 p0)))] [880,128,16] 1440 (v2 (pu pz (v2 (pu pz (pu (pa (pa (Ye (0+5) 20) (Yr 5)) (pa (pa (Ye (5+5) 20) (Yr 5)) (pa (pa (Ye (10+5) 20) (Yr 5)) (pa (pa (Ye (15+5) 20) (Yr 5)) pT)))) (pu (Yz 20) (v1 pT))))))) <|Xy (r':=⟨.tup [.ints .u64 20 (aT (aT (aT (aT [0,0,0,0,0,0,0,0,0,0,0,0,0,0,0,0,0,0,0,0] 0 (sel (!((F32 (F34 (F20 (F18 (F20 (F23 p0) (F23 p0)) (F30 1)) (F25 (F16 (F20 (F20 (F23 p0) (F23 p0)) (cG)) (F30 1))))))==(decide ((p0.getD 31 0:Int) ≥ 128)))) (F18 (F30 0) (F34 (F20 (F18 (F20 (F23 p0) (F23 p0)) (F30 1)) (F25 (F16 (F20 (F20 (F23 p0) (F23 p0)) (cG)) (F30 1)))))) (F34 (F20 (F18 (F20 (F23 p0) (F23 p0)) (F30 1)) (F25 (F16 (F20 (F20 (F23 p0) (F23 p0)) (cG)) (F30 1))))))) 5 (F23 p0)) 10 (F30 1)) 15 (F20 (sel (!((F32 (F34 (F20 (F18 (F20 (F23 p0) (F23 p0)) (F30 1)) (F25 (F16 (F20 (F20 (F23 p0) (F23 p0)) (cG)) (F30 1))))))==(decide ((p0.getD 31 0:Int) ≥ 128)))) (F18 (F30 0) (F34 (F20 (F18 (F20 (F23 p0) (F23 p0)) (F30 1)) (F25 (F16 (F20 (F20 (F23 p0) (F23 p0)) (cG)) (F30 1)))))) (F34 (F20 (F18 (F20 (F23 p0) (F23 p0)) (F30 1)) (F25 (F16 (F20 (F20 (F23 p0) (F23 p0)) (cG)) (F30 1)))))) (F23 p0))),.sc (.b true)],[]⟩) [] (pa pT pz) (by simp only [rh,lA,h1,h2,h3,h4,h5,h6,aB,aA])
 refine Xu [Eb 64 false,Eb 68 false] (some [0,1,3,7,7,31,63,127,255,511]) [Eb 71 false] [9] [] [] 1168 (v2 (pg h4 (v1 (pu pz (pu pz (pg h5 (v3 pT))))))) <|Tri.cond_false (by kernel_rfl) <|Tri.skip <|Tri.seq <|Xs [Eb 76 (!((F32 (F34 (F20 (F18 (F20 (F23 p0) (F23 p0)) (F30 1)) (F25 (F16 (F20 (F20 (F23 p0) (F23 p0)) (cG)) (F30 1))))))==(decide ((p0.getD 31 0:Int) ≥ 128))))] [71,10] 1232 (v1 (pu pz (v2 pT))) <|Xj (x:=(!((F32 (F34 (F20 (F18 (F20 (F23 p0) (F23 p0)) (F30 1)) (F25 (F16 (F20 (F20 (F23 p0) (F23 p0)) (cG)) (F30 1))))))==(decide ((p0.getD 31 0:Int) ≥ 128))))) (fun bb=>[]) [76] (fun bb=>[Mk 880 .u64 5 (sel bb (F18 (F30 0) (F34 (F20 (F18 (F20 (F23 p0) (F23 p0)) (F30 1)) (F25 (F16 (F20 (F20 (F23 p0) (F23 p0)) (cG)) (F30 1)))))) (F34 (F20 (F18 (F20 (F23 p0) (F23 p0)) (F30 1)) (F25 (F16 (F20 (F20 (F23 p0) (F23 p0)) (cG)) (F30 1))))))]) [880] 1296 (fun h8=>?_) (fun h8=>?_) ?_
 exact Wu [] (some [0,0,3,7]) [] [76] [Mk 880 .u64 5 (F18 (F30 0) (F34 (F20 (F18 (F20 (F23 p0) (F23 p0)) (F30 1)) (F25 (F16 (F20 (F20 (F23 p0) (F23 p0)) (cG)) (F30 1))))))] [880] 1296 (pu pz (v1 (pu pz (pu (Yz 5) pT)))) <|Xe [] [Mk 880 .u64 5 (F18 (F30 0) (F34 (F20 (F18 (F20 (F23 p0) (F23 p0)) (F30 1)) (F25 (F16 (F20 (F20 (F23 p0) (F23 p0)) (cG)) (F30 1))))))]
 exact Tri.skip <|Xe [] [Mk 880 .u64 5 (F34 (F20 (F18 (F20 (F23 p0) (F23 p0)) (F30 1)) (F25 (F16 (F20 (F20 (F23 p0) (F23 p0)) (cG)) (F30 1)))))]
 exact Xu [] (some [0,0,0,0,0,28,63,127,255]) [Eb 3 true] [8,4] [Mk 16 .u64 20 (aT (aT (aT (aT [0,0,0,0,0,0,0,0,0,0,0,0,0,0,0,0,0,0,0,0] 0 (sel (!((F32 (F34 (F20 (F18 (F20 (F23 p0) (F23 p0)) (F30 1)) (F25 (F16 (F20 (F20 (F23 p0) (F23 p0)) (cG)) (F30 1))))))==(decide ((p0.getD 31 0:Int) ≥ 128)))) (F18 (F30 0) (F34 (F20 (F18 (F20 (F23 p0) (F23 p0)) (F30 1)) (F25 (F16 (F20 (F20 (F23 p0) (F23 p0)) (cG)) (F30 1)))))) (F34 (F20 (F18 (F20 (F23 p0) (F23 p0)) (F30 1)) (F25 (F16 (F20 (F20 (F23 p0) (F23 p0)) (cG)) (F30 1))))))) 5 (F23 p0)) 10 (F30 1)) 15 (F20 (sel (!((F32 (F34 (F20 (F18 (F20 (F23 p0) (F23 p0)) (F30 1)) (F25 (F16 (F20 (F20 (F23 p0) (F23 p0)) (cG)) (F30 1))))))==(decide ((p0.getD 31 0:Int) ≥ 128)))) (F18 (F30 0) (F34 (F20 (F18 (F20 (F23 p0) (F23 p0)) (F30 1)) (F25 (F16 (F20 (F20 (F23 p0) (F23 p0)) (cG)) (F30 1)))))) (F34 (F20 (F18 (F20 (F23 p0) (F23 p0)) (F30 1)) (F25 (F16 (F20 (F20 (F23 p0) (F23 p0)) (cG)) (F30 1)))))) (F23 p0)))] [880,128,16] 1440 (v2 (pu pz (v2 (pu pz (pu (pa (pa (Ye (0+5) 20) (Yr 5)) (pa (pa (Ye (5+5) 20) (Yr 5)) (pa (pa (Ye (10+5) 20) (Yr 5)) (pa (pa (Ye (15+5) 20) (Yr 5)) pT)))) (pu (Yz 20) (v1 pT))))))) <|Xy [] (pa pT pz) (by simp only [rh,lA,h1,h2,h3,h4,h5,aB,aA] <;> rfl)
def kx (p0:List Int):List Int :=
 (sel (F32 (F20 ((p0.drop 0).take 5) (F25 ((p0.drop 10).take 5)))) ((F33 (F20 ((p0.drop 5).take 5) (F25 ((p0.drop 10).take 5)))).set 31 (iOr .u8 ((F33 (F20 ((p0.drop 5).take 5) (F25 ((p0.drop 10).take 5)))).getD 31 0) 128)) (F33 (F20 ((p0.drop 5).take 5) (F25 ((p0.drop 10).take 5)))))
def Qr:List AV→List Blk→Option (Prop × Ret)
 |[.ints .u64 20 p0],[]=>some (True,⟨.sc (.sl 0 0 32 1 (some 32)),[some (.ints .u8 32 (kx p0))]⟩)
 |_,_=>none
theorem RJ:Known Tryz.prog gD 78 ⟨0,1,Qr⟩:=by
 refine Xw Tryz.f78 23 (Zv K33 192 1 <|Zv K25 80 1 <|Zv K20 176 2 <|Zv K20 288 2 <|Zv K32 304 1 <|Zn) mixed <|fun E args ks C r h hC hlen=>?_
 simp only at h
 unfold Qr at h
 split at h
 rotate_left
 cases h
 rename_i p0
 cases h
 simp only [am] at hlen
 refine ⟨rfl,?_⟩
 refine Xt [Ep 1 16] [0] [Mk 16 .u64 20 p0] [] 48 (v2 pT) <|Xt [Ep 3 96] [] [Mk 96 .u64 5 (F25 ((p0.drop 10).take 5))] [] 128 (v1 (pu (Ye (10+5) 20) (pu pz (v1 (pu (Yz 5) pT))))) <|Xt [Ep 4 208] [] [Mi 208 32 (F33 (F20 ((p0.drop 5).take 5) (F25 ((p0.drop 10).take 5))))] [] 240 (v1 (pu (Ye (5+5) 20) (v1 (pu pz (pu pz (v1 (pu (Yz 32) pT))))))) <|Tri.seq <|Xt [Eb 17 (F32 (F20 ((p0.drop 0).take 5) (F25 ((p0.drop 10).take 5))))] [3,1] [] [96,16] 320 (v1 (pu (Ye (0+5) 20) (v1 (pu pz (pu pz pT))))) <|Xj (x:=(F32 (F20 ((p0.drop 0).take 5) (F25 ((p0.drop 10).take 5))))) (fun bb=>[]) [17] (fun bb=>[Mi 208 32 (sel bb ((F33 (F20 ((p0.drop 5).take 5) (F25 ((p0.drop 10).take 5)))).set 31 (iOr .u8 ((F33 (F20 ((p0.drop 5).take 5) (F25 ((p0.drop 10).take 5)))).getD 31 0) 128)) (F33 (F20 ((p0.drop 5).take 5) (F25 ((p0.drop 10).take 5)))))]) [208] 400 (fun h1=>?_) (fun h1=>?_) ?_
 exact Wt [] [17] [Mi 208 32 ((F33 (F20 ((p0.drop 5).take 5) (F25 ((p0.drop 10).take 5)))).set 31 (iOr .u8 ((F33 (F20 ((p0.drop 5).take 5) (F25 ((p0.drop 10).take 5)))).getD 31 0) 128))] [208] 400 (pu (Yi 31 32) (pu (Yl 31 32) (v1 (pu (Yi 31 32) (pu (Ys 31 32) pT))))) <|Xe [] [Mi 208 32 ((F33 (F20 ((p0.drop 5).take 5) (F25 ((p0.drop 10).take 5)))).set 31 (iOr .u8 ((F33 (F20 ((p0.drop 5).take 5) (F25 ((p0.drop 10).take 5)))).getD 31 0) 128))]
 exact Tri.skip <|Xe [] [Mi 208 32 (F33 (F20 ((p0.drop 5).take 5) (F25 ((p0.drop 10).take 5))))]
 exact Xs [(2,.sc (.sl 208 0 32 1 (some 32)))] [4] 432 (pu (pa (lo ((0:Int)≤0∧(0:Int)≤32∧32≤((32:Nat):Int))) (Ye 32 32)) (v1 pT)) <|Xz [(208,0)] pz
def pF (p0:List Int) (p1:List Int) (p2:List Int):List Int :=
 aT (aT (aT (aT [0,0,0,0,0,0,0,0,0,0,0,0,0,0,0,0,0,0,0,0] 0 (F20 (F18 (F20 (F16 ((p0.drop 5).take 5) ((p0.drop 0).take 5)) (F16 ((p1.drop 5).take 5) ((p1.drop 0).take 5))) (F20 (F18 ((p0.drop 5).take 5) ((p0.drop 0).take 5)) (F18 ((p1.drop 5).take 5) ((p1.drop 0).take 5)))) (F18 (F16 (F20 ((p0.drop 10).take 5) ((p1.drop 10).take 5)) (F20 ((p0.drop 10).take 5) ((p1.drop 10).take 5))) (F20 (F20 ((p0.drop 15).take 5) ((p1.drop 15).take 5)) p2)))) 5 (F20 (F16 (F16 (F20 ((p0.drop 10).take 5) ((p1.drop 10).take 5)) (F20 ((p0.drop 10).take 5) ((p1.drop 10).take 5))) (F20 (F20 ((p0.drop 15).take 5) ((p1.drop 15).take 5)) p2)) (F16 (F20 (F16 ((p0.drop 5).take 5) ((p0.drop 0).take 5)) (F16 ((p1.drop 5).take 5) ((p1.drop 0).take 5))) (F20 (F18 ((p0.drop 5).take 5) ((p0.drop 0).take 5)) (F18 ((p1.drop 5).take 5) ((p1.drop 0).take 5)))))) 10 (F20 (F18 (F16 (F20 ((p0.drop 10).take 5) ((p1.drop 10).take 5)) (F20 ((p0.drop 10).take 5) ((p1.drop 10).take 5))) (F20 (F20 ((p0.drop 15).take 5) ((p1.drop 15).take 5)) p2)) (F16 (F16 (F20 ((p0.drop 10).take 5) ((p1.drop 10).take 5)) (F20 ((p0.drop 10).take 5) ((p1.drop 10).take 5))) (F20 (F20 ((p0.drop 15).take 5) ((p1.drop 15).take 5)) p2)))) 15 (F20 (F18 (F20 (F16 ((p0.drop 5).take 5) ((p0.drop 0).take 5)) (F16 ((p1.drop 5).take 5) ((p1.drop 0).take 5))) (F20 (F18 ((p0.drop 5).take 5) ((p0.drop 0).take 5)) (F18 ((p1.drop 5).take 5) ((p1.drop 0).take 5)))) (F16 (F20 (F16 ((p0.drop 5).take 5) ((p0.drop 0).take 5)) (F16 ((p1.drop 5).take 5) ((p1.drop 0).take 5))) (F20 (F18 ((p0.drop 5).take 5) ((p0.drop 0).take 5)) (F18 ((p1.drop 5).take 5) ((p1.drop 0).take 5)))))
def Qn:List AV→List Blk→Option (Prop × Ret)
 |[.ints .u64 20 p0,.ints .u64 20 p1,.ints .u64 5 p2],[]=>some (True,⟨.ints .u64 20 (pF p0 p1 p2),[]⟩)
 |_,_=>none
def SH:KL Tryz.prog gD:=Zv K16 320 2 <|Zv K16 400 2 <|Zv K16 784 2 <|Zv K16 944 2 <|Zv K16 992 2 <|Zv K20 240 2 <|Zv K20 416 2 <|Zv K20 560 2 <|Zv K20 592 2 <|Zv K20 672 2 <|Zv K20 1168 2 <|Zv K20 1216 2 <|Zv K20 1264 2 <|Zv K20 1312 2 <|Zv K18 144 2 <|Zv K18 224 2 <|Zv K18 848 2 <|Zv K18 896 2 <|Zn
theorem Qi:Known Tryz.prog gD 110 ⟨0,0,Qn⟩:=by
 refine Xw Tryz.f110 77 SH mixed <|fun E args ks C r h hC hlen=>?_
 simp only at h
 unfold Qn at h
 split at h
 rotate_left
 cases h
 rename_i p0 p1 p2
 cases h
 simp only [am] at hlen
 refine ⟨rfl,?_⟩
 exact Xt [Ep 6 64,Ep 5 48,Ep 4 32,Ep 3 16] [0,1,2] [Mk 64 .u64 20 [0,0,0,0,0,0,0,0,0,0,0,0,0,0,0,0,0,0,0,0],Mk 48 .u64 5 p2,Mk 32 .u64 20 p1,Mk 16 .u64 20 p0] [] 80 (v4 pT) <|Xu [] (some [0,1,0,4,15,0,32,0,128,511,1023,0,2048,0,8192,32767,0,65536,0,262144,1048575,2097151,0,0,16777215,33554431]) [Ep 8 448,Ep 7 432] [] [Mk 448 .u64 5 (F20 (F16 ((p0.drop 5).take 5) ((p0.drop 0).take 5)) (F16 ((p1.drop 5).take 5) ((p1.drop 0).take 5))),Mk 432 .u64 5 (F20 (F18 ((p0.drop 5).take 5) ((p0.drop 0).take 5)) (F18 ((p1.drop 5).take 5) ((p1.drop 0).take 5)))] [] 496 (v1 (pu (Ye (5+5) 20) (v1 (pu (Ye (0+5) 20) (pu pz (v1 (pu (Ye (5+5) 20) (v1 (pu (Ye (0+5) 20) (pu pz (pu pz (v1 (pu (Ye (5+5) 20) (v1 (pu (Ye (0+5) 20) (pu pz (v1 (pu (Ye (5+5) 20) (v1 (pu (Ye (0+5) 20) (pu pz (pu pz (v2 (pu (Yz 5) (pu (Yz 5) pT))))))))))))))))))))))))) <|Xu [] (some [0,1,0,4,15,0,63,0,128,0,512,2047,0,0,16383,32767]) [Ep 10 704,Ep 9 688] [5,4,3] [Mk 704 .u64 5 (F20 ((p0.drop 10).take 5) ((p1.drop 10).take 5)),Mk 688 .u64 5 (F20 (F20 ((p0.drop 15).take 5) ((p1.drop 15).take 5)) p2)] [48,32,16] 752 (v1 (pu (Ye (15+5) 20) (v1 (pu (Ye (15+5) 20) (pu pz (v1 (pu pz (v1 (pu (Ye (10+5) 20) (v1 (pu (Ye (10+5) 20) (pu pz (v2 (pu (Yz 5) (pu (Yz 5) pT))))))))))))))) <|Xt [] [] [Mk 704 .u64 5 (F16 (F20 ((p0.drop 10).take 5) ((p1.drop 10).take 5)) (F20 ((p0.drop 10).take 5) ((p1.drop 10).take 5)))] [704] 816 (v2 (pu pz (pu (Yz 5) pT))) <|Xu [] (some [0,0,3,0,0,31,0,0,255,0,0,2047,0,0,0,0,65535,131071,262143,524287]) [Ep 14 1056,Ep 13 1040,Ep 12 1024,Ep 11 1008] [10,9,8,7] [Mk 1056 .u64 5 (F16 (F20 (F16 ((p0.drop 5).take 5) ((p0.drop 0).take 5)) (F16 ((p1.drop 5).take 5) ((p1.drop 0).take 5))) (F20 (F18 ((p0.drop 5).take 5) ((p0.drop 0).take 5)) (F18 ((p1.drop 5).take 5) ((p1.drop 0).take 5)))),Mk 1040 .u64 5 (F16 (F16 (F20 ((p0.drop 10).take 5) ((p1.drop 10).take 5)) (F20 ((p0.drop 10).take 5) ((p1.drop 10).take 5))) (F20 (F20 ((p0.drop 15).take 5) ((p1.drop 15).take 5)) p2)),Mk 1024 .u64 5 (F18 (F16 (F20 ((p0.drop 10).take 5) ((p1.drop 10).take 5)) (F20 ((p0.drop 10).take 5) ((p1.drop 10).take 5))) (F20 (F20 ((p0.drop 15).take 5) ((p1.drop 15).take 5)) p2)),Mk 1008 .u64 5 (F18 (F20 (F16 ((p0.drop 5).take 5) ((p0.drop 0).take 5)) (F16 ((p1.drop 5).take 5) ((p1.drop 0).take 5))) (F20 (F18 ((p0.drop 5).take 5) ((p0.drop 0).take 5)) (F18 ((p1.drop 5).take 5) ((p1.drop 0).take 5))))] [704,688,448,432] 1136 (v2 (pu pz (v2 (pu pz (v2 (pu pz (v2 (pu pz (v4 (pu (Yz 5) (pu (Yz 5) (pu (Yz 5) (pu (Yz 5) pT))))))))))))) <|Xu [] (some [0,0,3,0,0,31,0,0,255,0,0,2047,4095,8191]) [] [14,13,12,11] [Mk 64 .u64 20 (aT (aT (aT (aT [0,0,0,0,0,0,0,0,0,0,0,0,0,0,0,0,0,0,0,0] 0 (F20 (F18 (F20 (F16 ((p0.drop 5).take 5) ((p0.drop 0).take 5)) (F16 ((p1.drop 5).take 5) ((p1.drop 0).take 5))) (F20 (F18 ((p0.drop 5).take 5) ((p0.drop 0).take 5)) (F18 ((p1.drop 5).take 5) ((p1.drop 0).take 5)))) (F18 (F16 (F20 ((p0.drop 10).take 5) ((p1.drop 10).take 5)) (F20 ((p0.drop 10).take 5) ((p1.drop 10).take 5))) (F20 (F20 ((p0.drop 15).take 5) ((p1.drop 15).take 5)) p2)))) 5 (F20 (F16 (F16 (F20 ((p0.drop 10).take 5) ((p1.drop 10).take 5)) (F20 ((p0.drop 10).take 5) ((p1.drop 10).take 5))) (F20 (F20 ((p0.drop 15).take 5) ((p1.drop 15).take 5)) p2)) (F16 (F20 (F16 ((p0.drop 5).take 5) ((p0.drop 0).take 5)) (F16 ((p1.drop 5).take 5) ((p1.drop 0).take 5))) (F20 (F18 ((p0.drop 5).take 5) ((p0.drop 0).take 5)) (F18 ((p1.drop 5).take 5) ((p1.drop 0).take 5)))))) 10 (F20 (F18 (F16 (F20 ((p0.drop 10).take 5) ((p1.drop 10).take 5)) (F20 ((p0.drop 10).take 5) ((p1.drop 10).take 5))) (F20 (F20 ((p0.drop 15).take 5) ((p1.drop 15).take 5)) p2)) (F16 (F16 (F20 ((p0.drop 10).take 5) ((p1.drop 10).take 5)) (F20 ((p0.drop 10).take 5) ((p1.drop 10).take 5))) (F20 (F20 ((p0.drop 15).take 5) ((p1.drop 15).take 5)) p2)))) 15 (F20 (F18 (F20 (F16 ((p0.drop 5).take 5) ((p0.drop 0).take 5)) (F16 ((p1.drop 5).take 5) ((p1.drop 0).take 5))) (F20 (F18 ((p0.drop 5).take 5) ((p0.drop 0).take 5)) (F18 ((p1.drop 5).take 5) ((p1.drop 0).take 5)))) (F16 (F20 (F16 ((p0.drop 5).take 5) ((p0.drop 0).take 5)) (F16 ((p1.drop 5).take 5) ((p1.drop 0).take 5))) (F20 (F18 ((p0.drop 5).take 5) ((p0.drop 0).take 5)) (F18 ((p1.drop 5).take 5) ((p1.drop 0).take 5))))))] [1056,1040,1024,1008,64] 1360 (v2 (pu pz (v2 (pu pz (v2 (pu pz (v2 (pu pz (pu (pa (pa (Ye (0+5) 20) (Yr 5)) (pa (pa (Ye (5+5) 20) (Yr 5)) (pa (pa (Ye (10+5) 20) (Yr 5)) (pa (pa (Ye (15+5) 20) (Yr 5)) pT)))) (pu (Yz 20) pT)))))))))) <|Xz [] pz
def sJ (p0:List Int) (p1:List Int) (k0:Nat) (z0:List Int):List Int :=
 (sel (((aG .u8 (aH .u8 (p1.getD (((8*p1.length)-1-k0)/8) 0) ((((8*p1.length)-1-k0) % 8:Nat):Int)) 1):Int)==1) (pF (pF z0 z0 (F16 (cG) (cG))) p0 (F16 (cG) (cG))) (pF z0 z0 (F16 (cG) (cG))))
def Eu (p0:List Int) (p1:List Int):List Int :=
 (itr (sJ p0 p1) (8*p1.length) (aT (aT [0,0,0,0,0,0,0,0,0,0,0,0,0,0,0,0,0,0,0,0] 5 (F30 1)) 10 (F30 1)))
def Pc:List AV→List Blk→Option (Prop × Ret)
 |[.ints .u64 20 p0,.sc (.ro .u8 p1)],[]=>some ((p1.length≤1000000),⟨.ints .u64 20 (Eu p0 p1),[]⟩)
 |_,_=>none
theorem RT:Known Tryz.prog gD 76 ⟨0,0,Pc⟩:=by
 refine Xw Tryz.f76 42 (Zv Rb 48 0 <|Zv K16 128 2 <|Zv K30 160 1 <|Zv K30 176 1 <|Zv Qi 400 3 <|Zv Qi 640 3 <|Zn) mixed <|fun E args ks C r h hC hlen=>?_
 simp only at h
 unfold Pc at h
 split at h
 rotate_left
 cases h
 rename_i p0 p1
 cases h
 simp only [am] at hlen
 refine ⟨rfl,?_⟩
 refine Xt [Ep 4 32,Ep 2 16] [0] [Mk 32 .u64 20 [0,0,0,0,0,0,0,0,0,0,0,0,0,0,0,0,0,0,0,0],Mk 16 .u64 20 p0] [] 48 (v2 pT) <|Xt [Ep 5 64] [] [Mk 64 .u64 5 (cG)] [] 96 (pu pz (v1 (pu (Yz 5) pT))) <|Xt [] [] [Mk 64 .u64 5 (F16 (cG) (cG))] [64] 160 (v2 (pu pz (pu (Yz 5) pT))) <|Xt [Ep 6 208] [] [Mk 208 .u64 20 (aT (aT [0,0,0,0,0,0,0,0,0,0,0,0,0,0,0,0,0,0,0,0] 5 (F30 1)) 10 (F30 1))] [] 240 (pu pz (pu pz (pu (pa (pa (Ye (5+5) 20) (Yr 5)) (pa (pa (Ye (10+5) 20) (Yr 5)) pT)) (v1 (pu (Yz 20) pT))))) <|Tri.seq <|Xu [Ej 17 (8*p1.length),Ei 18 (((8*p1.length:Nat):Int)-1-((0:Nat):Int))] none [Ei 7 (((8*p1.length:Nat):Int)-1-((0:Nat):Int))] [] [] [] 320 (v2 (pv pT (Yt 8 p1.length) (pv pT (pl (show (aZ .i64 ((8*p1.length:Nat):Int) 1)=(((8*p1.length:Nat):Int)-1-((0:Nat):Int)) from mF (by omega))) (v1 pT)))) <|Tri.block <|Xc (8*p1.length) (sJ p0 p1) (aT (aT [0,0,0,0,0,0,0,0,0,0,0,0,0,0,0,0,0,0,0,0] 5 (F30 1)) 10 (F30 1)) (fun k0 z0=>True) (fun k0 z0=>[Ei 7 (((8*p1.length:Nat):Int)-1-((k0:Nat):Int))]) (fun k0 z0=>[Mk 208 .u64 20 z0]) trivial <|fun k0 z0 hk0 hz0 hJ0=>Tri.seq <|Xs [Eb 20 (decide (((((8*p1.length:Nat):Int)-1-((k0:Nat):Int)):Int) ≥ 0))] [] 352 (v2 pT) <|Xb (fun h1 h1'=>?_) (fun h1 h1'=>?_)
 refine Tri.skip <|Tri.seq <|Tri.block <|Xt [] [20] [Mk 208 .u64 20 (pF z0 z0 (F16 (cG) (cG)))] [208] 432 (v3 (pu pz (pu (Yz 20) pT))) <|Xu [Ej 29 (((8*p1.length)-1-k0)/8),Ej 33 (((8*p1.length)-1-k0) % 8)] none [Eb 36 (((aG .u8 (aH .u8 (p1.getD (((8*p1.length)-1-k0)/8) 0) ((((8*p1.length)-1-k0) % 8:Nat):Int)) 1):Int)==1)] [] [] [] 592 (v2 (pv (Yn 8) (pl (show (ic .i64 (((8*p1.length:Nat):Int)-1-((k0:Nat):Int)) 8)=((((8*p1.length)-1-k0)/8:Nat):Int) from by rw [iB (by omega)];exact cZ (b:=8) (by omega))) (pu (Yj (((8*p1.length)-1-k0)/8) p1.length) (pu (Yl (((8*p1.length)-1-k0)/8) p1.length) (v1 (pv (Yn 8) (pl (show (bm (((8*p1.length:Nat):Int)-1-((k0:Nat):Int)) 8)=((((8*p1.length)-1-k0) % 8:Nat):Int) from by rw [iB (by omega)];exact dQ (b:=8))) (pu (Y0 ((((8*p1.length)-1-k0) % 8:Nat):Int)) (v2 pT)))))))) ?_
 refine Xj (x:=(((aG .u8 (aH .u8 (p1.getD (((8*p1.length)-1-k0)/8) 0) ((((8*p1.length)-1-k0) % 8:Nat):Int)) 1):Int)==1)) (fun bb=>[]) [36] (fun bb=>[Mk 208 .u64 20 (sel bb (pF (pF z0 z0 (F16 (cG) (cG))) p0 (F16 (cG) (cG))) (pF z0 z0 (F16 (cG) (cG))))]) [208] 672 (fun h2=>?_) (fun h2=>?_) ?_
 have h2':=fC h2
 exact Wt [] [36] [Mk 208 .u64 20 (pF (pF z0 z0 (F16 (cG) (cG))) p0 (F16 (cG) (cG)))] [208] 672 (v3 (pu pz (pu (Yz 20) pT))) <|Xe [] [Mk 208 .u64 20 (pF (pF z0 z0 (F16 (cG) (cG))) p0 (F16 (cG) (cG)))]
 have h2':=eL h2
 exact Tri.skip <|Xe [] [Mk 208 .u64 20 (pF z0 z0 (F16 (cG) (cG)))]
 exact Wu [Ei 22 (((8*p1.length:Nat):Int)-1-((k0+1:Nat):Int))] none [Ei 7 (((8*p1.length:Nat):Int)-1-((k0+1:Nat):Int))] [7] [] [] 720 (v1 (pv pT (pl (show (aZ .i64 (((8*p1.length:Nat):Int)-1-((k0:Nat):Int)) 1)=(((8*p1.length:Nat):Int)-1-((k0+1:Nat):Int)) from iq (by omega) (by omega))) (v1 pT))) <|Xo [] trivial
 refine Tri.exit <|?_
 obtain rfl:k0=(8*p1.length):=(by omega);subst hz0
 exact Xt [] [20,7,6,5,2,1] [Mk 32 .u64 20 (itr (sJ p0 p1) (8*p1.length) (aT (aT [0,0,0,0,0,0,0,0,0,0,0,0,0,0,0,0,0,0,0,0] 5 (F30 1)) 10 (F30 1)))] [208,64,32,16] 384 (v1 (pu (Yz 20) pT)) <|Xz [] pz
def BM:List Int :=
 (rh (aC (F33 (vv 4 5)) 32 0 32))
def QB:List AV→List Blk→Option (Prop × Ret)
 |[],[]=>some (True,⟨.ints .u64 20 (BM),[]⟩)
 |_,_=>none
theorem RE:Known Tryz.prog gD 75 ⟨0,0,QB⟩:=by
 refine Xw Tryz.f75 12 (Zv PZ 32 2 <|Zv K33 48 1 <|Zc SF 112 [.ro .u8] [64] [] <|Zn) mixed <|fun E args ks C r h hC hlen=>?_
 simp only at h
 unfold QB at h
 split at h
 rotate_left
 cases h
 cases h
 simp only [am] at hlen
 refine ⟨rfl,?_⟩
 exact Xt [Ep 0 16] [] [Mk 16 .u64 20 [0,0,0,0,0,0,0,0,0,0,0,0,0,0,0,0,0,0,0,0]] [] 32 (v1 pT) <|Xt [Ep 1 64] [] [Mi 64 32 (F33 (vv 4 5))] [] 96 (pu pz (pu pz (v1 (pu (Yz 32) pT)))) <|Tri.len 64 rfl <|fun hl1=>Xt [Ep 2 176] [1] [Mk 176 .u64 20 (rh (aC (F33 (vv 4 5)) 32 0 32))] [64] 224 (pu (pa (lo ((0:Int)≤0∧(0:Int)≤32∧32≤((32:Nat):Int))) (Ye 32 32)) (pu (pa (pa (Yw 32) pT) pT) (v4 (pu (Yz 20) (v1 pT))))) <|Tri.len 176 rfl <|fun hl2=>Xt [] [2] [Mk 16 .u64 20 (rh (aC (F33 (vv 4 5)) 32 0 32))] [176,16] 256 (v1 (pu (Yz 20) pT)) <|Xz [] pz
theorem gU (x y c:Int):0≤dF x y c∧dF x y c≤1:=by unfold dF;split <;> omega
theorem gR (x y c:Int):0≤hF x y c∧hF x y c<18446744073709551616:=IP _
theorem lu {x y c:Int} (hx:0≤x∧x<18446744073709551616) (hy:0≤y∧y<18446744073709551616) (hc:0≤c∧c≤1):0≤cT x y c∧cT x y c≤1:=by unfold cT;omega
theorem wt:rng Bb:=iP (by decide)
theorem CW:rng ((Bb.drop 0).take 4):=wt
def BB (p0:List Int) (p1:List Int) (k0:Nat) (z0:Int):Int :=
 (dF (p0.getD k0 0) (p1.getD k0 0) z0)
def AN (p0:List Int) (p1:List Int):Bool :=
 (((itr (BB p0 p1) 4 0):Int)==1)
def Pd:List AV→List Blk→Option (Prop × Ret)
 |[.ints .u64 4 p0,.ints .u64 4 p1],[]=>some ((rng p0∧rng p1),⟨.sc (.b (AN p0 p1)),[]⟩)
 |_,_=>none
theorem SA:Known Tryz.prog gD 125 ⟨0,0,Pd⟩:=by
 refine Xw Tryz.f125 24 (Zv RM 256 3 <|Zn) mixed <|fun E args ks C r h hC hlen=>?_
 simp only at h
 unfold Pd at h
 split at h
 rotate_left
 cases h
 rename_i p0 p1
 cases h
 simp only [am] at hlen
 have hf1:=hC.1
 have hf2:=hC.2
 refine ⟨rfl,?_⟩
 refine Xt [Ep 3 32,Ep 2 16] [0,1] [Mk 32 .u64 4 p1,Mk 16 .u64 4 p0] [] 64 (v3 pT) <|Xs [Ek 5 .u64 0] [] 80 (v1 pT) <|Tri.seq <|Xs [Ei 7 0] [] 96 (v1 pT) <|Tri.block <|Xc 4 (BB p0 p1) 0 (fun k0 z0=>0≤z0∧z0≤1) (fun k0 z0=>[Ej 7 k0,Ek 5 .u64 z0]) (fun k0 z0=>[]) (by omega) <|fun k0 z0 hk0 hz0 hJ0=>Xs [Eb 8 (decide ((((k0:Nat):Int):Int)<4))] [] 112 (v1 pT) <|Tri.seq <|Xb (fun h1 h1'=>?_) (fun h1 h1'=>?_)
 exact Tri.skip <|Tri.seq <|Tri.block <|Xs [Ej 6 k0] [8] 144 (v2 pT) <|Wu [] (some [0,1,3,0,8,24,0,127,255,511,511,2047]) [Ek 5 .u64 (dF (p0.getD k0 0) (p1.getD k0 0) z0)] [6,5] [] [] 336 (v1 (pu (Yj k0 4) (pu (Yl k0 4) (v1 (pu (Yj k0 4) (pu (Yl k0 4) (v1 (pu (pa pT (pl (show ((0:Int)≤(p0.getD k0 0)∧((p0.getD k0 0):Int)<18446744073709551616)∧((0:Int)≤(p1.getD k0 0)∧((p1.getD k0 0):Int)<18446744073709551616)∧(0:Int)≤z0∧(z0:Int)≤1 from ⟨hf1 k0,hf2 k0,hJ0.1,hJ0.2⟩))) (v4 pT))))))))) <|Wu [Ej 21 (k0+1)] none [Ej 7 (k0+1)] [7] [] [] 368 (pv pT (Yp k0 1) (v1 pT)) <|Xo [] (gU _ _ _)
 refine Tri.exit <|?_
 obtain rfl:k0=4:=(by omega);subst hz0
 exact Xt [Eb 4 (((itr (BB p0 p1) 4 0):Int)==1)] [8,7,5,3,2] [] [32,16] 160 (v3 pT) <|Xz [] pz
def gW (k0:Nat) (z0:Int × List Int):Int × List Int :=
 ((aH .u64 (z0.2.getD k0 0) 63),z0.2.set k0 (iOr .u64 (cv .u64 (z0.2.getD k0 0) 1) z0.1))
def pC (k1:Nat) (z1:Int × List Int):Int × List Int :=
 ((dF (z1.2.getD k1 0) (Bb.getD (0+k1) 0) z1.1),z1.2.set k1 (hF (z1.2.getD k1 0) (Bb.getD (0+k1) 0) z1.1))
def oT (p0:List Int) (p1:Int):List Int :=
 (sel (!(AN ((itr (gW) 4 (p1,p0)).2) ((Bb.drop 0).take 4))) ((itr (pC) 4 (0,(itr (gW) 4 (p1,p0)).2)).2) ((itr (gW) 4 (p1,p0)).2))
def Pk:List AV→List Blk→Option (Prop × Ret)
 |[.ints .u64 4 p0,.sc (.i .u64 p1)],[]=>some ((rng p0),⟨.ints .u64 4 (oT p0 p1),[]⟩)
 |_,_=>none
theorem QR:Known Tryz.prog gD 103 ⟨0,0,Pk⟩:=by
 refine Xw Tryz.f103 46 (Zv SA 112 2 <|Zv RM 352 3 <|Zn) mixed <|fun E args ks C r h hC hlen=>?_
 simp only at h
 unfold Pk at h
 split at h
 rotate_left
 cases h
 rename_i p0 p1
 cases h
 simp only [am] at hlen
 have hg:Bb.length=4:=rfl
 refine ⟨rfl,?_⟩
 refine Xt [Ep 4 32,Ep 2 16] [0] [Mk 32 .u64 4 [0,0,0,0],Mk 16 .u64 4 p0] [] 48 (v2 pT) <|Tri.seq <|Xs [Ei 8 0] [] 64 (v1 pT) <|Tri.block <|Xc 4 (gW) (p1,p0) (fun k0 z0=>rng z0.2) (fun k0 z0=>[Ej 8 k0,Ek 1 .u64 z0.1]) (fun k0 z0=>[Mk 16 .u64 4 z0.2]) hC <|fun k0 z0 hk0 hz0 hJ0=>Xs [Eb 9 (decide ((((k0:Nat):Int):Int)<4))] [] 80 (v1 pT) <|Tri.seq <|Xb (fun h1 h1'=>?_) (fun h1 h1'=>?_)
 exact Tri.skip <|Tri.seq <|Tri.block <|Xs [Ej 5 k0] [9] 112 (v2 pT) <|Wu [] (some [0,0,2,6,14,0,62,0,128,384,896,1023,3071,8191]) [Ek 1 .u64 (aH .u64 (z0.2.getD k0 0) 63)] [5,1] [Mk 16 .u64 4 (z0.2.set k0 (iOr .u64 (cv .u64 (z0.2.getD k0 0) 1) z0.1))] [16] 336 (v2 (pu (Yj k0 4) (pu (Yl k0 4) (pu (Y0 1) (v3 (pu (Yj k0 4) (pu (Yl k0 4) (pu (Y0 63) (pu (Yj k0 4) (pu (Ys k0 4) (v1 pT))))))))))) <|Wu [Ej 23 (k0+1)] none [Ej 8 (k0+1)] [8] [] [] 368 (pv pT (Yp k0 1) (v1 pT)) <|Xo [] (show rng (List.set _ _ _) from mh hJ0 (jU _))
 refine Tri.exit <|?_
 obtain rfl:k0=4:=(by omega);subst hz0
 refine Tri.seq <|Xs [Eb 27 (!(AN ((itr (gW) 4 (p1,p0)).2) ((Bb.drop 0).take 4)))] [9,8,1] 144 (v1 (pu (Ye (0+4) Bb.length) (pu (pa pT (pl (show rng ((itr (gW) 4 (p1,p0)).2)∧rng ((Bb.drop 0).take 4) from ⟨hJ0,CW⟩))) (v1 pT)))) <|Xj (x:=(!(AN ((itr (gW) 4 (p1,p0)).2) ((Bb.drop 0).take 4)))) (fun bb=>[]) [27] (fun bb=>[Mk 32 .u64 4 [0,0,0,0],Mk 16 .u64 4 (sel bb ((itr (pC) 4 (0,(itr (gW) 4 (p1,p0)).2)).2) ((itr (gW) 4 (p1,p0)).2))]) [32,16] 192 (fun h2=>?_) (fun h2=>?_) ?_
 refine Xs [Ek 6 .u64 0] [27] 160 (v1 pT) <|Xs [Ei 28 0] [] 176 (v1 pT) <|Tri.block <|Xc 4 (pC) (0,(itr (gW) 4 (p1,p0)).2) (fun k1 z1=>rng z1.2∧0≤z1.1∧z1.1≤1) (fun k1 z1=>[Ej 28 k1,Ek 6 .u64 z1.1]) (fun k1 z1=>[Mk 16 .u64 4 z1.2]) (⟨hJ0,Int.le_refl 0,(show (0:Int)≤1 by decide)⟩) <|fun k1 z1 hk1 hz1 hJ1=>Xs [Eb 29 (decide ((((k1:Nat):Int):Int)<4))] [] 192 (v1 pT) <|Tri.seq <|Xb (fun h3 h3'=>?_) (fun h3 h3'=>?_)
 exact Tri.skip <|Tri.seq <|Tri.block <|Xs [Ej 7 k1] [29] 224 (v2 pT) <|Wu [] (some [0,0,2,6,0,16,48,0,254,510,1022,1022,2047,6143,16383]) [Ek 6 .u64 (dF (z1.2.getD k1 0) (Bb.getD (0+k1) 0) z1.1)] [7,6] [Mk 16 .u64 4 (z1.2.set k1 (hF (z1.2.getD k1 0) (Bb.getD (0+k1) 0) z1.1))] [16] 464 (v2 (pu (Yj k1 4) (pu (Yl k1 4) (v1 (pu (Yj k1 4) (pu (Yl (0+k1) Bb.length) (v1 (pu (pa pT (pl (show ((0:Int)≤(z1.2.getD k1 0)∧((z1.2.getD k1 0):Int)<18446744073709551616)∧((0:Int)≤(Bb.getD (0+k1) 0)∧((Bb.getD (0+k1) 0):Int)<18446744073709551616)∧(0:Int)≤z1.1∧(z1.1:Int)≤1 from ⟨hJ1.1 _,wt _,hJ1.2⟩))) (v3 (pu (Yj k1 4) (pu (Ys k1 4) (v1 pT)))))))))))) <|Wu [Ej 44 (k1+1)] none [Ej 28 (k1+1)] [28] [] [] 496 (pv pT (Yp k1 1) (v1 pT)) <|Xo [] (show rng (List.set _ _ _)∧_∧_ from ⟨mh hJ1.1 (gR _ _ _),gU _ _ _⟩)
 refine Tri.exit <|?_
 obtain rfl:k1=4:=(by omega);subst hz1
 exact Xe [] [Mk 32 .u64 4 [0,0,0,0],Mk 16 .u64 4 ((itr (pC) 4 (0,(itr (gW) 4 (p1,p0)).2)).2)]
 exact Tri.skip <|Xe [] [Mk 32 .u64 4 [0,0,0,0],Mk 16 .u64 4 ((itr (gW) 4 (p1,p0)).2)]
 exact Xt [] [2] [Mk 32 .u64 4 (sel (!(AN ((itr (gW) 4 (p1,p0)).2) ((Bb.drop 0).take 4))) ((itr (pC) 4 (0,(itr (gW) 4 (p1,p0)).2)).2) ((itr (gW) 4 (p1,p0)).2))] [32,16] 224 (v1 (pu (Yz 4) pT)) <|Xz [] pz
theorem AK {p0:List Int} (h:rng p0) (p1:Int):rng (oT p0 p1):=by
 have h0:∀ n z,rng z.2→rng (itr gW n z).2:=by
  intro n z hz
  induction n with
  |zero=>rw [aX];exact hz
  |succ n ih=>rw [aQ];exact mh ih (jU _)
 have h1:∀ n z,rng z.2→rng (itr pC n z).2:=by
  intro n z hz
  induction n with
  |zero=>rw [aX];exact hz
  |succ n ih=>rw [aQ];exact mh ih (gR _ _ _)
 unfold oT
 cases (!(AN ((itr (gW) 4 (p1,p0)).2) ((Bb.drop 0).take 4)))
 ·exact h0 4 _ h
 ·exact h1 4 _ (h0 4 _ h)
theorem qT:rng [0,0,0,0]:=iP (by decide)
def ow (p0:List Int) (k0:Nat) (z0:List Int):List Int :=
 (oT z0 (IntKind.wrap .u64 (aG .u8 (aH .u8 (p0.getD (((8*p0.length)-1-k0)/8) 0) ((((8*p0.length)-1-k0) % 8:Nat):Int)) 1)))
def qg (p0:List Int):List Int :=
 (itr (ow p0) (8*p0.length) [0,0,0,0])
def QQ:List AV→List Blk→Option (Prop × Ret)
 |[.sc (.ro .u8 p0)],[]=>some ((p0.length≤1000000),⟨.ints .u64 4 (qg p0),[]⟩)
 |_,_=>none
theorem KD:Known Tryz.prog gD 74 ⟨0,0,QQ⟩:=by
 refine Xw Tryz.f74 26 (Zv QR 336 2 <|Zn) mixed <|fun E args ks C r h hC hlen=>?_
 simp only at h
 unfold QQ at h
 split at h
 rotate_left
 cases h
 rename_i p0
 cases h
 simp only [am] at hlen
 refine ⟨rfl,?_⟩
 refine Xt [Ep 2 16] [] [Mk 16 .u64 4 [0,0,0,0]] [] 32 (v1 pT) <|Xt [Ep 3 32] [] [Mk 32 .u64 4 [0,0,0,0]] [] 48 (v1 pT) <|Tri.seq <|Xu [Ej 7 (8*p0.length),Ei 8 (((8*p0.length:Nat):Int)-1-((0:Nat):Int))] none [Ei 4 (((8*p0.length:Nat):Int)-1-((0:Nat):Int))] [] [] [] 128 (v2 (pv pT (Yt 8 p0.length) (pv pT (pl (show (aZ .i64 ((8*p0.length:Nat):Int) 1)=(((8*p0.length:Nat):Int)-1-((0:Nat):Int)) from mF (by omega))) (v1 pT)))) <|Tri.block <|Xc (8*p0.length) (ow p0) [0,0,0,0] (fun k0 z0=>rng z0) (fun k0 z0=>[Ei 4 (((8*p0.length:Nat):Int)-1-((k0:Nat):Int))]) (fun k0 z0=>[Mk 32 .u64 4 z0]) qT <|fun k0 z0 hk0 hz0 hJ0=>Tri.seq <|Xs [Eb 10 (decide (((((8*p0.length:Nat):Int)-1-((k0:Nat):Int)):Int) ≥ 0))] [] 160 (v2 pT) <|Xb (fun h1 h1'=>?_) (fun h1 h1'=>?_)
 refine Tri.skip <|Tri.seq <|Tri.block <|Wu [Ej 16 (((8*p0.length)-1-k0)/8),Ej 20 (((8*p0.length)-1-k0) % 8)] (some [0,0,0,4,14,30,0,64,254,510,1022,2047,4095]) [] [10] [Mk 32 .u64 4 (oT z0 (IntKind.wrap .u64 (aG .u8 (aH .u8 (p0.getD (((8*p0.length)-1-k0)/8) 0) ((((8*p0.length)-1-k0) % 8:Nat):Int)) 1)))] [32] 368 (v3 (pv (Yn 8) (pl (show (ic .i64 (((8*p0.length:Nat):Int)-1-((k0:Nat):Int)) 8)=((((8*p0.length)-1-k0)/8:Nat):Int) from by rw [iB (by omega)];exact cZ (b:=8) (by omega))) (pu (Yj (((8*p0.length)-1-k0)/8) p0.length) (pu (Yl (((8*p0.length)-1-k0)/8) p0.length) (v1 (pv (Yn 8) (pl (show (bm (((8*p0.length:Nat):Int)-1-((k0:Nat):Int)) 8)=((((8*p0.length)-1-k0) % 8:Nat):Int) from by rw [iB (by omega)];exact dQ (b:=8))) (pu (Y0 ((((8*p0.length)-1-k0) % 8:Nat):Int)) (v2 (pu (pa pT (pl hJ0)) (pu (Yz 4) pT)))))))))) ?_
 exact Wu [Ei 12 (((8*p0.length:Nat):Int)-1-((k0+1:Nat):Int))] none [Ei 4 (((8*p0.length:Nat):Int)-1-((k0+1:Nat):Int))] [4] [] [] 416 (v1 (pv pT (pl (show (aZ .i64 (((8*p0.length:Nat):Int)-1-((k0:Nat):Int)) 1)=(((8*p0.length:Nat):Int)-1-((k0+1:Nat):Int)) from iq (by omega) (by omega))) (v1 pT))) <|Xo [] (AK hJ0 _)
 refine Tri.exit <|?_
 obtain rfl:k0=(8*p0.length):=(by omega);subst hz0
 exact Xt [] [10,4,3,0] [Mk 16 .u64 4 (itr (ow p0) (8*p0.length) [0,0,0,0])] [32,16] 192 (v1 (pu (Yz 4) pT)) <|Xz [] pz
theorem EY (p0:List Int):rng (qg p0):=by
 have h:∀ n,rng (itr (ow p0) n [0,0,0,0]):=by
  intro n
  induction n with
  |zero=>rw [aX];exact qT
  |succ n ih=>rw [aQ];exact AK ih _
 exact h _
def iC (p0:List Int) (k0:Nat) (k1:Nat) (z1:Nat × List Int):Nat × List Int :=
 (z1.1+1,z1.2++[(IntKind.wrap .u8 (aH .u64 (p0.getD k0 0) ((8*k1:Nat):Int)))])
def im (p0:List Int) (k0:Nat) (z0:Nat × List Int):Nat × List Int :=
 ((itr (iC p0 k0) 8 (z0.1,z0.2)).1,(itr (iC p0 k0) 8 (z0.1,z0.2)).2)
def rQ (p0:List Int):List Int :=
 (itr (im p0) 4 (0,([]:List Int))).2
theorem Sf (p0:List Int):(itr (im p0) 4 (0,[])).1=32:=by
 have h1:∀ (j k:Nat) (z:Nat × List Int),(itr (iC p0 j) k z).1=z.1+k:=by
  intro j k z
  induction k with
  |zero=>rw [aX];rfl
  |succ k ih=>rw [aQ];show (itr (iC p0 j) k z).1+1=_;rw [ih];omega
 have h0:∀ (k:Nat),(itr (im p0) k (0,[])).1=8*k:=by
  intro k
  induction k with
  |zero=>rw [aX]
  |succ k ih=>rw [aQ];show (itr (iC p0 k) 8 ((itr (im p0) k (0,[])).1,(itr (im p0) k (0,[])).2)).1=_;rw [h1,ih];show 8*k+8=_;omega
 rw [h0]
def RD:List AV→List Blk→Option (Prop × Ret)
 |[.ints .u64 4 p0],[]=>some (True,⟨.sc (.sl 0 0 32 1 none),[some (.ints .u8 32 (rQ p0))]⟩)
 |_,_=>none
theorem PS:Known Tryz.prog gD 77 ⟨0,1,RD⟩:=by
 refine Xw Tryz.f77 25 Zn mixed <|fun E args ks C r h hC hlen=>?_
 simp only at h
 unfold RD at h
 split at h
 rotate_left
 cases h
 rename_i p0
 cases h
 simp only [am] at hlen
 refine ⟨rfl,?_⟩
 refine Xt [Ep 1 16] [0] [Mk 16 .u64 4 p0] [] 48 (v2 pT) <|Xs [(3,.sc (.nils))] [] 64 (v1 pT) <|Tri.seq <|Xt [Ei 8 0,(7,.ints .u64 4 p0)] [1] [] [16] 96 (v2 pT) <|Tri.block <|Tri.sub (Sub.openNil (U:=96) (U':=112) 3 96 1 .u8 none (.inl rfl) (by decide) (by decide) (by kernel_rfl) (by kernel_rfl)) <|Xc 4 (im p0) (0,([]:List Int)) (fun k0 z0=>z0.1=8*k0) (fun k0 z0=>[El 3 96 z0.1,Ej 8 k0]) (fun k0 z0=>[Mi 96 z0.1 z0.2]) rfl <|fun k0 z0 hk0 hz0 hJ0=>Xs [Eb 9 (decide ((((k0:Nat):Int):Int)<4))] [] 128 (v1 pT) <|Tri.seq <|Xb (fun h1 h1'=>?_) (fun h1 h1'=>?_)
 refine Tri.skip <|Tri.seq <|Tri.block <|Xs [Ek 5 .u64 (p0.getD k0 0)] [9] 160 (pu (pa (Yj k0 4) (Yl k0 4)) (v1 pT)) <|Xs [Ei 11 0] [] 176 (v1 pT) <|Tri.block <|Xc 8 (iC p0 k0) (z0.1,z0.2) (fun k1 z1=>z1.1=z0.1+1*k1∧z1.1=8*k0+k1) (fun k1 z1=>[Ej 11 k1,El 3 96 z1.1]) (fun k1 z1=>[Mi 96 z1.1 z1.2]) (⟨(by simp),hJ0⟩) <|fun k1 z1 hk1 hz1 hJ1=>Xs [Eb 12 (decide ((((k1:Nat):Int):Int)<8))] [] 192 (v1 pT) <|Tri.seq <|Xb (fun h2 h2'=>?_) (fun h2 h2'=>?_)
 exact Tri.skip <|Tri.seq <|Tri.block <|Xs [Ej 6 k1] [12] 224 (v2 pT) <|Wu [Ej 17 (8*k1)] none [El 3 336 (z1.1+1)] [6,3] [Mi 336 (z1.1+1) (z1.2++[(IntKind.wrap .u8 (aH .u64 (p0.getD k0 0) ((8*k1:Nat):Int)))])] [96] 368 (v3 (pv pT (Yt 8 k1) (pu (Y0 ((8*k1:Nat):Int)) (v1 (pu (Yf 1) (pu (Ya (Yw 1) 1 (z1.1+1) 1 1 z1.1 z1.1) (v1 pT))))))) <|Wu [Ej 22 (k1+1)] none [Ej 11 (k1+1)] [11] [] [] 400 (pv pT (Yp k1 1) (v1 pT)) <|Xo [(96,336)] (⟨(show z1.1+1=z0.1+1*(k1+1) by omega),(show z1.1+1=8*k0+(k1+1) by omega)⟩)
 refine Tri.exit <|?_
 obtain rfl:k1=8:=(by omega);subst hz1
 exact Wu [Ej 23 (k0+1)] none [Ej 8 (k0+1)] [12,11,5,8] [] [] 224 (pv pT (Yp k0 1) (v1 pT)) <|Xo [] (show (itr (iC p0 k0) 8 (z0.1,z0.2)).1=8*(k0+1) by omega)
 refine Tri.exit <|?_
 obtain rfl:k0=4:=(by omega);subst hz0
 exact Xs [El 2 96 ((itr (im p0) 4 (0,([]:List Int))).1)] [9,3,8,7] 160 (v2 pT) <|Xy (r':=⟨.sc (.sl 0 0 ((itr (im p0) 4 (0,([]:List Int))).1) 1 none),[some (.ints .u8 ((itr (im p0) 4 (0,([]:List Int))).1) ((itr (im p0) 4 (0,([]:List Int))).2))]⟩) [(96,0)] pz (by simp only [rQ,Sf,aB,aA])
theorem JJ (p0:List Int):(rQ p0).length=32:=by
 have h1:∀ (j k:Nat) (z:Nat × List Int),(itr (iC p0 j) k z).2.length=z.2.length+k:=by
  intro j k z
  induction k with
  |zero=>rw [aX];rfl
  |succ k ih=>rw [aQ];show ((itr (iC p0 j) k z).2++[_]).length=_;rw [List.length_append,ih];rfl
 have h0:∀ (k:Nat),(itr (im p0) k (0,[])).2.length=8*k:=by
  intro k
  induction k with
  |zero=>rw [aX];rfl
  |succ k ih=>rw [aQ];show (itr (iC p0 k) 8 ((itr (im p0) k (0,[])).1,(itr (im p0) k (0,[])).2)).2.length=_;rw [h1];show (itr (im p0) k (0,[])).2.length+8=_;rw [ih];omega
 exact h0 4
def rI (p1:List Int) (k0:Nat) (z0:Int × List Int):Int × List Int :=
 ((cT (z0.2.getD k0 0) (p1.getD k0 0) z0.1),z0.2.set k0 (dJ (z0.2.getD k0 0) (p1.getD k0 0) z0.1))
def uv (p0:List Int) (p1:List Int):List Int :=
 (qg (aC (rQ ((itr (rI p1) 4 (0,p0)).2)) 32 0 32))
def Qf:List AV→List Blk→Option (Prop × Ret)
 |[.ints .u64 4 p0,.ints .u64 4 p1],[]=>some ((rng p0∧rng p1),⟨.ints .u64 4 (uv p0 p1),[]⟩)
 |_,_=>none
theorem Ps:Known Tryz.prog gD 80 ⟨0,0,Qf⟩:=by
 refine Xw Tryz.f80 27 (Zc KD 144 [.ro .u8] [128] [] <|Zv PS 128 1 <|Zv K48 272 3 <|Zn) mixed <|fun E args ks C r h hC hlen=>?_
 simp only at h
 unfold Qf at h
 split at h
 rotate_left
 cases h
 rename_i p0 p1
 cases h
 simp only [am] at hlen
 have hf1:=hC.1
 have hf2:=hC.2
 refine ⟨rfl,?_⟩
 refine Xt [Ep 4 48,Ep 3 32,Ep 2 16] [0,1] [Mk 48 .u64 4 [0,0,0,0],Mk 32 .u64 4 p1,Mk 16 .u64 4 p0] [] 64 (v3 pT) <|Xs [Ek 5 .u64 0] [] 80 (v1 pT) <|Tri.seq <|Xs [Ei 7 0] [] 96 (v1 pT) <|Tri.block <|Xc 4 (rI p1) (0,p0) (fun k0 z0=>rng z0.2∧0≤z0.1∧z0.1≤1) (fun k0 z0=>[Ej 7 k0,Ek 5 .u64 z0.1]) (fun k0 z0=>[Mk 16 .u64 4 z0.2]) (⟨hf1,Int.le_refl 0,(show (0:Int)≤1 by decide)⟩) <|fun k0 z0 hk0 hz0 hJ0=>Xs [Eb 8 (decide ((((k0:Nat):Int):Int)<4))] [] 112 (v1 pT) <|Tri.seq <|Xb (fun h1 h1'=>?_) (fun h1 h1'=>?_)
 exact Tri.skip <|Tri.seq <|Tri.block <|Xs [Ej 6 k0] [8] 144 (v2 pT) <|Wu [] (some [0,0,2,6,0,16,48,0,254,510,1022,1022,2047,6143,16383]) [Ek 5 .u64 (cT (z0.2.getD k0 0) (p1.getD k0 0) z0.1)] [6,5] [Mk 16 .u64 4 (z0.2.set k0 (dJ (z0.2.getD k0 0) (p1.getD k0 0) z0.1))] [16] 384 (v2 (pu (Yj k0 4) (pu (Yl k0 4) (v1 (pu (Yj k0 4) (pu (Yl k0 4) (v1 (pu (pa pT (pl (show (0:Int)≤(z0.2.getD k0 0)∧(0:Int)≤(p1.getD k0 0)∧(0:Int)≤z0.1∧(z0.1:Int)≤1 from ⟨(hJ0.1 _).1,(hf2 _).1,hJ0.2⟩))) (v3 (pu (Yj k0 4) (pu (Ys k0 4) (v1 pT)))))))))))) <|Wu [Ej 23 (k0+1)] none [Ej 7 (k0+1)] [7] [] [] 416 (pv pT (Yp k0 1) (v1 pT)) <|Xo [] (show rng (List.set _ _ _)∧_∧_ from ⟨mh hJ0.1 (jQ _ _ _),lu (hJ0.1 _) (hf2 _) hJ0.2⟩)
 refine Tri.exit <|?_
 obtain rfl:k0=4:=(by omega);subst hz0
 refine Tri.len 32 rfl <|fun hl2=>Tri.len 16 rfl <|fun hl3=>Xt [] [8,7,5,3,2] [Mk 48 .u64 4 (qg (aC (rQ ((itr (rI p1) 4 (0,p0)).2)) 32 0 32))] [48,32,16] 176 (v1 (pu pz (pu (pa (pa (Yw 32) pT) (pl (show (aC (rQ ((itr (rI p1) 4 (0,p0)).2)) 32 0 32).length≤1000000 from by exact aL (by decide) (by rw [JJ];decide)))) (pu (Yz 4) pT)))) ?_
 exact Xz [] pz
theorem MV (p0 p1:List Int):rng (uv p0 p1):=by unfold uv;exact EY _
theorem DU {x y:List Int} (b:Bool) (h:rng x) (h':rng y):rng (sel b x y):=by cases b;exact h';exact h
def pM (p0:List Int) (p1:List Int) (k0:Nat) (z0:List Int):List Int :=
 (sel (((aG .u64 (aH .u64 (p1.getD ((256-1-k0)/64) 0) (((256-1-k0) % 64:Nat):Int)) 1):Int)==1) (uv (oT z0 0) p0) (oT z0 0))
def Ih (p0:List Int) (p1:List Int):List Int :=
 (itr (pM p0 p1) 256 [0,0,0,0])
def Pb:List AV→List Blk→Option (Prop × Ret)
 |[.ints .u64 4 p0,.ints .u64 4 p1],[]=>some ((rng p0∧rng p1),⟨.ints .u64 4 (Ih p0 p1),[]⟩)
 |_,_=>none
theorem Rp:Known Tryz.prog gD 79 ⟨0,0,Pb⟩:=by
 refine Xw Tryz.f79 26 (Zv Ps 352 2 <|Zv QR 144 2 <|Zn) mixed <|fun E args ks C r h hC hlen=>?_
 simp only at h
 unfold Pb at h
 split at h
 rotate_left
 cases h
 rename_i p0 p1
 cases h
 simp only [am] at hlen
 have hf1:=hC.1
 have hf2:=hC.2
 refine ⟨rfl,?_⟩
 refine Xt [Ep 4 48,Ep 3 32,Ep 2 16] [0,1] [Mk 48 .u64 4 [0,0,0,0],Mk 32 .u64 4 p1,Mk 16 .u64 4 p0] [] 64 (v3 pT) <|Xt [Ep 5 64] [] [Mk 64 .u64 4 [0,0,0,0]] [] 80 (v1 pT) <|Tri.seq <|Xs [Ei 6 255] [] 96 (v1 pT) <|Tri.block <|Xc 256 (pM p0 p1) [0,0,0,0] (fun k0 z0=>rng z0) (fun k0 z0=>[Ei 6 (((256:Nat):Int)-1-((k0:Nat):Int))]) (fun k0 z0=>[Mk 64 .u64 4 z0]) qT <|fun k0 z0 hk0 hz0 hJ0=>Tri.seq <|Xs [Eb 8 (decide (((((256:Nat):Int)-1-((k0:Nat):Int)):Int) ≥ 0))] [] 128 (v2 pT) <|Xb (fun h1 h1'=>?_) (fun h1 h1'=>?_)
 refine Tri.skip <|Tri.seq <|Tri.block <|Xt [] [8] [Mk 64 .u64 4 (oT z0 0)] [64] 176 (v1 (pu (pa pT (pl hJ0)) (pu (Yz 4) pT))) <|Xu [Ej 14 ((256-1-k0)/64),Ej 18 ((256-1-k0) % 64)] none [Eb 21 (((aG .u64 (aH .u64 (p1.getD ((256-1-k0)/64) 0) (((256-1-k0) % 64:Nat):Int)) 1):Int)==1)] [] [] [] 320 (v1 (pv (Yn 64) (pl (show (ic .i64 (((256:Nat):Int)-1-((k0:Nat):Int)) 64)=(((256-1-k0)/64:Nat):Int) from by rw [iB (by omega)];exact cZ (b:=64) (by omega))) (pu (Yj ((256-1-k0)/64) 4) (pu (Yl ((256-1-k0)/64) 4) (v1 (pv (Yn 64) (pl (show (bm (((256:Nat):Int)-1-((k0:Nat):Int)) 64)=(((256-1-k0) % 64:Nat):Int) from by rw [iB (by omega)];exact dQ (b:=64))) (pu (Y0 (((256-1-k0) % 64:Nat):Int)) (v2 pT)))))))) ?_
 refine Xj (x:=(((aG .u64 (aH .u64 (p1.getD ((256-1-k0)/64) 0) (((256-1-k0) % 64:Nat):Int)) 1):Int)==1)) (fun bb=>[]) [21] (fun bb=>[Mk 64 .u64 4 (sel bb (uv (oT z0 0) p0) (oT z0 0))]) [64] 384 (fun h2=>?_) (fun h2=>?_) ?_
 have h2':=fC h2
 exact Wt [] [21] [Mk 64 .u64 4 (uv (oT z0 0) p0)] [64] 384 (v2 (pu (pa pT (pl (show rng (oT z0 0)∧rng p0 from ⟨AK hJ0 _,hf1⟩))) (pu (Yz 4) pT))) <|Xe [] [Mk 64 .u64 4 (uv (oT z0 0) p0)]
 have h2':=eL h2
 exact Tri.skip <|Xe [] [Mk 64 .u64 4 (oT z0 0)]
 exact Wu [Ei 10 (((256:Nat):Int)-1-((k0+1:Nat):Int))] none [Ei 6 (((256:Nat):Int)-1-((k0+1:Nat):Int))] [6] [] [] 432 (v1 (pv pT (pl (show (aZ .i64 (((256:Nat):Int)-1-((k0:Nat):Int)) 1)=(((256:Nat):Int)-1-((k0+1:Nat):Int)) from iq (by omega) (by omega))) (v1 pT))) <|Xo [] (show rng (sel _ _ _) from DU _ (MV _ _) (AK hJ0 _))
 refine Tri.exit <|?_
 obtain rfl:k0=256:=(by omega);subst hz0
 exact Xt [] [8,6,5,3,2] [Mk 48 .u64 4 (itr (pM p0 p1) 256 [0,0,0,0])] [64,48,32,16] 160 (v1 (pu (Yz 4) pT)) <|Xz [] pz
theorem Pg (p0 p1:List Int):rng (Ih p0 p1):=by
 have h:∀ n,rng (itr (pM p0 p1) n [0,0,0,0]):=by
  intro n
  induction n with
  |zero=>rw [aX];exact qT
  |succ n ih=>rw [aQ];show rng (sel _ _ _);exact DU _ (MV _ _) (AK ih _)
 exact h _
def cP (p:List (List Int)):Nat→Nat
 |0=>0
 |k+1=>cP p k+(p.getD k []).length
theorem GE (p:List (List Int)) {k n:Nat} (h:k≤n):cP p k≤cP p n:=by
 induction n with
 |zero=>rw [Nat.le_zero.1 h];exact Nat.le_refl _
 |succ n ih =>
  by_cases e:k=n+1
  ·rw [e];exact Nat.le_refl _
  ·exact Nat.le_trans (ih (by omega)) (Nat.le_add_right _ _)
theorem ET {p:List (List Int)} {k z c:Nat} (hz:z=c+cP p k) (hk:k<p.length):z+(p.getD k []).length≤c+cP p p.length:=by
 have h:cP p k+(p.getD k []).length≤cP p p.length:=GE p (show k+1≤p.length from hk)
 omega
def jM (p0:List (List Int)) (k0:Nat) (z0:Nat × List Int):Nat × List Int :=
 (z0.1+((p0.getD k0 []).length),z0.2++(p0.getD k0 []))
def vZ (p0:List (List Int)):List Int :=
 (itr (jM p0) p0.length (0,([]:List Int))).2
theorem SX (p0:List (List Int)):(itr (jM p0) p0.length (0,[])).1=cP p0 p0.length:=by
 have h0:∀ k,(itr (jM p0) k (0,[])).1=cP p0 k:=by
  intro k
  induction k with
  |zero=>rw [aX];rfl
  |succ k ih=>rw [aQ];show (itr (jM p0) k (0,[])).1+(p0.getD k []).length=cP p0 k+(p0.getD k []).length;rw [ih]
 exact h0 _
def QP:List AV→List Blk→Option (Prop × Ret)
 |[.sc (.rob p0)],[]=>some ((cP p0 p0.length≤100000∧p0.length≤100000),⟨.sc (.sl 0 0 (cP p0 p0.length) 1 none),[some (.ints .u8 (cP p0 p0.length) (vZ p0))]⟩)
 |_,_=>none
theorem QE:Known Tryz.prog gD 73 ⟨0,1,QP⟩:=by
 refine Xw Tryz.f73 17 Zn mixed <|fun E args ks C r h hC hlen=>?_
 simp only at h
 unfold QP at h
 split at h
 rotate_left
 cases h
 rename_i p0
 cases h
 simp only [am] at hlen
 refine ⟨rfl,?_⟩
 refine Xs [] [] 32 (v1 pT) <|Xs [(3,.sc (.nils))] [] 48 (v1 pT) <|Tri.seq <|Xs [Ei 8 0,Ej 7 p0.length,(6,.sc (.rob p0))] [0] 96 (v3 pT) <|Tri.block <|Tri.sub (Sub.openNil (U:=96) (U':=112) 3 96 1 .u8 none (.inl rfl) (by decide) (by decide) (by kernel_rfl) (by kernel_rfl)) <|Xc p0.length (jM p0) (0,([]:List Int)) (fun k0 z0=>z0.1=0+cP p0 k0) (fun k0 z0=>[El 3 96 z0.1,Ej 8 k0]) (fun k0 z0=>[Mi 96 z0.1 z0.2]) rfl <|fun k0 z0 hk0 hz0 hJ0=>Xs [Eb 9 (decide ((((k0:Nat):Int):Int)<((p0.length:Nat):Int)))] [] 128 (v1 pT) <|Tri.seq <|Xb (fun h1 h1'=>?_) (fun h1 h1'=>?_)
 refine Tri.skip <|Tri.seq <|Tri.block <|Xs [Er 5 (p0.getD k0 [])] [9] 176 (pu (Yj k0 p0.length) (v2 pT)) <|Wt [El 3 208 (z0.1+((p0.getD k0 []).length))] [5,3] [Mi 208 (z0.1+((p0.getD k0 []).length)) (z0.2++(p0.getD k0 []))] [96] 240 (v2 (pu (pa (pa (pa (Yz 1) (pa (Yl 0 1) (pa (pl (show (z0.1+((p0.getD k0 []).length))*1≤140737488355328 from by (have hq:=ET hJ0 (by omega);omega))) (pl (show z0.1+((p0.getD k0 []).length)≤140737488355328 from by (have hq:=ET hJ0 (by omega);omega)))))) (lo ((p0.getD k0 []).length=((p0.getD k0 []).length)*1))) (pa (Yr 1) (lo (0+z0.1*1=z0.1)))) (v1 pT))) ?_
 exact Wu [Ej 15 (k0+1)] none [Ej 8 (k0+1)] [8] [] [] 272 (pv pT (Yp k0 1) (v1 pT)) <|Xo [(96,208)] (show z0.1+(p0.getD k0 []).length=0+(cP p0 k0+(p0.getD k0 []).length) by omega)
 refine Tri.exit <|?_
 obtain rfl:k0=p0.length:=(by omega);subst hz0
 exact Xs [El 2 96 ((itr (jM p0) p0.length (0,([]:List Int))).1)] [9,3,8,7,6] 160 (v2 pT) <|Xy (r':=⟨.sc (.sl 0 0 ((itr (jM p0) p0.length (0,([]:List Int))).1) 1 none),[some (.ints .u8 ((itr (jM p0) p0.length (0,([]:List Int))).1) ((itr (jM p0) p0.length (0,([]:List Int))).2))]⟩) [(96,0)] pz (by simp only [vZ,SX,aB,aA])
theorem BS (p0:List (List Int)):(vZ p0).length=cP p0 p0.length:=by
 have h0:∀ k,(itr (jM p0) k (0,[])).2.length=cP p0 k:=by
  intro k
  induction k with
  |zero=>rw [aX];rfl
  |succ k ih=>rw [aQ];show ((itr (jM p0) k (0,[])).2++p0.getD k []).length=cP p0 k+(p0.getD k []).length;rw [List.length_append,ih]
 exact h0 _
end Go.Vm
namespace Go.Vm
open Go Go.Proofs
def FT9 (p0:List Int):Int :=
 (sel ((((p0.length:Nat):Int):Int) != 32) 2 0)
def iY (p0:List Int):List Int :=
 (sel ((((p0.length:Nat):Int):Int) != 32) ([]:List Int) (kx (Eu (BM) (aC (F43 (((iE p0).drop 0).take 32)) 32 0 32))))
def dE (p0:List Int):Nat :=
 (sel ((((p0.length:Nat):Int):Int) != 32) 0 32)
def ST9:List AV→List Blk→Option (Prop × Ret)
 |[.sc (.ro .u8 p0)],[]=>some (True,⟨.tup [.sc (.sl 0 0 (dE p0) 1 (some (dE p0))),.sc (.i .i64 (FT9 p0))],[some (.ints .u8 (dE p0) (iY p0))]⟩)
 |_,_=>none
theorem KT9:Known Tryz.prog gD 70 ⟨0,1,ST9⟩:=by
 refine Xw Tryz.f70 19 (Zc LJ 112 [.ro .u8] [] [] <|Zv K43 208 1 <|Zv RE 256 0 <|Zc RT 288 [.val,.ro .u8] [224] [] <|Zv RJ 304 1 <|Zn) mixed <|fun E args ks C r h hC hlen=>?_
 simp only at h
 unfold ST9 at h
 split at h
 rotate_left
 cases h
 rename_i p0
 cases h
 simp only [am] at hlen
 refine ⟨rfl,?_⟩
 refine Xs [] [] 48 (v2 pT) <|Tri.seq <|Xs [Eb 8 ((((p0.length:Nat):Int):Int) != 32)] [] 96 (v3 pT) <|Xa (fun h1=>?_) (fun h1=>?_)
 have h1':=bO h1
 exact Xs [Ei 3 2,(2,.sc (.nils))] [8,0] 128 (v2 pT) <|Tri.sub (Sub.openNil (U:=128) (U':=144) 2 128 1 .u8 (some 0) (.inr rfl) (by decide) (by decide) (by kernel_rfl) (by kernel_rfl)) <|Xy [(128,0)] (pa pT pz) (by simp only [FT9,iY,dE,h1,aB,aA] <;> rfl)
 have h1':=ak h1
 exact Tri.skip <|Xt [Ep 4 128] [8,0] [Mi 128 64 (iE p0)] [] 160 (v1 (pu (pa pz (Ye p0.length 100000000)) (v1 (pu (Yz 64) pT)))) <|Xt [Ep 5 224] [4] [Mi 224 32 (F43 (((iE p0).drop 0).take 32))] [128] 256 (pu (pa (lo ((0:Int)≤0∧(0:Int)≤32∧32≤((64:Nat):Int))) (Ye 64 64)) (pu (lo (0<32∧32≤32)) (pu (Ye (0+32) 64) (pu pz (v1 (pu (Yz 32) pT)))))) <|Tri.len 224 rfl <|fun hl2=>Xu [] (some [0,0,3,7,15,31]) [Ei 3 0,(2,.sc (.sl 304 0 32 1 (some 32)))] [5] [Mi 304 32 (kx (Eu (BM) (aC (F43 (((iE p0).drop 0).take 32)) 32 0 32)))] [224] 352 (pu pz (pu (pa (lo ((0:Int)≤0∧(0:Int)≤32∧32≤((32:Nat):Int))) (Ye 32 32)) (pu (pa (pa (Yw 32) pT) (Ye ((aC (F43 (((iE p0).drop 0).take 32)) 32 0 32).length) 1000000)) (pu pz (v2 pT))))) <|Xy [(304,0)] (pa pT pz) (by simp only [FT9,iY,dE,h1,aB,aA] <;> rfl)
theorem Ik {p0:List Int} (h:(((FT9 p0):Int) != 0)=false):p0.length=32:=by
 unfold FT9 at h
 cases hb:((((p0.length:Nat):Int):Int) != 32)
 ·have:=ak hb
  omega
 ·rw [hb,aB] at h
  cases h
theorem Nb (p0:List Int):dE p0≤32:=by
 unfold dE
 cases ((((p0.length:Nat):Int):Int) != 32) <;> decide
theorem my {a b:List Int} (h:a.length≤20000) (h':b.length≤20000):cP [a,b] [a,b].length≤100000∧[a,b].length≤100000:=⟨(show 0+a.length+b.length≤100000 by omega),(show 2≤100000 by omega)⟩
theorem kt {a b c:List Int} (h:a.length≤20000) (h':b.length≤20000) (h'':c.length≤20000):cP [a,b,c] [a,b,c].length≤100000∧[a,b,c].length≤100000:=⟨(show 0+a.length+b.length+c.length≤100000 by omega),(show 3≤100000 by omega)⟩
theorem oM {X:List (List Int)} (h:cP X X.length≤100000):(aC (vZ X) (cP X X.length) 0 (cP X X.length)).length≤100000000:=aL (Nat.le_trans h (by decide)) (by rw [BS];exact Nat.le_trans h (by decide))
theorem OZ {p0:List Int} (h:((((p0.length:Nat):Int):Int) != 32)=false):dE p0=32:=by
 unfold dE
 rw [h,aA]
def pQ (p0:List Int) (p1:List Int):List Int :=
 (iE (aC (vZ [aC (iE p0) 64 32 32,p1]) (cP [aC (iE p0) 64 32 32,p1] [aC (iE p0) 64 32 32,p1].length) 0 (cP [aC (iE p0) 64 32 32,p1] [aC (iE p0) 64 32 32,p1].length)))
def CC (p0:List Int) (p1:List Int):List Int :=
 (rQ (qg (aC (pQ p0 p1) 64 0 64)))
def gY (p0:List Int) (p1:List Int):List Int :=
 (Eu (BM) (aC (CC p0 p1) 32 0 32))
def Bz (p0:List Int) (p1:List Int):List Int :=
 (vZ [aC (kx (gY p0 p1)) 32 0 32,aC (iY p0) (dE p0) 0 (dE p0),p1])
def vc (p0:List Int) (p1:List Int):List Int :=
 (iE (aC (Bz p0 p1) (cP [aC (kx (gY p0 p1)) 32 0 32,aC (iY p0) (dE p0) 0 (dE p0),p1] [aC (kx (gY p0 p1)) 32 0 32,aC (iY p0) (dE p0) 0 (dE p0),p1].length) 0 (cP [aC (kx (gY p0 p1)) 32 0 32,aC (iY p0) (dE p0) 0 (dE p0),p1] [aC (kx (gY p0 p1)) 32 0 32,aC (iY p0) (dE p0) 0 (dE p0),p1].length)))
def BX (p0:List Int):List Int :=
 (qg (aC (F43 (((iE p0).drop 0).take 32)) 32 0 32))
def BL (p0:List Int) (p1:List Int):List Int :=
 (Ih (qg (aC (vc p0 p1) 64 0 64)) (BX p0))
def Bk (p0:List Int) (p1:List Int):List Int :=
 (uv (BL p0 p1) (qg (aC (pQ p0 p1) 64 0 64)))
def pL (p0:List Int) (p1:List Int):Int :=
 (sel (((FT9 p0):Int) != 0) (FT9 p0) 0)
def rV (p0:List Int) (p1:List Int):List Int :=
 (sel (((FT9 p0):Int) != 0) ([]:List Int) ((kx (gY p0 p1))++(rQ (Bk p0 p1))))
def Qb:List AV→List Blk→Option (Prop × Ret)
 |[.sc (.ro .u8 p0),.sc (.ro .u8 p1)],[]=>some ((p1.length≤10000),⟨.tup [.sc (.sl 0 0 (sel (((FT9 p0):Int) != 0) 0 64) 1 none),.sc (.i .i64 (pL p0 p1))],[some (.ints .u8 (sel (((FT9 p0):Int) != 0) 0 64) (rV p0 p1))]⟩)
 |_,_=>none
def SD:KL Tryz.prog gD:=Zc KT9 64 [.ro .u8] [] [] <|Zc LJ 208 [.ro .u8] [] [] <|Zc LJ 416 [.ro .u8] [400] [] <|Zc LJ 704 [.ro .u8] [688] [] <|Zv K43 304 1 <|Zc QE 400 [.rob] [384,224] [] <|Zc QE 688 [.rob] [672,592,64] [] <|Zc KD 480 [.ro .u8] [432] [] <|Zc KD 784 [.ro .u8] [720] [] <|Zc KD 816 [.ro .u8] [320] [] <|Zv RE 528 0 <|Zc RT 576 [.val,.ro .u8] [560] [] <|Zv PS 560 1 <|Zv PS 880 1 <|Zv RJ 592 1 <|Zv Rp 832 2 <|Zv Ps 864 2 <|Zn
theorem Sg:Known Tryz.prog gD 27 ⟨0,1,Qb⟩:=by
 refine Xw Tryz.f27 56 SD mixed <|fun E args ks C r h hC hlen=>?_
 simp only at h
 unfold Qb at h
 split at h
 rotate_left
 cases h
 rename_i p0 p1
 cases h
 simp only [am] at hlen
 have hn9:=Nb p0
 refine ⟨rfl,?_⟩
 refine Xs [] [] 48 (v2 pT) <|Xt [Ei 7 (FT9 p0),(6,.sc (.sl 64 0 (dE p0) 1 (some (dE p0))))] [] [Mi 64 (dE p0) (iY p0)] [] 160 (v1 (pu (pa pz pT) (v5 pT))) <|Tri.seq <|Xs [Eb 20 (((FT9 p0):Int) != 0)] [] 192 (v2 pT) <|Xa (fun h1=>?_) (fun h1=>?_)
 have h1':=bO h1
 exact Xt [Ei 5 (FT9 p0),(4,.sc (.nils))] [20,7,6,0,1] [] [64] 240 (v3 pT) <|Tri.sub (Sub.openNil (U:=240) (U':=256) 4 240 1 .u8 none (.inl rfl) (by decide) (by decide) (by kernel_rfl) (by kernel_rfl)) <|Xy [(240,0)] (pa pT pz) (by simp only [pL,rV,h1,aB,aA] <;> rfl)
 have h1':=ak h1
 refine Tri.skip <|Tri.len 64 rfl <|fun hl2=>Xt [Ep 8 224] [20,7,0] [Mi 224 64 (iE p0)] [] 256 (v1 (pu (pa pz (pl (show p0.length≤100000000 from by first|omega|(have hl:=Ik (p0:=p0) (by assumption);omega)|exact oM (my (by first|omega|exact aL (by omega) (by omega)|(rw [List.length_take];omega)) (by first|omega|exact aL (by omega) (by omega)|(rw [List.length_take];omega))).1|exact oM (kt (by first|omega|exact aL (by omega) (by omega)|(rw [List.length_take];omega)) (by first|omega|exact aL (by omega) (by omega)|(rw [List.length_take];omega)) (by first|omega|exact aL (by omega) (by omega)|(rw [List.length_take];omega))).1))) (v1 (pu (Yz 64) pT)))) ?_
 refine Xt [Ep 9 320] [] [Mi 320 32 (F43 (((iE p0).drop 0).take 32))] [] 352 (pu (pa (lo ((0:Int)≤0∧(0:Int)≤32∧32≤((64:Nat):Int))) (Ye 64 64)) (pu (lo (0<32∧32≤32)) (pu (Ye (0+32) 64) (pu pz (v1 (pu (Yz 32) pT)))))) <|Tri.len 320 rfl <|fun hl3=>Tri.len 224 rfl <|fun hl4=>Tri.len 64 rfl <|fun hl5=>Xt [Ep 10 432] [8] [Mi 432 64 (pQ p0 p1)] [224] 464 (pu (pa (lo ((0:Int)≤32∧(32:Int)≤64∧64≤((64:Nat):Int))) (Ye 64 64)) (v1 (pu (Yf 2) (pu (pa (pa (pa (ld (0+2≤2)) (pa (Ye (32+32) 64) pz)) pT) (pl (show cP [aC (iE p0) 64 32 32,p1] [aC (iE p0) 64 32 32,p1].length≤100000∧[aC (iE p0) 64 32 32,p1].length≤100000 from by first|exact my (by first|omega|exact aL (by omega) (by omega)|(rw [List.length_take];omega)) (by first|omega|exact aL (by omega) (by omega)|(rw [List.length_take];omega))|exact kt (by first|omega|exact aL (by omega) (by omega)|(rw [List.length_take];omega)) (by first|omega|exact aL (by omega) (by omega)|(rw [List.length_take];omega)) (by first|omega|exact aL (by omega) (by omega)|(rw [List.length_take];omega))))) (pu (pa (pa (Yw (cP [aC (iE p0) 64 32 32,p1] [aC (iE p0) 64 32 32,p1].length)) pT) (pl (show (aC (vZ [aC (iE p0) 64 32 32,p1]) (cP [aC (iE p0) 64 32 32,p1] [aC (iE p0) 64 32 32,p1].length) 0 (cP [aC (iE p0) 64 32 32,p1] [aC (iE p0) 64 32 32,p1].length)).length≤100000000 from by first|omega|(have hl:=Ik (p0:=p0) (by assumption);omega)|exact oM (my (by first|omega|exact aL (by omega) (by omega)|(rw [List.length_take];omega)) (by first|omega|exact aL (by omega) (by omega)|(rw [List.length_take];omega))).1|exact oM (kt (by first|omega|exact aL (by omega) (by omega)|(rw [List.length_take];omega)) (by first|omega|exact aL (by omega) (by omega)|(rw [List.length_take];omega)) (by first|omega|exact aL (by omega) (by omega)|(rw [List.length_take];omega))).1))) (v1 (pu (Yz 64) pT))))))) ?_
 refine Tri.len 432 rfl <|fun hl6=>Tri.len 320 rfl <|fun hl7=>Tri.len 64 rfl <|fun hl8=>Xt [Ep 11 496] [10] [Mk 496 .u64 4 (qg (aC (pQ p0 p1) 64 0 64))] [432] 528 (pu (pa (lo ((0:Int)≤0∧(0:Int)≤64∧64≤((64:Nat):Int))) (Ye 64 64)) (pu (pa (pa (Yw 64) pT) (Ye ((aC (pQ p0 p1) 64 0 64).length) 1000000)) (v1 (pu (Yz 4) pT)))) <|Tri.len 496 rfl <|fun hl9=>Tri.len 320 rfl <|fun hl10=>Tri.len 64 rfl <|fun hl11=>Xu [] (some [0,0,3,7,15,31]) [(12,.sc (.sl 592 0 32 1 (some 32)))] [] [Mi 592 32 (kx (gY p0 p1))] [] 624 (pu pz (v1 (pu pz (pu (pa (pa (Yw 32) pT) (pl (show (aC (CC p0 p1) 32 0 32).length≤1000000 from by exact aL (by decide) (Nat.le_trans (Nat.le_of_eq (JJ _)) (by decide))))) (pu pz (v1 pT)))))) ?_
 refine Tri.len 592 rfl <|fun hl12=>Tri.len 496 rfl <|fun hl13=>Tri.len 320 rfl <|fun hl14=>Tri.len 64 rfl <|fun hl15=>Xt [Ep 13 720] [6,1] [Mi 720 64 (vc p0 p1)] [64] 752 (v3 (pu (Yf 3) (pu (pa (pa (pa (ld (0+3≤3)) (pa (Yw 32) (pa (Yw (dE p0)) pz))) pT) (pl (show cP [aC (kx (gY p0 p1)) 32 0 32,aC (iY p0) (dE p0) 0 (dE p0),p1] [aC (kx (gY p0 p1)) 32 0 32,aC (iY p0) (dE p0) 0 (dE p0),p1].length≤100000∧[aC (kx (gY p0 p1)) 32 0 32,aC (iY p0) (dE p0) 0 (dE p0),p1].length≤100000 from by first|exact my (by first|omega|exact aL (by omega) (by omega)|(rw [List.length_take];omega)) (by first|omega|exact aL (by omega) (by omega)|(rw [List.length_take];omega))|exact kt (by first|omega|exact aL (by omega) (by omega)|(rw [List.length_take];omega)) (by first|omega|exact aL (by omega) (by omega)|(rw [List.length_take];omega)) (by first|omega|exact aL (by omega) (by omega)|(rw [List.length_take];omega))))) (pu (pa (pa (Yw (cP [aC (kx (gY p0 p1)) 32 0 32,aC (iY p0) (dE p0) 0 (dE p0),p1] [aC (kx (gY p0 p1)) 32 0 32,aC (iY p0) (dE p0) 0 (dE p0),p1].length)) pT) (pl (show (aC (Bz p0 p1) (cP [aC (kx (gY p0 p1)) 32 0 32,aC (iY p0) (dE p0) 0 (dE p0),p1] [aC (kx (gY p0 p1)) 32 0 32,aC (iY p0) (dE p0) 0 (dE p0),p1].length) 0 (cP [aC (kx (gY p0 p1)) 32 0 32,aC (iY p0) (dE p0) 0 (dE p0),p1] [aC (kx (gY p0 p1)) 32 0 32,aC (iY p0) (dE p0) 0 (dE p0),p1].length)).length≤100000000 from by first|omega|(have hl:=Ik (p0:=p0) (by assumption);omega)|exact oM (my (by first|omega|exact aL (by omega) (by omega)|(rw [List.length_take];omega)) (by first|omega|exact aL (by omega) (by omega)|(rw [List.length_take];omega))).1|exact oM (kt (by first|omega|exact aL (by omega) (by omega)|(rw [List.length_take];omega)) (by first|omega|exact aL (by omega) (by omega)|(rw [List.length_take];omega)) (by first|omega|exact aL (by omega) (by omega)|(rw [List.length_take];omega))).1))) (v1 (pu (Yz 64) pT)))))) ?_
 exact Tri.len 720 rfl <|fun hl16=>Tri.len 592 rfl <|fun hl17=>Tri.len 496 rfl <|fun hl18=>Tri.len 320 rfl <|fun hl19=>Xu [] (some [0,0,2,0,14,30,0,126,254,511,1023,2047]) [Ei 5 0,El 4 896 64] [13,12,11,9] [Mi 896 64 ((kx (gY p0 p1))++(rQ (Bk p0 p1)))] [720,592,496,320] 944 (v1 (pu (pa (lo ((0:Int)≤0∧(0:Int)≤64∧64≤((64:Nat):Int))) (Ye 64 64)) (pu (pa (pa (Yw 64) pT) (Ye ((aC (vc p0 p1) 64 0 64).length) 1000000)) (pu (pa (lo ((0:Int)≤0∧(0:Int)≤32∧32≤((32:Nat):Int))) (Ye 32 32)) (pu (pa (pa (Yw 32) pT) (Ye ((aC (F43 (((iE p0).drop 0).take 32)) 32 0 32).length) 1000000)) (pu (pa pT (pl (show rng (qg (aC (vc p0 p1) 64 0 64))∧rng (BX p0) from ⟨EY _,EY _⟩))) (v1 (pu (pa pT (pl (show rng (BL p0 p1)∧rng (qg (aC (pQ p0 p1) 64 0 64)) from ⟨Pg _ _,EY _⟩))) (pu pz (pu (pa (YN (pa (Yw 32) pT) 1 64 32 32) (pa (Yr 1) (pa (lo (32=32)) (Yl 0 32)))) (v2 pT))))))))))) <|Xy [(896,0)] (pa pT pz) (by simp only [pL,rV,h1,aB,aA] <;> rfl)
theorem HU (b:Bool):sel b 0 64≤64:=by cases b <;> decide
theorem CZ {p0:List Int} (h:p0.length=32):FT9 p0=0∧dE p0=32:=by
 have e:((((p0.length:Nat):Int):Int) != 32)=false:=by rw [h];rfl
 exact ⟨by unfold FT9;rw [e,aA],OZ e⟩
theorem Dk {p0 p1:List Int} (h:p0.length=32):pL p0 p1=0∧sel (((FT9 p0):Int) != 0) 0 64=64:=by
 have e:(((FT9 p0):Int) != 0)=false:=by rw [(CZ h).1];rfl
 exact ⟨by unfold pL;rw [e,aA],by rw [e,aA]⟩
end Go.Vm
namespace Go.Vm
open Go Go.Proofs
theorem JZ {α:Type} (b:Bool) (x:α):sel b x x=x:=by cases b <;> rfl
theorem wA {a b c:Nat} (h:a≤20000) (h':b≤20000) (h'':c≤20000):a+b+c≤1000000:=by omega
theorem nP (p:List Int) (o:Nat) (h:o+32≤64):(aC (bc p) 64 o 32).length=32:=by
 rw [iF (kV p),List.length_take,List.length_drop,kV]
 omega
def cl (p0:List Int) (p1:List Int):List Int :=
 (F19 p0 p1)
def Qx:List AV→List Blk→Option (Prop × Ret)
 |[.ints .i64 16 p0,.ints .i64 16 p1],[]=>some (True,⟨.ints .i64 16 (cl p0 p1),[]⟩)
 |_,_=>none
theorem Gc:Known Tryz.prog gD 43 ⟨0,0,Qx⟩:=by
 refine Xw Tryz.f43 8 (Zv K19 96 2 <|Zn) mixed <|fun E args ks C r h hC hlen=>?_
 simp only at h
 unfold Qx at h
 split at h
 rotate_left
 cases h
 rename_i p0 p1
 cases h
 simp only [am] at hlen
 refine ⟨rfl,?_⟩
 exact Xt [Ep 4 48,Ep 3 32,Ep 2 16] [0,1] [Mk 48 .i64 16 [0,0,0,0,0,0,0,0,0,0,0,0,0,0,0,0],Mk 32 .i64 16 p1,Mk 16 .i64 16 p0] [] 64 (v3 pT) <|Xt [] [3,2] [Mk 48 .i64 16 (F19 p0 p1)] [48,32,16] 128 (v2 (pu pz (pu (Yz 16) pT))) <|Xz [] pz
def au (p0:Int):List Int :=
 (F31 p0)
def Qt:List AV→List Blk→Option (Prop × Ret)
 |[.sc (.i .i64 p0)],[]=>some (True,⟨.ints .i64 16 (au p0),[]⟩)
 |_,_=>none
theorem rA:Known Tryz.prog gD 44 ⟨0,0,Qt⟩:=by
 refine Xw Tryz.f44 5 (Zv K31 48 1 <|Zn) mixed <|fun E args ks C r h hC hlen=>?_
 simp only at h
 unfold Qt at h
 split at h
 rotate_left
 cases h
 rename_i p0
 cases h
 simp only [am] at hlen
 refine ⟨rfl,?_⟩
 exact Xt [Ep 2 16] [] [Mk 16 .i64 16 [0,0,0,0,0,0,0,0,0,0,0,0,0,0,0,0]] [] 32 (v1 pT) <|Xt [] [0] [Mk 16 .i64 16 (F31 p0)] [16] 80 (v1 (pu pz (pu (Yz 16) pT))) <|Xz [] pz
def aI (p0:List Int) (p1:List Int):List Int :=
 (F21 p0 p1)
def Qy:List AV→List Blk→Option (Prop × Ret)
 |[.ints .i64 16 p0,.ints .i64 16 p1],[]=>some (True,⟨.ints .i64 16 (aI p0 p1),[]⟩)
 |_,_=>none
theorem mG:Known Tryz.prog gD 87 ⟨0,0,Qy⟩:=by
 refine Xw Tryz.f87 8 (Zv K21 96 2 <|Zn) mixed <|fun E args ks C r h hC hlen=>?_
 simp only at h
 unfold Qy at h
 split at h
 rotate_left
 cases h
 rename_i p0 p1
 cases h
 simp only [am] at hlen
 refine ⟨rfl,?_⟩
 exact Xt [Ep 4 48,Ep 3 32,Ep 2 16] [0,1] [Mk 48 .i64 16 [0,0,0,0,0,0,0,0,0,0,0,0,0,0,0,0],Mk 32 .i64 16 p1,Mk 16 .i64 16 p0] [] 64 (v3 pT) <|Xt [] [3,2] [Mk 48 .i64 16 (F21 p0 p1)] [48,32,16] 128 (v2 (pu pz (pu (Yz 16) pT))) <|Xz [] pz
def dh (p0:List Int) (p1:List Int):List Int :=
 (F17 p0 p1)
def Qp:List AV→List Blk→Option (Prop × Ret)
 |[.ints .i64 16 p0,.ints .i64 16 p1],[]=>some (True,⟨.ints .i64 16 (dh p0 p1),[]⟩)
 |_,_=>none
theorem Lk:Known Tryz.prog gD 90 ⟨0,0,Qp⟩:=by
 refine Xw Tryz.f90 8 (Zv K17 96 2 <|Zn) mixed <|fun E args ks C r h hC hlen=>?_
 simp only at h
 unfold Qp at h
 split at h
 rotate_left
 cases h
 rename_i p0 p1
 cases h
 simp only [am] at hlen
 refine ⟨rfl,?_⟩
 exact Xt [Ep 4 48,Ep 3 32,Ep 2 16] [0,1] [Mk 48 .i64 16 [0,0,0,0,0,0,0,0,0,0,0,0,0,0,0,0],Mk 32 .i64 16 p1,Mk 16 .i64 16 p0] [] 64 (v3 pT) <|Xt [] [3,2] [Mk 48 .i64 16 (F17 p0 p1)] [48,32,16] 128 (v2 (pu pz (pu (Yz 16) pT))) <|Xz [] pz
def de:List Int :=
 (cl (au 0) (aI (au 121665) (F28 (au 121666))))
def Rk:List AV→List Blk→Option (Prop × Ret)
 |[],[]=>some (True,⟨.ints .i64 16 (de),[]⟩)
 |_,_=>none
theorem OX:Known Tryz.prog gD 50 ⟨0,0,Rk⟩:=by
 refine Xw Tryz.f50 7 (Zv Gc 112 2 <|Zv rA 32 1 <|Zv rA 48 1 <|Zv rA 64 1 <|Zv mG 96 2 <|Zv K28 80 1 <|Zn) mixed <|fun E args ks C r h hC hlen=>?_
 simp only at h
 unfold Rk at h
 split at h
 rotate_left
 cases h
 cases h
 simp only [am] at hlen
 refine ⟨rfl,?_⟩
 exact Xt [Ep 0 16] [] [Mk 16 .i64 16 [0,0,0,0,0,0,0,0,0,0,0,0,0,0,0,0]] [] 32 (v1 pT) <|Xt [] [] [Mk 16 .i64 16 (cl (au 0) (aI (au 121665) (F28 (au 121666))))] [16] 144 (pu pz (pu pz (pu pz (pu pz (pu pz (pu pz (pu (Yz 16) pT))))))) <|Xz [] pz
def tH (p0:List Int) (p1:List Int) (p2:List Int):List Int :=
 aT (aT (aT [0,0,0,0,0,0,0,0,0,0,0,0,0,0,0,0,0,0,0,0,0,0,0,0,0,0,0,0,0,0,0,0,0,0,0,0,0,0,0,0,0,0,0,0,0,0,0,0] 0 (aI (aI (dh (aI ((p0.drop 0).take 16) ((p1.drop 16).take 16)) (aI ((p1.drop 0).take 16) ((p0.drop 16).take 16))) (aI ((p0.drop 32).take 16) ((p1.drop 32).take 16))) (cl (aI (aI ((p0.drop 32).take 16) ((p1.drop 32).take 16)) (aI ((p0.drop 32).take 16) ((p1.drop 32).take 16))) (aI p2 (aI (aI ((p0.drop 0).take 16) ((p1.drop 0).take 16)) (aI ((p0.drop 16).take 16) ((p1.drop 16).take 16))))))) 16 (aI (aI (dh (aI ((p0.drop 16).take 16) ((p1.drop 16).take 16)) (aI ((p0.drop 0).take 16) ((p1.drop 0).take 16))) (aI ((p0.drop 32).take 16) ((p1.drop 32).take 16))) (dh (aI (aI ((p0.drop 32).take 16) ((p1.drop 32).take 16)) (aI ((p0.drop 32).take 16) ((p1.drop 32).take 16))) (aI p2 (aI (aI ((p0.drop 0).take 16) ((p1.drop 0).take 16)) (aI ((p0.drop 16).take 16) ((p1.drop 16).take 16))))))) 32 (aI (dh (aI (aI ((p0.drop 32).take 16) ((p1.drop 32).take 16)) (aI ((p0.drop 32).take 16) ((p1.drop 32).take 16))) (aI p2 (aI (aI ((p0.drop 0).take 16) ((p1.drop 0).take 16)) (aI ((p0.drop 16).take 16) ((p1.drop 16).take 16))))) (cl (aI (aI ((p0.drop 32).take 16) ((p1.drop 32).take 16)) (aI ((p0.drop 32).take 16) ((p1.drop 32).take 16))) (aI p2 (aI (aI ((p0.drop 0).take 16) ((p1.drop 0).take 16)) (aI ((p0.drop 16).take 16) ((p1.drop 16).take 16))))))
def Pu:List AV→List Blk→Option (Prop × Ret)
 |[.ints .i64 48 p0,.ints .i64 48 p1,.ints .i64 16 p2],[]=>some (True,⟨.ints .i64 48 (tH p0 p1 p2),[]⟩)
 |_,_=>none
def SK:KL Tryz.prog gD:=Zv Gc 896 2 <|Zv mG 144 2 <|Zv mG 224 2 <|Zv mG 304 2 <|Zv mG 480 2 <|Zv mG 560 2 <|Zv mG 672 2 <|Zv mG 688 2 <|Zv mG 768 2 <|Zv mG 1008 2 <|Zv mG 1040 2 <|Zv mG 1120 2 <|Zv mG 1152 2 <|Zv mG 1200 2 <|Zv Lk 576 2 <|Zv Lk 848 2 <|Zv Lk 1088 2 <|Zn
theorem Nl:Known Tryz.prog gD 46 ⟨0,0,Pu⟩:=by
 refine Xw Tryz.f46 71 SK mixed <|fun E args ks C r h hC hlen=>?_
 simp only at h
 unfold Pu at h
 split at h
 rotate_left
 cases h
 rename_i p0 p1 p2
 cases h
 simp only [am] at hlen
 refine ⟨rfl,?_⟩
 exact Xt [Ep 6 64,Ep 5 48,Ep 4 32,Ep 3 16] [0,1,2] [Mk 64 .i64 48 [0,0,0,0,0,0,0,0,0,0,0,0,0,0,0,0,0,0,0,0,0,0,0,0,0,0,0,0,0,0,0,0,0,0,0,0,0,0,0,0,0,0,0,0,0,0,0,0],Mk 48 .i64 16 p2,Mk 32 .i64 48 p1,Mk 16 .i64 48 p0] [] 80 (v4 pT) <|Xu [] (some [0,1,0,4,15,0,32,0,128,511,0,1024,0,4096,16383,0,0,0,262143,524287,1048575]) [Ep 9 352,Ep 8 336,Ep 7 320] [] [Mk 352 .i64 16 (aI ((p0.drop 32).take 16) ((p1.drop 32).take 16)),Mk 336 .i64 16 (aI ((p0.drop 16).take 16) ((p1.drop 16).take 16)),Mk 320 .i64 16 (aI ((p0.drop 0).take 16) ((p1.drop 0).take 16))] [] 416 (v1 (pu (Ye (0+16) 48) (v1 (pu (Ye (0+16) 48) (pu pz (v1 (pu (Ye (16+16) 48) (v1 (pu (Ye (16+16) 48) (pu pz (v1 (pu (Ye (32+16) 48) (v1 (pu (Ye (32+16) 48) (pu pz (v3 (pu (Yz 16) (pu (Yz 16) (pu (Yz 16) pT))))))))))))))))))) <|Xu [] (some [0,1,0,4,15,0,32,0,128,511,1023,0,4095]) [Ep 10 592] [4,3] [Mk 592 .i64 16 (dh (aI ((p0.drop 0).take 16) ((p1.drop 16).take 16)) (aI ((p1.drop 0).take 16) ((p0.drop 16).take 16)))] [32,16] 624 (v1 (pu (Ye (0+16) 48) (v1 (pu (Ye (16+16) 48) (pu pz (v1 (pu (Ye (0+16) 48) (v1 (pu (Ye (16+16) 48) (pu pz (pu pz (v1 (pu (Yz 16) pT))))))))))))) <|Xu [] (some [0,0,0,6,15,0,63]) [Ep 11 704] [5] [Mk 704 .i64 16 (aI p2 (aI (aI ((p0.drop 0).take 16) ((p1.drop 0).take 16)) (aI ((p0.drop 16).take 16) ((p1.drop 16).take 16))))] [48] 736 (v3 (pu pz (pu pz (v1 (pu (Yz 16) pT))))) <|Xt [Ep 12 784] [] [Mk 784 .i64 16 (aI (aI ((p0.drop 32).take 16) ((p1.drop 32).take 16)) (aI ((p0.drop 32).take 16) ((p1.drop 32).take 16)))] [] 816 (v2 (pu pz (v1 (pu (Yz 16) pT)))) <|Xu [] (some [0,0,3,0,0,31,0,0,255,511]) [Ep 14 928,Ep 13 912] [12,11] [Mk 928 .i64 16 (cl (aI (aI ((p0.drop 32).take 16) ((p1.drop 32).take 16)) (aI ((p0.drop 32).take 16) ((p1.drop 32).take 16))) (aI p2 (aI (aI ((p0.drop 0).take 16) ((p1.drop 0).take 16)) (aI ((p0.drop 16).take 16) ((p1.drop 16).take 16))))),Mk 912 .i64 16 (dh (aI (aI ((p0.drop 32).take 16) ((p1.drop 32).take 16)) (aI ((p0.drop 32).take 16) ((p1.drop 32).take 16))) (aI p2 (aI (aI ((p0.drop 0).take 16) ((p1.drop 0).take 16)) (aI ((p0.drop 16).take 16) ((p1.drop 16).take 16)))))] [784,704] 976 (v2 (pu pz (v2 (pu pz (v2 (pu (Yz 16) (pu (Yz 16) pT))))))) <|Xu [] (some [0,0,3,0,15,0,0,127,0,511,0,2047,0,0,16383,32767,65535]) [] [14,13,10,9,8,7] [Mk 64 .i64 48 (aT (aT (aT [0,0,0,0,0,0,0,0,0,0,0,0,0,0,0,0,0,0,0,0,0,0,0,0,0,0,0,0,0,0,0,0,0,0,0,0,0,0,0,0,0,0,0,0,0,0,0,0] 0 (aI (aI (dh (aI ((p0.drop 0).take 16) ((p1.drop 16).take 16)) (aI ((p1.drop 0).take 16) ((p0.drop 16).take 16))) (aI ((p0.drop 32).take 16) ((p1.drop 32).take 16))) (cl (aI (aI ((p0.drop 32).take 16) ((p1.drop 32).take 16)) (aI ((p0.drop 32).take 16) ((p1.drop 32).take 16))) (aI p2 (aI (aI ((p0.drop 0).take 16) ((p1.drop 0).take 16)) (aI ((p0.drop 16).take 16) ((p1.drop 16).take 16))))))) 16 (aI (aI (dh (aI ((p0.drop 16).take 16) ((p1.drop 16).take 16)) (aI ((p0.drop 0).take 16) ((p1.drop 0).take 16))) (aI ((p0.drop 32).take 16) ((p1.drop 32).take 16))) (dh (aI (aI ((p0.drop 32).take 16) ((p1.drop 32).take 16)) (aI ((p0.drop 32).take 16) ((p1.drop 32).take 16))) (aI p2 (aI (aI ((p0.drop 0).take 16) ((p1.drop 0).take 16)) (aI ((p0.drop 16).take 16) ((p1.drop 16).take 16))))))) 32 (aI (dh (aI (aI ((p0.drop 32).take 16) ((p1.drop 32).take 16)) (aI ((p0.drop 32).take 16) ((p1.drop 32).take 16))) (aI p2 (aI (aI ((p0.drop 0).take 16) ((p1.drop 0).take 16)) (aI ((p0.drop 16).take 16) ((p1.drop 16).take 16))))) (cl (aI (aI ((p0.drop 32).take 16) ((p1.drop 32).take 16)) (aI ((p0.drop 32).take 16) ((p1.drop 32).take 16))) (aI p2 (aI (aI ((p0.drop 0).take 16) ((p1.drop 0).take 16)) (aI ((p0.drop 16).take 16) ((p1.drop 16).take 16)))))))] [928,912,592,352,336,320,64] 1248 (v2 (pu pz (v1 (pu pz (v2 (pu pz (v1 (pu pz (v1 (pu pz (v2 (pu pz (pu (pa (pa (Ye (0+16) 48) (Yr 16)) (pa (pa (Ye (16+16) 48) (Yr 16)) (pa (pa (Ye (32+16) 48) (Yr 16)) pT))) (pu (Yz 48) pT)))))))))))))) <|Xz [] pz
def ot (p0:List Int) (k0:Nat) (z0:List Int × List Int):List Int × List Int :=
 ((sel (((bm (aH .u8 (p0.getD (k0/8) 0) ((k0 % 8:Nat):Int)) 2):Int)==1) (tH z0.1 z0.2 (de)) z0.1),(tH z0.2 z0.2 (de)))
def tD (p0:List Int) (p1:List Int):List Int :=
 (itr (ot p0) (8*p0.length) (aT (aT [0,0,0,0,0,0,0,0,0,0,0,0,0,0,0,0,0,0,0,0,0,0,0,0,0,0,0,0,0,0,0,0,0,0,0,0,0,0,0,0,0,0,0,0,0,0,0,0] 16 (au 1)) 32 (au 1),p1)).1
def Rm:List AV→List Blk→Option (Prop × Ret)
 |[.sc (.ro .u8 p0),.ints .i64 48 p1],[]=>some ((p0.length≤1000000),⟨.ints .i64 48 (tD p0 p1),[]⟩)
 |_,_=>none
theorem KH:Known Tryz.prog gD 47 ⟨0,0,Rm⟩:=by
 refine Xw Tryz.f47 38 (Zv rA 96 1 <|Zv rA 112 1 <|Zv Nl 480 3 <|Zv Nl 560 3 <|Zv OX 48 0 <|Zn) mixed <|fun E args ks C r h hC hlen=>?_
 simp only at h
 unfold Rm at h
 split at h
 rotate_left
 cases h
 rename_i p0 p1
 cases h
 simp only [am] at hlen
 refine ⟨rfl,?_⟩
 refine Xt [Ep 4 32,Ep 3 16] [1] [Mk 32 .i64 48 [0,0,0,0,0,0,0,0,0,0,0,0,0,0,0,0,0,0,0,0,0,0,0,0,0,0,0,0,0,0,0,0,0,0,0,0,0,0,0,0,0,0,0,0,0,0,0,0],Mk 16 .i64 48 p1] [] 48 (v2 pT) <|Xt [Ep 5 64] [] [Mk 64 .i64 16 (de)] [] 96 (pu pz (v1 (pu (Yz 16) pT))) <|Xt [Ep 6 144] [] [Mk 144 .i64 48 (aT (aT [0,0,0,0,0,0,0,0,0,0,0,0,0,0,0,0,0,0,0,0,0,0,0,0,0,0,0,0,0,0,0,0,0,0,0,0,0,0,0,0,0,0,0,0,0,0,0,0] 16 (au 1)) 32 (au 1))] [] 176 (pu pz (pu pz (pu (pa (pa (Ye (16+16) 48) (Yr 16)) (pa (pa (Ye (32+16) 48) (Yr 16)) pT)) (v1 (pu (Yz 48) pT))))) <|Tri.seq <|Xs [Ei 7 0] [] 192 (v1 pT) <|Tri.block <|Xc (8*p0.length) (ot p0) (aT (aT [0,0,0,0,0,0,0,0,0,0,0,0,0,0,0,0,0,0,0,0,0,0,0,0,0,0,0,0,0,0,0,0,0,0,0,0,0,0,0,0,0,0,0,0,0,0,0,0] 16 (au 1)) 32 (au 1),p1) (fun k0 z0=>True) (fun k0 z0=>[Ej 7 k0]) (fun k0 z0=>[Mk 144 .i64 48 z0.1,Mk 16 .i64 48 z0.2]) trivial <|fun k0 z0 hk0 hz0 hJ0=>Tri.seq <|Xu [Ej 15 (8*p0.length)] none [Eb 16 (decide ((((k0:Nat):Int):Int)<((8*p0.length:Nat):Int)))] [] [] [] 272 (v3 (pv pT (Yt 8 p0.length) (v1 pT))) <|Xb (fun h1 h1'=>?_) (fun h1 h1'=>?_)
 refine Tri.skip <|Tri.seq <|Tri.block <|Tri.seq <|Xu [Ej 21 (k0/8),Ej 25 (k0 % 8)] none [Eb 28 (((bm (aH .u8 (p0.getD (k0/8) 0) ((k0 % 8:Nat):Int)) 2):Int)==1)] [16] [] [] 432 (v2 (pv (Yn 8) (pl (cZ (a:=k0) (b:=8) (by omega))) (pu (Yj (k0/8) p0.length) (pu (Yl (k0/8) p0.length) (v1 (pv (Yn 8) (pl (dQ (a:=k0) (b:=8))) (pu (Y0 ((k0 % 8:Nat):Int)) (pu (Yn 2) (v1 pT))))))))) <|Xj (x:=(((bm (aH .u8 (p0.getD (k0/8) 0) ((k0 % 8:Nat):Int)) 2):Int)==1)) (fun bb=>[]) [28] (fun bb=>[Mk 144 .i64 48 (sel bb (tH z0.1 z0.2 (de)) z0.1)]) [144] 512 (fun h2=>?_) (fun h2=>?_) ?_
 have h2':=fC h2
 exact Wt [] [28] [Mk 144 .i64 48 (tH z0.1 z0.2 (de))] [144] 512 (v3 (pu pz (pu (Yz 48) pT))) <|Xe [] [Mk 144 .i64 48 (tH z0.1 z0.2 (de))]
 have h2':=eL h2
 exact Tri.skip <|Xe [] [Mk 144 .i64 48 z0.1]
 exact Wt [] [] [Mk 16 .i64 48 (tH z0.2 z0.2 (de))] [16] 592 (v3 (pu pz (pu (Yz 48) pT))) <|Wu [Ej 18 (k0+1)] none [Ej 7 (k0+1)] [7] [] [] 640 (v1 (pv pT (Yp k0 1) (v1 pT))) <|Xo [] trivial
 refine Tri.exit <|?_
 obtain rfl:k0=(8*p0.length):=(by omega);subst hz0
 exact Xt [] [16,7,6,5,3,0] [Mk 32 .i64 48 ((itr (ot p0) (8*p0.length) (aT (aT [0,0,0,0,0,0,0,0,0,0,0,0,0,0,0,0,0,0,0,0,0,0,0,0,0,0,0,0,0,0,0,0,0,0,0,0,0,0,0,0,0,0,0,0,0,0,0,0] 16 (au 1)) 32 (au 1),p1)).1)] [144,64,32,16] 304 (v1 (pu (Yz 48) pT)) <|Xz [] pz
def np (p0:List Int):List Int :=
 (sel (((bm ((aI ((p0.drop 0).take 16) (F28 ((p0.drop 32).take 16))).getD 0 0) 2):Int)==1) ((F49 (aI ((p0.drop 16).take 16) (F28 ((p0.drop 32).take 16)))).set 31 (aE .u8 ((F49 (aI ((p0.drop 16).take 16) (F28 ((p0.drop 32).take 16)))).getD 31 0) 128)) (F49 (aI ((p0.drop 16).take 16) (F28 ((p0.drop 32).take 16)))))
def QX:List AV→List Blk→Option (Prop × Ret)
 |[.ints .i64 48 p0],[]=>some (True,⟨.sc (.sl 0 0 32 1 none),[some (.ints .u8 32 (np p0))]⟩)
 |_,_=>none
theorem Ns:Known Tryz.prog gD 45 ⟨0,1,QX⟩:=by
 refine Xw Tryz.f45 26 (Zv K49 192 1 <|Zv mG 176 2 <|Zv mG 272 2 <|Zv K28 80 1 <|Zn) mixed <|fun E args ks C r h hC hlen=>?_
 simp only at h
 unfold QX at h
 split at h
 rotate_left
 cases h
 rename_i p0
 cases h
 simp only [am] at hlen
 refine ⟨rfl,?_⟩
 refine Xt [Ep 1 16] [0] [Mk 16 .i64 48 p0] [] 48 (v2 pT) <|Xt [Ep 3 96] [] [Mk 96 .i64 16 (F28 ((p0.drop 32).take 16))] [] 128 (v1 (pu (Ye (32+16) 48) (pu pz (v1 (pu (Yz 16) pT))))) <|Xt [El 4 192 32] [] [Mi 192 32 (F49 (aI ((p0.drop 16).take 16) (F28 ((p0.drop 32).take 16))))] [] 224 (v1 (pu (Ye (16+16) 48) (v1 (pu pz (pu pz (v1 pT)))))) <|Tri.seq <|Xt [Eb 19 (((bm ((aI ((p0.drop 0).take 16) (F28 ((p0.drop 32).take 16))).getD 0 0) 2):Int)==1)] [3,1] [] [96,16] 336 (v1 (pu (Ye (0+16) 48) (v1 (pu pz (pu (pa (Yi 0 16) (Yl 0 16)) (pu (Yn 2) (v1 pT))))))) <|Xj (x:=(((bm ((aI ((p0.drop 0).take 16) (F28 ((p0.drop 32).take 16))).getD 0 0) 2):Int)==1)) (fun bb=>[]) [19] (fun bb=>[Mi 192 32 (sel bb ((F49 (aI ((p0.drop 16).take 16) (F28 ((p0.drop 32).take 16)))).set 31 (aE .u8 ((F49 (aI ((p0.drop 16).take 16) (F28 ((p0.drop 32).take 16)))).getD 31 0) 128)) (F49 (aI ((p0.drop 16).take 16) (F28 ((p0.drop 32).take 16)))))]) [192] 432 (fun h1=>?_) (fun h1=>?_) ?_
 have h1':=fC h1
 exact Wt [] [19] [Mi 192 32 ((F49 (aI ((p0.drop 16).take 16) (F28 ((p0.drop 32).take 16)))).set 31 (aE .u8 ((F49 (aI ((p0.drop 16).take 16) (F28 ((p0.drop 32).take 16)))).getD 31 0) 128))] [192] 432 (v1 (pu (Yi 31 32) (pu (Yl 31 32) (v1 (pu (Yi 31 32) (pu (Ys 31 32) pT)))))) <|Xe [] [Mi 192 32 ((F49 (aI ((p0.drop 16).take 16) (F28 ((p0.drop 32).take 16)))).set 31 (aE .u8 ((F49 (aI ((p0.drop 16).take 16) (F28 ((p0.drop 32).take 16)))).getD 31 0) 128))]
 have h1':=eL h1
 exact Tri.skip <|Xe [] [Mi 192 32 (F49 (aI ((p0.drop 16).take 16) (F28 ((p0.drop 32).take 16))))]
 exact Xs [El 2 192 32] [4] 464 (v2 pT) <|Xz [(192,0)] pz
theorem pR (p0:List Int):(np p0).length=32:=by
 unfold np
 cases (((bm ((aI ((p0.drop 0).take 16) (F28 ((p0.drop 32).take 16))).getD 0 0) 2):Int)==1)
 ·rw [aA,IQ]
 ·rw [aB,List.length_set,IQ]
def mV (p0:List Int):List Int :=
 (sel ((((p0.length:Nat):Int):Int) != 32) [0,0,0,0,0,0,0,0,0,0,0,0,0,0,0,0,0,0,0,0,0,0,0,0,0,0,0,0,0,0,0,0,0,0,0,0,0,0,0,0,0,0,0,0,0,0,0,0] (sel (!(aR (bytesOf (((sel (decide ((p0.getD 31 0:Int) ≥ 128)) ((F49 (F24 p0)).set 31 (aE .u8 ((F49 (F24 p0)).getD 31 0) 128)) (F49 (F24 p0))).drop 0).take 32)) (bytesOf p0))) [0,0,0,0,0,0,0,0,0,0,0,0,0,0,0,0,0,0,0,0,0,0,0,0,0,0,0,0,0,0,0,0,0,0,0,0,0,0,0,0,0,0,0,0,0,0,0,0] (sel (!(tr (aI (cl (aI (F24 p0) (F24 p0)) (au 1)) (F28 (dh (aI (de) (aI (F24 p0) (F24 p0))) (au 1)))))) [0,0,0,0,0,0,0,0,0,0,0,0,0,0,0,0,0,0,0,0,0,0,0,0,0,0,0,0,0,0,0,0,0,0,0,0,0,0,0,0,0,0,0,0,0,0,0,0] (sel (((F35 (aI (cl (aI (F24 p0) (F24 p0)) (au 1)) (F28 (dh (aI (de) (aI (F24 p0) (F24 p0))) (au 1))))):List Int)==(au 0)) (sel (decide ((p0.getD 31 0:Int) ≥ 128)) [0,0,0,0,0,0,0,0,0,0,0,0,0,0,0,0,0,0,0,0,0,0,0,0,0,0,0,0,0,0,0,0,0,0,0,0,0,0,0,0,0,0,0,0,0,0,0,0] (aT (aT (aT [0,0,0,0,0,0,0,0,0,0,0,0,0,0,0,0,0,0,0,0,0,0,0,0,0,0,0,0,0,0,0,0,0,0,0,0,0,0,0,0,0,0,0,0,0,0,0,0] 0 (sel (!((((bm ((F35 (aI (cl (aI (F24 p0) (F24 p0)) (au 1)) (F28 (dh (aI (de) (aI (F24 p0) (F24 p0))) (au 1))))).getD 0 0) 2):Int)==1)==(decide ((p0.getD 31 0:Int) ≥ 128)))) (cl (au 0) (F35 (aI (cl (aI (F24 p0) (F24 p0)) (au 1)) (F28 (dh (aI (de) (aI (F24 p0) (F24 p0))) (au 1)))))) (F35 (aI (cl (aI (F24 p0) (F24 p0)) (au 1)) (F28 (dh (aI (de) (aI (F24 p0) (F24 p0))) (au 1))))))) 16 (F24 p0)) 32 (au 1))) (aT (aT (aT [0,0,0,0,0,0,0,0,0,0,0,0,0,0,0,0,0,0,0,0,0,0,0,0,0,0,0,0,0,0,0,0,0,0,0,0,0,0,0,0,0,0,0,0,0,0,0,0] 0 (sel (!((((bm ((F35 (aI (cl (aI (F24 p0) (F24 p0)) (au 1)) (F28 (dh (aI (de) (aI (F24 p0) (F24 p0))) (au 1))))).getD 0 0) 2):Int)==1)==(decide ((p0.getD 31 0:Int) ≥ 128)))) (cl (au 0) (F35 (aI (cl (aI (F24 p0) (F24 p0)) (au 1)) (F28 (dh (aI (de) (aI (F24 p0) (F24 p0))) (au 1)))))) (F35 (aI (cl (aI (F24 p0) (F24 p0)) (au 1)) (F28 (dh (aI (de) (aI (F24 p0) (F24 p0))) (au 1))))))) 16 (F24 p0)) 32 (au 1))))))
def iN (p0:List Int):Bool :=
 (sel ((((p0.length:Nat):Int):Int) != 32) false (sel (!(aR (bytesOf (((sel (decide ((p0.getD 31 0:Int) ≥ 128)) ((F49 (F24 p0)).set 31 (aE .u8 ((F49 (F24 p0)).getD 31 0) 128)) (F49 (F24 p0))).drop 0).take 32)) (bytesOf p0))) false (sel (!(tr (aI (cl (aI (F24 p0) (F24 p0)) (au 1)) (F28 (dh (aI (de) (aI (F24 p0) (F24 p0))) (au 1)))))) false (sel (((F35 (aI (cl (aI (F24 p0) (F24 p0)) (au 1)) (F28 (dh (aI (de) (aI (F24 p0) (F24 p0))) (au 1))))):List Int)==(au 0)) (sel (decide ((p0.getD 31 0:Int) ≥ 128)) false true) true))))
def Rh:List AV→List Blk→Option (Prop × Ret)
 |[.sc (.ro .u8 p0)],[]=>some (True,⟨.tup [.ints .i64 48 (mV p0),.sc (.b (iN p0))],[]⟩)
 |_,_=>none
def SP:KL Tryz.prog gD:=Zv Gc 592 2 <|Zv Gc 1120 2 <|Zv rA 576 1 <|Zv rA 656 1 <|Zv rA 896 1 <|Zv rA 1088 1 <|Zv rA 1184 1 <|Zv OX 608 0 <|Zc K24 112 [.ro .u8] [] [] <|Zv K49 176 1 <|Zv mG 512 2 <|Zv mG 640 2 <|Zv mG 704 2 <|Zv K35 720 1 <|Zv K28 688 1 <|Zv Lk 672 2 <|Zn
theorem Qd:Known Tryz.prog gD 40 ⟨0,0,Rh⟩:=by
 refine Xw Tryz.f40 75 SP mixed <|fun E args ks C r h hC hlen=>?_
 simp only at h
 unfold Rh at h
 split at h
 rotate_left
 cases h
 rename_i p0
 cases h
 simp only [am] at hlen
 refine ⟨rfl,?_⟩
 refine Xt [Ep 2 16] [] [Mk 16 .i64 48 [0,0,0,0,0,0,0,0,0,0,0,0,0,0,0,0,0,0,0,0,0,0,0,0,0,0,0,0,0,0,0,0,0,0,0,0,0,0,0,0,0,0,0,0,0,0,0,0]] [] 48 (v2 pT) <|Tri.seq <|Xs [Eb 12 ((((p0.length:Nat):Int):Int) != 32)] [] 96 (v3 pT) <|Xa (fun h1=>?_) (fun h1=>?_)
 have h1':=bO h1
 exact Xs [Eb 3 false] [12,0] 144 (v1 (pu (Yz 48) (v1 pT))) <|Tri.ret <|rt <|qr.conv (r':=⟨.tup [.ints .i64 48 [0,0,0,0,0,0,0,0,0,0,0,0,0,0,0,0,0,0,0,0,0,0,0,0,0,0,0,0,0,0,0,0,0,0,0,0,0,0,0,0,0,0,0,0,0,0,0,0],.sc (.b false)],[]⟩) (by simp only [mV,iN];try simp only [h1,aB,aA]) <|er [] (pa pT pz)
 have h1':=ak h1
 refine Tri.skip <|Xt [Ep 4 128] [12] [Mk 128 .i64 16 (F24 p0)] [] 160 (v1 (pu (pa pz (lo (p0.length=32))) (v1 (pu (Yz 16) pT)))) <|Xt [El 5 176 32] [] [Mi 176 32 (F49 (F24 p0))] [] 208 (v1 (pu pz (v1 pT))) <|Xs [Eb 6 (decide ((p0.getD 31 0:Int) ≥ 128))] [] 288 (v1 (pu (Yi 31 p0.length) (pu (Yl 31 p0.length) (v2 pT)))) <|Tri.seq <|Xs [Eb 22 (decide ((p0.getD 31 0:Int) ≥ 128))] [] 304 (v1 pT) <|Xj (x:=(decide ((p0.getD 31 0:Int) ≥ 128))) (fun bb=>[]) [22] (fun bb=>[Mi 176 32 (sel bb ((F49 (F24 p0)).set 31 (aE .u8 ((F49 (F24 p0)).getD 31 0) 128)) (F49 (F24 p0)))]) [176] 400 (fun h2=>?_) (fun h2=>?_) ?_
 have h2':=of_decide_eq_true h2
 exact Wt [] [22] [Mi 176 32 ((F49 (F24 p0)).set 31 (aE .u8 ((F49 (F24 p0)).getD 31 0) 128))] [176] 400 (v1 (pu (Yi 31 32) (pu (Yl 31 32) (v1 (pu (Yi 31 32) (pu (Ys 31 32) pT)))))) <|Xe [] [Mi 176 32 ((F49 (F24 p0)).set 31 (aE .u8 ((F49 (F24 p0)).getD 31 0) 128))]
 have h2':=of_decide_eq_false h2
 exact Tri.skip <|Xe [] [Mi 176 32 (F49 (F24 p0))]
 refine Tri.seq <|Xt [Eb 32 (!(aR (bytesOf (((sel (decide ((p0.getD 31 0:Int) ≥ 128)) ((F49 (F24 p0)).set 31 (aE .u8 ((F49 (F24 p0)).getD 31 0) 128)) (F49 (F24 p0))).drop 0).take 32)) (bytesOf p0)))] [5,0] [] [176] 480 (v1 (pu (Yw 32) (v3 pT))) <|Xa (fun h3=>?_) (fun h3=>?_)
 exact Xt [Eb 3 false] [32,6,4] [] [128] 528 (v1 (pu (Yz 48) (v1 pT))) <|Tri.ret <|rt <|qr.conv (r':=⟨.tup [.ints .i64 48 [0,0,0,0,0,0,0,0,0,0,0,0,0,0,0,0,0,0,0,0,0,0,0,0,0,0,0,0,0,0,0,0,0,0,0,0,0,0,0,0,0,0,0,0,0,0,0,0],.sc (.b false)],[]⟩) (by simp only [mV,iN];try simp only [h1,aB,aA];try simp only [h3,aB,aA]) <|er [] (pa pT pz)
 refine Tri.skip <|Xt [Ep 7 528] [32] [Mk 528 .i64 16 (aI (F24 p0) (F24 p0))] [] 560 (v2 (pu pz (v1 (pu (Yz 16) pT)))) <|Xu [] (some [0,0,3,7,0,31,63,127,255,511,1023,2047,4095,4095,0,24575,65535]) [Eb 9 (tr (aI (cl (aI (F24 p0) (F24 p0)) (au 1)) (F28 (dh (aI (de) (aI (F24 p0) (F24 p0))) (au 1))))),Ep 8 784] [7] [Mk 784 .i64 16 (F35 (aI (cl (aI (F24 p0) (F24 p0)) (au 1)) (F28 (dh (aI (de) (aI (F24 p0) (F24 p0))) (au 1)))))] [528] 832 (v1 (pu pz (pu pz (pu pz (v1 (pu pz (pu pz (pu pz (pu pz (pu pz (pu pz (v4 (pu (Yz 16) (v1 pT)))))))))))))) <|Tri.seq <|Tri.split (!(tr (aI (cl (aI (F24 p0) (F24 p0)) (au 1)) (F28 (dh (aI (de) (aI (F24 p0) (F24 p0))) (au 1)))))) (fun h4=>?_) (fun h4=>?_)
 exact Xu [Eb 53 true] (some [0,1,3,7,7,31,63,127,255,511]) [Eb 60 true] [9] [] [] 992 (v2 (pg h4 (v7 pT))) <|Tri.cond_true (by kernel_rfl) <|Xt [Eb 3 false] [60,8,6,4] [] [784,128] 1040 (v1 (pu (Yz 48) (v1 pT))) <|Tri.ret <|rt <|qr.conv (r':=⟨.tup [.ints .i64 48 [0,0,0,0,0,0,0,0,0,0,0,0,0,0,0,0,0,0,0,0,0,0,0,0,0,0,0,0,0,0,0,0,0,0,0,0,0,0,0,0,0,0,0,0,0,0,0,0],.sc (.b false)],[]⟩) (by simp only [mV,iN];try simp only [h1,aB,aA];try simp only [h3,aB,aA];try simp only [h4,aB,aA]) <|er [] (pa pT pz)
 refine Tri.split (((F35 (aI (cl (aI (F24 p0) (F24 p0)) (au 1)) (F28 (dh (aI (de) (aI (F24 p0) (F24 p0))) (au 1))))):List Int)==(au 0)) (fun h5=>?_) (fun h5=>?_)
 refine Xu [Eb 53 false,Eb 57 true] (some [0,1,3,7,7,31,63,127,255,511]) [Eb 60 (decide ((p0.getD 31 0:Int) ≥ 128))] [9] [] [] 992 (v2 (pg h4 (v1 (pu pz (v1 (pg h5 (v3 pT))))))) <|Xb (fun h6 h6'=>?_) (fun h6 h6'=>?_)
 exact Xt [Eb 3 false] [60,8,6,4] [] [784,128] 1040 (v1 (pu (Yz 48) (v1 pT))) <|Tri.ret <|rt <|qr.conv (r':=⟨.tup [.ints .i64 48 [0,0,0,0,0,0,0,0,0,0,0,0,0,0,0,0,0,0,0,0,0,0,0,0,0,0,0,0,0,0,0,0,0,0,0,0,0,0,0,0,0,0,0,0,0,0,0,0],.sc (.b false)],[]⟩) (by simp only [mV,iN];try simp only [h1,aB,aA];try simp only [h3,aB,aA];try simp only [h4,aB,aA];try simp only [h5,aB,aA];try simp only [h6,aB,aA]) <|er [] (pa pT pz)
 refine Tri.skip <|Tri.seq <|Xs [Eb 67 (!((((bm ((F35 (aI (cl (aI (F24 p0) (F24 p0)) (au 1)) (F28 (dh (aI (de) (aI (F24 p0) (F24 p0))) (au 1))))).getD 0 0) 2):Int)==1)==(decide ((p0.getD 31 0:Int) ≥ 128))))] [60,6] 1088 (pu (Yi 0 16) (pu (Yl 0 16) (pu (Yn 2) (v3 pT)))) <|Xj (x:=(!((((bm ((F35 (aI (cl (aI (F24 p0) (F24 p0)) (au 1)) (F28 (dh (aI (de) (aI (F24 p0) (F24 p0))) (au 1))))).getD 0 0) 2):Int)==1)==(decide ((p0.getD 31 0:Int) ≥ 128))))) (fun bb=>[]) [67] (fun bb=>[Mk 784 .i64 16 (sel bb (cl (au 0) (F35 (aI (cl (aI (F24 p0) (F24 p0)) (au 1)) (F28 (dh (aI (de) (aI (F24 p0) (F24 p0))) (au 1)))))) (F35 (aI (cl (aI (F24 p0) (F24 p0)) (au 1)) (F28 (dh (aI (de) (aI (F24 p0) (F24 p0))) (au 1))))))]) [784] 1152 (fun h7=>?_) (fun h7=>?_) ?_
 exact Wu [] (some [0,0,3,7]) [] [67] [Mk 784 .i64 16 (cl (au 0) (F35 (aI (cl (aI (F24 p0) (F24 p0)) (au 1)) (F28 (dh (aI (de) (aI (F24 p0) (F24 p0))) (au 1))))))] [784] 1152 (pu pz (v1 (pu pz (pu (Yz 16) pT)))) <|Xe [] [Mk 784 .i64 16 (cl (au 0) (F35 (aI (cl (aI (F24 p0) (F24 p0)) (au 1)) (F28 (dh (aI (de) (aI (F24 p0) (F24 p0))) (au 1))))))]
 exact Tri.skip <|Xe [] [Mk 784 .i64 16 (F35 (aI (cl (aI (F24 p0) (F24 p0)) (au 1)) (F28 (dh (aI (de) (aI (F24 p0) (F24 p0))) (au 1)))))]
 exact Xu [] (some [0,0,0,7,15,31]) [Eb 3 true] [8,4] [Mk 16 .i64 48 (aT (aT (aT [0,0,0,0,0,0,0,0,0,0,0,0,0,0,0,0,0,0,0,0,0,0,0,0,0,0,0,0,0,0,0,0,0,0,0,0,0,0,0,0,0,0,0,0,0,0,0,0] 0 (sel (!((((bm ((F35 (aI (cl (aI (F24 p0) (F24 p0)) (au 1)) (F28 (dh (aI (de) (aI (F24 p0) (F24 p0))) (au 1))))).getD 0 0) 2):Int)==1)==(decide ((p0.getD 31 0:Int) ≥ 128)))) (cl (au 0) (F35 (aI (cl (aI (F24 p0) (F24 p0)) (au 1)) (F28 (dh (aI (de) (aI (F24 p0) (F24 p0))) (au 1)))))) (F35 (aI (cl (aI (F24 p0) (F24 p0)) (au 1)) (F28 (dh (aI (de) (aI (F24 p0) (F24 p0))) (au 1))))))) 16 (F24 p0)) 32 (au 1))] [784,128,16] 1248 (v2 (pu pz (pu (pa (pa (Ye (0+16) 48) (Yr 16)) (pa (pa (Ye (16+16) 48) (Yr 16)) (pa (pa (Ye (32+16) 48) (Yr 16)) pT))) (pu (Yz 48) (v1 pT))))) <|Tri.ret <|rt <|qr.conv (r':=⟨.tup [.ints .i64 48 (aT (aT (aT [0,0,0,0,0,0,0,0,0,0,0,0,0,0,0,0,0,0,0,0,0,0,0,0,0,0,0,0,0,0,0,0,0,0,0,0,0,0,0,0,0,0,0,0,0,0,0,0] 0 (sel (!((((bm ((F35 (aI (cl (aI (F24 p0) (F24 p0)) (au 1)) (F28 (dh (aI (de) (aI (F24 p0) (F24 p0))) (au 1))))).getD 0 0) 2):Int)==1)==(decide ((p0.getD 31 0:Int) ≥ 128)))) (cl (au 0) (F35 (aI (cl (aI (F24 p0) (F24 p0)) (au 1)) (F28 (dh (aI (de) (aI (F24 p0) (F24 p0))) (au 1)))))) (F35 (aI (cl (aI (F24 p0) (F24 p0)) (au 1)) (F28 (dh (aI (de) (aI (F24 p0) (F24 p0))) (au 1))))))) 16 (F24 p0)) 32 (au 1)),.sc (.b true)],[]⟩) (by simp only [mV,iN];try simp only [h1,aB,aA];try simp only [h3,aB,aA];try simp only [h4,aB,aA];try simp only [h5,aB,aA];try simp only [h6,aB,aA]) <|er [] (pa pT pz)
 refine Xu [Eb 53 false,Eb 57 false] (some [0,1,3,7,7,31,63,127,255,511]) [Eb 60 false] [9] [] [] 992 (v2 (pg h4 (v1 (pu pz (v1 (pg h5 (v3 pT))))))) <|Tri.cond_false (by kernel_rfl) <|Tri.skip <|Tri.seq <|Xs [Eb 67 (!((((bm ((F35 (aI (cl (aI (F24 p0) (F24 p0)) (au 1)) (F28 (dh (aI (de) (aI (F24 p0) (F24 p0))) (au 1))))).getD 0 0) 2):Int)==1)==(decide ((p0.getD 31 0:Int) ≥ 128))))] [60,6] 1088 (pu (Yi 0 16) (pu (Yl 0 16) (pu (Yn 2) (v3 pT)))) <|Xj (x:=(!((((bm ((F35 (aI (cl (aI (F24 p0) (F24 p0)) (au 1)) (F28 (dh (aI (de) (aI (F24 p0) (F24 p0))) (au 1))))).getD 0 0) 2):Int)==1)==(decide ((p0.getD 31 0:Int) ≥ 128))))) (fun bb=>[]) [67] (fun bb=>[Mk 784 .i64 16 (sel bb (cl (au 0) (F35 (aI (cl (aI (F24 p0) (F24 p0)) (au 1)) (F28 (dh (aI (de) (aI (F24 p0) (F24 p0))) (au 1)))))) (F35 (aI (cl (aI (F24 p0) (F24 p0)) (au 1)) (F28 (dh (aI (de) (aI (F24 p0) (F24 p0))) (au 1))))))]) [784] 1152 (fun h8=>?_) (fun h8=>?_) ?_
 exact Wu [] (some [0,0,3,7]) [] [67] [Mk 784 .i64 16 (cl (au 0) (F35 (aI (cl (aI (F24 p0) (F24 p0)) (au 1)) (F28 (dh (aI (de) (aI (F24 p0) (F24 p0))) (au 1))))))] [784] 1152 (pu pz (v1 (pu pz (pu (Yz 16) pT)))) <|Xe [] [Mk 784 .i64 16 (cl (au 0) (F35 (aI (cl (aI (F24 p0) (F24 p0)) (au 1)) (F28 (dh (aI (de) (aI (F24 p0) (F24 p0))) (au 1))))))]
 exact Tri.skip <|Xe [] [Mk 784 .i64 16 (F35 (aI (cl (aI (F24 p0) (F24 p0)) (au 1)) (F28 (dh (aI (de) (aI (F24 p0) (F24 p0))) (au 1)))))]
 exact Xu [] (some [0,0,0,7,15,31]) [Eb 3 true] [8,4] [Mk 16 .i64 48 (aT (aT (aT [0,0,0,0,0,0,0,0,0,0,0,0,0,0,0,0,0,0,0,0,0,0,0,0,0,0,0,0,0,0,0,0,0,0,0,0,0,0,0,0,0,0,0,0,0,0,0,0] 0 (sel (!((((bm ((F35 (aI (cl (aI (F24 p0) (F24 p0)) (au 1)) (F28 (dh (aI (de) (aI (F24 p0) (F24 p0))) (au 1))))).getD 0 0) 2):Int)==1)==(decide ((p0.getD 31 0:Int) ≥ 128)))) (cl (au 0) (F35 (aI (cl (aI (F24 p0) (F24 p0)) (au 1)) (F28 (dh (aI (de) (aI (F24 p0) (F24 p0))) (au 1)))))) (F35 (aI (cl (aI (F24 p0) (F24 p0)) (au 1)) (F28 (dh (aI (de) (aI (F24 p0) (F24 p0))) (au 1))))))) 16 (F24 p0)) 32 (au 1))] [784,128,16] 1248 (v2 (pu pz (pu (pa (pa (Ye (0+16) 48) (Yr 16)) (pa (pa (Ye (16+16) 48) (Yr 16)) (pa (pa (Ye (32+16) 48) (Yr 16)) pT))) (pu (Yz 48) (v1 pT))))) <|Tri.ret <|rt <|qr.conv (r':=⟨.tup [.ints .i64 48 (aT (aT (aT [0,0,0,0,0,0,0,0,0,0,0,0,0,0,0,0,0,0,0,0,0,0,0,0,0,0,0,0,0,0,0,0,0,0,0,0,0,0,0,0,0,0,0,0,0,0,0,0] 0 (sel (!((((bm ((F35 (aI (cl (aI (F24 p0) (F24 p0)) (au 1)) (F28 (dh (aI (de) (aI (F24 p0) (F24 p0))) (au 1))))).getD 0 0) 2):Int)==1)==(decide ((p0.getD 31 0:Int) ≥ 128)))) (cl (au 0) (F35 (aI (cl (aI (F24 p0) (F24 p0)) (au 1)) (F28 (dh (aI (de) (aI (F24 p0) (F24 p0))) (au 1)))))) (F35 (aI (cl (aI (F24 p0) (F24 p0)) (au 1)) (F28 (dh (aI (de) (aI (F24 p0) (F24 p0))) (au 1))))))) 16 (F24 p0)) 32 (au 1)),.sc (.b true)],[]⟩) (by simp only [mV,iN];try simp only [h1,aB,aA];try simp only [h3,aB,aA];try simp only [h4,aB,aA];try simp only [h5,aB,aA]) <|er [] (pa pT pz)
theorem mX {p0:List Int} (h:(!(iN p0))=false):p0.length=32:=by
 unfold iN at h
 cases hb:((((p0.length:Nat):Int):Int) != 32)
 ·have:=ak hb
  omega
 ·rw [hb,aB] at h
  cases h
def uj:List Int :=
 (mV (aC (F49 (aI (au 4) (F28 (au 5)))) 32 0 32))
def Qe:List AV→List Blk→Option (Prop × Ret)
 |[],[]=>some (True,⟨.ints .i64 48 (uj),[]⟩)
 |_,_=>none
theorem PU:Known Tryz.prog gD 48 ⟨0,0,Qe⟩:=by
 refine Xw Tryz.f48 13 (Zc Qd 112 [.ro .u8] [96] [] <|Zv rA 32 1 <|Zv rA 48 1 <|Zv K49 96 1 <|Zv mG 80 2 <|Zv K28 64 1 <|Zn) mixed <|fun E args ks C r h hC hlen=>?_
 simp only at h
 unfold Qe at h
 split at h
 rotate_left
 cases h
 cases h
 simp only [am] at hlen
 refine ⟨rfl,?_⟩
 exact Xt [Ep 0 16] [] [Mk 16 .i64 48 [0,0,0,0,0,0,0,0,0,0,0,0,0,0,0,0,0,0,0,0,0,0,0,0,0,0,0,0,0,0,0,0,0,0,0,0,0,0,0,0,0,0,0,0,0,0,0,0]] [] 32 (v1 pT) <|Xt [Ep 1 176] [] [Mk 176 .i64 48 (mV (aC (F49 (aI (au 4) (F28 (au 5)))) 32 0 32))] [] 224 (pu pz (pu pz (pu pz (pu pz (pu pz (pu (pa (pa (Yw 32) pT) pT) (v4 (pu (Yz 48) (v1 pT))))))))) <|Tri.len 176 rfl <|fun hl1=>Xt [] [1] [Mk 16 .i64 48 (mV (aC (F49 (aI (au 4) (F28 (au 5)))) 32 0 32))] [176,16] 256 (v1 (pu (Yz 48) pT)) <|Xz [] pz
def RL:List AV→List Blk→Option (Prop × Ret)
 |[],[]=>some (True,⟨.sc (.sl 0 0 32 1 none),[some (.ints .u8 32 [237,211,245,92,26,99,18,88,214,156,247,162,222,249,222,20,0,0,0,0,0,0,0,0,0,0,0,0,0,0,0,16])]⟩)
 |_,_=>none
theorem QJ:Known Tryz.prog gD 42 ⟨0,1,RL⟩:=by
 refine Xw Tryz.f42 2 Zn mixed <|fun E args ks C r h hC hlen=>?_
 simp only at h
 unfold RL at h
 split at h
 rotate_left
 cases h
 cases h
 simp only [am] at hlen
 refine ⟨rfl,?_⟩
 exact Xs [] [] 32 (v1 pT) <|Xt [El 0 32 32] [] [Mi 32 32 [237,211,245,92,26,99,18,88,214,156,247,162,222,249,222,20,0,0,0,0,0,0,0,0,0,0,0,0,0,0,0,16]] [] 64 (pu (Yf 32) (v1 pT)) <|Xz [(32,0)] pz
def OQ (k0:Nat) (z0:Unit):Unit :=
 ()
def cq (p0:List Int) (p1:List Int) (k0:Nat):Bool :=
 (sel ((p0.getD (32-1-k0) 0:Int) != p1.getD (32-1-k0) 0) true false)
def zv (p0:List Int) (p1:List Int):Bool :=
 (sel (Nat.blt (ar (cq p0 p1) 32) 32) (decide ((p0.getD (32-1-(ar (cq p0 p1) 32)) 0:Int)<p1.getD (32-1-(ar (cq p0 p1) 32)) 0)) false)
def QA:List AV→List Blk→Option (Prop × Ret)
 |[.sc (.ro .u8 p0),.sc (.ro .u8 p1)],[]=>some ((p0.length=32∧p1.length=32),⟨.sc (.b (zv p0 p1)),[]⟩)
 |_,_=>none
theorem SI:Known Tryz.prog gD 41 ⟨0,0,QA⟩:=by
 refine Xw Tryz.f41 28 Zn mixed <|fun E args ks C r h hC hlen=>?_
 simp only at h
 unfold QA at h
 split at h
 rotate_left
 cases h
 rename_i p0 p1
 cases h
 simp only [am] at hlen
 refine ⟨rfl,?_⟩
 refine Xs [] [] 32 (v1 pT) <|Tri.seq <|Xs [Ei 5 31] [] 48 (v1 pT) <|Tri.block <|Xc 32 (OQ) (()) (fun k0 z0=>(∀ j,j<k0→(cq p0 p1) j=false)) (fun k0 z0=>[Ei 5 (((32:Nat):Int)-1-((k0:Nat):Int))]) (fun k0 z0=>[]) (fun j hj=>absurd hj (Nat.not_lt_zero j)) <|fun k0 z0 hk0 hz0 hJ0=>Tri.seq <|Xs [Eb 7 (decide (((((32:Nat):Int)-1-((k0:Nat):Int)):Int) ≥ 0))] [] 80 (v2 pT) <|Xb (fun h1 h1'=>?_) (fun h1 h1'=>?_)
 refine Tri.skip <|Tri.seq <|Tri.block <|Xu [Ej 11 (32-1-k0),Ej 15 (32-1-k0)] (some [0,0,3,7,0,0,48,112,255]) [Eb 18 ((p0.getD (32-1-k0) 0:Int) != p1.getD (32-1-k0) 0)] [7] [] [] 224 (v1 (pv pT (pl (show (((32:Nat):Int)-1-((k0:Nat):Int))=((32-1-k0:Nat):Int) from iB (by omega))) (pu (Yj (32-1-k0) p0.length) (pu (Yl (32-1-k0) p0.length) (v1 (pv pT (pl (show (((32:Nat):Int)-1-((k0:Nat):Int))=((32-1-k0:Nat):Int) from iB (by omega))) (pu (Yj (32-1-k0) p1.length) (pu (Yl (32-1-k0) p1.length) (v1 pT))))))))) <|Xa (fun h2=>?_) (fun h2=>?_)
 have h2':=bO h2
 refine Xu [Ej 20 (32-1-k0),Ej 24 (32-1-k0)] (some [0,0,3,7,0,0,48,112,255,511]) [Eb 4 (decide ((p0.getD (32-1-k0) 0:Int)<p1.getD (32-1-k0) 0))] [18,5,0,1] [] [] 384 (v1 (pv pT (pl (show (((32:Nat):Int)-1-((k0:Nat):Int))=((32-1-k0:Nat):Int) from iB (by omega))) (pu (Yj (32-1-k0) p0.length) (pu (Yl (32-1-k0) p0.length) (v1 (pv pT (pl (show (((32:Nat):Int)-1-((k0:Nat):Int))=((32-1-k0:Nat):Int) from iB (by omega))) (pu (Yj (32-1-k0) p1.length) (pu (Yl (32-1-k0) p1.length) (v2 pT))))))))) <|?_
 subst hz0
 have hf0:ar (cq p0 p1) 32=k0:=eA (by omega) hJ0 (by simp only [cq,h1,h2,aB,aA])
 have hb0:Nat.blt k0 32=true:=eP (by omega)
 have hq0:Nat.blt (ar (cq p0 p1) 32) 32=true:=by rw [hf0];exact hb0
 exact Xy [] pz (by simp only [zv,hq0,hf0,hb0,aB,aA] <;> rfl)
 have h2':=ak h2
 exact Tri.skip <|Wu [Ei 9 (((32:Nat):Int)-1-((k0+1:Nat):Int))] none [Ei 5 (((32:Nat):Int)-1-((k0+1:Nat):Int))] [18,5] [] [] 272 (v1 (pv pT (pl (show (aZ .i64 (((32:Nat):Int)-1-((k0:Nat):Int)) 1)=(((32:Nat):Int)-1-((k0+1:Nat):Int)) from iq (by omega) (by omega))) (v1 pT))) <|Xo [] (fq hJ0 (by subst hz0;simp only [cq,h1,h2,aB,aA]))
 refine Tri.exit <|?_
 obtain rfl:k0=32:=(by omega);subst hz0
 have hf0:ar (cq p0 p1) 32=32:=fG hJ0
 have hb0:Nat.blt 32 32=false:=fg _
 have hq0:Nat.blt (ar (cq p0 p1) 32) 32=false:=by rw [hf0];exact hb0
 exact Xs [Eb 4 false] [7,5,0,1] 96 (v1 pT) <|Xy [] pz (by simp only [zv,hq0,hf0,hb0,aB,aA] <;> rfl)
end Go.Vm
namespace Go.Vm
open Go Go.Proofs
def cN (k2:Nat) (z2:Int × List Int):Int × List Int :=
 ((ic .i64 (aE .i64 (bE .i64 2 (z2.2.getD k2 0)) z2.1) 256),z2.2.set k2 (bm (aE .i64 (bE .i64 2 (z2.2.getD k2 0)) z2.1) 256))
def pO (p0:List Int) (k0:Nat) (k1:Nat) (z1:Nat × List Int) (k3:Nat) (z3:Int × List Int):Int × List Int :=
 ((sel (decide (((sel (decide ((((k3:Nat):Int):Int)<32)) (aZ .i64 (aZ .i64 (((itr (cN) 33 ((bm (aH .i64 (IntKind.wrap .i64 (p0.getD (p0.length-1-k0) 0)) (((8:Nat):Int)-1-((k1:Nat):Int))) 2),z1.2)).2).getD k3 0) z3.1) (IntKind.wrap .i64 ([237,211,245,92,26,99,18,88,214,156,247,162,222,249,222,20,0,0,0,0,0,0,0,0,0,0,0,0,0,0,0,16].getD k3 0))) (aZ .i64 (((itr (cN) 33 ((bm (aH .i64 (IntKind.wrap .i64 (p0.getD (p0.length-1-k0) 0)) (((8:Nat):Int)-1-((k1:Nat):Int))) 2),z1.2)).2).getD k3 0) z3.1)):Int)<0)) 1 0),z3.2.set k3 (sel (decide (((sel (decide ((((k3:Nat):Int):Int)<32)) (aZ .i64 (aZ .i64 (((itr (cN) 33 ((bm (aH .i64 (IntKind.wrap .i64 (p0.getD (p0.length-1-k0) 0)) (((8:Nat):Int)-1-((k1:Nat):Int))) 2),z1.2)).2).getD k3 0) z3.1) (IntKind.wrap .i64 ([237,211,245,92,26,99,18,88,214,156,247,162,222,249,222,20,0,0,0,0,0,0,0,0,0,0,0,0,0,0,0,16].getD k3 0))) (aZ .i64 (((itr (cN) 33 ((bm (aH .i64 (IntKind.wrap .i64 (p0.getD (p0.length-1-k0) 0)) (((8:Nat):Int)-1-((k1:Nat):Int))) 2),z1.2)).2).getD k3 0) z3.1)):Int)<0)) (aE .i64 (sel (decide ((((k3:Nat):Int):Int)<32)) (aZ .i64 (aZ .i64 (((itr (cN) 33 ((bm (aH .i64 (IntKind.wrap .i64 (p0.getD (p0.length-1-k0) 0)) (((8:Nat):Int)-1-((k1:Nat):Int))) 2),z1.2)).2).getD k3 0) z3.1) (IntKind.wrap .i64 ([237,211,245,92,26,99,18,88,214,156,247,162,222,249,222,20,0,0,0,0,0,0,0,0,0,0,0,0,0,0,0,16].getD k3 0))) (aZ .i64 (((itr (cN) 33 ((bm (aH .i64 (IntKind.wrap .i64 (p0.getD (p0.length-1-k0) 0)) (((8:Nat):Int)-1-((k1:Nat):Int))) 2),z1.2)).2).getD k3 0) z3.1)) 256) (sel (decide ((((k3:Nat):Int):Int)<32)) (aZ .i64 (aZ .i64 (((itr (cN) 33 ((bm (aH .i64 (IntKind.wrap .i64 (p0.getD (p0.length-1-k0) 0)) (((8:Nat):Int)-1-((k1:Nat):Int))) 2),z1.2)).2).getD k3 0) z3.1) (IntKind.wrap .i64 ([237,211,245,92,26,99,18,88,214,156,247,162,222,249,222,20,0,0,0,0,0,0,0,0,0,0,0,0,0,0,0,16].getD k3 0))) (aZ .i64 (((itr (cN) 33 ((bm (aH .i64 (IntKind.wrap .i64 (p0.getD (p0.length-1-k0) 0)) (((8:Nat):Int)-1-((k1:Nat):Int))) 2),z1.2)).2).getD k3 0) z3.1))))
def kq (p0:List Int) (k0:Nat) (k1:Nat) (z1:Nat × List Int):Nat × List Int :=
 ((sel (((itr (pO p0 k0 k1 z1) 33 (0,List.replicate 33 0)).1:Int)==0) 33 z1.1),(sel (((itr (pO p0 k0 k1 z1) 33 (0,List.replicate 33 0)).1:Int)==0) ((itr (pO p0 k0 k1 z1) 33 (0,List.replicate 33 0)).2) ((itr (cN) 33 ((bm (aH .i64 (IntKind.wrap .i64 (p0.getD (p0.length-1-k0) 0)) (((8:Nat):Int)-1-((k1:Nat):Int))) 2),z1.2)).2)))
def nK (p0:List Int) (k0:Nat) (z0:Nat × List Int):Nat × List Int :=
 ((itr (kq p0 k0) 8 (z0.1,z0.2)).1,(itr (kq p0 k0) 8 (z0.1,z0.2)).2)
def rU (p0:List Int) (k4:Nat) (z4:List Int):List Int :=
 z4.set k4 (IntKind.wrap .u8 (((itr (nK p0) p0.length (33,List.replicate 33 0)).2).getD k4 0))
def AY (p0:List Int):List Int :=
 (itr (rU p0) 32 (List.replicate 32 0))
def QU:List AV→List Blk→Option (Prop × Ret)
 |[.sc (.ro .u8 p0)],[]=>some ((p0.length≤1000),⟨.sc (.sl 0 0 32 1 none),[some (.ints .u8 32 (AY p0))]⟩)
 |_,_=>none
theorem Pn:Known Tryz.prog gD 81 ⟨0,1,QU⟩:=by
 refine Xw Tryz.f81 100 (Zv QJ 64 0 <|Zn) mixed <|fun E args ks C r h hC hlen=>?_
 simp only at h
 unfold QU at h
 split at h
 rotate_left
 cases h
 rename_i p0
 cases h
 simp only [am] at hlen
 refine ⟨rfl,?_⟩
 refine Xs [] [] 32 (v1 pT) <|Xt [El 3 32 33] [] [Mk 32 .i64 33 (List.replicate 33 0)] [] 64 (pu (pa (lo ((0:Int)≤33∧(33:Int)=33)) (pa (lo (33≤(140737488355328:Int))) (lo (((8:Nat):Int)*33≤281474976710656)))) (v1 pT)) <|Xt [El 4 64 32] [] [Mi 64 32 [237,211,245,92,26,99,18,88,214,156,247,162,222,249,222,20,0,0,0,0,0,0,0,0,0,0,0,0,0,0,0,16]] [] 96 (pu pz (v1 pT)) <|Tri.seq <|Xu [Ei 20 (((p0.length:Nat):Int)-1-((0:Nat):Int))] none [Ei 5 (((p0.length:Nat):Int)-1-((0:Nat):Int))] [] [] [] 160 (v2 (pv pT (pl (show (aZ .i64 ((p0.length:Nat):Int) 1)=(((p0.length:Nat):Int)-1-((0:Nat):Int)) from mF (by omega))) (v1 pT))) <|Tri.block <|Xc p0.length (nK p0) (33,List.replicate 33 0) (fun k0 z0=>z0.1=33) (fun k0 z0=>[Ei 5 (((p0.length:Nat):Int)-1-((k0:Nat):Int)),El 3 32 z0.1]) (fun k0 z0=>[Mk 32 .i64 z0.1 z0.2]) rfl <|fun k0 z0 hk0 hz0 hJ0=>Tri.seq <|Xs [Eb 22 (decide (((((p0.length:Nat):Int)-1-((k0:Nat):Int)):Int) ≥ 0))] [] 192 (v2 pT) <|Xb (fun h1 h1'=>?_) (fun h1 h1'=>?_)
 refine Tri.skip <|Tri.seq <|Tri.block <|Xs [Ei 6 7] [22] 208 (v1 pT) <|Tri.block <|Xc 8 (kq p0 k0) (z0.1,z0.2) (fun k1 z1=>z1.1=33) (fun k1 z1=>[Ei 6 (((8:Nat):Int)-1-((k1:Nat):Int)),El 3 32 z1.1]) (fun k1 z1=>[Mk 32 .i64 z1.1 z1.2]) hJ0 <|fun k1 z1 hk1 hz1 hJ1=>Tri.seq <|Xs [Eb 26 (decide (((((8:Nat):Int)-1-((k1:Nat):Int)):Int) ≥ 0))] [] 240 (v2 pT) <|Xb (fun h2 h2'=>?_) (fun h2 h2'=>?_)
 refine Tri.skip <|Tri.seq <|Tri.block <|Xu [Ej 30 (p0.length-1-k0)] none [Ei 7 (bm (aH .i64 (IntKind.wrap .i64 (p0.getD (p0.length-1-k0) 0)) (((8:Nat):Int)-1-((k1:Nat):Int))) 2)] [26] [] [] 384 (v1 (pv pT (pl (show (((p0.length:Nat):Int)-1-((k0:Nat):Int))=((p0.length-1-k0:Nat):Int) from iB (by omega))) (pu (Yj (p0.length-1-k0) p0.length) (pu (Yl (p0.length-1-k0) p0.length) (v2 (pu (Y0 (((8:Nat):Int)-1-((k1:Nat):Int))) (pu (Yn 2) (v1 pT)))))))) <|Tri.seq <|Xs [Ei 8 0] [] 400 (v1 pT) <|Tri.block <|Xc 33 (cN) ((bm (aH .i64 (IntKind.wrap .i64 (p0.getD (p0.length-1-k0) 0)) (((8:Nat):Int)-1-((k1:Nat):Int))) 2),z1.2) (fun k2 z2=>True) (fun k2 z2=>[Ej 8 k2,Ei 7 z2.1]) (fun k2 z2=>[Mk 32 .i64 z1.1 z2.2]) trivial <|fun k2 z2 hk2 hz2 hJ2=>Tri.seq <|Xs [Eb 38 (decide ((((k2:Nat):Int):Int)<33))] [] 432 (v2 pT) <|Xb (fun h3 h3'=>?_) (fun h3 h3'=>?_)
 exact Tri.skip <|Tri.seq <|Tri.block <|Xs [Ei 9 (aE .i64 (bE .i64 2 (z2.2.getD k2 0)) z2.1)] [38,7] 560 (v2 (pu (Yj k2 z1.1) (pu (Yl k2 z1.1) (v4 pT)))) <|Xt [] [] [Mk 32 .i64 z1.1 (z2.2.set k2 (bm (aE .i64 (bE .i64 2 (z2.2.getD k2 0)) z2.1) 256))] [32] 656 (v3 (pu (Yn 256) (pu (Yj k2 z1.1) (pu (Ys k2 z1.1) pT)))) <|Ws [Ei 7 (ic .i64 (aE .i64 (bE .i64 2 (z2.2.getD k2 0)) z2.1) 256)] [9] 704 (v1 (pu (Yn 256) (v1 pT))) <|Wu [Ej 40 (k2+1)] none [Ej 8 (k2+1)] [8] [] [] 752 (v1 (pv pT (Yp k2 1) (v1 pT))) <|Xo [] trivial
 refine Tri.exit <|?_
 obtain rfl:k2=33:=(by omega);subst hz2
 refine Xt [El 10 432 33] [38,8,7] [Mk 432 .i64 33 (List.replicate 33 0)] [] 464 (pu (pa (lo ((0:Int)≤33∧(33:Int)=33)) (pa (lo (33≤(140737488355328:Int))) (lo (((8:Nat):Int)*33≤281474976710656)))) (v1 pT)) <|Xs [Ei 11 0] [] 480 (v1 pT) <|Tri.seq <|Xs [Ei 12 0] [] 496 (v1 pT) <|Tri.block <|Xc 33 (pO p0 k0 k1 z1) (0,List.replicate 33 0) (fun k3 z3=>True) (fun k3 z3=>[Ej 12 k3,Ei 11 z3.1]) (fun k3 z3=>[Mk 432 .i64 33 z3.2]) trivial <|fun k3 z3 hk3 hz3 hJ3=>Tri.seq <|Xs [Eb 57 (decide ((((k3:Nat):Int):Int)<33))] [] 528 (v2 pT) <|Xb (fun h4 h4'=>?_) (fun h4 h4'=>?_)
 refine Tri.skip <|Tri.seq <|Tri.block <|Xs [Ei 13 (aZ .i64 (((itr (cN) 33 ((bm (aH .i64 (IntKind.wrap .i64 (p0.getD (p0.length-1-k0) 0)) (((8:Nat):Int)-1-((k1:Nat):Int))) 2),z1.2)).2).getD k3 0) z3.1)] [57,11] 640 (v2 (pu (Yj k3 z1.1) (pu (Yl k3 z1.1) (v3 pT)))) <|Tri.seq <|Xs [Eb 67 (decide ((((k3:Nat):Int):Int)<32))] [] 672 (v2 pT) <|Xj (x:=(decide ((((k3:Nat):Int):Int)<32))) (fun bb=>[Ei 13 (sel bb (aZ .i64 (aZ .i64 (((itr (cN) 33 ((bm (aH .i64 (IntKind.wrap .i64 (p0.getD (p0.length-1-k0) 0)) (((8:Nat):Int)-1-((k1:Nat):Int))) 2),z1.2)).2).getD k3 0) z3.1) (IntKind.wrap .i64 ([237,211,245,92,26,99,18,88,214,156,247,162,222,249,222,20,0,0,0,0,0,0,0,0,0,0,0,0,0,0,0,16].getD k3 0))) (aZ .i64 (((itr (cN) 33 ((bm (aH .i64 (IntKind.wrap .i64 (p0.getD (p0.length-1-k0) 0)) (((8:Nat):Int)-1-((k1:Nat):Int))) 2),z1.2)).2).getD k3 0) z3.1))]) [67,13] (fun bb=>[]) [] 800 (fun h5=>?_) (fun h5=>?_) ?_
 have h5':=of_decide_eq_true h5
 exact Ws [Ei 13 (aZ .i64 (aZ .i64 (((itr (cN) 33 ((bm (aH .i64 (IntKind.wrap .i64 (p0.getD (p0.length-1-k0) 0)) (((8:Nat):Int)-1-((k1:Nat):Int))) 2),z1.2)).2).getD k3 0) z3.1) (IntKind.wrap .i64 ([237,211,245,92,26,99,18,88,214,156,247,162,222,249,222,20,0,0,0,0,0,0,0,0,0,0,0,0,0,0,0,16].getD k3 0)))] [67,13] 800 (v3 (pu (Yj k3 32) (pu (Yl k3 32) (v3 pT)))) <|Xe [Ei 13 (aZ .i64 (aZ .i64 (((itr (cN) 33 ((bm (aH .i64 (IntKind.wrap .i64 (p0.getD (p0.length-1-k0) 0)) (((8:Nat):Int)-1-((k1:Nat):Int))) 2),z1.2)).2).getD k3 0) z3.1) (IntKind.wrap .i64 ([237,211,245,92,26,99,18,88,214,156,247,162,222,249,222,20,0,0,0,0,0,0,0,0,0,0,0,0,0,0,0,16].getD k3 0)))] []
 have h5':=of_decide_eq_false h5
 exact Tri.skip <|Xe [Ei 13 (aZ .i64 (((itr (cN) 33 ((bm (aH .i64 (IntKind.wrap .i64 (p0.getD (p0.length-1-k0) 0)) (((8:Nat):Int)-1-((k1:Nat):Int))) 2),z1.2)).2).getD k3 0) z3.1)] []
 refine Xs [Ei 11 0] [] 816 (v1 pT) <|Tri.seq <|Xs [Eb 76 (decide (((sel (decide ((((k3:Nat):Int):Int)<32)) (aZ .i64 (aZ .i64 (((itr (cN) 33 ((bm (aH .i64 (IntKind.wrap .i64 (p0.getD (p0.length-1-k0) 0)) (((8:Nat):Int)-1-((k1:Nat):Int))) 2),z1.2)).2).getD k3 0) z3.1) (IntKind.wrap .i64 ([237,211,245,92,26,99,18,88,214,156,247,162,222,249,222,20,0,0,0,0,0,0,0,0,0,0,0,0,0,0,0,16].getD k3 0))) (aZ .i64 (((itr (cN) 33 ((bm (aH .i64 (IntKind.wrap .i64 (p0.getD (p0.length-1-k0) 0)) (((8:Nat):Int)-1-((k1:Nat):Int))) 2),z1.2)).2).getD k3 0) z3.1)):Int)<0))] [] 848 (v2 pT) <|Xj (x:=(decide (((sel (decide ((((k3:Nat):Int):Int)<32)) (aZ .i64 (aZ .i64 (((itr (cN) 33 ((bm (aH .i64 (IntKind.wrap .i64 (p0.getD (p0.length-1-k0) 0)) (((8:Nat):Int)-1-((k1:Nat):Int))) 2),z1.2)).2).getD k3 0) z3.1) (IntKind.wrap .i64 ([237,211,245,92,26,99,18,88,214,156,247,162,222,249,222,20,0,0,0,0,0,0,0,0,0,0,0,0,0,0,0,16].getD k3 0))) (aZ .i64 (((itr (cN) 33 ((bm (aH .i64 (IntKind.wrap .i64 (p0.getD (p0.length-1-k0) 0)) (((8:Nat):Int)-1-((k1:Nat):Int))) 2),z1.2)).2).getD k3 0) z3.1)):Int)<0))) (fun bb=>[Ei 11 (sel bb 1 0),Ei 13 (sel bb (aE .i64 (sel (decide ((((k3:Nat):Int):Int)<32)) (aZ .i64 (aZ .i64 (((itr (cN) 33 ((bm (aH .i64 (IntKind.wrap .i64 (p0.getD (p0.length-1-k0) 0)) (((8:Nat):Int)-1-((k1:Nat):Int))) 2),z1.2)).2).getD k3 0) z3.1) (IntKind.wrap .i64 ([237,211,245,92,26,99,18,88,214,156,247,162,222,249,222,20,0,0,0,0,0,0,0,0,0,0,0,0,0,0,0,16].getD k3 0))) (aZ .i64 (((itr (cN) 33 ((bm (aH .i64 (IntKind.wrap .i64 (p0.getD (p0.length-1-k0) 0)) (((8:Nat):Int)-1-((k1:Nat):Int))) 2),z1.2)).2).getD k3 0) z3.1)) 256) (sel (decide ((((k3:Nat):Int):Int)<32)) (aZ .i64 (aZ .i64 (((itr (cN) 33 ((bm (aH .i64 (IntKind.wrap .i64 (p0.getD (p0.length-1-k0) 0)) (((8:Nat):Int)-1-((k1:Nat):Int))) 2),z1.2)).2).getD k3 0) z3.1) (IntKind.wrap .i64 ([237,211,245,92,26,99,18,88,214,156,247,162,222,249,222,20,0,0,0,0,0,0,0,0,0,0,0,0,0,0,0,16].getD k3 0))) (aZ .i64 (((itr (cN) 33 ((bm (aH .i64 (IntKind.wrap .i64 (p0.getD (p0.length-1-k0) 0)) (((8:Nat):Int)-1-((k1:Nat):Int))) 2),z1.2)).2).getD k3 0) z3.1)))]) [76,11,13] (fun bb=>[]) [] 912 (fun h6=>?_) (fun h6=>?_) ?_
 have h6':=of_decide_eq_true h6
 exact Xs [Ei 13 (aE .i64 (sel (decide ((((k3:Nat):Int):Int)<32)) (aZ .i64 (aZ .i64 (((itr (cN) 33 ((bm (aH .i64 (IntKind.wrap .i64 (p0.getD (p0.length-1-k0) 0)) (((8:Nat):Int)-1-((k1:Nat):Int))) 2),z1.2)).2).getD k3 0) z3.1) (IntKind.wrap .i64 ([237,211,245,92,26,99,18,88,214,156,247,162,222,249,222,20,0,0,0,0,0,0,0,0,0,0,0,0,0,0,0,16].getD k3 0))) (aZ .i64 (((itr (cN) 33 ((bm (aH .i64 (IntKind.wrap .i64 (p0.getD (p0.length-1-k0) 0)) (((8:Nat):Int)-1-((k1:Nat):Int))) 2),z1.2)).2).getD k3 0) z3.1)) 256)] [76,11,13] 896 (v3 pT) <|Ws [Ei 11 1] [] 912 (v1 pT) <|Xe [Ei 11 1,Ei 13 (aE .i64 (sel (decide ((((k3:Nat):Int):Int)<32)) (aZ .i64 (aZ .i64 (((itr (cN) 33 ((bm (aH .i64 (IntKind.wrap .i64 (p0.getD (p0.length-1-k0) 0)) (((8:Nat):Int)-1-((k1:Nat):Int))) 2),z1.2)).2).getD k3 0) z3.1) (IntKind.wrap .i64 ([237,211,245,92,26,99,18,88,214,156,247,162,222,249,222,20,0,0,0,0,0,0,0,0,0,0,0,0,0,0,0,16].getD k3 0))) (aZ .i64 (((itr (cN) 33 ((bm (aH .i64 (IntKind.wrap .i64 (p0.getD (p0.length-1-k0) 0)) (((8:Nat):Int)-1-((k1:Nat):Int))) 2),z1.2)).2).getD k3 0) z3.1)) 256)] []
 have h6':=of_decide_eq_false h6
 exact Tri.skip <|Xe [Ei 11 0,Ei 13 (sel (decide ((((k3:Nat):Int):Int)<32)) (aZ .i64 (aZ .i64 (((itr (cN) 33 ((bm (aH .i64 (IntKind.wrap .i64 (p0.getD (p0.length-1-k0) 0)) (((8:Nat):Int)-1-((k1:Nat):Int))) 2),z1.2)).2).getD k3 0) z3.1) (IntKind.wrap .i64 ([237,211,245,92,26,99,18,88,214,156,247,162,222,249,222,20,0,0,0,0,0,0,0,0,0,0,0,0,0,0,0,16].getD k3 0))) (aZ .i64 (((itr (cN) 33 ((bm (aH .i64 (IntKind.wrap .i64 (p0.getD (p0.length-1-k0) 0)) (((8:Nat):Int)-1-((k1:Nat):Int))) 2),z1.2)).2).getD k3 0) z3.1))] []
 exact Wt [] [13] [Mk 432 .i64 33 (z3.2.set k3 (sel (decide (((sel (decide ((((k3:Nat):Int):Int)<32)) (aZ .i64 (aZ .i64 (((itr (cN) 33 ((bm (aH .i64 (IntKind.wrap .i64 (p0.getD (p0.length-1-k0) 0)) (((8:Nat):Int)-1-((k1:Nat):Int))) 2),z1.2)).2).getD k3 0) z3.1) (IntKind.wrap .i64 ([237,211,245,92,26,99,18,88,214,156,247,162,222,249,222,20,0,0,0,0,0,0,0,0,0,0,0,0,0,0,0,16].getD k3 0))) (aZ .i64 (((itr (cN) 33 ((bm (aH .i64 (IntKind.wrap .i64 (p0.getD (p0.length-1-k0) 0)) (((8:Nat):Int)-1-((k1:Nat):Int))) 2),z1.2)).2).getD k3 0) z3.1)):Int)<0)) (aE .i64 (sel (decide ((((k3:Nat):Int):Int)<32)) (aZ .i64 (aZ .i64 (((itr (cN) 33 ((bm (aH .i64 (IntKind.wrap .i64 (p0.getD (p0.length-1-k0) 0)) (((8:Nat):Int)-1-((k1:Nat):Int))) 2),z1.2)).2).getD k3 0) z3.1) (IntKind.wrap .i64 ([237,211,245,92,26,99,18,88,214,156,247,162,222,249,222,20,0,0,0,0,0,0,0,0,0,0,0,0,0,0,0,16].getD k3 0))) (aZ .i64 (((itr (cN) 33 ((bm (aH .i64 (IntKind.wrap .i64 (p0.getD (p0.length-1-k0) 0)) (((8:Nat):Int)-1-((k1:Nat):Int))) 2),z1.2)).2).getD k3 0) z3.1)) 256) (sel (decide ((((k3:Nat):Int):Int)<32)) (aZ .i64 (aZ .i64 (((itr (cN) 33 ((bm (aH .i64 (IntKind.wrap .i64 (p0.getD (p0.length-1-k0) 0)) (((8:Nat):Int)-1-((k1:Nat):Int))) 2),z1.2)).2).getD k3 0) z3.1) (IntKind.wrap .i64 ([237,211,245,92,26,99,18,88,214,156,247,162,222,249,222,20,0,0,0,0,0,0,0,0,0,0,0,0,0,0,0,16].getD k3 0))) (aZ .i64 (((itr (cN) 33 ((bm (aH .i64 (IntKind.wrap .i64 (p0.getD (p0.length-1-k0) 0)) (((8:Nat):Int)-1-((k1:Nat):Int))) 2),z1.2)).2).getD k3 0) z3.1))))] [432] 992 (v3 (pu (Yj k3 33) (pu (Ys k3 33) pT))) <|Wu [Ej 59 (k3+1)] none [Ej 12 (k3+1)] [12] [] [] 1040 (v1 (pv pT (Yp k3 1) (v1 pT))) <|Xo [] trivial
 refine Tri.exit <|?_
 obtain rfl:k3=33:=(by omega);subst hz3
 refine Xs [Eb 84 (((itr (pO p0 k0 k1 z1) 33 (0,List.replicate 33 0)).1:Int)==0)] [57,12,11] 560 (v2 pT) <|Xa (fun h7=>?_) (fun h7=>?_)
 have h7':=fC h7
 exact Wt [El 3 432 33] [84,10,3] [] [32] 592 (v2 pT) <|Wu [Ei 28 (((8:Nat):Int)-1-((k1+1:Nat):Int))] none [Ei 6 (((8:Nat):Int)-1-((k1+1:Nat):Int))] [6] [] [] 640 (v1 (pv pT (pl (show (aZ .i64 (((8:Nat):Int)-1-((k1:Nat):Int)) 1)=(((8:Nat):Int)-1-((k1+1:Nat):Int)) from iq (by omega) (by omega))) (v1 pT))) <|Xp (show sel _ 33 z1.1=33 by rw [hJ1];exact JZ _ _) [(32,432)] [Ei 6 (((8:Nat):Int)-1-((k1+1:Nat):Int)),El 3 32 33] [Mk 32 .i64 33 ((itr (pO p0 k0 k1 z1) 33 (0,List.replicate 33 0)).2)] (by simp only [kq,h1,h2,h7,aB,aA]) (by simp only [kq,h1,h2,h7,aB,aA])
 have h7':=eL h7
 exact Tri.skip <|Wu [Ei 28 (((8:Nat):Int)-1-((k1+1:Nat):Int))] none [Ei 6 (((8:Nat):Int)-1-((k1+1:Nat):Int))] [84,10,6] [] [432] 608 (v1 (pv pT (pl (show (aZ .i64 (((8:Nat):Int)-1-((k1:Nat):Int)) 1)=(((8:Nat):Int)-1-((k1+1:Nat):Int)) from iq (by omega) (by omega))) (v1 pT))) <|Xp (show sel _ 33 z1.1=33 by rw [hJ1];exact JZ _ _) [] [Ei 6 (((8:Nat):Int)-1-((k1+1:Nat):Int)),El 3 32 z1.1] [Mk 32 .i64 z1.1 ((itr (cN) 33 ((bm (aH .i64 (IntKind.wrap .i64 (p0.getD (p0.length-1-k0) 0)) (((8:Nat):Int)-1-((k1:Nat):Int))) 2),z1.2)).2)] (by simp only [kq,h1,h2,h7,aB,aA]) (by simp only [kq,h1,h2,h7,aB,aA])
 refine Tri.exit <|?_
 obtain rfl:k1=8:=(by omega);subst hz1
 exact Wu [Ei 24 (((p0.length:Nat):Int)-1-((k0+1:Nat):Int))] none [Ei 5 (((p0.length:Nat):Int)-1-((k0+1:Nat):Int))] [26,6,5] [] [] 288 (v1 (pv pT (pl (show (aZ .i64 (((p0.length:Nat):Int)-1-((k0:Nat):Int)) 1)=(((p0.length:Nat):Int)-1-((k0+1:Nat):Int)) from iq (by omega) (by omega))) (v1 pT))) <|Xo [] (show (itr (kq p0 k0) 8 (z0.1,z0.2)).1=33 from hJ1)
 refine Tri.exit <|?_
 obtain rfl:k0=p0.length:=(by omega);subst hz0
 refine Xt [El 14 192 32] [22,5,4,0] [Mi 192 32 (List.replicate 32 0)] [64] 224 (pu (pa (lo ((0:Int)≤32∧(32:Int)=32)) (pa (lo (32≤(140737488355328:Int))) (lo (((1:Nat):Int)*32≤281474976710656)))) (v1 pT)) <|Tri.seq <|Xs [Ei 15 0] [] 240 (v1 pT) <|Tri.block <|Xc 32 (rU p0) (List.replicate 32 0) (fun k4 z4=>True) (fun k4 z4=>[Ej 15 k4]) (fun k4 z4=>[Mi 192 32 z4]) trivial <|fun k4 z4 hk4 hz4 hJ4=>Tri.seq <|Xs [Eb 88 (decide ((((k4:Nat):Int):Int)<32))] [] 272 (v2 pT) <|Xb (fun h8 h8'=>?_) (fun h8 h8'=>?_)
 exact Tri.skip <|Tri.seq <|Tri.block <|Wt [] [88] [Mi 192 32 (z4.set k4 (IntKind.wrap .u8 (((itr (nK p0) p0.length (33,List.replicate 33 0)).2).getD k4 0)))] [192] 416 (v4 (pu (Yj k4 ((itr (nK p0) p0.length (33,List.replicate 33 0)).1)) (pu (Yl k4 ((itr (nK p0) p0.length (33,List.replicate 33 0)).1)) (v1 (pu (Yj k4 32) (pu (Ys k4 32) pT)))))) <|Wu [Ej 90 (k4+1)] none [Ej 15 (k4+1)] [15] [] [] 464 (v1 (pv pT (Yp k4 1) (v1 pT))) <|Xo [] trivial
 refine Tri.exit <|?_
 obtain rfl:k4=32:=(by omega);subst hz4
 exact Xt [El 2 192 32] [88,15,14,3] [] [32] 304 (v2 pT) <|Xz [(192,0)] pz
theorem Nc (p0:List Int):(AY p0).length=32:=by
 have h:∀ n,(itr (rU p0) n (List.replicate 32 0)).length=32:=by
  intro n
  induction n with
  |zero=>rw [aX];rfl
  |succ n ih=>rw [aQ];show (List.set _ _ _).length=32;rw [List.length_set];exact ih
 exact h _
def rM (p0:List Int) (p1:List Int) (p2:List Int):List Int :=
 (AY (aC (bc (aC ((p0++p1)++p2) ((p0.length+p1.length)+p2.length) 0 ((p0.length+p1.length)+p2.length))) 64 0 64))
def RG:List AV→List Blk→Option (Prop × Ret)
 |[.sc (.ro .u8 p0),.sc (.ro .u8 p1),.sc (.ro .u8 p2)],[]=>some ((p0.length+p1.length+p2.length≤1000000),⟨.sc (.sl 0 0 32 1 none),[some (.ints .u8 32 (rM p0 p1 p2))]⟩)
 |_,_=>none
theorem Nd:Known Tryz.prog gD 49 ⟨0,1,RG⟩:=by
 refine Xw Tryz.f49 15 (Zc yJ 128 [.ro .u8,.val] [112] [] <|Zc Pn 144 [.ro .u8] [128] [] <|Zn) mixed <|fun E args ks C r h hC hlen=>?_
 simp only at h
 unfold RG at h
 split at h
 rotate_left
 cases h
 rename_i p0 p1 p2
 cases h
 simp only [am] at hlen
 refine ⟨rfl,?_⟩
 refine Xs [] [] 32 (v1 pT) <|Xt [El 6 144 32] [0,1,2] [Mi 144 32 (AY (aC (bc (aC ((p0++p1)++p2) ((p0.length+p1.length)+p2.length) 0 ((p0.length+p1.length)+p2.length))) 64 0 64))] [] 176 (v1 (pu (YN pT 1 p0.length p0.length p0.length) (v1 (pu (Ya pT 1 (p0.length+p1.length) p1.length p1.length p0.length p0.length) (v1 (pu (Ya pT 1 ((p0.length+p1.length)+p2.length) p2.length p2.length (p0.length+p1.length) (p0.length+p1.length)) (pu (pa (pa (Yw ((p0.length+p1.length)+p2.length)) pT) (pa (Yr (64:Int)) (Ye ((aC ((p0++p1)++p2) ((p0.length+p1.length)+p2.length) 0 ((p0.length+p1.length)+p2.length)).length) 100000000))) (pu (pa (pa (Yw 64) pT) (pl (show (aC (bc (aC ((p0++p1)++p2) ((p0.length+p1.length)+p2.length) 0 ((p0.length+p1.length)+p2.length))) 64 0 64).length≤1000 from by exact aL (by decide) (by rw [kV];decide)))) (v1 pT))))))))) ?_
 exact Xz [(144,0)] pz
theorem CO (p0 p1 p2:List Int):(rM p0 p1 p2).length=32:=Nc _
def wS (p0:List Int):List Int :=
 (np (tD (aC (F44 (aC (bc p0) 64 0 32)) ((aC (bc p0) 64 0 32).length) 0 ((aC (bc p0) 64 0 32).length)) (uj)))
def Rn:List AV→List Blk→Option (Prop × Ret)
 |[.sc (.ro .u8 p0)],[]=>some ((p0.length=32),⟨.sc (.sl 0 0 32 1 none),[some (.ints .u8 32 (wS p0))]⟩)
 |_,_=>none
theorem PX:Known Tryz.prog gD 11 ⟨0,1,Rn⟩:=by
 refine Xw Tryz.f11 10 (Zv Ns 128 1 <|Zc KH 112 [.ro .u8,.val] [80] [] <|Zv PU 96 0 <|Zc K44 80 [.ro .u8] [48] [] <|Zc yJ 48 [.ro .u8,.val] [] [] <|Zn) mixed <|fun E args ks C r h hC hlen=>?_
 simp only at h
 unfold Rn at h
 split at h
 rotate_left
 cases h
 rename_i p0
 cases h
 simp only [am] at hlen
 have hh:=nP p0 0 (by decide)
 have hh2:=nP p0 32 (by decide)
 refine ⟨rfl,?_⟩
 refine Xs [] [] 32 (v1 pT) <|Xt [El 2 128 32] [0] [Mi 128 32 (np (tD (aC (F44 (aC (bc p0) 64 0 32)) ((aC (bc p0) 64 0 32).length) 0 ((aC (bc p0) 64 0 32).length)) (uj)))] [] 160 (v1 (pu (pa pz (pa (Yr (64:Int)) (Ye p0.length 100000000))) (pu (lo ((0:Int)≤0∧(0:Int)≤32∧32≤((64:Nat):Int))) (pu (pa (pa (Ye (0+32) 64) pT) (pl (show (aC (bc p0) 64 0 32).length=32 from hh))) (pu pz (pu (pa (pa (Yw ((aC (bc p0) 64 0 32).length)) pT) (pl (show (aC (F44 (aC (bc p0) 64 0 32)) ((aC (bc p0) 64 0 32).length) 0 ((aC (bc p0) 64 0 32).length)).length≤1000000 from by exact aL (by omega) (by rw [RX];omega)))) (pu pz (v1 pT)))))))) ?_
 exact Xz [(128,0)] pz
theorem rG (p0:List Int):(wS p0).length=32:=pR _
def mW (p0:List Int) (p1:List Int):List Int :=
 (rM (aC (bc p0) 64 32 32) p1 ([]:List Int))
def oq (p0:List Int) (p1:List Int):List Int :=
 (tD (aC (mW p0 p1) 32 0 32) (uj))
def ya (p0:List Int) (p1:List Int):List Int :=
 (rM (aC (np (oq p0 p1)) 32 0 32) (aC (wS p0) 32 0 32) p1)
def yY (p0:List Int) (p1:List Int) (k0:Nat) (k1:Nat) (z1:List Int):List Int :=
 z1.set (k0+k1) (aE .i64 (z1.getD (k0+k1) 0) (bE .i64 (IntKind.wrap .i64 ((ya p0 p1).getD k0 0)) (IntKind.wrap .i64 ((F44 (aC (bc p0) 64 0 32)).getD k1 0))))
def CL (p0:List Int) (p1:List Int) (k0:Nat) (z0:List Int):List Int :=
 (itr (yY p0 p1 k0) 32 (z0.set k0 (aE .i64 (z0.getD k0 0) (IntKind.wrap .i64 ((mW p0 p1).getD k0 0)))))
def zC (p0:List Int) (p1:List Int) (k0:Nat) (z0:List Int):List Int :=
 (CL p0 p1 k0 z0)
def oz (p0:List Int) (p1:List Int):List Int :=
 (itr (zC p0 p1) 32 (List.replicate 66 0))
def yl (p0:List Int) (p1:List Int) (k2:Nat) (z2:Int × List Int):Int × List Int :=
 ((ic .i64 (aE .i64 z2.1 ((oz p0 p1).getD k2 0)) 256),z2.2.set k2 (IntKind.wrap .u8 (bm (aE .i64 z2.1 ((oz p0 p1).getD k2 0)) 256)))
def yT (p0:List Int) (p1:List Int):Int × List Int :=
 (itr (yl p0 p1) 66 (0,List.replicate 66 0))
def BD (p0:List Int) (p1:List Int):List Int :=
 (AY (aC ((yT p0 p1).2) 66 0 66))
def LY (p0:List Int) (p1:List Int):List Int :=
 (np (oq p0 p1))++(BD p0 p1)
def Rg:List AV→List Blk→Option (Prop × Ret)
 |[.sc (.ro .u8 p0),.sc (.ro .u8 p1)],[]=>some ((p0.length=32∧p1.length≤10000),⟨.sc (.sl 0 0 64 1 none),[some (.ints .u8 64 (LY p0 p1))]⟩)
 |_,_=>none
theorem SU:Known Tryz.prog gD 30 ⟨0,1,Rg⟩:=by
 refine Xw Tryz.f30 96 (Zc PX 272 [.ro .u8] [] [] <|Zv Ns 208 1 <|Zc KH 192 [.ro .u8,.val] [128] [] <|Zv PU 176 0 <|Zc Nd 128 [.ro .u8,.ro .u8,.ro .u8] [48] [] <|Zc Nd 304 [.ro .u8,.ro .u8,.ro .u8] [208,272] [] <|Zc K44 368 [.ro .u8] [48] [] <|Zc yJ 48 [.ro .u8,.val] [] [] <|Zc Pn 608 [.ro .u8] [480] [] <|Zn) mixed <|fun E args ks C r h hC hlen=>?_
 simp only at h
 unfold Rg at h
 split at h
 rotate_left
 cases h
 rename_i p0 p1
 cases h
 simp only [am] at hlen
 have hh:=nP p0 0 (by decide)
 have hh2:=nP p0 32 (by decide)
 refine ⟨rfl,?_⟩
 refine Xs [] [] 32 (v1 pT) <|Xt [El 5 48 64] [] [Mi 48 64 (bc p0)] [] 80 (v1 (pu (pa pz (pa (Yr (64:Int)) (Ye p0.length 100000000))) (v1 pT))) <|Tri.len 48 rfl <|fun hl1=>Xt [El 6 128 32] [] [Mi 128 32 (mW p0 p1)] [] 160 (v1 (pu (lo ((0:Int)≤32∧(32:Int)≤64∧64≤((64:Nat):Int))) (v1 (pu (pa (pa (Ye (32+32) 64) (pa pT pz)) (pl (show (aC (bc p0) 64 32 32).length+p1.length+([]:List Int).length≤1000000 from by first|exact (show _+_+0≤1000000 by omega)|exact wA (by first|omega|(rw [List.length_take];omega)|(have hl:=mX (p0:=p0) (by assumption);omega)|exact aL (by decide) (Nat.le_trans (Nat.le_of_eq (pR _)) (by decide))|exact aL (by decide) (Nat.le_trans (Nat.le_of_eq (rG _)) (by decide))) (by first|omega|(rw [List.length_take];omega)|(have hl:=mX (p0:=p0) (by assumption);omega)|exact aL (by decide) (Nat.le_trans (Nat.le_of_eq (pR _)) (by decide))|exact aL (by decide) (Nat.le_trans (Nat.le_of_eq (rG _)) (by decide))) (by first|omega|(rw [List.length_take];omega)|(have hl:=mX (p0:=p0) (by assumption);omega)|exact aL (by decide) (Nat.le_trans (Nat.le_of_eq (pR _)) (by decide))|exact aL (by decide) (Nat.le_trans (Nat.le_of_eq (rG _)) (by decide)))))) (v1 pT))))) ?_
 refine Tri.len 128 rfl <|fun hl2=>Tri.len 48 rfl <|fun hl3=>Xt [El 7 208 32] [] [Mi 208 32 (np (oq p0 p1))] [] 240 (v1 (pu pz (pu (pa (pa (Yw 32) pT) (pl (show (aC (mW p0 p1) 32 0 32).length≤1000000 from by exact aL (by decide) (Nat.le_trans (Nat.le_of_eq (CO _ _ _)) (by decide))))) (pu pz (v1 pT))))) ?_
 refine Tri.len 208 rfl <|fun hl4=>Tri.len 128 rfl <|fun hl5=>Tri.len 48 rfl <|fun hl6=>Xt [El 8 304 32] [0,1] [Mi 304 32 (ya p0 p1)] [] 336 (v2 (pu (pa pz (lo (p0.length=32))) (v1 (pu (pa (pa (Yw 32) (pa (Yw 32) pz)) (pl (show (aC (np (oq p0 p1)) 32 0 32).length+(aC (wS p0) 32 0 32).length+p1.length≤1000000 from by first|exact (show _+_+0≤1000000 by omega)|exact wA (by first|omega|(rw [List.length_take];omega)|(have hl:=mX (p0:=p0) (by assumption);omega)|exact aL (by decide) (Nat.le_trans (Nat.le_of_eq (pR _)) (by decide))|exact aL (by decide) (Nat.le_trans (Nat.le_of_eq (rG _)) (by decide))) (by first|omega|(rw [List.length_take];omega)|(have hl:=mX (p0:=p0) (by assumption);omega)|exact aL (by decide) (Nat.le_trans (Nat.le_of_eq (pR _)) (by decide))|exact aL (by decide) (Nat.le_trans (Nat.le_of_eq (rG _)) (by decide))) (by first|omega|(rw [List.length_take];omega)|(have hl:=mX (p0:=p0) (by assumption);omega)|exact aL (by decide) (Nat.le_trans (Nat.le_of_eq (pR _)) (by decide))|exact aL (by decide) (Nat.le_trans (Nat.le_of_eq (rG _)) (by decide)))))) (v1 pT))))) ?_
 refine Tri.len 304 rfl <|fun hl7=>Tri.len 208 rfl <|fun hl8=>Tri.len 128 rfl <|fun hl9=>Tri.len 48 rfl <|fun hl10=>Xt [El 9 368 ((aC (bc p0) 64 0 32).length)] [5] [Mi 368 ((aC (bc p0) 64 0 32).length) (F44 (aC (bc p0) 64 0 32))] [48] 400 (v1 (pu (lo ((0:Int)≤0∧(0:Int)≤32∧32≤((64:Nat):Int))) (pu (pa (pa (Ye (0+32) 64) pT) (pl (show (aC (bc p0) 64 0 32).length=32 from hh))) (v1 pT)))) <|Xt [El 10 400 66] [] [Mk 400 .i64 66 (List.replicate 66 0)] [] 432 (pu (pa (lo ((0:Int)≤66∧(66:Int)=66)) (pa (lo (66≤(140737488355328:Int))) (lo (((8:Nat):Int)*66≤281474976710656)))) (v1 pT)) <|Tri.seq <|Xs [Ei 11 0] [] 448 (v1 pT) <|Tri.block <|Xc 32 (zC p0 p1) (List.replicate 66 0) (fun k0 z0=>True) (fun k0 z0=>[Ej 11 k0]) (fun k0 z0=>[Mk 400 .i64 66 z0]) trivial <|fun k0 z0 hk0 hz0 hJ0=>?_
 refine Tri.seq <|Xs [Eb 36 (decide ((((k0:Nat):Int):Int)<32))] [] 480 (v2 pT) <|Xb (fun h11 h11'=>?_) (fun h11 h11'=>?_)
 refine Tri.skip <|Tri.seq <|Tri.block <|Xu [] (some [0,0,3,7,0,0,48,112,240,511,1023,2047]) [] [36] [Mk 400 .i64 66 (z0.set k0 (aE .i64 (z0.getD k0 0) (IntKind.wrap .i64 ((mW p0 p1).getD k0 0))))] [400] 672 (v2 (pu (Yj k0 66) (pu (Yl k0 66) (v2 (pu (Yj k0 32) (pu (Yl k0 32) (v2 (pu (Yj k0 66) (pu (Ys k0 66) pT))))))))) <|Xs [Ei 12 0] [] 688 (v1 pT) <|Tri.block <|Xc 32 (yY p0 p1 k0) (z0.set k0 (aE .i64 (z0.getD k0 0) (IntKind.wrap .i64 ((mW p0 p1).getD k0 0)))) (fun k1 z1=>True) (fun k1 z1=>[Ej 12 k1]) (fun k1 z1=>[Mk 400 .i64 66 z1]) trivial <|fun k1 z1 hk1 hz1 hJ1=>Tri.seq <|Xs [Eb 51 (decide ((((k1:Nat):Int):Int)<32))] [] 720 (v2 pT) <|Xb (fun h12 h12'=>?_) (fun h12 h12'=>?_)
 refine Tri.skip <|Tri.seq <|Tri.block <|Tri.len 400 rfl <|fun hl13=>Tri.len 368 rfl <|fun hl14=>Tri.len 304 rfl <|fun hl15=>Tri.len 208 rfl <|fun hl16=>Tri.len 128 rfl <|fun hl17=>Wu [Ej 57 (k0+k1)] (some [0,0,0,6,15,31,0,0,192,448,960,0,0,6144,14336,30720,65472,131071,262143,524287]) [] [51] [Mk 400 .i64 66 (z1.set (k0+k1) (aE .i64 (z1.getD (k0+k1) 0) (bE .i64 (IntKind.wrap .i64 ((ya p0 p1).getD k0 0)) (IntKind.wrap .i64 ((F44 (aC (bc p0) 64 0 32)).getD k1 0)))))] [400] 1040 (v3 (pv pT (Yp k0 k1) (pu (Yj (k0+k1) 66) (pu (Yl (k0+k1) 66) (v2 (pu (Yj k0 32) (pu (Yl k0 32) (v3 (pu (Yj k1 ((aC (bc p0) 64 0 32).length)) (pu (Yl k1 ((aC (bc p0) 64 0 32).length)) (v3 (pu (Yj (k0+k1) 66) (pu (Ys (k0+k1) 66) pT))))))))))))) <|Wu [Ej 53 (k1+1)] none [Ej 12 (k1+1)] [12] [] [] 1088 (v1 (pv pT (Yp k1 1) (v1 pT))) <|?_
 exact Xo [] trivial
 refine Tri.exit <|?_
 obtain rfl:k1=32:=(by omega);obtain rfl:z1=(CL p0 p1 k0 z0):=hz1
 exact Wu [Ej 38 (k0+1)] none [Ej 11 (k0+1)] [51,12,11] [] [] 768 (v1 (pv pT (Yp k0 1) (v1 pT))) <|Xo [] trivial
 refine Tri.exit <|?_
 obtain rfl:k0=32:=(by omega);obtain rfl:z0=(oz p0 p1):=hz0
 refine Xt [El 13 480 66] [36,11,9,8,6] [Mi 480 66 (List.replicate 66 0)] [368,304,128] 512 (pu (pa (lo ((0:Int)≤66∧(66:Int)=66)) (pa (lo (66≤(140737488355328:Int))) (lo (((1:Nat):Int)*66≤281474976710656)))) (v1 pT)) <|Xs [Ei 14 0] [] 528 (v1 pT) <|Tri.seq <|Xs [Ei 15 0] [] 544 (v1 pT) <|Tri.block <|Xc 66 (yl p0 p1) (0,List.replicate 66 0) (fun k2 z2=>True) (fun k2 z2=>[Ej 15 k2,Ei 14 z2.1]) (fun k2 z2=>[Mi 480 66 z2.2]) trivial <|fun k2 z2 hk2 hz2 hJ2=>Tri.seq <|Xs [Eb 75 (decide ((((k2:Nat):Int):Int)<66))] [] 576 (v2 pT) <|Xb (fun h18 h18'=>?_) (fun h18 h18'=>?_)
 exact Tri.skip <|Tri.seq <|Tri.block <|Xs [Ei 14 (aE .i64 z2.1 ((oz p0 p1).getD k2 0))] [75,14] 688 (v3 (pu (Yj k2 66) (pu (Yl k2 66) (v2 pT)))) <|Xt [] [] [Mi 480 66 (z2.2.set k2 (IntKind.wrap .u8 (bm (aE .i64 z2.1 ((oz p0 p1).getD k2 0)) 256)))] [480] 800 (v3 (pu (Yn 256) (v1 (pu (Yj k2 66) (pu (Ys k2 66) pT))))) <|Ws [Ei 14 (ic .i64 (aE .i64 z2.1 ((oz p0 p1).getD k2 0)) 256)] [14] 848 (v1 (pu (Yn 256) (v1 pT))) <|Wu [Ej 77 (k2+1)] none [Ej 15 (k2+1)] [15] [] [] 896 (v1 (pv pT (Yp k2 1) (v1 pT))) <|Xo [] trivial
 refine Tri.exit <|?_
 obtain rfl:k2=66:=(by omega);obtain rfl:z2=(yT p0 p1):=hz2
 exact Tri.len 480 rfl <|fun hl19=>Tri.len 400 rfl <|fun hl20=>Tri.len 208 rfl <|fun hl21=>Xt [El 4 624 64] [75,15,14,13,10,7] [Mi 624 64 ((np (oq p0 p1))++(BD p0 p1))] [480,400,208] 656 (v2 (pu (pa (pa (Yw 66) pT) (Ye ((aC ((yT p0 p1).2) 66 0 66).length) 1000)) (pu (Ya (Yw 32) 1 64 32 32 32 32) (v1 pT)))) <|Xz [(624,0)] pz
def re (p0:List Int) (p1:List Int) (p2:List Int):Bool :=
 (sel (!(iN p0)) false (sel ((((p2.length:Nat):Int):Int) != 64) false (sel (!(zv ((p2.drop 32).take (p2.length-32)) (aC [237,211,245,92,26,99,18,88,214,156,247,162,222,249,222,20,0,0,0,0,0,0,0,0,0,0,0,0,0,0,0,16] 32 0 32))) false (aR (bytesOf (((np (tH (tD ((p2.drop 32).take (p2.length-32)) (uj)) (tD (aC (rM ((p2.drop 0).take 32) p0 p1) 32 0 32) (aT (mV p0) 0 (cl (au 0) (((mV p0).drop 0).take 16)))) (de))).drop 0).take 32)) (bytesOf ((p2.drop 0).take 32))))))
def Qm:List AV→List Blk→Option (Prop × Ret)
 |[.sc (.ro .u8 p0),.sc (.ro .u8 p1),.sc (.ro .u8 p2)],[]=>some ((p1.length≤10000),⟨.sc (.b (re p0 p1 p2)),[]⟩)
 |_,_=>none
theorem QG:Known Tryz.prog gD 10 ⟨0,0,Qm⟩:=by
 refine Xw Tryz.f10 52 (Zc Qd 48 [.ro .u8] [] [] <|Zc SI 336 [.ro .u8,.ro .u8] [320] [] <|Zv QJ 320 0 <|Zv Gc 432 2 <|Zv rA 384 1 <|Zv Ns 688 1 <|Zv Nl 672 3 <|Zc KH 528 [.ro .u8,.val] [] [] <|Zc KH 640 [.ro .u8,.val] [608] [] <|Zv PU 512 0 <|Zc Nd 608 [.ro .u8,.ro .u8,.ro .u8] [] [] <|Zv OX 656 0 <|Zn) mixed <|fun E args ks C r h hC hlen=>?_
 simp only at h
 unfold Qm at h
 split at h
 rotate_left
 cases h
 rename_i p0 p1 p2
 cases h
 simp only [am] at hlen
 refine ⟨rfl,?_⟩
 refine Xs [] [] 32 (v1 pT) <|Xt [Eb 8 (iN p0),Ep 7 112] [] [Mk 112 .i64 48 (mV p0)] [] 160 (v1 (pu (pa pz pT) (v4 (pu (Yz 48) (v1 pT))))) <|Tri.seq <|Tri.split (!(iN p0)) (fun h1=>?_) (fun h1=>?_)
 exact Xu [Eb 16 true] (some [0,1,3,7,15,31,63,127,255,511,255,2047,4095,8191]) [Eb 27 true] [8] [] [] 384 (v2 (pg h1 (v2 (v9 pT)))) <|Tri.cond_true (by kernel_rfl) <|Xt [Eb 6 false] [27,7,0,1,2] [] [112] 400 (v1 pT) <|Xy [] pz (by simp only [re,h1,aB,aA] <;> rfl)
 refine Tri.split ((((p2.length:Nat):Int):Int) != 64) (fun h2=>?_) (fun h2=>?_)
 have h2':=bO h2
 exact Xu [Eb 16 false,Eb 21 true] (some [0,1,3,7,15,31,63,127,255,511,255,2047,4095,8191]) [Eb 27 true] [8] [] [] 384 (v2 (pg h1 (v4 (pg h2 (v6 pT))))) <|Tri.cond_true (by kernel_rfl) <|Xt [Eb 6 false] [27,7,0,1,2] [] [112] 400 (v1 pT) <|Xy [] pz (by simp only [re,h1,h2,aB,aA] <;> rfl)
 have h2':=ak h2
 refine Tri.len 112 rfl <|fun hl3=>Xu [Eb 16 false,Eb 21 false] (some [0,1,3,7,15,31,63,127,255,511,255,2047,4095,8191]) [Eb 27 (!(zv ((p2.drop 32).take (p2.length-32)) (aC [237,211,245,92,26,99,18,88,214,156,247,162,222,249,222,20,0,0,0,0,0,0,0,0,0,0,0,0,0,0,0,16] 32 0 32)))] [8] [] [] 384 (v2 (pg h1 (v4 (pg h2 (v1 (pu (lo ((0:Int)≤32∧(32:Int)≤((p2.length:Nat):Int)∧((p2.length:Nat):Int)≤(p2.length:Int))) (pu pz (pu (pa (pa pT (pa (Yw 32) pT)) (pl (show ((p2.drop 32).take (p2.length-32)).length=32∧(aC [237,211,245,92,26,99,18,88,214,156,247,162,222,249,222,20,0,0,0,0,0,0,0,0,0,0,0,0,0,0,0,16] 32 0 32).length=32 from ⟨by rw [List.length_take,List.length_drop];omega,by rw [ah (n:=32) rfl];rfl⟩))) (v2 pT))))))))) <|Xa (fun h4=>?_) (fun h4=>?_)
 exact Xt [Eb 6 false] [27,7,0,1,2] [] [112] 400 (v1 pT) <|Xy [] pz (by simp only [re,h1,h2,h4,aB,aA] <;> rfl)
 refine Tri.skip <|Xu [] (some [0,0,2,7,15,31]) [] [27] [Mk 112 .i64 48 (aT (mV p0) 0 (cl (au 0) (((mV p0).drop 0).take 16)))] [112] 480 (pu pz (v1 (pu (Ye (0+16) 48) (pu pz (v1 (pu (pa (Ye (0+16) 48) (Yr 16)) pT)))))) <|Tri.len 112 rfl <|fun hl5=>Xu [] (some [0,1,0,7,0,16,0,0,255,0,1023,2047,4095,8191,16383,0,32768,98304,262143,524287]) [Eb 6 (aR (bytesOf (((np (tH (tD ((p2.drop 32).take (p2.length-32)) (uj)) (tD (aC (rM ((p2.drop 0).take 32) p0 p1) 32 0 32) (aT (mV p0) 0 (cl (au 0) (((mV p0).drop 0).take 16)))) (de))).drop 0).take 32)) (bytesOf ((p2.drop 0).take 32)))] [7,0,1,2] [] [112] 800 (v1 (pu (lo ((0:Int)≤32∧(32:Int)≤((p2.length:Nat):Int)∧((p2.length:Nat):Int)≤(p2.length:Int))) (pu pz (pu (pa pz (pl (show ((p2.drop 32).take (p2.length-32)).length≤1000000 from by first|(rw [List.length_take,List.length_drop];omega)|exact aL (by decide) (by rw [CO];decide)))) (v1 (pu (lo ((0:Int)≤0∧(0:Int)≤32∧32≤(p2.length:Int))) (v2 (pu (pa (pa pT (pa pT pz)) (pl (show ((p2.drop 0).take 32).length+p0.length+p1.length≤1000000 from by exact wA (by first|omega|(rw [List.length_take];omega)|(have hl:=mX (p0:=p0) h1;omega)) (by first|omega|(rw [List.length_take];omega)|(have hl:=mX (p0:=p0) h1;omega)) (by first|omega|(rw [List.length_take];omega)|(have hl:=mX (p0:=p0) h1;omega))))) (v1 (pu (pa (pa (Yw 32) pT) (pl (show (aC (rM ((p2.drop 0).take 32) p0 p1) 32 0 32).length≤1000000 from by first|(rw [List.length_take,List.length_drop];omega)|exact aL (by decide) (by rw [CO];decide)))) (pu pz (pu pz (pu pz (pu (Yw 32) (v1 (pu (lo ((0:Int)≤0∧(0:Int)≤32∧32≤(p2.length:Int))) (v3 pT))))))))))))))))) ?_
 exact Xy [] pz (by simp only [re,h1,h2,h4,aB,aA] <;> rfl)
end Go.Vm
namespace Go.Vm
open Go Go.Proofs
def qz (p0:ByteArray) (p1:Int):Int :=
 (Gz p0 p1)
def wh:List AV→List Blk→Option (Prop × Ret)
 |[.sc (.s p0),.sc (.i .u8 p1)],[]=>some (True,⟨.sc (.i .i64 (qz p0 p1)),[]⟩)
 |_,_=>none
theorem FO:Known Tryz.prog gD 149 ⟨0,0,wh⟩:=by
 refine Xw Tryz.f149 8 (Zv SO 64 2 <|Zn) mixed <|fun E args ks C r h hC hlen=>?_
 simp only at h
 unfold wh at h
 split at h
 rotate_left
 cases h
 rename_i p0 p1
 cases h
 simp only [am] at hlen
 refine ⟨rfl,?_⟩
 exact Xs [] [] 32 (v1 pT) <|Xs [Ei 4 (Gz p0 p1)] [0,1] 96 (v2 (pu pz (v1 pT))) <|Xz [] pz
def jS (p0:ByteArray):Int :=
 (sel (aR (⟨#[44]⟩:ByteArray) p0) 0 (qz p0 44))
def xW:List AV→List Blk→Option (Prop × Ret)
 |[.sc (.s p0),.sc (.s p1)],[]=>some ((((⟨#[44]⟩:ByteArray)=p1)∧True),⟨.sc (.i .i64 (jS p0)),[]⟩)
 |_,_=>none
theorem Fb:Known Tryz.prog gD 145 ⟨0,0,xW⟩:=by
 refine Xw Tryz.f145 143 (Zv FO 304 2 <|Zn) mixed <|fun E args ks C r h hC hlen=>?_
 simp only at h
 unfold xW at h
 split at h
 rotate_left
 cases h
 rename_i p0 p1
 cases h
 simp only [am] at hlen
 obtain ⟨hEp1,hC⟩:=hC
 subst hEp1
 refine ⟨rfl,?_⟩
 refine Xs [] [] 32 (v1 pT) <|Xs [Ei 5 1] [] 80 (v3 pT) <|Tri.seq <|Tri.block <|Xs [Eb 16 (aR (⟨#[44]⟩:ByteArray) p0)] [] 208 (v8 pT) <|Xa (fun h1=>?_) (fun h1=>?_)
 exact Xs [Ei 4 0] [16,5,0,1] 224 (v1 pT) <|Xy [] pz (by simp only [jS,h1,aB,aA] <;> rfl)
 exact Xs [Eb 24 true] [16] 256 (v3 pT) <|Tri.cond_true (by kernel_rfl) <|Xu [Ek 29 .u8 44] none [Ei 4 (qz p0 44)] [24,5,0,1] [] [] 336 (v2 (pv (ld ((0:Int)≤0∧0<((⟨#[44]⟩:ByteArray).size:Int))) (ld ((eN (⟨#[44]⟩:ByteArray) 0)=44)) (pu pz (v1 pT)))) <|Xy [] pz (by simp only [jS,h1,aB,aA] <;> rfl)
def dq (p0:ByteArray):Int :=
 (jS p0)
def DA:List AV→List Blk→Option (Prop × Ret)
 |[.sc (.s p0),.sc (.s p1)],[]=>some ((((⟨#[44]⟩:ByteArray)=p1)∧True),⟨.sc (.i .i64 (dq p0)),[]⟩)
 |_,_=>none
theorem Jz:Known Tryz.prog gD 138 ⟨0,0,DA⟩:=by
 refine Xw Tryz.f138 8 (Zv Fb 64 2 <|Zn) mixed <|fun E args ks C r h hC hlen=>?_
 simp only at h
 unfold DA at h
 split at h
 rotate_left
 cases h
 rename_i p0 p1
 cases h
 simp only [am] at hlen
 obtain ⟨hEp1,hC⟩:=hC
 subst hEp1
 refine ⟨rfl,?_⟩
 exact Xs [] [] 32 (v1 pT) <|Xs [Ei 4 (jS p0)] [0,1] 96 (v2 (pu (pa pT (pa (Yr (⟨#[44]⟩:ByteArray)) pT)) (v1 pT))) <|Xz [] pz
theorem Bn (p0:ByteArray):-1≤dq p0∧dq p0<(p0.size:Int):=by
 unfold dq jS
 cases h:aR (⟨#[44]⟩:ByteArray) p0
 ·rw [aA];exact OR p0 44
 ·rw [aB,← nc h];exact ⟨by decide,by decide⟩
def aW (p0:ByteArray):Nat :=
 (JE p0 44)
def DZ:List AV→List Blk→Option (Prop × Ret)
 |[.sc (.s p0),.sc (.s p1)],[]=>some ((((⟨#[44]⟩:ByteArray)=p1)∧True),⟨.sc (.i .i64 (((aW p0):Nat):Int)),[]⟩)
 |_,_=>none
theorem LZ:Known Tryz.prog gD 137 ⟨0,0,DZ⟩:=by
 refine Xw Tryz.f137 34 (Zv Rx 176 2 <|Zn) mixed <|fun E args ks C r h hC hlen=>?_
 simp only at h
 unfold DZ at h
 split at h
 rotate_left
 cases h
 rename_i p0 p1
 cases h
 simp only [am] at hlen
 obtain ⟨hEp1,hC⟩:=hC
 subst hEp1
 refine ⟨rfl,?_⟩
 exact Xs [] [] 32 (v1 pT) <|Tri.seq <|Xs [Eb 9 false] [] 80 (v3 pT) <|Tri.cond_false (by kernel_rfl) <|Tri.skip <|Tri.seq <|Xs [Eb 15 true] [9] 128 (v3 pT) <|Tri.cond_true (by kernel_rfl) <|Xu [Ek 18 .u8 44] none [Ej 4 (JE p0 44)] [15,0,1] [] [] 208 (v2 (pv (ld ((0:Int)≤0∧0<((⟨#[44]⟩:ByteArray).size:Int))) (ld ((eN (⟨#[44]⟩:ByteArray) 0)=44)) (pu pz (v1 pT)))) <|Xz [] pz
theorem ts (p0:ByteArray):aW p0≤p0.size:=NM p0 44
def cE (k0:Nat) (z0:ByteArray × List ByteArray):ByteArray × List ByteArray :=
 ((z0.1.extract (((aE .i64 (dq z0.1) 1)).toNat) z0.1.size),z0.2.set k0 (z0.1.extract 0 (((aE .i64 (dq z0.1) 0)).toNat)))
def bw (p0:ByteArray) (k0:Nat):Bool :=
 (sel (decide (((dq (itr (cE) k0 (p0,List.replicate (min ((aW p0)+1) (p0.size+1)) (⟨#[]⟩:ByteArray))).1):Int)<0)) true false)
def iO (p0:ByteArray):List ByteArray :=
 (sel (Nat.blt (ar (bw p0) ((min ((aW p0)+1) (p0.size+1))-1)) ((min ((aW p0)+1) (p0.size+1))-1)) (((itr (cE) (ar (bw p0) ((min ((aW p0)+1) (p0.size+1))-1)) (p0,List.replicate (min ((aW p0)+1) (p0.size+1)) (⟨#[]⟩:ByteArray))).2).set (ar (bw p0) ((min ((aW p0)+1) (p0.size+1))-1)) ((itr (cE) (ar (bw p0) ((min ((aW p0)+1) (p0.size+1))-1)) (p0,List.replicate (min ((aW p0)+1) (p0.size+1)) (⟨#[]⟩:ByteArray))).1)) (((itr (cE) ((min ((aW p0)+1) (p0.size+1))-1) (p0,List.replicate (min ((aW p0)+1) (p0.size+1)) (⟨#[]⟩:ByteArray))).2).set ((min ((aW p0)+1) (p0.size+1))-1) ((itr (cE) ((min ((aW p0)+1) (p0.size+1))-1) (p0,List.replicate (min ((aW p0)+1) (p0.size+1)) (⟨#[]⟩:ByteArray))).1)))
def aa (p0:ByteArray):Nat :=
 (sel (Nat.blt (ar (bw p0) ((min ((aW p0)+1) (p0.size+1))-1)) ((min ((aW p0)+1) (p0.size+1))-1)) (((ar (bw p0) ((min ((aW p0)+1) (p0.size+1))-1))+1)-0) ((((min ((aW p0)+1) (p0.size+1))-1)+1)-0))
def uJ:List AV→List Blk→Option (Prop × Ret)
 |[.sc (.s p0),.sc (.s p1),.sc (.i .i64 p2),.sc (.i .i64 p3)],[]=>some ((((⟨#[44]⟩:ByteArray)=p1)∧(((0:Int)=p2)∧(((-1:Int)=p3)∧(p0.size≤1000000000)))),⟨.sc (.sl 0 0 (aa p0) 1 none),[some (.vec .str (iO p0))]⟩)
 |_,_=>none
theorem CR:Known Tryz.prog gD 121 ⟨0,1,uJ⟩:=by
 refine Xw Tryz.f121 66 (Zv LZ 160 2 <|Zv Jz 496 2 <|Zn) mixed <|fun E args ks C r h hC hlen=>?_
 simp only at h
 unfold uJ at h
 split at h
 rotate_left
 cases h
 rename_i p0 p1 p2 p3
 cases h
 simp only [am] at hlen
 obtain ⟨hEp1,hC⟩:=hC
 obtain ⟨hEp2,hC⟩:=hC
 obtain ⟨hEp3,hC⟩:=hC
 subst hEp1
 subst hEp2
 subst hEp3
 have hc:=ts p0
 refine ⟨rfl,?_⟩
 refine Xs [] [] 32 (v1 pT) <|Tri.seq <|Xs [Eb 13 false] [] 64 (v2 pT) <|Tri.cond_false (by kernel_rfl) <|Tri.skip <|Tri.seq <|Xs [Eb 15 (aR (⟨#[44]⟩:ByteArray) (⟨#[]⟩:ByteArray))] [13] 96 (v2 pT) <|Tri.cond (x:=(aR (⟨#[44]⟩:ByteArray) (⟨#[]⟩:ByteArray))) (by kernel_rfl) (fun h=>absurd (h.symm.trans (by rw [pI] <;> decide)) (by decide)) (fun h=>?_)
 refine Tri.skip <|Tri.seq <|Xs [Eb 20 true] [15] 128 (v2 pT) <|Tri.cond_true (by kernel_rfl) <|Wu [Ej 24 ((aW p0)+1)] none [Ej 3 ((aW p0)+1)] [20,3] [] [] 208 (v2 (pu (pa pT (pa (Yr (⟨#[44]⟩:ByteArray)) pT)) (pv pT (Yp (aW p0) 1) (v1 pT)))) <|Xu [Ej 28 (p0.size+1),Ej 29 (min ((aW p0)+1) (p0.size+1))] none [Ej 3 (min ((aW p0)+1) (p0.size+1))] [3] [] [] 304 (v3 (pv pT (Yp p0.size 1) (pv pT (pl (show (wO (((aW p0)+1:Nat):Int) ((p0.size+1:Nat):Int))=((min ((aW p0)+1) (p0.size+1):Nat):Int) from HS ((aW p0)+1) (p0.size+1))) (v1 pT)))) <|Xt [El 9 320 (min ((aW p0)+1) (p0.size+1))] [] [(320,.vec .str (List.replicate (min ((aW p0)+1) (p0.size+1)) (⟨#[]⟩:ByteArray)))] [] 352 (v1 (pu (pa (lo ((0:Int)≤((min ((aW p0)+1) (p0.size+1):Nat):Int)∧(((min ((aW p0)+1) (p0.size+1):Nat):Int):Int)=((min ((aW p0)+1) (p0.size+1):Nat):Int))) (pa (lo (((min ((aW p0)+1) (p0.size+1):Nat):Int)≤(140737488355328:Int))) (lo (((16:Nat):Int)*((min ((aW p0)+1) (p0.size+1):Nat):Int)≤281474976710656)))) (v1 pT))) <|Xu [Ej 33 ((min ((aW p0)+1) (p0.size+1))-1)] none [Ej 3 ((min ((aW p0)+1) (p0.size+1))-1)] [3] [] [] 400 (v1 (pv pT (pl (cu (a:=min ((aW p0)+1) (p0.size+1)) (b:=1) (by omega) (by omega))) (v1 pT))) <|Xs [Ei 10 0] [] 416 (v1 pT) <|Tri.seq <|Tri.block <|Xc ((min ((aW p0)+1) (p0.size+1))-1) (cE) (p0,List.replicate (min ((aW p0)+1) (p0.size+1)) (⟨#[]⟩:ByteArray)) (fun k0 z0=>(z0.2.length=min (aW p0+1) (p0.size+1)∧z0.1.size≤1000000000)∧(∀ j,j<k0→(bw p0) j=false)) (fun k0 z0=>[Ej 10 k0,Es 0 z0.1]) (fun k0 z0=>[(320,.vec .str z0.2)]) (⟨⟨by rw [List.length_replicate],by omega⟩,(fun j hj=>absurd hj (Nat.not_lt_zero j))⟩) <|fun k0 z0 hk0 hz0 hJ0=>?_
 have hx:=Bn z0.1
 have hy:aE .i64 (dq z0.1) 1=dq z0.1+1:=cK (by omega) (by omega)
 have hy0:aE .i64 (dq z0.1) 0=dq z0.1+0:=cK (by omega) (by omega)
 refine Tri.seq <|Xs [Eb 36 (decide ((((k0:Nat):Int):Int)<(((min ((aW p0)+1) (p0.size+1))-1:Nat):Int)))] [] 464 (v3 pT) <|Xb (fun h1 h1'=>?_) (fun h1 h1'=>?_)
 refine Tri.skip <|Tri.block <|Xs [Ei 11 (dq z0.1)] [36] 528 (v2 (pu (pa pT (pa (Yr (⟨#[44]⟩:ByteArray)) pT)) (v1 pT))) <|Tri.seq <|Xs [Eb 41 (decide (((dq z0.1):Int)<0))] [] 560 (v2 pT) <|Xb (fun h2 h2'=>?_) (fun h2 h2'=>?_)
 refine Tri.exit <|?_
 subst hz0
 have hf0:ar (bw p0) ((min ((aW p0)+1) (p0.size+1))-1)=k0:=eA (by omega) hJ0.2 (by simp only [bw,h1,h2,aB,aA])
 have hb0:Nat.blt k0 ((min ((aW p0)+1) (p0.size+1))-1)=true:=eP (by omega)
 have hq0:Nat.blt (ar (bw p0) ((min ((aW p0)+1) (p0.size+1))-1)) ((min ((aW p0)+1) (p0.size+1))-1)=true:=by rw [hf0];exact hb0
 exact Xt [] [41,11,3,0,1,2] [(320,.vec .str (((itr (cE) k0 (p0,List.replicate (min ((aW p0)+1) (p0.size+1)) (⟨#[]⟩:ByteArray))).2).set k0 ((itr (cE) k0 (p0,List.replicate (min ((aW p0)+1) (p0.size+1)) (⟨#[]⟩:ByteArray))).1)))] [320] 640 (v3 (pu (Yj k0 (min ((aW p0)+1) (p0.size+1))) (pu (Ys k0 (((itr (cE) k0 (p0,List.replicate (min ((aW p0)+1) (p0.size+1)) (⟨#[]⟩:ByteArray))).2).length)) pT))) <|Xu [Ej 64 (k0+1)] none [El 8 320 ((k0+1)-0)] [10,9] [] [] 720 (v2 (pv pT (Yp k0 1) (pu (lo ((0:Int)≤0∧(0:Int)≤((k0+1:Nat):Int)∧((k0+1:Nat):Int)≤((min ((aW p0)+1) (p0.size+1):Nat):Int))) (v1 pT)))) <|Xy [(320,0)] pz (by simp only [iO,aa,hq0,hf0,hb0,aB,aA] <;> rfl)
 exact Tri.skip <|Xt [] [41] [(320,.vec .str (z0.2.set k0 (z0.1.extract 0 (((aE .i64 (dq z0.1) 0)).toNat))))] [320] 704 (v6 (pu (lo ((0:Int)≤0∧(0:Int)≤(aE .i64 (dq z0.1) 0)∧(aE .i64 (dq z0.1) 0)≤(z0.1.size:Int))) (pu (Yj k0 (min ((aW p0)+1) (p0.size+1))) (pu (Ys k0 z0.2.length) pT)))) <|Xs [Es 0 (z0.1.extract (((aE .i64 (dq z0.1) 1)).toNat) z0.1.size)] [11,0] 816 (v5 (pu (lo ((0:Int)≤(aE .i64 (dq z0.1) 1)∧((aE .i64 (dq z0.1) 1):Int)≤((z0.1.size:Nat):Int)∧((z0.1.size:Nat):Int)≤(z0.1.size:Int))) (v1 pT))) <|Wu [Ej 57 (k0+1)] none [Ej 10 (k0+1)] [10] [] [] 864 (v1 (pv pT (Yp k0 1) (v1 pT))) <|Xo [] (⟨(by unfold cE;exact ⟨by rw [List.length_set];exact hJ0.1.1,Nat.le_trans (Bi _ _ _) hJ0.1.2⟩),(fq hJ0.2 (by subst hz0;simp only [bw,h1,h2,aB,aA]))⟩)
 refine Tri.exit <|?_
 obtain rfl:k0=((min ((aW p0)+1) (p0.size+1))-1):=(by omega);subst hz0
 have hf0:ar (bw p0) ((min ((aW p0)+1) (p0.size+1))-1)=((min ((aW p0)+1) (p0.size+1))-1):=fG hJ0.2
 have hb0:Nat.blt ((min ((aW p0)+1) (p0.size+1))-1) ((min ((aW p0)+1) (p0.size+1))-1)=false:=fg _
 have hq0:Nat.blt (ar (bw p0) ((min ((aW p0)+1) (p0.size+1))-1)) ((min ((aW p0)+1) (p0.size+1))-1)=false:=by rw [hf0];exact hb0
 exact Xt [] [36,3,0,1,2] [(320,.vec .str (((itr (cE) ((min ((aW p0)+1) (p0.size+1))-1) (p0,List.replicate (min ((aW p0)+1) (p0.size+1)) (⟨#[]⟩:ByteArray))).2).set ((min ((aW p0)+1) (p0.size+1))-1) ((itr (cE) ((min ((aW p0)+1) (p0.size+1))-1) (p0,List.replicate (min ((aW p0)+1) (p0.size+1)) (⟨#[]⟩:ByteArray))).1)))] [320] 544 (v3 (pu (Yj ((min ((aW p0)+1) (p0.size+1))-1) (min ((aW p0)+1) (p0.size+1))) (pu (Ys ((min ((aW p0)+1) (p0.size+1))-1) (((itr (cE) ((min ((aW p0)+1) (p0.size+1))-1) (p0,List.replicate (min ((aW p0)+1) (p0.size+1)) (⟨#[]⟩:ByteArray))).2).length)) pT))) <|Xu [Ej 64 (((min ((aW p0)+1) (p0.size+1))-1)+1)] none [El 8 320 ((((min ((aW p0)+1) (p0.size+1))-1)+1)-0)] [10,9] [] [] 624 (v2 (pv pT (Yp ((min ((aW p0)+1) (p0.size+1))-1) 1) (pu (lo ((0:Int)≤0∧(0:Int)≤((((min ((aW p0)+1) (p0.size+1))-1)+1:Nat):Int)∧((((min ((aW p0)+1) (p0.size+1))-1)+1:Nat):Int)≤((min ((aW p0)+1) (p0.size+1):Nat):Int))) (v1 pT)))) <|Xy [(320,0)] pz (by simp only [iO,aa,hq0,hf0,hb0,aB,aA] <;> rfl)
def gE (p0:ByteArray):List ByteArray :=
 (iO p0)
def Dw:List AV→List Blk→Option (Prop × Ret)
 |[.sc (.s p0),.sc (.s p1)],[]=>some ((((⟨#[44]⟩:ByteArray)=p1)∧(p0.size≤1000000000)),⟨.sc (.sl 0 0 (aa p0) 1 none),[some (.vec .str (gE p0))]⟩)
 |_,_=>none
theorem Kg:Known Tryz.prog gD 98 ⟨0,1,Dw⟩:=by
 refine Xw Tryz.f98 8 (Zv CR 64 4 <|Zn) mixed <|fun E args ks C r h hC hlen=>?_
 simp only at h
 unfold Dw at h
 split at h
 rotate_left
 cases h
 rename_i p0 p1
 cases h
 simp only [am] at hlen
 obtain ⟨hEp1,hC⟩:=hC
 subst hEp1
 refine ⟨rfl,?_⟩
 exact Xs [] [] 32 (v1 pT) <|Xt [El 4 64 (aa p0)] [0,1] [(64,.vec .str (iO p0))] [] 96 (v2 (pu (pa pT (pa (Yr (⟨#[44]⟩:ByteArray)) (pa (Yr (0:Int)) (pa (Yr (-1:Int)) (Ye p0.size 1000000000))))) (v1 pT))) <|Xz [(64,0)] pz
theorem sM (s:ByteArray):(gE s).length=min (aW s+1) (s.size+1):=by
 have h:∀ k,(itr cE k (s,List.replicate (min (aW s+1) (s.size+1)) (⟨#[]⟩:ByteArray))).2.length=min (aW s+1) (s.size+1):=by
  intro k
  induction k with
  |zero=>rw [aX,List.length_replicate]
  |succ k ih=>rw [aQ];unfold cE;rw [List.length_set];exact ih
 unfold gE iO
 cases Nat.blt (ar (bw s) ((min ((aW s)+1) (s.size+1))-1)) ((min ((aW s)+1) (s.size+1))-1)
 ·rw [aA,List.length_set];exact h _
 ·rw [aB,List.length_set];exact h _
theorem FE (s:ByteArray):aa s≤(gE s).length:=by
 rw [sM]
 have:=yv (bw s) ((min ((aW s)+1) (s.size+1))-1)
 unfold aa
 cases Nat.blt (ar (bw s) ((min ((aW s)+1) (s.size+1))-1)) ((min ((aW s)+1) (s.size+1))-1)
 ·rw [aA];omega
 ·rw [aB];omega
def HF:List AV→List Blk→Option (Prop × Ret)
 |[.sc (.ro .u8 p0)],[]=>some (True,⟨.sc (.p 0 0),[some (.cells [.ro .u8 p0,.b false])]⟩)
 |_,_=>none
theorem CN:Known Tryz.prog gD 34 ⟨0,1,HF⟩:=by
 refine Xw Tryz.f34 6 Zn mixed <|fun E args ks C r h hC hlen=>?_
 simp only at h
 unfold HF at h
 split at h
 rotate_left
 cases h
 rename_i p0
 cases h
 simp only [am] at hlen
 refine ⟨rfl,?_⟩
 exact Xs [] [] 32 (v1 pT) <|Xt [Ep 2 64] [0] [Mc 64 [.ro .u8 p0,.b false]] [] 96 (v1 (pu (pa (Ys 0 2) pT) (v2 pT))) <|Xz [(64,0)] pz
def fY (p0:List Int) (p1:Bool) (p2:Int):List Int :=
 (p0.drop 0).take (((p2).toNat)-0)
def jL (p0:List Int) (p1:Bool) (p2:Int):List Int :=
 (p0.drop ((p2).toNat)).take (p0.length-((p2).toNat))
def zW:List AV→List Blk→Option (Prop × Ret)
 |[.sc (.p 0 0),.sc (.i .i64 p2)],[.cells [.ro .u8 p0,.b p1]]=>some (((p1=false)∧(((decide ((p2:Int)>((p0.length:Nat):Int)))=false)∧((0:Int)≤p2))),⟨.sc (.ro .u8 (fY p0 p1 p2)),[some (.cells [.ro .u8 (jL p0 p1 p2),.b p1])]⟩)
 |_,_=>none
theorem Gp:Known Tryz.prog gD 83 ⟨1,0,zW⟩:=by
 refine Xw Tryz.f83 48 Zn mixed <|fun E args ks C r h hC hlen=>?_
 simp only at h
 unfold zW at h
 split at h
 rotate_left
 cases h
 rename_i p2 p0 p1
 cases h
 simp only [am] at hlen
 have hG0:=hC.1
 have hG1:=hC.2.1
 have hG1':=of_decide_eq_false hG1
 have hC:=hC.2.2
 refine ⟨rfl,?_⟩
 refine Xs [] [] 32 (v1 pT) <|Tri.seq <|Xu [Eb 14 false] none [Eb 22 (decide ((p2:Int)>((p0.length:Nat):Int)))] [] [] [] 304 (v6 (pu (Yl 1 2) (v1 (pg hG0 (v4 (pu (Yl 0 2) (v3 pT))))))) <|Tri.cond (x:=(decide ((p2:Int)>((p0.length:Nat):Int)))) (by kernel_rfl) (fun h=>absurd (h.symm.trans hG1) (by decide)) (fun h=>?_)
 exact Tri.skip <|Xs [Er 5 ((p0.drop 0).take (((p2).toNat)-0))] [22] 432 (v3 (pu (Yl 0 2) (v2 (pu (lo ((0:Int)≤0∧(0:Int)≤p2∧(p2:Int)≤p2∧(p2:Int)≤(p0.length:Int))) (v1 pT))))) <|Xt [] [0,1] [Mc 0 [.ro .u8 ((p0.drop ((p2).toNat)).take (p0.length-((p2).toNat))),.b p1]] [0] 592 (v4 (pu (Yl 0 2) (v1 (pu (lo ((0:Int)≤p2∧(p2:Int)≤((p0.length:Nat):Int)∧((p0.length:Nat):Int)≤(p0.length:Int))) (v2 (pu (Ys 0 2) pT)))))) <|Xs [Er 4 ((p0.drop 0).take (((p2).toNat)-0))] [5] 624 (v2 pT) <|Xz [(0,0)] pz
theorem mj {p0:List Int} {p1:Bool} {p2:Int} (h:(decide ((p2:Int)>((p0.length:Nat):Int)))=false) (h0:0≤p2):((fY p0 p1 p2).length:Int)=p2:=by
 have:=of_decide_eq_false h
 unfold fY
 simp only [List.length_take,List.length_drop]
 omega
def zl:List AV→List Blk→Option (Prop × Ret)
 |[.sc (.p 0 0),.sc (.i .i64 p2)],[.cells [.ro .u8 p0,.b p1]]=>some (((p1=false)∧(((decide ((p2:Int)>((p0.length:Nat):Int)))=true)∧True)),⟨.sc (.nils),[some (.cells [.ro .u8 ([]:List Int),.b true])]⟩)
 |_,_=>none
theorem Hq:Known Tryz.prog gD 83 ⟨1,0,zl⟩:=by
 refine Xw Tryz.f83 48 Zn mixed <|fun E args ks C r h hC hlen=>?_
 simp only at h
 unfold zl at h
 split at h
 rotate_left
 cases h
 rename_i p2 p0 p1
 cases h
 simp only [am] at hlen
 have hG0:=hC.1
 have hG1:=hC.2.1
 have hG1':=of_decide_eq_true hG1
 have hC:=hC.2.2
 refine ⟨rfl,?_⟩
 refine Xs [] [] 32 (v1 pT) <|Tri.seq <|Xu [Eb 14 false] none [Eb 22 (decide ((p2:Int)>((p0.length:Nat):Int)))] [] [] [] 304 (v6 (pu (Yl 1 2) (v1 (pg hG0 (v4 (pu (Yl 0 2) (v3 pT))))))) <|Tri.cond (x:=(decide ((p2:Int)>((p0.length:Nat):Int)))) (by kernel_rfl) (fun h=>?_) (fun h=>absurd (h.symm.trans hG1) (by decide))
 exact Tri.seq <|Xs [Eb 24 true] [22,1] 336 (v2 pT) <|Tri.cond_true (by kernel_rfl) <|Wt [] [24,0] [Mc 0 [.nils,.b true]] [0] 464 (v4 (pu (Ys 1 2) (v2 (pu (Ys 0 2) pT)))) <|Xs [(4,.sc (.nils))] [] 480 (v1 pT) <|Tri.sub (Sub.nilCell (l:=[.nils,.b true]) 0 0 .u8 (by kernel_rfl) (by kernel_rfl)) <|Xz [(0,0)] pz
def xF:List AV→List Blk→Option (Prop × Ret)
 |[.sc (.p 0 0),.sc (.i .i64 p2)],[.cells [.ro .u8 p0,.b p1]]=>some (((p1=true)∧True),⟨.sc (.nils),[some (.cells [.ro .u8 ([]:List Int),.b true])]⟩)
 |_,_=>none
theorem Fl:Known Tryz.prog gD 83 ⟨1,0,xF⟩:=by
 refine Xw Tryz.f83 48 Zn mixed <|fun E args ks C r h hC hlen=>?_
 simp only at h
 unfold xF at h
 split at h
 rotate_left
 cases h
 rename_i p2 p0 p1
 cases h
 simp only [am] at hlen
 have hG0:=hC.1
 have hC:=hC.2
 refine ⟨rfl,?_⟩
 exact Xs [] [] 32 (v1 pT) <|Tri.seq <|Xu [Eb 14 true] none [Eb 22 true] [] [] [] 304 (v6 (pu (Yl 1 2) (v1 (pg hG0 (v8 pT))))) <|Tri.cond_true (by kernel_rfl) <|Tri.seq <|Xs [Eb 24 true] [22,1] 336 (v2 pT) <|Tri.cond_true (by kernel_rfl) <|Wt [] [24,0] [Mc 0 [.nils,.b true]] [0] 464 (v4 (pu (Ys 1 2) (v2 (pu (Ys 0 2) pT)))) <|Xs [(4,.sc (.nils))] [] 480 (v1 pT) <|Tri.sub (Sub.nilCell (l:=[.nils,.b true]) 0 0 .u8 (by kernel_rfl) (by kernel_rfl)) <|Xz [(0,0)] pz
def cz (p0:List Int) (p1:Bool) (p2:Int):List Int :=
 (sel p1 ([]:List Int) (sel (decide ((p2:Int)>((p0.length:Nat):Int))) ([]:List Int) ((p0.drop 0).take (((p2).toNat)-0))))
def dV (p0:List Int) (p1:Bool) (p2:Int):List Int :=
 (sel p1 ([]:List Int) (sel (decide ((p2:Int)>((p0.length:Nat):Int))) ([]:List Int) ((p0.drop ((p2).toNat)).take (p0.length-((p2).toNat)))))
def dX (p0:List Int) (p1:Bool) (p2:Int):Bool :=
 (sel p1 true (sel (decide ((p2:Int)>((p0.length:Nat):Int))) true p1))
def Cy:List AV→List Blk→Option (Prop × Ret)
 |[.sc (.p 0 0),.sc (.i .i64 p2)],[.cells [.ro .u8 p0,.b p1]]=>some (((0:Int)≤p2),⟨.sc (.ro .u8 (cz p0 p1 p2)),[some (.cells [.ro .u8 (dV p0 p1 p2),.b (dX p0 p1 p2)])]⟩)
 |_,_=>none
theorem qV:Known Tryz.prog gD 83 ⟨1,0,Cy⟩:=by
 refine Xw Tryz.f83 48 Zn mixed <|fun E args ks C r h hC hlen=>?_
 simp only at h
 unfold Cy at h
 split at h
 rotate_left
 cases h
 rename_i p2 p0 p1
 cases h
 simp only [am] at hlen
 refine ⟨rfl,?_⟩
 refine Xs [] [] 32 (v1 pT) <|Tri.seq <|Tri.split p1 (fun h1=>?_) (fun h1=>?_)
 exact Xu [Eb 14 true] none [Eb 22 true] [] [] [] 304 (v6 (pu (Yl 1 2) (v1 (pg h1 (v8 pT))))) <|Tri.cond_true (by kernel_rfl) <|Tri.seq <|Xs [Eb 24 true] [22,1] 336 (v2 pT) <|Tri.cond_true (by kernel_rfl) <|Wt [] [24,0] [Mc 0 [.nils,.b true]] [0] 464 (v4 (pu (Ys 1 2) (v2 (pu (Ys 0 2) pT)))) <|Xs [(4,.sc (.nils))] [] 480 (v1 pT) <|Tri.sub (Sub.nilRo 4 .u8 (by kernel_rfl)) <|Tri.sub (Sub.nilCell (l:=[.nils,.b true]) 0 0 .u8 (by kernel_rfl) (by kernel_rfl)) <|Xy [(0,0)] pz (by simp only [cz,dV,dX,h1,aB,aA] <;> rfl)
 refine Xu [Eb 14 false] none [Eb 22 (decide ((p2:Int)>((p0.length:Nat):Int)))] [] [] [] 304 (v6 (pu (Yl 1 2) (v1 (pg h1 (v4 (pu (Yl 0 2) (v3 pT))))))) <|Xb (fun h2 h2'=>?_) (fun h2 h2'=>?_)
 exact Tri.seq <|Xs [Eb 24 true] [22,1] 336 (v2 pT) <|Tri.cond_true (by kernel_rfl) <|Wt [] [24,0] [Mc 0 [.nils,.b true]] [0] 464 (v4 (pu (Ys 1 2) (v2 (pu (Ys 0 2) pT)))) <|Xs [(4,.sc (.nils))] [] 480 (v1 pT) <|Tri.sub (Sub.nilRo 4 .u8 (by kernel_rfl)) <|Tri.sub (Sub.nilCell (l:=[.nils,.b true]) 0 0 .u8 (by kernel_rfl) (by kernel_rfl)) <|Xy [(0,0)] pz (by simp only [cz,dV,dX,h1,h2,aB,aA] <;> rfl)
 exact Tri.skip <|Xs [Er 5 ((p0.drop 0).take (((p2).toNat)-0))] [22] 432 (v3 (pu (Yl 0 2) (v2 (pu (lo ((0:Int)≤0∧(0:Int)≤p2∧(p2:Int)≤p2∧(p2:Int)≤(p0.length:Int))) (v1 pT))))) <|Xt [] [0,1] [Mc 0 [.ro .u8 ((p0.drop ((p2).toNat)).take (p0.length-((p2).toNat))),.b p1]] [0] 592 (v4 (pu (Yl 0 2) (v1 (pu (lo ((0:Int)≤p2∧(p2:Int)≤((p0.length:Nat):Int)∧((p0.length:Nat):Int)≤(p0.length:Int))) (v2 (pu (Ys 0 2) pT)))))) <|Xs [Er 4 ((p0.drop 0).take (((p2).toNat)-0))] [5] 624 (v2 pT) <|Xy (r':=⟨.sc (.ro .u8 ((p0.drop 0).take (((p2).toNat)-0))),[some (.cells [.ro .u8 ((p0.drop ((p2).toNat)).take (p0.length-((p2).toNat))),.b p1])]⟩) [(0,0)] pz (by simp only [cz,dV,dX,h1,h2,aB,aA])
theorem vP (p0:List Int) (p1:Bool) (p2:Int):(cz p0 p1 p2).length≤p2.toNat:=by
 unfold cz
 cases p1
 ·simp only [aA]
  cases (decide ((p2:Int)>((p0.length:Nat):Int)))
  ·simp only [aA,List.length_take,List.length_drop];omega
  ·simp only [aB,List.length_nil];omega
 ·simp only [aB,List.length_nil];omega
def db (p0:List Int) (p1:Bool):Int :=
 (sel p1 0 (sel (decide ((1:Int)>((p0.length:Nat):Int))) 0 ((fY p0 p1 1).getD 0 0)))
def aq (p0:List Int) (p1:Bool):List Int :=
 (sel p1 ([]:List Int) (sel (decide ((1:Int)>((p0.length:Nat):Int))) ([]:List Int) (jL p0 p1 1)))
def ao (p0:List Int) (p1:Bool):Bool :=
 (sel p1 true (sel (decide ((1:Int)>((p0.length:Nat):Int))) true p1))
def Jc:List AV→List Blk→Option (Prop × Ret)
 |[.sc (.p 0 0)],[.cells [.ro .u8 p0,.b p1]]=>some (True,⟨.sc (.i .u8 (db p0 p1)),[some (.cells [.ro .u8 (aq p0 p1),.b (ao p0 p1)])]⟩)
 |_,_=>none
theorem vG:Known Tryz.prog gD 35 ⟨1,0,Jc⟩:=by
 refine Xw Tryz.f35 11 (Zc Fl 48 [.io,.val] [] [0] <|Zc Hq 144 [.io,.val] [] [0] <|Zc Gp 240 [.io,.val] [] [0] <|Zn) mixed <|fun E args ks C r h hC hlen=>?_
 simp only at h
 unfold Jc at h
 split at h
 rotate_left
 cases h
 rename_i p0 p1
 cases h
 simp only [am] at hlen
 refine ⟨rfl,?_⟩
 refine Xs [] [] 32 (v1 pT) <|Tri.seq <|Tri.split p1 (fun h1=>?_) (fun h1=>?_)
 exact Xt [(3,.sc (.nils))] [0] [Mc 0 [.ro .u8 ([]:List Int),.b true]] [0] 80 (v1 (pu (pa pT (pa (pl h1) pT)) (v1 pT))) <|Xs [Eb 7 false] [] 112 (v2 pT) <|Tri.cond_false (by kernel_rfl) <|Tri.skip <|Xs [Ek 2 .u8 0] [7,3] 128 (v1 pT) <|Xy [(0,0)] pz (by simp only [db,aq,ao,h1,aB,aA] <;> rfl)
 refine Tri.sub (Sub.up (U':=128) (by decide)) <|Tri.split (decide ((1:Int)>((p0.length:Nat):Int))) (fun h2=>?_) (fun h2=>?_)
 have h2':=of_decide_eq_true h2
 exact Xt [(3,.sc (.nils))] [0] [Mc 0 [.ro .u8 ([]:List Int),.b true]] [0] 176 (v1 (pu (pa pT (pa (pl h1) (pa (pl h2) pT))) (v1 pT))) <|Xs [Eb 7 false] [] 208 (v2 pT) <|Tri.cond_false (by kernel_rfl) <|Tri.skip <|Xs [Ek 2 .u8 0] [7,3] 224 (v1 pT) <|Xy [(0,0)] pz (by simp only [db,aq,ao,h1,h2,aB,aA] <;> rfl)
 have h2':=of_decide_eq_false h2
 refine Tri.sub (Sub.up (U':=224) (by decide)) <|Xt [Er 3 (fY p0 p1 1)] [0] [Mc 0 [.ro .u8 (jL p0 p1 1),.b p1]] [0] 272 (v1 (pu (pa pT (pa (pl h1) (pa (pl h2) (Y0 1)))) (v1 pT))) <|Xs [Eb 7 true] [] 304 (v1 (pu (pl (show 0<(fY p0 p1 1).length from by (have hq:=mj (p0:=p0) (p1:=p1) (p2:=1) (by assumption) (by decide);omega))) pT)) ?_
 refine Tri.cond_true (by kernel_rfl) <|Xs [Ek 2 .u8 ((fY p0 p1 1).getD 0 0)] [7,3] 368 (v1 (pu (pl (show (0:Int)≤0∧0<((fY p0 p1 1).length:Int) from by (have hq:=mj (p0:=p0) (p1:=p1) (p2:=1) (by assumption) (by decide);omega))) (pu (pl (show 0<(fY p0 p1 1).length from by (have hq:=mj (p0:=p0) (p1:=p1) (p2:=1) (by assumption) (by decide);omega))) (v1 pT)))) ?_
 exact Xy (r':=⟨.sc (.i .u8 ((fY p0 p1 1).getD 0 0)),[some (.cells [.ro .u8 (jL p0 p1 1),.b p1])]⟩) [(0,0)] pz (by simp only [db,aq,ao,h1,h2,aB,aA])
def Bu (p0:List Int) (p1:Bool):Bool :=
 (((db p0 p1):Int) != 0)
def kw (p0:List Int) (p1:Bool):List Int :=
 (aq p0 p1)
def kl (p0:List Int) (p1:Bool):Bool :=
 (ao p0 p1)
def Gx:List AV→List Blk→Option (Prop × Ret)
 |[.sc (.p 0 0)],[.cells [.ro .u8 p0,.b p1]]=>some (True,⟨.sc (.b (Bu p0 p1)),[some (.cells [.ro .u8 (kw p0 p1),.b (kl p0 p1)])]⟩)
 |_,_=>none
theorem Oi:Known Tryz.prog gD 60 ⟨1,0,Gx⟩:=by
 refine Xw Tryz.f60 6 (Zc vG 48 [.io] [] [0] <|Zn) mixed <|fun E args ks C r h hC hlen=>?_
 simp only at h
 unfold Gx at h
 split at h
 rotate_left
 cases h
 rename_i p0 p1
 cases h
 simp only [am] at hlen
 refine ⟨rfl,?_⟩
 exact Xs [] [] 32 (v1 pT) <|Xt [Eb 2 (((db p0 p1):Int) != 0)] [0] [Mc 0 [.ro .u8 (aq p0 p1),.b (ao p0 p1)]] [0] 96 (v1 (pu pz (v2 pT))) <|Xz [(0,0)] pz
def NW (p0:List Int) (p1:Bool):Bool :=
 (!p1)
def Px:List AV→List Blk→Option (Prop × Ret)
 |[.sc (.p 0 0)],[.cells [.ro .u8 p0,.b p1]]=>some (True,⟨.sc (.b (NW p0 p1)),[some (.cells [.ro .u8 p0,.b p1])]⟩)
 |_,_=>none
theorem Sb:Known Tryz.prog gD 84 ⟨1,0,Px⟩:=by
 refine Xw Tryz.f84 12 Zn mixed <|fun E args ks C r h hC hlen=>?_
 simp only at h
 unfold Px at h
 split at h
 rotate_left
 cases h
 rename_i p0 p1
 cases h
 simp only [am] at hlen
 refine ⟨rfl,?_⟩
 exact Xs [] [] 32 (v1 pT) <|Xs [Eb 2 (!p1)] [0] 192 (v6 (pu (Yl 1 2) (v3 pT))) <|Xz [(0,0)] pz
def gw (p0:List Int) (p1:Bool):Bool :=
 (sel (NW p0 p1) ((((p0.length:Nat):Int):Int)==0) false)
def Mu:List AV→List Blk→Option (Prop × Ret)
 |[.sc (.p 0 0)],[.cells [.ro .u8 p0,.b p1]]=>some (True,⟨.sc (.b (gw p0 p1)),[some (.cells [.ro .u8 p0,.b p1])]⟩)
 |_,_=>none
theorem tf:Known Tryz.prog gD 38 ⟨1,0,Mu⟩:=by
 refine Xw Tryz.f38 13 (Zc Sb 48 [.io] [] [0] <|Zn) mixed <|fun E args ks C r h hC hlen=>?_
 simp only at h
 unfold Mu at h
 split at h
 rotate_left
 cases h
 rename_i p0 p1
 cases h
 simp only [am] at hlen
 refine ⟨rfl,?_⟩
 refine Xs [] [] 32 (v1 pT) <|Tri.split (NW p0 p1) (fun h1=>?_) (fun h1=>?_)
 exact Xu [Eb 5 true] none [Eb 2 ((((p0.length:Nat):Int):Int)==0)] [0] [] [] 208 (v1 (pu pz (pg h1 (v3 (pu (Yl 0 2) (v4 pT)))))) <|Xy [(0,0)] pz (by simp only [gw,h1,aB,aA] <;> rfl)
 exact Xu [Eb 5 false] none [Eb 2 false] [0] [] [] 208 (v1 (pu pz (pg h1 (v8 pT)))) <|Xy [(0,0)] pz (by simp only [gw,h1,aB,aA] <;> rfl)
def lZ (p0:List Int) (p1:Bool) (k0:Nat) (z0:Int):Int :=
 (iOr .u32 (cv .u32 z0 8) (IntKind.wrap .u32 ((cz p0 p1 4).getD k0 0)))
def iX (p0:List Int) (p1:Bool):Int :=
 (itr (lZ p0 p1) ((cz p0 p1 4).length) 0)
def fX (p0:List Int) (p1:Bool):List Int :=
 (dV p0 p1 4)
def fW (p0:List Int) (p1:Bool):Bool :=
 (dX p0 p1 4)
def Ms:List AV→List Blk→Option (Prop × Ret)
 |[.sc (.p 0 0)],[.cells [.ro .u8 p0,.b p1]]=>some (True,⟨.sc (.i .u32 (iX p0 p1)),[some (.cells [.ro .u8 (fX p0 p1),.b (fW p0 p1)])]⟩)
 |_,_=>none
theorem NC:Known Tryz.prog gD 61 ⟨1,0,Ms⟩:=by
 refine Xw Tryz.f61 20 (Zc qV 64 [.io,.val] [] [0] <|Zn) mixed <|fun E args ks C r h hC hlen=>?_
 simp only at h
 unfold Ms at h
 split at h
 rotate_left
 cases h
 rename_i p0 p1
 cases h
 simp only [am] at hlen
 have hf0:(cz p0 p1 4).length≤4:=vP p0 p1 4
 refine ⟨rfl,?_⟩
 refine Xs [] [] 32 (v1 pT) <|Xs [Ek 3 .u32 0] [] 48 (v1 pT) <|Tri.seq <|Xt [Ei 9 0,Ej 8 ((cz p0 p1 4).length),Er 7 (cz p0 p1 4)] [0] [Mc 0 [.ro .u8 (dV p0 p1 4),.b (dX p0 p1 4)]] [0] 112 (v1 (pu (pa pT (Y0 4)) (v2 pT))) <|Tri.block <|Xc ((cz p0 p1 4).length) (lZ p0 p1) 0 (fun k0 z0=>True) (fun k0 z0=>[Ej 9 k0,Ek 3 .u32 z0]) (fun k0 z0=>[]) trivial <|fun k0 z0 hk0 hz0 hJ0=>Xs [Eb 10 (decide ((((k0:Nat):Int):Int)<(((cz p0 p1 4).length:Nat):Int)))] [] 128 (v1 pT) <|Tri.seq <|Xb (fun h1 h1'=>?_) (fun h1 h1'=>?_)
 exact Tri.skip <|Tri.seq <|Tri.block <|Xs [Ek 5 .u8 ((cz p0 p1 4).getD k0 0)] [10] 176 (pu (Yj k0 ((cz p0 p1 4).length)) (pu (Yl k0 ((cz p0 p1 4).length)) (v1 pT))) <|Ws [Ek 3 .u32 (iOr .u32 (cv .u32 z0 8) (IntKind.wrap .u32 ((cz p0 p1 4).getD k0 0)))] [5,3] 272 (v1 (pu (Y0 8) (v4 pT))) <|Wu [Ej 18 (k0+1)] none [Ej 9 (k0+1)] [9] [] [] 304 (pv pT (Yp k0 1) (v1 pT)) <|Xo [] trivial
 refine Tri.exit <|?_
 obtain rfl:k0=((cz p0 p1 4).length):=(by omega);subst hz0
 exact Xs [Ek 2 .u32 (itr (lZ p0 p1) ((cz p0 p1 4).length) 0)] [10,9,8,7,3] 160 (v2 pT) <|Xz [(0,0)] pz
theorem Af (p0:List Int) (p1:Bool):0≤iX p0 p1∧iX p0 p1<4294967296:=by
 have h0:∀ n,0≤itr (lZ p0 p1) n 0∧itr (lZ p0 p1) n 0<4294967296:=by
  intro n
  cases n with
  |zero=>rw [aX];decide
  |succ k=>rw [aQ];unfold lZ iOr;rw [mJ];omega
 exact h0 _
theorem Ji (p0:List Int) (p1:Bool):0≤IntKind.wrap .i64 (iX p0 p1):=by
 have:=Af p0 p1
 rw [bh (by omega) (by omega)]
 exact this.1
def aV (p0:List Int) (p1:Bool):ByteArray :=
 (sel (decide (((iX p0 p1):Int)>16384)) (⟨#[]⟩:ByteArray) (bytesOf (cz (fX p0 p1) (fW p0 p1) (IntKind.wrap .i64 (iX p0 p1)))))
def bJ (p0:List Int) (p1:Bool):List Int :=
 (sel (decide (((iX p0 p1):Int)>16384)) (dV (fX p0 p1) (fW p0 p1) 1073741824) (dV (fX p0 p1) (fW p0 p1) (IntKind.wrap .i64 (iX p0 p1))))
def bI (p0:List Int) (p1:Bool):Bool :=
 (sel (decide (((iX p0 p1):Int)>16384)) (dX (fX p0 p1) (fW p0 p1) 1073741824) (dX (fX p0 p1) (fW p0 p1) (IntKind.wrap .i64 (iX p0 p1))))
def Hu:List AV→List Blk→Option (Prop × Ret)
 |[.sc (.p 0 0)],[.cells [.ro .u8 p0,.b p1]]=>some (True,⟨.sc (.s (aV p0 p1)),[some (.cells [.ro .u8 (bJ p0 p1),.b (bI p0 p1)])]⟩)
 |_,_=>none
theorem ij:Known Tryz.prog gD 36 ⟨1,0,Hu⟩:=by
 refine Xw Tryz.f36 15 (Zc NC 48 [.io] [] [0] <|Zc qV 128 [.io,.val] [] [0] <|Zc qV 160 [.io,.val] [] [0] <|Zn) mixed <|fun E args ks C r h hC hlen=>?_
 simp only at h
 unfold Hu at h
 split at h
 rotate_left
 cases h
 rename_i p0 p1
 cases h
 simp only [am] at hlen
 refine ⟨rfl,?_⟩
 refine Xs [] [] 32 (v1 pT) <|Xt [Ek 3 .u32 (iX p0 p1)] [] [Mc 0 [.ro .u8 (fX p0 p1),.b (fW p0 p1)]] [0] 80 (v1 (pu pz (v1 pT))) <|Tri.seq <|Xs [Eb 7 (decide (((iX p0 p1):Int)>16384))] [] 112 (v2 pT) <|Xb (fun h1 h1'=>?_) (fun h1 h1'=>?_)
 exact Xt [] [7,3,0] [Mc 0 [.ro .u8 (dV (fX p0 p1) (fW p0 p1) 1073741824),.b (dX (fX p0 p1) (fW p0 p1) 1073741824)]] [0] 144 (v1 (pu (pa pT (Y0 1073741824)) pT)) <|Xs [Es 2 (⟨#[]⟩:ByteArray)] [] 160 (v1 pT) <|Xy [(0,0)] pz (by simp only [aV,bJ,bI,h1,aB,aA] <;> rfl)
 exact Tri.skip <|Xt [Es 2 (bytesOf (cz (fX p0 p1) (fW p0 p1) (IntKind.wrap .i64 (iX p0 p1))))] [7,3,0] [Mc 0 [.ro .u8 (dV (fX p0 p1) (fW p0 p1) (IntKind.wrap .i64 (iX p0 p1))),.b (dX (fX p0 p1) (fW p0 p1) (IntKind.wrap .i64 (iX p0 p1)))]] [0] 208 (v3 (pu (pa pT (pl (show (0:Int)≤(IntKind.wrap .i64 (iX p0 p1)) from Ji _ _))) (v2 pT))) <|Xy [(0,0)] pz (by simp only [aV,bJ,bI,h1,aB,aA] <;> rfl)
theorem fH (p0:List Int) (p1:Bool):(aV p0 p1).size≤16384:=by
 unfold aV
 cases h:(decide (((iX p0 p1):Int)>16384))
 ·have h0:=of_decide_eq_false h
  have h1:=Af p0 p1
  have h2:=vP (fX p0 p1) (fW p0 p1) (IntKind.wrap .i64 (iX p0 p1))
  rw [bh (by omega) (by omega)] at h2 ⊢
  rw [aA]
  have h3:∀ xs:List Int,(bytesOf xs).size=xs.length:=fun xs=>by simp [bytesOf,ByteArray.size]
  rw [h3]
  omega
 ·rw [aB];decide
theorem PJ (p2:Int):0≤sel (decide (p2<0)) 1073741824 p2:=by
 cases h:decide (p2<0)
 ·have:=of_decide_eq_false h
  rw [aA];omega
 ·rw [aB];decide
def zF (p0:List Int) (p1:Bool) (p2:Int):List Int :=
 (cz p0 p1 (sel (decide ((p2:Int)<0)) 1073741824 p2))
def ly (p0:List Int) (p1:Bool) (p2:Int):List Int :=
 (dV p0 p1 (sel (decide ((p2:Int)<0)) 1073741824 p2))
def lh (p0:List Int) (p1:Bool) (p2:Int):Bool :=
 (dX p0 p1 (sel (decide ((p2:Int)<0)) 1073741824 p2))
def EU:List AV→List Blk→Option (Prop × Ret)
 |[.sc (.p 0 0),.sc (.i .i64 p2)],[.cells [.ro .u8 p0,.b p1]]=>some (True,⟨.sc (.ro .u8 (zF p0 p1 p2)),[some (.cells [.ro .u8 (ly p0 p1 p2),.b (lh p0 p1 p2)])]⟩)
 |_,_=>none
theorem La:Known Tryz.prog gD 58 ⟨1,0,EU⟩:=by
 refine Xw Tryz.f58 10 (Zc qV 112 [.io,.val] [] [0] <|Zn) mixed <|fun E args ks C r h hC hlen=>?_
 simp only at h
 unfold EU at h
 split at h
 rotate_left
 cases h
 rename_i p2 p0 p1
 cases h
 simp only [am] at hlen
 refine ⟨rfl,?_⟩
 refine Xs [] [] 32 (v1 pT) <|Tri.seq <|Xs [Eb 6 (decide ((p2:Int)<0))] [] 64 (v2 pT) <|Xj (x:=(decide ((p2:Int)<0))) (fun bb=>[Ei 1 (sel bb 1073741824 p2)]) [6,1] (fun bb=>[]) [] 80 (fun h1=>?_) (fun h1=>?_) ?_
 have h1':=of_decide_eq_true h1
 exact Ws [Ei 1 1073741824] [6,1] 80 (v1 pT) <|Xe [Ei 1 1073741824] []
 have h1':=of_decide_eq_false h1
 exact Tri.skip <|Xe [Ei 1 p2] []
 exact Xt [Er 4 (cz p0 p1 (sel (decide ((p2:Int)<0)) 1073741824 p2))] [1,0] [Mc 0 [.ro .u8 (dV p0 p1 (sel (decide ((p2:Int)<0)) 1073741824 p2)),.b (dX p0 p1 (sel (decide ((p2:Int)<0)) 1073741824 p2))]] [0] 144 (v2 (pu (pa pT (pl (show (0:Int)≤(sel (decide ((p2:Int)<0)) 1073741824 p2) from PJ _))) (v1 pT))) <|Xz [(0,0)] pz
def Fv (k0:Nat) (z0:Unit):Unit :=
 ()
def fE (p0:List Int) (p1:Bool) (k0:Nat):Bool :=
 (sel (aR ((gE (aV p0 p1)).getD k0 (⟨#[]⟩:ByteArray)) (⟨#[]⟩:ByteArray)) true false)
def jz (p0:List Int) (p1:Bool):List ByteArray :=
 (sel (aR (aV p0 p1) (⟨#[]⟩:ByteArray)) [] (sel (Nat.blt (ar (fE p0 p1) (aa (aV p0 p1))) (aa (aV p0 p1))) [] (oZ (gE (aV p0 p1)) 0 (aa (aV p0 p1)))))
def dY (p0:List Int) (p1:Bool):List Int :=
 (sel (aR (aV p0 p1) (⟨#[]⟩:ByteArray)) (bJ p0 p1) (sel (Nat.blt (ar (fE p0 p1) (aa (aV p0 p1))) (aa (aV p0 p1))) (dV (bJ p0 p1) (bI p0 p1) 1073741824) (bJ p0 p1)))
def da (p0:List Int) (p1:Bool):Bool :=
 (sel (aR (aV p0 p1) (⟨#[]⟩:ByteArray)) (bI p0 p1) (sel (Nat.blt (ar (fE p0 p1) (aa (aV p0 p1))) (aa (aV p0 p1))) (dX (bJ p0 p1) (bI p0 p1) 1073741824) (bI p0 p1)))
def Dj:List AV→List Blk→Option (Prop × Ret)
 |[.sc (.p 0 0)],[.cells [.ro .u8 p0,.b p1]]=>some (True,⟨.sc (.ros (jz p0 p1)),[some (.cells [.ro .u8 (dY p0 p1),.b (da p0 p1)])]⟩)
 |_,_=>none
theorem xw:Known Tryz.prog gD 59 ⟨1,0,Dj⟩:=by
 refine Xw Tryz.f59 25 (Zc ij 48 [.io] [] [0] <|Zc qV 320 [.io,.val] [] [0] <|Zv Kg 128 2 <|Zn) mixed <|fun E args ks C r h hC hlen=>?_
 simp only at h
 unfold Dj at h
 split at h
 rotate_left
 cases h
 rename_i p0 p1
 cases h
 simp only [am] at hlen
 have hs:=fH p0 p1
 have hn:=FE (aV p0 p1)
 have hm:=sM (aV p0 p1)
 have hm1:=ts (aV p0 p1)
 refine ⟨rfl,?_⟩
 refine Xs [] [] 32 (v1 pT) <|Xt [Es 3 (aV p0 p1)] [] [Mc 0 [.ro .u8 (bJ p0 p1),.b (bI p0 p1)]] [0] 80 (v1 (pu pz (v1 pT))) <|Tri.seq <|Xs [Eb 10 (aR (aV p0 p1) (⟨#[]⟩:ByteArray))] [] 112 (v2 pT) <|Xa (fun h1=>?_) (fun h1=>?_)
 exact Xs [(2,.sc (.nils))] [10,3,0] 128 (v1 pT) <|Tri.sub (Sub.nilRos 2 (by kernel_rfl)) <|Xy [(0,0)] pz (by simp only [jz,dY,da,h1,aB,aA] <;> rfl)
 refine Tri.skip <|Xt [El 4 128 (aa (aV p0 p1))] [10,3] [(128,.vec .str (gE (aV p0 p1)))] [] 160 (v1 (pu (pa pT (pa (Yr (⟨#[44]⟩:ByteArray)) (Ye ((aV p0 p1).size) 1000000000))) (v1 pT))) <|Tri.seq <|Xs [Ei 15 0,Ej 14 (aa (aV p0 p1)),El 13 128 (aa (aV p0 p1))] [] 208 (v3 pT) <|Tri.block <|Xc (aa (aV p0 p1)) (Fv) (()) (fun k0 z0=>(∀ j,j<k0→(fE p0 p1) j=false)) (fun k0 z0=>[Ej 15 k0]) (fun k0 z0=>[]) (fun j hj=>absurd hj (Nat.not_lt_zero j)) <|fun k0 z0 hk0 hz0 hJ0=>Xs [Eb 16 (decide ((((k0:Nat):Int):Int)<(((aa (aV p0 p1)):Nat):Int)))] [] 224 (v1 pT) <|Tri.seq <|Xb (fun h2 h2'=>?_) (fun h2 h2'=>?_)
 refine Tri.skip <|Tri.seq <|Tri.block <|Xs [Es 6 ((gE (aV p0 p1)).getD k0 (⟨#[]⟩:ByteArray))] [16] 272 (pu (Yj k0 (aa (aV p0 p1))) (pu (Yl k0 ((gE (aV p0 p1)).length)) (v1 pT))) <|Xs [Eb 20 (aR ((gE (aV p0 p1)).getD k0 (⟨#[]⟩:ByteArray)) (⟨#[]⟩:ByteArray))] [6] 304 (v2 pT) <|Xa (fun h3=>?_) (fun h3=>?_)
 refine Xt [] [20,15,14,13,4,0] [Mc 0 [.ro .u8 (dV (bJ p0 p1) (bI p0 p1) 1073741824),.b (dX (bJ p0 p1) (bI p0 p1) 1073741824)]] [128,0] 336 (v1 (pu (pa pT (Y0 1073741824)) pT)) <|Xs [(2,.sc (.nils))] [] 352 (v1 pT) <|Tri.sub (Sub.nilRos 2 (by kernel_rfl)) <|?_
 subst hz0
 have hf0:ar (fE p0 p1) (aa (aV p0 p1))=k0:=eA (by omega) hJ0 (by simp only [fE,h1,h2,h3,aB,aA])
 have hb0:Nat.blt k0 (aa (aV p0 p1))=true:=eP (by omega)
 have hq0:Nat.blt (ar (fE p0 p1) (aa (aV p0 p1))) (aa (aV p0 p1))=true:=by rw [hf0];exact hb0
 exact Xy [(0,0)] pz (by simp only [jz,dY,da,h1,hq0,hf0,hb0,aB,aA] <;> rfl)
 exact Tri.skip <|Wu [Ej 23 (k0+1)] none [Ej 15 (k0+1)] [20,15] [] [] 336 (pv pT (Yp k0 1) (v1 pT)) <|Xo [] (fq hJ0 (by subst hz0;simp only [fE,h1,h2,h3,aB,aA]))
 refine Tri.exit <|?_
 obtain rfl:k0=(aa (aV p0 p1)):=(by omega);subst hz0
 have hf0:ar (fE p0 p1) (aa (aV p0 p1))=(aa (aV p0 p1)):=fG hJ0
 have hb0:Nat.blt (aa (aV p0 p1)) (aa (aV p0 p1))=false:=fg _
 have hq0:Nat.blt (ar (fE p0 p1) (aa (aV p0 p1))) (aa (aV p0 p1))=false:=by rw [hf0];exact hb0
 refine Xs [El 2 128 (aa (aV p0 p1))] [16,15,14,13,4,0] 256 (v2 pT) <|Tri.sub (Xf 128 (.vec .str (gE (aV p0 p1))) (show 0+(aa (aV p0 p1))≤(gE (aV p0 p1)).length from by first|omega|(rw [co];omega)|exact cU _ _|exact cV _ _|exact aL (by omega) (by first|omega|(simp only [List.length_append];omega))|decide)) ?_
 exact Xy [(0,0)] pz (by simp only [jz,dY,da,h1,hq0,hf0,hb0,aB,aA] <;> rfl)
end Go.Vm
namespace Go.Vm
open Go Go.Proofs
def be (p0:List Int) (p1:Int) (p2:Bool) (p3:Int):List Int :=
 (sel p2 ([]:List Int) (sel (decide ((p3:Int)<0)) ([]:List Int) (sel (decide ((p3:Int)>(aZ .i64 ((p0.length:Nat):Int) p1))) ([]:List Int) ((p0.drop (((aZ .i64 (aE .i64 p1 p3) p3)).toNat)).take ((((aE .i64 p1 p3)).toNat)-(((aZ .i64 (aE .i64 p1 p3) p3)).toNat))))))
def cF (p0:List Int) (p1:Int) (p2:Bool) (p3:Int):Int :=
 (sel p2 p1 (sel (decide ((p3:Int)<0)) p1 (sel (decide ((p3:Int)>(aZ .i64 ((p0.length:Nat):Int) p1))) p1 (aE .i64 p1 p3))))
def bn (p0:List Int) (p1:Int) (p2:Bool) (p3:Int):Bool :=
 (sel p2 true (sel (decide ((p3:Int)<0)) true (sel (decide ((p3:Int)>(aZ .i64 ((p0.length:Nat):Int) p1))) true p2)))
def Dx:List AV→List Blk→Option (Prop × Ret)
 |[.sc (.p 0 0),.sc (.i .i64 p3)],[.cells [.ro .u8 p0,.i .i64 p1,.b p2]]=>some ((p0.length≤1000000000∧(0:Int)≤p1∧p1≤(p0.length:Int)),⟨.sc (.ro .u8 (be p0 p1 p2 p3)),[some (.cells [.ro .u8 p0,.i .i64 (cF p0 p1 p2 p3),.b (bn p0 p1 p2 p3)])]⟩)
 |_,_=>none
theorem yh:Known Tryz.prog gD 55 ⟨1,0,Dx⟩:=by
 refine Xw Tryz.f55 53 Zn mixed <|fun E args ks C r h hC hlen=>?_
 simp only at h
 unfold Dx at h
 split at h
 rotate_left
 cases h
 rename_i p3 p0 p1 p2
 cases h
 simp only [am] at hlen
 refine ⟨rfl,?_⟩
 refine Xs [] [] 32 (v1 pT) <|Tri.seq <|Tri.split p2 (fun h1=>?_) (fun h1=>?_)
 exact Xu [Eb 9 true] (some [0,1,3,7,15,31,63,127,255,511,511,1535,3583,7679,15871,511,33279,98815,229887,523775,1048575,2097151]) [Eb 26 true] [] [] [] 384 (v3 (pu (Yl 2 3) (pg h1 (v8 (v9 pT))))) <|Tri.cond_true (by kernel_rfl) <|Xt [] [26,0,1] [Mc 0 [.ro .u8 p0,.i .i64 p1,.b true]] [0] 448 (v3 (pu (Ys 2 3) pT)) <|Xs [(4,.sc (.nils))] [] 464 (v1 pT) <|Tri.sub (Sub.nilRo 4 .u8 (by kernel_rfl)) <|Xy [(0,0)] pz (by simp only [be,cF,bn,h1,aB,aA] <;> rfl)
 refine Tri.split (decide ((p3:Int)<0)) (fun h2=>?_) (fun h2=>?_)
 have h2':=of_decide_eq_true h2
 exact Xu [Eb 9 false,Eb 13 true] (some [0,1,3,7,15,31,63,127,255,511,511,1535,3583,7679,15871,511,33279,98815,229887,523775,1048575,2097151]) [Eb 26 true] [] [] [] 384 (v3 (pu (Yl 2 3) (pg h1 (v3 (pg h2 (v4 (v9 pT))))))) <|Tri.cond_true (by kernel_rfl) <|Xt [] [26,0,1] [Mc 0 [.ro .u8 p0,.i .i64 p1,.b true]] [0] 448 (v3 (pu (Ys 2 3) pT)) <|Xs [(4,.sc (.nils))] [] 464 (v1 pT) <|Tri.sub (Sub.nilRo 4 .u8 (by kernel_rfl)) <|Xy [(0,0)] pz (by simp only [be,cF,bn,h1,h2,aB,aA] <;> rfl)
 have h2':=of_decide_eq_false h2
 refine Xu [Eb 9 false,Eb 13 false] (some [0,1,3,7,15,31,63,127,255,511,511,1535,3583,7679,15871,511,33279,98815,229887,523775,1048575,2097151]) [Eb 26 (decide ((p3:Int)>(aZ .i64 ((p0.length:Nat):Int) p1)))] [] [] [] 384 (v3 (pu (Yl 2 3) (pg h1 (v3 (pg h2 (v4 (pu (Yl 0 3) (v4 (pu (Yl 1 3) (v3 pT)))))))))) <|Xb (fun h3 h3'=>?_) (fun h3 h3'=>?_)
 exact Xt [] [26,0,1] [Mc 0 [.ro .u8 p0,.i .i64 p1,.b true]] [0] 448 (v3 (pu (Ys 2 3) pT)) <|Xs [(4,.sc (.nils))] [] 464 (v1 pT) <|Tri.sub (Sub.nilRo 4 .u8 (by kernel_rfl)) <|Xy [(0,0)] pz (by simp only [be,cF,bn,h1,h2,h3,aB,aA] <;> rfl)
 refine Tri.skip <|Xt [] [26] [Mc 0 [.ro .u8 p0,.i .i64 (aE .i64 p1 p3),.b p2]] [0] 528 (v3 (pu (Yl 1 3) (v4 (pu (Ys 1 3) pT)))) <|Xu [] (some [0,1,3,7,0,16,48,112,0,496,0,1024,3072,7168,16383,32767]) [Er 4 ((p0.drop (((aZ .i64 (aE .i64 p1 p3) p3)).toNat)).take ((((aE .i64 p1 p3)).toNat)-(((aZ .i64 (aE .i64 p1 p3) p3)).toNat)))] [0,1] [] [] 784 (v3 (pu (Yl 0 3) (v3 (pu (Yl 1 3) (v5 (pu (Yl 1 3) (pu (pl (show (0:Int)≤(aZ .i64 (aE .i64 p1 p3) p3)∧((aZ .i64 (aE .i64 p1 p3) p3):Int)≤(aE .i64 p1 p3)∧(aE .i64 p1 p3)≤(p0.length:Int) from by (have a1:aZ .i64 ((p0.length:Nat):Int) p1=(p0.length:Int)-p1:=fI (by omega) (by omega);have a2:aE .i64 p1 p3=p1+p3:=cK (by omega) (by omega);have a3:aZ .i64 (aE .i64 p1 p3) p3=aE .i64 p1 p3-p3:=fI (by omega) (by omega);omega))) (v1 pT)))))))) ?_
 exact Xy (r':=⟨.sc (.ro .u8 ((p0.drop (((aZ .i64 (aE .i64 p1 p3) p3)).toNat)).take ((((aE .i64 p1 p3)).toNat)-(((aZ .i64 (aE .i64 p1 p3) p3)).toNat)))),[some (.cells [.ro .u8 p0,.i .i64 (aE .i64 p1 p3),.b p2])]⟩) [(0,0)] pz (by simp only [be,cF,bn,h1,h2,h3,aB,aA])
theorem qI {p0:List Int} {p1:Int} (p2:Bool) (n:Int) (h:p0.length≤1000000000∧(0:Int)≤p1∧p1≤(p0.length:Int)) :
  (p2=false∧0≤n∧p1+n≤(p0.length:Int)∧be p0 p1 p2 n=(p0.drop p1.toNat).take n.toNat∧cF p0 p1 p2 n=p1+n∧bn p0 p1 p2 n=false) ∨
  (¬ (p2=false∧0≤n∧p1+n≤(p0.length:Int))∧be p0 p1 p2 n=[]∧cF p0 p1 p2 n=p1∧bn p0 p1 p2 n=true):=by
 obtain ⟨h1,h2,h3⟩:=h
 unfold be cF bn
 cases p2
 ·simp only [aA]
  cases h4:decide (n<0)
  ·have h4':=of_decide_eq_false h4
   simp only [aA]
   have a1:aZ .i64 ((p0.length:Nat):Int) p1=(p0.length:Int)-p1:=fI (by omega) (by omega)
   rw [a1]
   cases h5:decide (n>(p0.length:Int)-p1)
   ·have h5':=of_decide_eq_false h5
    simp only [aA]
    have a2:aE .i64 p1 n=p1+n:=cK (by omega) (by omega)
    have a3:aZ .i64 (p1+n) n=p1:=by rw [fI (by omega) (by omega)];omega
    rw [a2,a3]
    have a4:(p1+n).toNat-p1.toNat=n.toNat:=by omega
    rw [a4]
    first|exact .inl ⟨rfl,by omega,by omega,rfl,rfl,rfl⟩|exact .inl ⟨trivial,by omega,by omega,rfl,rfl,trivial⟩|exact .inl ⟨trivial,by omega,by omega,trivial,trivial,trivial⟩
   ·have h5':=of_decide_eq_true h5
    simp only [aB]
    exact .inr ⟨fun ⟨_,_,h⟩=>by omega,trivial,trivial,trivial⟩
  ·have h4':=of_decide_eq_true h4
   simp only [aB]
   exact .inr ⟨fun ⟨_,h,_⟩=>by omega,trivial,trivial,trivial⟩
 ·simp only [aB]
  exact .inr ⟨fun ⟨h,_⟩=>(by cases h),trivial,trivial,trivial⟩
theorem qd {p0:List Int} {p1:Int} (p2:Bool) (n:Int) (h:p0.length≤1000000000∧(0:Int)≤p1∧p1≤(p0.length:Int)):0≤cF p0 p1 p2 n∧cF p0 p1 p2 n≤(p0.length:Int):=by
 rcases qI p2 n h with ⟨_,_,_,_,h1,_⟩|⟨_,_,h1,_⟩ <;> rw [h1] <;> omega
theorem gS {p0:List Int} {p1:Int} {p2:Bool} {n:Int} (h:p0.length≤1000000000∧(0:Int)≤p1∧p1≤(p0.length:Int)) (hb:bn p0 p1 p2 n=false):((be p0 p1 p2 n).length:Int)=n:=by
 rcases qI p2 n h with ⟨_,_,_,h1,_⟩|⟨_,_,_,h1⟩
 ·rw [h1,List.length_take,List.length_drop];omega
 ·rw [h1] at hb;cases hb
def dH (p0:List Int) (p1:Int) (p2:Bool):Int :=
 (sel (bn p0 p1 p2 1) 0 (IntKind.wrap .i64 ((be p0 p1 p2 1).getD 0 0)))
def aK (p0:List Int) (p1:Int) (p2:Bool):Int :=
 (cF p0 p1 p2 1)
def aO (p0:List Int) (p1:Int) (p2:Bool):Bool :=
 (bn p0 p1 p2 1)
def Cf:List AV→List Blk→Option (Prop × Ret)
 |[.sc (.p 0 0)],[.cells [.ro .u8 p0,.i .i64 p1,.b p2]]=>some ((p0.length≤1000000000∧(0:Int)≤p1∧p1≤(p0.length:Int)),⟨.sc (.i .i64 (dH p0 p1 p2)),[some (.cells [.ro .u8 p0,.i .i64 (aK p0 p1 p2),.b (aO p0 p1 p2)])]⟩)
 |_,_=>none
theorem yS:Known Tryz.prog gD 13 ⟨1,0,Cf⟩:=by
 refine Xw Tryz.f13 14 (Zc yh 48 [.io,.val] [] [0] <|Zn) mixed <|fun E args ks C r h hC hlen=>?_
 simp only at h
 unfold Cf at h
 split at h
 rotate_left
 cases h
 rename_i p0 p1 p2
 cases h
 simp only [am] at hlen
 refine ⟨rfl,?_⟩
 refine Xs [] [] 32 (v1 pT) <|Xt [Er 3 (be p0 p1 p2 1)] [] [Mc 0 [.ro .u8 p0,.i .i64 (cF p0 p1 p2 1),.b (bn p0 p1 p2 1)]] [0] 80 (v1 (pu (pa pT (lo (p0.length≤1000000000∧(0:Int)≤p1∧p1≤(p0.length:Int)))) (v1 pT))) <|Tri.seq <|Xs [Eb 9 (bn p0 p1 p2 1)] [0] 144 (v3 (pu (Yl 2 3) pT)) <|Xa (fun h1=>?_) (fun h1=>?_)
 exact Xs [Ei 2 0] [9,3] 160 (v1 pT) <|Xy (r':=⟨.sc (.i .i64 0),[some (.cells [.ro .u8 p0,.i .i64 (cF p0 p1 p2 1),.b (bn p0 p1 p2 1)])]⟩) [(0,0)] pz (by simp only [dH,aK,aO,h1,aB,aA])
 refine Tri.skip <|Xs [Ei 2 (IntKind.wrap .i64 ((be p0 p1 p2 1).getD 0 0))] [9,3] 224 (v1 (pu (pl (show (0:Int)≤0∧0<((be p0 p1 p2 1).length:Int) from by (have hq:=gS hC (n:=1) (by assumption);omega))) (pu (pl (show 0<(be p0 p1 p2 1).length from by (have hq:=gS hC (n:=1) (by assumption);omega))) (v2 pT)))) ?_
 exact Xy (r':=⟨.sc (.i .i64 (IntKind.wrap .i64 ((be p0 p1 p2 1).getD 0 0))),[some (.cells [.ro .u8 p0,.i .i64 (cF p0 p1 p2 1),.b (bn p0 p1 p2 1)])]⟩) [(0,0)] pz (by simp only [dH,aK,aO,h1,aB,aA])
theorem uG {p0:List Int} {p1:Int} (p2:Bool) (h:p0.length≤1000000000∧(0:Int)≤p1∧p1≤(p0.length:Int)):0≤aK p0 p1 p2∧aK p0 p1 p2≤(p0.length:Int):=qd p2 1 h
def ee (p0:List Int) (p1:Int) (p2:Bool):Int :=
 (sel (bn p0 p1 p2 4) 0 (aE .i64 (aE .i64 (aE .i64 (bE .i64 (IntKind.wrap .i64 ((be p0 p1 p2 4).getD 0 0)) 16777216) (bE .i64 (IntKind.wrap .i64 ((be p0 p1 p2 4).getD 1 0)) 65536)) (bE .i64 (IntKind.wrap .i64 ((be p0 p1 p2 4).getD 2 0)) 256)) (IntKind.wrap .i64 ((be p0 p1 p2 4).getD 3 0))))
def dB (p0:List Int) (p1:Int) (p2:Bool):Int :=
 (cF p0 p1 p2 4)
def eQ (p0:List Int) (p1:Int) (p2:Bool):Bool :=
 (bn p0 p1 p2 4)
def Im:List AV→List Blk→Option (Prop × Ret)
 |[.sc (.p 0 0)],[.cells [.ro .u8 p0,.i .i64 p1,.b p2]]=>some ((p0.length≤1000000000∧(0:Int)≤p1∧p1≤(p0.length:Int)),⟨.sc (.i .i64 (ee p0 p1 p2)),[some (.cells [.ro .u8 p0,.i .i64 (dB p0 p1 p2),.b (eQ p0 p1 p2)])]⟩)
 |_,_=>none
theorem NK:Known Tryz.prog gD 56 ⟨1,0,Im⟩:=by
 refine Xw Tryz.f56 32 (Zc yh 48 [.io,.val] [] [0] <|Zn) mixed <|fun E args ks C r h hC hlen=>?_
 simp only at h
 unfold Im at h
 split at h
 rotate_left
 cases h
 rename_i p0 p1 p2
 cases h
 simp only [am] at hlen
 refine ⟨rfl,?_⟩
 refine Xs [] [] 32 (v1 pT) <|Xt [Er 3 (be p0 p1 p2 4)] [] [Mc 0 [.ro .u8 p0,.i .i64 (cF p0 p1 p2 4),.b (bn p0 p1 p2 4)]] [0] 80 (v1 (pu (pa pT (lo (p0.length≤1000000000∧(0:Int)≤p1∧p1≤(p0.length:Int)))) (v1 pT))) <|Tri.seq <|Xs [Eb 9 (bn p0 p1 p2 4)] [0] 144 (v3 (pu (Yl 2 3) pT)) <|Xa (fun h1=>?_) (fun h1=>?_)
 exact Xs [Ei 2 0] [9,3] 160 (v1 pT) <|Xy (r':=⟨.sc (.i .i64 0),[some (.cells [.ro .u8 p0,.i .i64 (cF p0 p1 p2 4),.b (bn p0 p1 p2 4)])]⟩) [(0,0)] pz (by simp only [ee,dB,eQ,h1,aB,aA])
 refine Tri.skip <|Xu [] (some [0,1,3,7,15,0,32,96,224,480,1023,0,2048,6144,14336,30720,65535,0,131072,393216,917504,2097151,4194303]) [Ei 2 (aE .i64 (aE .i64 (aE .i64 (bE .i64 (IntKind.wrap .i64 ((be p0 p1 p2 4).getD 0 0)) 16777216) (bE .i64 (IntKind.wrap .i64 ((be p0 p1 p2 4).getD 1 0)) 65536)) (bE .i64 (IntKind.wrap .i64 ((be p0 p1 p2 4).getD 2 0)) 256)) (IntKind.wrap .i64 ((be p0 p1 p2 4).getD 3 0)))] [9,3] [] [] 512 (v1 (pu (pl (show (0:Int)≤0∧0<((be p0 p1 p2 4).length:Int) from by (have hq:=gS hC (n:=4) (by assumption);omega))) (pu (pl (show 0<(be p0 p1 p2 4).length from by (have hq:=gS hC (n:=4) (by assumption);omega))) (v3 (pu (pl (show (0:Int)≤1∧1<((be p0 p1 p2 4).length:Int) from by (have hq:=gS hC (n:=4) (by assumption);omega))) (pu (pl (show 1<(be p0 p1 p2 4).length from by (have hq:=gS hC (n:=4) (by assumption);omega))) (v4 (pu (pl (show (0:Int)≤2∧2<((be p0 p1 p2 4).length:Int) from by (have hq:=gS hC (n:=4) (by assumption);omega))) (pu (pl (show 2<(be p0 p1 p2 4).length from by (have hq:=gS hC (n:=4) (by assumption);omega))) (v4 (pu (pl (show (0:Int)≤3∧3<((be p0 p1 p2 4).length:Int) from by (have hq:=gS hC (n:=4) (by assumption);omega))) (pu (pl (show 3<(be p0 p1 p2 4).length from by (have hq:=gS hC (n:=4) (by assumption);omega))) (v3 pT))))))))))))) ?_
 exact Xy (r':=⟨.sc (.i .i64 (aE .i64 (aE .i64 (aE .i64 (bE .i64 (IntKind.wrap .i64 ((be p0 p1 p2 4).getD 0 0)) 16777216) (bE .i64 (IntKind.wrap .i64 ((be p0 p1 p2 4).getD 1 0)) 65536)) (bE .i64 (IntKind.wrap .i64 ((be p0 p1 p2 4).getD 2 0)) 256)) (IntKind.wrap .i64 ((be p0 p1 p2 4).getD 3 0)))),[some (.cells [.ro .u8 p0,.i .i64 (cF p0 p1 p2 4),.b (bn p0 p1 p2 4)])]⟩) [(0,0)] pz (by simp only [ee,dB,eQ,h1,aB,aA])
theorem qZ {p0:List Int} {p1:Int} (p2:Bool) (h:p0.length≤1000000000∧(0:Int)≤p1∧p1≤(p0.length:Int)):0≤dB p0 p1 p2∧dB p0 p1 p2≤(p0.length:Int):=qd p2 4 h
def cB (p0:List Int) (p1:Int) (p2:Bool):ByteArray :=
 (bytesOf (be p0 (dB p0 p1 p2) (sel (decide (((ee p0 p1 p2):Int)>16384)) true (eQ p0 p1 p2)) (ee p0 p1 p2)))
def af (p0:List Int) (p1:Int) (p2:Bool):Int :=
 (cF p0 (dB p0 p1 p2) (sel (decide (((ee p0 p1 p2):Int)>16384)) true (eQ p0 p1 p2)) (ee p0 p1 p2))
def bU (p0:List Int) (p1:Int) (p2:Bool):Bool :=
 (bn p0 (dB p0 p1 p2) (sel (decide (((ee p0 p1 p2):Int)>16384)) true (eQ p0 p1 p2)) (ee p0 p1 p2))
def DX:List AV→List Blk→Option (Prop × Ret)
 |[.sc (.p 0 0)],[.cells [.ro .u8 p0,.i .i64 p1,.b p2]]=>some ((p0.length≤1000000000∧(0:Int)≤p1∧p1≤(p0.length:Int)),⟨.sc (.s (cB p0 p1 p2)),[some (.cells [.ro .u8 p0,.i .i64 (af p0 p1 p2),.b (bU p0 p1 p2)])]⟩)
 |_,_=>none
theorem ma:Known Tryz.prog gD 14 ⟨1,0,DX⟩:=by
 refine Xw Tryz.f14 15 (Zc yh 208 [.io,.val] [] [0] <|Zc NK 48 [.io] [] [0] <|Zn) mixed <|fun E args ks C r h hC hlen=>?_
 simp only at h
 unfold DX at h
 split at h
 rotate_left
 cases h
 rename_i p0 p1 p2
 cases h
 simp only [am] at hlen
 refine ⟨rfl,?_⟩
 refine Xs [] [] 32 (v1 pT) <|Xt [Ei 3 (ee p0 p1 p2)] [] [Mc 0 [.ro .u8 p0,.i .i64 (dB p0 p1 p2),.b (eQ p0 p1 p2)]] [0] 80 (v1 (pu (pa pT (lo (p0.length≤1000000000∧(0:Int)≤p1∧p1≤(p0.length:Int)))) (v1 pT))) <|Tri.seq <|Xs [Eb 7 (decide (((ee p0 p1 p2):Int)>16384))] [] 112 (v2 pT) <|Xj (x:=(decide (((ee p0 p1 p2):Int)>16384))) (fun bb=>[]) [7] (fun bb=>[Mc 0 [.ro .u8 p0,.i .i64 (dB p0 p1 p2),.b (sel bb true (eQ p0 p1 p2))]]) [0] 176 (fun h1=>?_) (fun h1=>?_) ?_
 have h1':=of_decide_eq_true h1
 exact Wt [] [7] [Mc 0 [.ro .u8 p0,.i .i64 (dB p0 p1 p2),.b true]] [0] 176 (v3 (pu (Ys 2 3) pT)) <|Xe [] [Mc 0 [.ro .u8 p0,.i .i64 (dB p0 p1 p2),.b true]]
 have h1':=of_decide_eq_false h1
 exact Tri.skip <|Xe [] [Mc 0 [.ro .u8 p0,.i .i64 (dB p0 p1 p2),.b (eQ p0 p1 p2)]]
 refine Xt [Es 2 (bytesOf (be p0 (dB p0 p1 p2) (sel (decide (((ee p0 p1 p2):Int)>16384)) true (eQ p0 p1 p2)) (ee p0 p1 p2)))] [3,0] [Mc 0 [.ro .u8 p0,.i .i64 (cF p0 (dB p0 p1 p2) (sel (decide (((ee p0 p1 p2):Int)>16384)) true (eQ p0 p1 p2)) (ee p0 p1 p2)),.b (bn p0 (dB p0 p1 p2) (sel (decide (((ee p0 p1 p2):Int)>16384)) true (eQ p0 p1 p2)) (ee p0 p1 p2))]] [0] 256 (v2 (pu (pa pT (pl (show p0.length≤1000000000∧(0:Int)≤(dB p0 p1 p2)∧(dB p0 p1 p2)≤(p0.length:Int) from by (have hq:=qZ p2 hC;exact ⟨hC.1,hq.1,hq.2⟩)))) (v2 pT))) ?_
 exact Xz [(0,0)] pz
theorem ke {p0:List Int} {p1:Int} (p2:Bool) (h:p0.length≤1000000000∧(0:Int)≤p1∧p1≤(p0.length:Int)):0≤af p0 p1 p2∧af p0 p1 p2≤(p0.length:Int):=by
 have hc:=qZ p2 h
 exact qd _ _ ⟨h.1,hc.1,hc.2⟩
theorem mi {p0:List Int} {p1:Int} (p2:Bool) (h:p0.length≤1000000000∧(0:Int)≤p1∧p1≤(p0.length:Int)):(cB p0 p1 p2).size≤16384:=by
 have hc:=qZ p2 h
 unfold cB
 rw [ae]
 rcases qI (sel (decide (((ee p0 p1 p2):Int)>16384)) true (eQ p0 p1 p2)) (ee p0 p1 p2) ⟨h.1,hc.1,hc.2⟩ with ⟨hb,_,_,h1,_⟩|⟨_,h1,_⟩
 ·rw [h1,List.length_take]
  cases hd:decide (ee p0 p1 p2>16384)
  ·have:=of_decide_eq_false hd
   omega
  ·rw [hd,aB] at hb;cases hb
 ·rw [h1];exact Nat.zero_le _
def lH (p0:List Int) (p1:Int) (p2:Bool):Bool :=
 (sel (!p2) ((p1:Int)==((p0.length:Nat):Int)) false)
def Gj:List AV→List Blk→Option (Prop × Ret)
 |[.sc (.p 0 0)],[.cells [.ro .u8 p0,.i .i64 p1,.b p2]]=>some (True,⟨.sc (.b (lH p0 p1 p2)),[some (.cells [.ro .u8 p0,.i .i64 p1,.b p2])]⟩)
 |_,_=>none
theorem yy:Known Tryz.prog gD 15 ⟨1,0,Gj⟩:=by
 refine Xw Tryz.f15 20 Zn mixed <|fun E args ks C r h hC hlen=>?_
 simp only at h
 unfold Gj at h
 split at h
 rotate_left
 cases h
 rename_i p0 p1 p2
 cases h
 simp only [am] at hlen
 refine ⟨rfl,?_⟩
 refine Xs [] [] 32 (v1 pT) <|Tri.split (!p2) (fun h1=>?_) (fun h1=>?_)
 exact Xu [Eb 8 true] (some [0,1,3,7,15,31,63,127,255,511,63,1087,3135,7231,15423,32767,65535,131071]) [Eb 2 ((p1:Int)==((p0.length:Nat):Int))] [0] [] [] 320 (v3 (pu (Yl 2 3) (v1 (pg h1 (v3 (pu (Yl 1 3) (v3 (pu (Yl 0 3) (v4 pT))))))))) <|Xy (r':=⟨.sc (.b ((p1:Int)==((p0.length:Nat):Int))),[some (.cells [.ro .u8 p0,.i .i64 p1,.b p2])]⟩) [(0,0)] pz (by simp only [lH,h1,aB,aA])
 exact Xu [Eb 8 false] (some [0,1,3,7,15,31,63,127,255,511,63,1087,3135,7231,15423,32767,65535,131071]) [Eb 2 false] [0] [] [] 320 (v3 (pu (Yl 2 3) (v1 (pg h1 (v3 (v9 pT)))))) <|Xy (r':=⟨.sc (.b false),[some (.cells [.ro .u8 p0,.i .i64 p1,.b p2])]⟩) [(0,0)] pz (by simp only [lH,h1,aB,aA])
def ug (p0:Int):List Int :=
 [(IntKind.wrap .u8 (ic .i64 p0 16777216)),(IntKind.wrap .u8 (ic .i64 p0 65536)),(IntKind.wrap .u8 (ic .i64 p0 256)),(IntKind.wrap .u8 p0)]
def Ii:List AV→List Blk→Option (Prop × Ret)
 |[.sc (.i .i64 p0)],[]=>some (True,⟨.sc (.sl 0 0 4 1 none),[some (.ints .u8 4 (ug p0))]⟩)
 |_,_=>none
theorem Ny:Known Tryz.prog gD 57 ⟨0,1,Ii⟩:=by
 refine Xw Tryz.f57 15 Zn mixed <|fun E args ks C r h hC hlen=>?_
 simp only at h
 unfold Ii at h
 split at h
 rotate_left
 cases h
 rename_i p0
 cases h
 simp only [am] at hlen
 refine ⟨rfl,?_⟩
 exact Xs [] [] 32 (v1 pT) <|Xt [El 2 208 4] [0] [Mi 208 4 [(IntKind.wrap .u8 (ic .i64 p0 16777216)),(IntKind.wrap .u8 (ic .i64 p0 65536)),(IntKind.wrap .u8 (ic .i64 p0 256)),(IntKind.wrap .u8 p0)]] [] 240 (v1 (pu (Yn 16777216) (v2 (pu (Yn 65536) (v2 (pu (Yn 256) (v3 (pu (Yf 4) (v1 pT))))))))) <|Xz [(208,0)] pz
def bG (p0:ByteArray):List Int :=
 (ug ((p0.size:Nat):Int))++(aD p0)
def Ct:List AV→List Blk→Option (Prop × Ret)
 |[.sc (.s p0)],[]=>some ((p0.size≤1000000000),⟨.sc (.sl 0 0 (4+p0.size) 1 none),[some (.ints .u8 (4+p0.size) (bG p0))]⟩)
 |_,_=>none
theorem kA:Known Tryz.prog gD 18 ⟨0,1,Ct⟩:=by
 refine Xw Tryz.f18 8 (Zv Ny 64 1 <|Zn) mixed <|fun E args ks C r h hC hlen=>?_
 simp only at h
 unfold Ct at h
 split at h
 rotate_left
 cases h
 rename_i p0
 cases h
 simp only [am] at hlen
 refine ⟨rfl,?_⟩
 exact Xs [] [] 32 (v1 pT) <|Xt [El 2 96 (4+p0.size)] [0] [Mi 96 (4+p0.size) ((ug ((p0.size:Nat):Int))++(aD p0))] [] 128 (v2 (pu pz (v1 (pu (Ya pT 1 (4+p0.size) p0.size p0.size 4 4) (v1 pT))))) <|Xz [(96,0)] pz
theorem fN (s:ByteArray):(bG s).length=4+s.size:=by
 unfold bG
 rw [List.length_append,aU]
 rfl
def Gb (k0:Nat) (z0:Unit):Unit :=
 ()
def bq (p0:List Int) (k0:Nat):Bool :=
 (sel ((p0.getD k0 0:Int)==0) false true)
def jr (p0:List Int):List Int :=
 (sel (Nat.blt (ar (bq p0) p0.length) p0.length) (sel (!(aR (bytesOf ((p0.drop (ar (bq p0) p0.length)).take (p0.length-(ar (bq p0) p0.length)))) (⟨#[]⟩:ByteArray))) (bG (sel (decide (((eN (bytesOf ((p0.drop (ar (bq p0) p0.length)).take (p0.length-(ar (bq p0) p0.length)))) 0):Int) ≥ 128)) ((⟨#[0]⟩:ByteArray)++(bytesOf ((p0.drop (ar (bq p0) p0.length)).take (p0.length-(ar (bq p0) p0.length))))) (bytesOf ((p0.drop (ar (bq p0) p0.length)).take (p0.length-(ar (bq p0) p0.length)))))) (bG (bytesOf ((p0.drop (ar (bq p0) p0.length)).take (p0.length-(ar (bq p0) p0.length)))))) (sel (!(aR (bytesOf ((p0.drop p0.length).take (p0.length-p0.length))) (⟨#[]⟩:ByteArray))) (bG (sel (decide (((eN (bytesOf ((p0.drop p0.length).take (p0.length-p0.length))) 0):Int) ≥ 128)) ((⟨#[0]⟩:ByteArray)++(bytesOf ((p0.drop p0.length).take (p0.length-p0.length)))) (bytesOf ((p0.drop p0.length).take (p0.length-p0.length))))) (bG (bytesOf ((p0.drop p0.length).take (p0.length-p0.length))))))
def cS (p0:List Int):Nat :=
 (sel (Nat.blt (ar (bq p0) p0.length) p0.length) (sel (!(aR (bytesOf ((p0.drop (ar (bq p0) p0.length)).take (p0.length-(ar (bq p0) p0.length)))) (⟨#[]⟩:ByteArray))) (4+(sel (decide (((eN (bytesOf ((p0.drop (ar (bq p0) p0.length)).take (p0.length-(ar (bq p0) p0.length)))) 0):Int) ≥ 128)) ((⟨#[0]⟩:ByteArray)++(bytesOf ((p0.drop (ar (bq p0) p0.length)).take (p0.length-(ar (bq p0) p0.length))))) (bytesOf ((p0.drop (ar (bq p0) p0.length)).take (p0.length-(ar (bq p0) p0.length))))).size) (4+(bytesOf ((p0.drop (ar (bq p0) p0.length)).take (p0.length-(ar (bq p0) p0.length)))).size)) (sel (!(aR (bytesOf ((p0.drop p0.length).take (p0.length-p0.length))) (⟨#[]⟩:ByteArray))) (4+(sel (decide (((eN (bytesOf ((p0.drop p0.length).take (p0.length-p0.length))) 0):Int) ≥ 128)) ((⟨#[0]⟩:ByteArray)++(bytesOf ((p0.drop p0.length).take (p0.length-p0.length)))) (bytesOf ((p0.drop p0.length).take (p0.length-p0.length)))).size) (4+(bytesOf ((p0.drop p0.length).take (p0.length-p0.length))).size)))
def It:List AV→List Blk→Option (Prop × Ret)
 |[.sc (.ro .u8 p0)],[]=>some ((p0.length≤900000000),⟨.sc (.sl 0 0 (cS p0) 1 none),[some (.ints .u8 (cS p0) (jr p0))]⟩)
 |_,_=>none
theorem NQ:Known Tryz.prog gD 82 ⟨0,1,It⟩:=by
 refine Xw Tryz.f82 33 (Zv kA 432 1 <|Zv kA 480 1 <|Zn) mixed <|fun E args ks C r h hC hlen=>?_
 simp only at h
 unfold It at h
 split at h
 rotate_left
 cases h
 rename_i p0
 cases h
 simp only [am] at hlen
 refine ⟨rfl,?_⟩
 refine Xs [] [] 32 (v1 pT) <|Xs [Ei 3 0] [] 48 (v1 pT) <|Tri.seq <|Tri.block <|Xc p0.length (Gb) (()) (fun k0 z0=>(∀ j,j<k0→(bq p0) j=false)) (fun k0 z0=>[Ej 3 k0]) (fun k0 z0=>[]) (fun j hj=>absurd hj (Nat.not_lt_zero j)) <|fun k0 z0 hk0 hz0 hJ0=>Tri.seq <|Tri.split (decide ((((k0:Nat):Int):Int)<((p0.length:Nat):Int))) (fun h1=>?_) (fun h1=>?_)
 have h1':=of_decide_eq_true h1
 refine Xu [Eb 9 true] none [Eb 15 ((p0.getD k0 0:Int)==0)] [] [] [] 224 (v4 (pg h1 (v2 (pu (Yj k0 p0.length) (pu (Yl k0 p0.length) (v2 pT)))))) <|Xa (fun h2=>?_) (fun h2=>?_)
 have h2':=fC h2
 exact Tri.skip <|Tri.block <|Wu [Ej 17 (k0+1)] none [Ej 3 (k0+1)] [15,3] [] [] 272 (v1 (pv pT (Yp k0 1) (v1 pT))) <|Xo [] (fq hJ0 (by subst hz0;simp only [bq,h1,h2,aB,aA]))
 have h2':=eL h2
 refine Tri.exit <|?_
 subst hz0
 have hf0:ar (bq p0) p0.length=k0:=eA (by omega) hJ0 (by simp only [bq,h1,h2,aB,aA])
 have hb0:Nat.blt k0 p0.length=true:=eP (by omega)
 have hq0:Nat.blt (ar (bq p0) p0.length) p0.length=true:=by rw [hf0];exact hb0
 refine Xs [Es 4 (bytesOf ((p0.drop k0).take (p0.length-k0)))] [15,3,0] 304 (v2 (pu (lo ((0:Int)≤((k0:Nat):Int)∧(((k0:Nat):Int):Int)≤((p0.length:Nat):Int)∧((p0.length:Nat):Int)≤(p0.length:Int))) (v2 pT))) <|Tri.seq <|Tri.split (!(aR (bytesOf ((p0.drop k0).take (p0.length-k0))) (⟨#[]⟩:ByteArray))) (fun h3=>?_) (fun h3=>?_)
 refine Xu [Eb 24 true] none [Eb 28 (decide (((eN (bytesOf ((p0.drop k0).take (p0.length-k0))) 0):Int) ≥ 128))] [] [] [] 416 (v2 (pg h3 (v1 (pu (pl (show (0:Int)≤0∧0<((bytesOf ((p0.drop k0).take (p0.length-k0))).size:Int) from by (simp only [ae,List.length_take,List.length_drop,ByteArray.size_append];omega))) (v2 pT))))) ?_
 refine Xj (x:=(decide (((eN (bytesOf ((p0.drop k0).take (p0.length-k0))) 0):Int) ≥ 128))) (fun bb=>[Es 4 (sel bb ((⟨#[0]⟩:ByteArray)++(bytesOf ((p0.drop k0).take (p0.length-k0)))) (bytesOf ((p0.drop k0).take (p0.length-k0))))]) [28,4] (fun bb=>[]) [] 464 (fun h4=>?_) (fun h4=>?_) ?_
 have h4':=of_decide_eq_true h4
 refine Ws [Es 4 ((⟨#[0]⟩:ByteArray)++(bytesOf ((p0.drop k0).take (p0.length-k0))))] [28,4] 464 (v1 (pu (pl (show (⟨#[0]⟩:ByteArray).size+(bytesOf ((p0.drop k0).take (p0.length-k0))).size≤9223372036854775807 from by (simp only [ae,List.length_take,List.length_drop];show 1+_≤_;omega))) (v1 pT))) ?_
 exact Xe [Es 4 ((⟨#[0]⟩:ByteArray)++(bytesOf ((p0.drop k0).take (p0.length-k0))))] []
 have h4':=of_decide_eq_false h4
 exact Tri.skip <|Xe [Es 4 (bytesOf ((p0.drop k0).take (p0.length-k0)))] []
 exact Xt [El 2 480 (4+(sel (decide (((eN (bytesOf ((p0.drop k0).take (p0.length-k0))) 0):Int) ≥ 128)) ((⟨#[0]⟩:ByteArray)++(bytesOf ((p0.drop k0).take (p0.length-k0)))) (bytesOf ((p0.drop k0).take (p0.length-k0)))).size)] [4] [Mi 480 (4+(sel (decide (((eN (bytesOf ((p0.drop k0).take (p0.length-k0))) 0):Int) ≥ 128)) ((⟨#[0]⟩:ByteArray)++(bytesOf ((p0.drop k0).take (p0.length-k0)))) (bytesOf ((p0.drop k0).take (p0.length-k0)))).size) (bG (sel (decide (((eN (bytesOf ((p0.drop k0).take (p0.length-k0))) 0):Int) ≥ 128)) ((⟨#[0]⟩:ByteArray)++(bytesOf ((p0.drop k0).take (p0.length-k0)))) (bytesOf ((p0.drop k0).take (p0.length-k0)))))] [] 512 (v1 (pu (pa pT (pl (show (sel (decide (((eN (bytesOf ((p0.drop k0).take (p0.length-k0))) 0):Int) ≥ 128)) ((⟨#[0]⟩:ByteArray)++(bytesOf ((p0.drop k0).take (p0.length-k0)))) (bytesOf ((p0.drop k0).take (p0.length-k0)))).size≤1000000000 from uH (by rw [ByteArray.size_append,ae,List.length_take,List.length_drop];show 1+_≤_;omega) (by rw [ae,List.length_take,List.length_drop];omega)))) (v1 pT))) <|Xy [(480,0)] pz (by simp only [jr,cS,hq0,hf0,hb0,h3,aB,aA] <;> rfl)
 refine Xu [Eb 24 false] none [Eb 28 false] [] [] [] 416 (v2 (pg h3 (v4 pT))) <|Tri.cond_false (by kernel_rfl) <|Tri.skip <|Xt [El 2 432 (4+(bytesOf ((p0.drop k0).take (p0.length-k0))).size)] [28,4] [Mi 432 (4+(bytesOf ((p0.drop k0).take (p0.length-k0))).size) (bG (bytesOf ((p0.drop k0).take (p0.length-k0))))] [] 464 (v1 (pu (pa pT (pl (show (bytesOf ((p0.drop k0).take (p0.length-k0))).size≤1000000000 from by (simp only [ae,List.length_take,List.length_drop,ByteArray.size_append];omega)))) (v1 pT))) ?_
 exact Xy [(432,0)] pz (by simp only [jr,cS,hq0,hf0,hb0,h3,aB,aA] <;> rfl)
 have h1':=of_decide_eq_false h1
 refine Xu [Eb 9 false] none [Eb 15 false] [] [] [] 224 (v4 (pg h1 (v6 pT))) <|Tri.cond_false (by kernel_rfl) <|Tri.exit <|?_
 obtain rfl:k0=p0.length:=(by omega);subst hz0
 have hf0:ar (bq p0) p0.length=p0.length:=fG hJ0
 have hb0:Nat.blt p0.length p0.length=false:=fg _
 have hq0:Nat.blt (ar (bq p0) p0.length) p0.length=false:=by rw [hf0];exact hb0
 refine Xs [Es 4 (bytesOf ((p0.drop p0.length).take (p0.length-p0.length)))] [15,3,0] 304 (v2 (pu (lo ((0:Int)≤((p0.length:Nat):Int)∧(((p0.length:Nat):Int):Int)≤((p0.length:Nat):Int)∧((p0.length:Nat):Int)≤(p0.length:Int))) (v2 pT))) <|Tri.seq <|Tri.split (!(aR (bytesOf ((p0.drop p0.length).take (p0.length-p0.length))) (⟨#[]⟩:ByteArray))) (fun h5=>?_) (fun h5=>?_)
 refine Xu [Eb 24 true] none [Eb 28 (decide (((eN (bytesOf ((p0.drop p0.length).take (p0.length-p0.length))) 0):Int) ≥ 128))] [] [] [] 416 (v2 (pg h5 (v1 (pu (pl (show (0:Int)≤0∧0<((bytesOf ((p0.drop p0.length).take (p0.length-p0.length))).size:Int) from ⟨by decide,by have:=In (by assumption);omega⟩)) (v2 pT))))) <|Xj (x:=(decide (((eN (bytesOf ((p0.drop p0.length).take (p0.length-p0.length))) 0):Int) ≥ 128))) (fun bb=>[Es 4 (sel bb ((⟨#[0]⟩:ByteArray)++(bytesOf ((p0.drop p0.length).take (p0.length-p0.length)))) (bytesOf ((p0.drop p0.length).take (p0.length-p0.length))))]) [28,4] (fun bb=>[]) [] 464 (fun h6=>?_) (fun h6=>?_) ?_
 have h6':=of_decide_eq_true h6
 refine Ws [Es 4 ((⟨#[0]⟩:ByteArray)++(bytesOf ((p0.drop p0.length).take (p0.length-p0.length))))] [28,4] 464 (v1 (pu (pl (show (⟨#[0]⟩:ByteArray).size+(bytesOf ((p0.drop p0.length).take (p0.length-p0.length))).size≤9223372036854775807 from by (simp only [ae,List.length_take,List.length_drop];show 1+_≤_;omega))) (v1 pT))) ?_
 exact Xe [Es 4 ((⟨#[0]⟩:ByteArray)++(bytesOf ((p0.drop p0.length).take (p0.length-p0.length))))] []
 have h6':=of_decide_eq_false h6
 exact Tri.skip <|Xe [Es 4 (bytesOf ((p0.drop p0.length).take (p0.length-p0.length)))] []
 exact Xt [El 2 480 (4+(sel (decide (((eN (bytesOf ((p0.drop p0.length).take (p0.length-p0.length))) 0):Int) ≥ 128)) ((⟨#[0]⟩:ByteArray)++(bytesOf ((p0.drop p0.length).take (p0.length-p0.length)))) (bytesOf ((p0.drop p0.length).take (p0.length-p0.length)))).size)] [4] [Mi 480 (4+(sel (decide (((eN (bytesOf ((p0.drop p0.length).take (p0.length-p0.length))) 0):Int) ≥ 128)) ((⟨#[0]⟩:ByteArray)++(bytesOf ((p0.drop p0.length).take (p0.length-p0.length)))) (bytesOf ((p0.drop p0.length).take (p0.length-p0.length)))).size) (bG (sel (decide (((eN (bytesOf ((p0.drop p0.length).take (p0.length-p0.length))) 0):Int) ≥ 128)) ((⟨#[0]⟩:ByteArray)++(bytesOf ((p0.drop p0.length).take (p0.length-p0.length)))) (bytesOf ((p0.drop p0.length).take (p0.length-p0.length)))))] [] 512 (v1 (pu (pa pT (pl (show (sel (decide (((eN (bytesOf ((p0.drop p0.length).take (p0.length-p0.length))) 0):Int) ≥ 128)) ((⟨#[0]⟩:ByteArray)++(bytesOf ((p0.drop p0.length).take (p0.length-p0.length)))) (bytesOf ((p0.drop p0.length).take (p0.length-p0.length)))).size≤1000000000 from uH (by rw [ByteArray.size_append,ae,List.length_take,List.length_drop];show 1+_≤_;omega) (by rw [ae,List.length_take,List.length_drop];omega)))) (v1 pT))) <|Xy [(480,0)] pz (by simp only [jr,cS,hq0,hf0,hb0,h5,aB,aA] <;> rfl)
 refine Xu [Eb 24 false] none [Eb 28 false] [] [] [] 416 (v2 (pg h5 (v4 pT))) <|Tri.cond_false (by kernel_rfl) <|Tri.skip <|Xt [El 2 432 (4+(bytesOf ((p0.drop p0.length).take (p0.length-p0.length))).size)] [28,4] [Mi 432 (4+(bytesOf ((p0.drop p0.length).take (p0.length-p0.length))).size) (bG (bytesOf ((p0.drop p0.length).take (p0.length-p0.length))))] [] 464 (v1 (pu (pa pT (pl (show (bytesOf ((p0.drop p0.length).take (p0.length-p0.length))).size≤1000000000 from by (simp only [ae,List.length_take,List.length_drop,ByteArray.size_append];omega)))) (v1 pT))) ?_
 exact Xy [(432,0)] pz (by simp only [jr,cS,hq0,hf0,hb0,h5,aB,aA] <;> rfl)
theorem Fi (p:List Int):(jr p).length≤p.length+5∧cS p≤p.length+5:=by
 have s0:∀ (b:Bool) (x y:Nat),x≤p.length+5→y≤p.length+5→sel b x y≤p.length+5:=by
  intro b x y hx hy
  cases b
  ·rw [aA];exact hy
  ·rw [aB];exact hx
 have t0:∀ (b:Bool) (u:ByteArray),u.size≤p.length→4+(sel b ((⟨#[0]⟩:ByteArray)++u) u).size≤p.length+5:=by
  intro b u hu
  have:(sel b ((⟨#[0]⟩:ByteArray)++u) u).size≤u.size+1:=uH (by rw [ByteArray.size_append];show 1+_≤_;omega) (by omega)
  omega
 have d0:∀ k,(bytesOf ((p.drop k).take (p.length-k))).size≤p.length:=fun k=>by rw [ae,List.length_take,List.length_drop];omega
 unfold jr cS
 have d1:=d0 (ar (bq p) p.length)
 have d2:=d0 p.length
 exact ⟨yz (yz (by rw [fN];exact t0 _ _ d1) (by rw [fN];omega)) (yz (by rw [fN];exact t0 _ _ d2) (by rw [fN];omega)),
  s0 _ _ _ (s0 _ _ _ (t0 _ _ d1) (by omega)) (s0 _ _ _ (t0 _ _ d2) (by omega))⟩
theorem lw {α:Type}:∀ (p:List (List α)) (k:Nat),k<p.length→((p.take k).flatten.length+(p.getD k []).length≤p.flatten.length∧(p.take (k+1)).flatten=(p.take k).flatten++p.getD k [])
 |[],k,h=>absurd h (Nat.not_lt_zero k)
 |x :: p,0,_=>⟨by simp,by simp⟩
 |x :: p,k+1,h=>by
  obtain ⟨h1,h2⟩:=lw p k (by simpa using h)
  refine ⟨?_,?_⟩
  ·simp only [List.take_succ_cons,List.flatten_cons,List.length_append,List.getD_cons_succ];omega
  ·rw [List.take_succ_cons,List.take_succ_cons,List.flatten_cons,List.flatten_cons,h2,List.getD_cons_succ,List.append_assoc]
def gt (p0:List (List Int)) (k0:Nat) (z0:List Int):List Int :=
 z0++(p0.getD k0 [])
def ta (p0:List (List Int)):List Int :=
 (itr (gt p0) p0.length ([]:List Int))
def kY (p0:List (List Int)):Nat :=
 (itr (gt p0) p0.length ([]:List Int)).length
def DR:List AV→List Blk→Option (Prop × Ret)
 |[.sc (.rob p0)],[]=>some ((p0.flatten.length≤1000000000∧p0.length≤1000000000),⟨.sc (.sl 0 0 (kY p0) 1 none),[some (.ints .u8 (kY p0) (ta p0))]⟩)
 |_,_=>none
theorem LM:Known Tryz.prog gD 32 ⟨0,1,DR⟩:=by
 refine Xw Tryz.f32 18 Zn mixed <|fun E args ks C r h hC hlen=>?_
 simp only at h
 unfold DR at h
 split at h
 rotate_left
 cases h
 rename_i p0
 cases h
 simp only [am] at hlen
 refine ⟨rfl,?_⟩
 refine Xs [] [] 32 (v1 pT) <|Xs [(3,.sc (.nils))] [] 48 (v1 pT) <|Tri.seq <|Xs [Ei 4 0] [] 64 (v1 pT) <|Tri.block <|Tri.sub (Sub.openNil (U:=64) (U':=80) 3 64 1 .u8 none (.inl rfl) (by decide) (by decide) (by kernel_rfl) (by kernel_rfl)) <|Xc p0.length (gt p0) ([]:List Int) (fun k0 z0=>z0=(p0.take k0).flatten) (fun k0 z0=>[El 3 64 z0.length,Ej 4 k0]) (fun k0 z0=>[Mi 64 z0.length z0]) rfl <|fun k0 z0 hk0 hz0 hJ0=>Tri.seq <|Xs [Eb 8 (decide ((((k0:Nat):Int):Int)<((p0.length:Nat):Int)))] [] 144 (v4 pT) <|Xb (fun h1 h1'=>?_) (fun h1 h1'=>?_)
 refine Tri.skip <|Tri.seq <|Tri.block <|Wt [El 3 224 (z0.length+((p0.getD k0 []).length))] [8,3] [Mi 224 (z0.length+((p0.getD k0 []).length)) (z0++(p0.getD k0 []))] [64] 256 (v3 (pu (Yj k0 p0.length) (v1 (pu (pa (pa (pa (Yz 1) (pa (Yl 0 1) (pa (pl (show (z0.length+((p0.getD k0 []).length))*1≤140737488355328 from by (have hq:=(lw p0 k0 (by omega)).1;rw [hJ0];omega))) (pl (show z0.length+((p0.getD k0 []).length)≤140737488355328 from by (have hq:=(lw p0 k0 (by omega)).1;rw [hJ0];omega)))))) (lo ((p0.getD k0 []).length=((p0.getD k0 []).length)*1))) (pa (Yr 1) (lo (0+z0.length*1=z0.length)))) (v1 pT))))) ?_
 exact Wu [Ej 10 (k0+1)] none [Ej 4 (k0+1)] [4] [] [] 304 (v1 (pv pT (Yp k0 1) (v1 pT))) <|Xp (by unfold gt;rw [hJ0,(lw p0 k0 (by omega)).2]) [(64,224)] [El 3 64 (z0.length+((p0.getD k0 []).length)),Ej 4 (k0+1)] [Mi 64 (z0.length+((p0.getD k0 []).length)) (z0++(p0.getD k0 []))] (by simp only [gt,h1,aB,aA,List.length_append,List.length_set,List.length_cons,List.length_nil,Nat.zero_add,Nat.reduceAdd]) (by simp only [gt,h1,aB,aA,List.length_append,List.length_set,List.length_cons,List.length_nil,Nat.zero_add,Nat.reduceAdd])
 refine Tri.exit <|?_
 obtain rfl:k0=p0.length:=(by omega);subst hz0
 exact Xs [El 2 64 ((itr (gt p0) p0.length ([]:List Int)).length)] [8,3,4,0] 176 (v2 pT) <|Xz [(64,0)] pz
theorem As (p0:List (List Int)):ta p0=p0.flatten:=by
 have h:∀ k,k≤p0.length→itr (gt p0) k []=(p0.take k).flatten:=by
  intro k
  induction k with
  |zero=>intro _;rw [aX];rfl
  |succ k ih=>intro hk;rw [aQ,ih (by omega)];unfold gt;rw [(lw p0 k (by omega)).2]
 unfold ta
 rw [h p0.length (Nat.le_refl _),List.take_length]
def fB (p0:Nat) (p2:List Int) (p3:Int):List Int :=
 p2++[(IntKind.wrap .u8 (aH .u32 p3 24)),(IntKind.wrap .u8 (aH .u32 p3 16)),(IntKind.wrap .u8 (aH .u32 p3 8)),(IntKind.wrap .u8 p3)]
def GN:List AV→List Blk→Option (Prop × Ret)
 |[.sc (.sl 0 0 p0 1 none),.sc (.i .u32 p3)],[.ints .u8 p1 p2]=>some (((p0=p1)∧(p0≤1000000000)),⟨.sc (.sl 1 0 (p0+4) 1 none),[none,some (.ints .u8 (p0+4) (fB p0 p2 p3))]⟩)
 |_,_=>none
theorem zD:Known Tryz.prog gD 64 ⟨1,1,GN⟩:=by
 refine Xw Tryz.f64 19 Zn mixed <|fun E args ks C r h hC hlen=>?_
 simp only at h
 unfold GN at h
 split at h
 rotate_left
 cases h
 rename_i p0 p3 p1 p2
 cases h
 simp only [am] at hlen
 obtain ⟨hEp1,hC⟩:=hC
 subst hEp1
 refine ⟨rfl,?_⟩
 exact Xs [] [] 32 (v1 pT) <|Xt [El 4 240 (p0+4)] [0,1] [Mi 240 (p0+4) (p2++[(IntKind.wrap .u8 (aH .u32 p3 24)),(IntKind.wrap .u8 (aH .u32 p3 16)),(IntKind.wrap .u8 (aH .u32 p3 8)),(IntKind.wrap .u8 p3)])] [0] 272 (v2 (pu (Y0 24) (v2 (pu (Y0 16) (v2 (pu (Y0 8) (v3 (pu (Yf 4) (pu (Ya (Yw 4) 1 (p0+4) 4 4 p0 p0) (v1 pT)))))))))) <|Xz [(240,1)] pz
def tK (p3:Int):List Int :=
 [(IntKind.wrap .u8 (aH .u32 p3 24)),(IntKind.wrap .u8 (aH .u32 p3 16)),(IntKind.wrap .u8 (aH .u32 p3 8)),(IntKind.wrap .u8 p3)]
def Dl:List AV→List Blk→Option (Prop × Ret)
 |[.sc (.nils),.sc (.i .u32 p3)],[]=>some (True,⟨.sc (.sl 0 0 4 1 none),[some (.ints .u8 4 (tK p3))]⟩)
 |_,_=>none
theorem MC:Known Tryz.prog gD 64 ⟨0,1,Dl⟩:=by
 refine Xw Tryz.f64 19 Zn mixed <|fun E args ks C r h hC hlen=>?_
 simp only at h
 unfold Dl at h
 split at h
 rotate_left
 cases h
 rename_i p3
 cases h
 simp only [am] at hlen
 refine ⟨rfl,?_⟩
 exact Xs [] [] 32 (v1 pT) <|Xt [El 4 240 4] [0,1] [Mi 240 4 [(IntKind.wrap .u8 (aH .u32 p3 24)),(IntKind.wrap .u8 (aH .u32 p3 16)),(IntKind.wrap .u8 (aH .u32 p3 8)),(IntKind.wrap .u8 p3)]] [] 272 (v2 (pu (Y0 24) (v2 (pu (Y0 16) (v2 (pu (Y0 8) (v3 (pu (Yf 4) (pu (YN (Yw 4) 1 4 4 4) (v1 pT)))))))))) <|Xz [(240,0)] pz
def ga (p0:Nat) (p2:List Int) (p3:ByteArray):List Int :=
 (fB p0 p2 (IntKind.wrap .u32 ((p3.size:Nat):Int)))++(aD p3)
def DY:List AV→List Blk→Option (Prop × Ret)
 |[.sc (.sl 0 0 p0 1 none),.sc (.s p3)],[.ints .u8 p1 p2]=>some (((p0=p1)∧(p0≤1000000000∧p3.size≤1000000000)),⟨.sc (.sl 1 0 ((p0+4)+p3.size) 1 none),[none,some (.ints .u8 ((p0+4)+p3.size) (ga p0 p2 p3))]⟩)
 |_,_=>none
theorem jw:Known Tryz.prog gD 28 ⟨1,1,DY⟩:=by
 refine Xw Tryz.f28 12 (Zc zD 96 [.io,.val] [] [0] <|Zn) mixed <|fun E args ks C r h hC hlen=>?_
 simp only at h
 unfold DY at h
 split at h
 rotate_left
 cases h
 rename_i p0 p3 p1 p2
 cases h
 simp only [am] at hlen
 obtain ⟨hEp1,hC⟩:=hC
 subst hEp1
 refine ⟨rfl,?_⟩
 exact Xs [] [] 32 (v1 pT) <|Xt [El 4 128 ((p0+4)+p3.size)] [0,1] [Mi 128 ((p0+4)+p3.size) ((fB p0 p2 (IntKind.wrap .u32 ((p3.size:Nat):Int)))++(aD p3))] [0] 160 (v4 (pu (pa pT (pa (Yr p0) (Ye p0 1000000000))) (v1 (pu (Ya pT 1 ((p0+4)+p3.size) p3.size p3.size (p0+4) (p0+4)) (v1 pT))))) <|Xz [(128,1)] pz
def nh (p3:ByteArray):List Int :=
 (tK (IntKind.wrap .u32 ((p3.size:Nat):Int)))++(aD p3)
def zp:List AV→List Blk→Option (Prop × Ret)
 |[.sc (.nils),.sc (.s p3)],[]=>some ((p3.size≤1000000000),⟨.sc (.sl 0 0 (4+p3.size) 1 none),[some (.ints .u8 (4+p3.size) (nh p3))]⟩)
 |_,_=>none
theorem zw:Known Tryz.prog gD 28 ⟨0,1,zp⟩:=by
 refine Xw Tryz.f28 12 (Zv MC 96 2 <|Zn) mixed <|fun E args ks C r h hC hlen=>?_
 simp only at h
 unfold zp at h
 split at h
 rotate_left
 cases h
 rename_i p3
 cases h
 simp only [am] at hlen
 refine ⟨rfl,?_⟩
 exact Xs [] [] 32 (v1 pT) <|Xt [El 4 128 (4+p3.size)] [0,1] [Mi 128 (4+p3.size) ((tK (IntKind.wrap .u32 ((p3.size:Nat):Int)))++(aD p3))] [] 160 (v4 (pu pz (v1 (pu (Ya pT 1 (4+p3.size) p3.size p3.size 4 4) (v1 pT))))) <|Xz [(128,0)] pz
def kg (p0:Nat) (p2:List Int) (p3:List ByteArray):List Int :=
 (ga p0 p2 (gI p3 (⟨#[44]⟩:ByteArray)))
def aj (p0:Nat) (p2:List Int) (p3:List ByteArray):Nat :=
 (p0+4)+(gI p3 (⟨#[44]⟩:ByteArray)).size
def zh:List AV→List Blk→Option (Prop × Ret)
 |[.sc (.sl 0 0 p0 1 none),.sc (.ros p3)],[.ints .u8 p1 p2]=>some (((p0=p1)∧(p0≤1000000000∧p3.length≤1000000000∧(gI p3 (⟨#[44]⟩:ByteArray)).size≤1000000000)),⟨.sc (.sl 1 0 (aj p0 p2 p3) 1 none),[none,some (.ints .u8 (aj p0 p2 p3) (kg p0 p2 p3))]⟩)
 |_,_=>none
theorem ua:Known Tryz.prog gD 63 ⟨1,1,zh⟩:=by
 refine Xw Tryz.f63 9 (Zc jw 80 [.io,.val] [] [0] <|Zc Py 64 [.ros,.val] [] [] <|Zn) mixed <|fun E args ks C r h hC hlen=>?_
 simp only at h
 unfold zh at h
 split at h
 rotate_left
 cases h
 rename_i p0 p3 p1 p2
 cases h
 simp only [am] at hlen
 obtain ⟨hEp1,hC⟩:=hC
 subst hEp1
 refine ⟨rfl,?_⟩
 exact Xs [] [] 32 (v1 pT) <|Xt [El 4 80 ((p0+4)+(gI p3 (⟨#[44]⟩:ByteArray)).size)] [0,1] [Mi 80 ((p0+4)+(gI p3 (⟨#[44]⟩:ByteArray)).size) (ga p0 p2 (gI p3 (⟨#[44]⟩:ByteArray)))] [0] 112 (v2 (pu (pa pT (lo (p3.length≤1000000000∧(gI p3 (⟨#[44]⟩:ByteArray)).size≤1000000000))) (pu (pa pT (pa (Yr p0) (lo (p0≤1000000000∧(gI p3 (⟨#[44]⟩:ByteArray)).size≤1000000000)))) (v1 pT)))) <|Xz [(80,1)] pz
def aM (k0:Nat) (z0:List Int):List Int :=
 (z0.drop 1).take (z0.length-1)
def cf (p3:List Int) (k0:Nat):Bool :=
 (sel (((itr (aM) k0 p3).getD 0 0:Int)==0) false true)
def jJ (p0:Nat) (p2:List Int) (p3:List Int):List Int :=
 (sel (Nat.blt (ar (cf p3) p3.length) p3.length) (sel (decide (((((itr (aM) (ar (cf p3) p3.length) p3).length:Nat):Int):Int)>0)) (sel (decide (((itr (aM) (ar (cf p3) p3.length) p3).getD 0 0:Int) ≥ 128)) (((fB p0 p2 (IntKind.wrap .u32 ((((itr (aM) (ar (cf p3) p3.length) p3).length)+1:Nat):Int)))++[0])++(itr (aM) (ar (cf p3) p3.length) p3)) ((fB p0 p2 (IntKind.wrap .u32 (((itr (aM) (ar (cf p3) p3.length) p3).length:Nat):Int)))++(itr (aM) (ar (cf p3) p3.length) p3))) ((fB p0 p2 (IntKind.wrap .u32 (((itr (aM) (ar (cf p3) p3.length) p3).length:Nat):Int)))++(itr (aM) (ar (cf p3) p3.length) p3))) (sel (decide (((((itr (aM) p3.length p3).length:Nat):Int):Int)>0)) (sel (decide (((itr (aM) p3.length p3).getD 0 0:Int) ≥ 128)) (((fB p0 p2 (IntKind.wrap .u32 ((((itr (aM) p3.length p3).length)+1:Nat):Int)))++[0])++(itr (aM) p3.length p3)) ((fB p0 p2 (IntKind.wrap .u32 (((itr (aM) p3.length p3).length:Nat):Int)))++(itr (aM) p3.length p3))) ((fB p0 p2 (IntKind.wrap .u32 (((itr (aM) p3.length p3).length:Nat):Int)))++(itr (aM) p3.length p3))))
def ce (p0:Nat) (p2:List Int) (p3:List Int):Nat :=
 (sel (Nat.blt (ar (cf p3) p3.length) p3.length) (sel (decide (((((itr (aM) (ar (cf p3) p3.length) p3).length:Nat):Int):Int)>0)) (sel (decide (((itr (aM) (ar (cf p3) p3.length) p3).getD 0 0:Int) ≥ 128)) (((p0+4)+1)+((itr (aM) (ar (cf p3) p3.length) p3).length)) ((p0+4)+((itr (aM) (ar (cf p3) p3.length) p3).length))) ((p0+4)+((itr (aM) (ar (cf p3) p3.length) p3).length))) (sel (decide (((((itr (aM) p3.length p3).length:Nat):Int):Int)>0)) (sel (decide (((itr (aM) p3.length p3).getD 0 0:Int) ≥ 128)) (((p0+4)+1)+((itr (aM) p3.length p3).length)) ((p0+4)+((itr (aM) p3.length p3).length))) ((p0+4)+((itr (aM) p3.length p3).length))))
def Hy:List AV→List Blk→Option (Prop × Ret)
 |[.sc (.sl 0 0 p0 1 none),.sc (.ro .u8 p3)],[.ints .u8 p1 p2]=>some (((p0=p1)∧(p0≤1000000000∧p3.length≤1000000000)),⟨.sc (.sl 1 0 (ce p0 p2 p3) 1 none),[none,some (.ints .u8 (ce p0 p2 p3) (jJ p0 p2 p3))]⟩)
 |_,_=>none
theorem Ha:Known Tryz.prog gD 54 ⟨1,1,Hy⟩:=by
 refine Xw Tryz.f54 42 (Zc zD 384 [.io,.val] [] [0] <|Zc zD 400 [.io,.val] [] [0] <|Zn) mixed <|fun E args ks C r h hC hlen=>?_
 simp only at h
 unfold Hy at h
 split at h
 rotate_left
 cases h
 rename_i p0 p3 p1 p2
 cases h
 simp only [am] at hlen
 obtain ⟨hEp1,hC⟩:=hC
 subst hEp1
 refine ⟨rfl,?_⟩
 refine Xs [] [] 32 (v1 pT) <|Tri.seq <|Tri.block <|Xc p3.length (aM) p3 (fun k0 z0=>z0.length=p3.length-k0∧(∀ j,j<k0→(cf p3) j=false)) (fun k0 z0=>[Er 1 z0]) (fun k0 z0=>[]) (⟨(by omega),(fun j hj=>absurd hj (Nat.not_lt_zero j))⟩) <|fun k0 z0 hk0 hz0 hJ0=>Tri.seq <|Tri.split (decide ((((z0.length:Nat):Int):Int)>0)) (fun h1=>?_) (fun h1=>?_)
 have h1':=of_decide_eq_true h1
 refine Xu [Eb 8 true] none [Eb 13 ((z0.getD 0 0:Int)==0)] [] [] [] 176 (v3 (pg h1 (v1 (pu (Yi 0 z0.length) (pu (Yl 0 z0.length) (v2 pT)))))) <|Xa (fun h2=>?_) (fun h2=>?_)
 have h2':=fC h2
 refine Tri.skip <|Tri.block <|Ws [Er 1 ((z0.drop 1).take (z0.length-1))] [13,1] 224 (v1 (pu (lo ((0:Int)≤1∧(1:Int)≤((z0.length:Nat):Int)∧((z0.length:Nat):Int)≤(z0.length:Int))) (v1 pT))) <|?_
 repeat (refine jf ?_)
 exact iJ (by have:=of_decide_eq_true h1;omega) (⟨(show ((z0.drop 1).take (z0.length-1)).length=p3.length-(k0+1) by simp only [List.length_take,List.length_drop];omega),(fq hJ0.2 (by subst hz0;simp only [cf,h1,h2,aB,aA]))⟩) <|Xn []
 have h2':=eL h2
 refine Tri.exit <|?_
 subst hz0
 have hf0:ar (cf p3) p3.length=k0:=eA (by omega) hJ0.2 (by simp only [cf,h1,h2,aB,aA])
 have hb0:Nat.blt k0 p3.length=true:=eP (by omega)
 have hq0:Nat.blt (ar (cf p3) p3.length) p3.length=true:=by rw [hf0];exact hb0
 refine Tri.seq <|Tri.split (decide (((((itr (aM) k0 p3).length:Nat):Int):Int)>0)) (fun h3=>?_) (fun h3=>?_)
 have h3':=of_decide_eq_true h3
 refine Xu [Eb 19 true] none [Eb 24 (decide (((itr (aM) k0 p3).getD 0 0:Int) ≥ 128))] [13] [] [] 320 (v3 (pg h3 (v1 (pu (Yi 0 ((itr (aM) k0 p3).length)) (pu (Yl 0 ((itr (aM) k0 p3).length)) (v2 pT)))))) <|Xb (fun h4 h4'=>?_) (fun h4 h4'=>?_)
 exact Xu [Ej 28 (((itr (aM) k0 p3).length)+1)] none [El 4 464 (((p0+4)+1)+((itr (aM) k0 p3).length))] [24,0,1] [Mi 464 (((p0+4)+1)+((itr (aM) k0 p3).length)) (((fB p0 p2 (IntKind.wrap .u32 ((((itr (aM) k0 p3).length)+1:Nat):Int)))++[0])++(itr (aM) k0 p3))] [0] 496 (v3 (pv pT (Yp ((itr (aM) k0 p3).length) 1) (v1 (pu (pa pT (pa (Yr p0) (Ye p0 1000000000))) (pu (Yf 1) (pu (Ya (Yw 1) 1 ((p0+4)+1) 1 1 (p0+4) (p0+4)) (v1 (pu (Ya pT 1 (((p0+4)+1)+((itr (aM) k0 p3).length)) ((itr (aM) k0 p3).length) ((itr (aM) k0 p3).length) ((p0+4)+1) ((p0+4)+1)) (v1 pT))))))))) <|Xy [(464,1)] pz (by simp only [jJ,ce,hq0,hf0,hb0,h3,h4,aB,aA] <;> rfl)
 exact Tri.skip <|Xt [El 4 416 ((p0+4)+((itr (aM) k0 p3).length))] [24,0,1] [Mi 416 ((p0+4)+((itr (aM) k0 p3).length)) ((fB p0 p2 (IntKind.wrap .u32 (((itr (aM) k0 p3).length:Nat):Int)))++(itr (aM) k0 p3))] [0] 448 (v4 (pu (pa pT (pa (Yr p0) (Ye p0 1000000000))) (v1 (pu (Ya pT 1 ((p0+4)+((itr (aM) k0 p3).length)) ((itr (aM) k0 p3).length) ((itr (aM) k0 p3).length) (p0+4) (p0+4)) (v1 pT))))) <|Xy [(416,1)] pz (by simp only [jJ,ce,hq0,hf0,hb0,h3,h4,aB,aA] <;> rfl)
 have h3':=of_decide_eq_false h3
 exact Xu [Eb 19 false] none [Eb 24 false] [13] [] [] 320 (v3 (pg h3 (v5 pT))) <|Tri.cond_false (by kernel_rfl) <|Tri.skip <|Xt [El 4 416 ((p0+4)+((itr (aM) k0 p3).length))] [24,0,1] [Mi 416 ((p0+4)+((itr (aM) k0 p3).length)) ((fB p0 p2 (IntKind.wrap .u32 (((itr (aM) k0 p3).length:Nat):Int)))++(itr (aM) k0 p3))] [0] 448 (v4 (pu (pa pT (pa (Yr p0) (Ye p0 1000000000))) (v1 (pu (Ya pT 1 ((p0+4)+((itr (aM) k0 p3).length)) ((itr (aM) k0 p3).length) ((itr (aM) k0 p3).length) (p0+4) (p0+4)) (v1 pT))))) <|Xy [(416,1)] pz (by simp only [jJ,ce,hq0,hf0,hb0,h3,aB,aA] <;> rfl)
 have h1':=of_decide_eq_false h1
 refine Xu [Eb 8 false] none [Eb 13 false] [] [] [] 176 (v3 (pg h1 (v5 pT))) <|Tri.cond_false (by kernel_rfl) <|Tri.exit <|?_
 have hend0:k0=p3.length:=by (have:=of_decide_eq_false h1;omega)
 subst hend0;subst hz0
 have hf0:ar (cf p3) p3.length=p3.length:=fG hJ0.2
 have hb0:Nat.blt p3.length p3.length=false:=fg _
 have hq0:Nat.blt (ar (cf p3) p3.length) p3.length=false:=by rw [hf0];exact hb0
 refine Tri.seq <|Tri.split (decide (((((itr (aM) p3.length p3).length:Nat):Int):Int)>0)) (fun h5=>?_) (fun h5=>?_)
 have h5':=of_decide_eq_true h5
 refine Xu [Eb 19 true] none [Eb 24 (decide (((itr (aM) p3.length p3).getD 0 0:Int) ≥ 128))] [13] [] [] 320 (v3 (pg h5 (v1 (pu (Yi 0 ((itr (aM) p3.length p3).length)) (pu (Yl 0 ((itr (aM) p3.length p3).length)) (v2 pT)))))) <|Xb (fun h6 h6'=>?_) (fun h6 h6'=>?_)
 exact Xu [Ej 28 (((itr (aM) p3.length p3).length)+1)] none [El 4 464 (((p0+4)+1)+((itr (aM) p3.length p3).length))] [24,0,1] [Mi 464 (((p0+4)+1)+((itr (aM) p3.length p3).length)) (((fB p0 p2 (IntKind.wrap .u32 ((((itr (aM) p3.length p3).length)+1:Nat):Int)))++[0])++(itr (aM) p3.length p3))] [0] 496 (v3 (pv pT (Yp ((itr (aM) p3.length p3).length) 1) (v1 (pu (pa pT (pa (Yr p0) (Ye p0 1000000000))) (pu (Yf 1) (pu (Ya (Yw 1) 1 ((p0+4)+1) 1 1 (p0+4) (p0+4)) (v1 (pu (Ya pT 1 (((p0+4)+1)+((itr (aM) p3.length p3).length)) ((itr (aM) p3.length p3).length) ((itr (aM) p3.length p3).length) ((p0+4)+1) ((p0+4)+1)) (v1 pT))))))))) <|Xy [(464,1)] pz (by simp only [jJ,ce,hq0,hf0,hb0,h5,h6,aB,aA] <;> rfl)
 exact Tri.skip <|Xt [El 4 416 ((p0+4)+((itr (aM) p3.length p3).length))] [24,0,1] [Mi 416 ((p0+4)+((itr (aM) p3.length p3).length)) ((fB p0 p2 (IntKind.wrap .u32 (((itr (aM) p3.length p3).length:Nat):Int)))++(itr (aM) p3.length p3))] [0] 448 (v4 (pu (pa pT (pa (Yr p0) (Ye p0 1000000000))) (v1 (pu (Ya pT 1 ((p0+4)+((itr (aM) p3.length p3).length)) ((itr (aM) p3.length p3).length) ((itr (aM) p3.length p3).length) (p0+4) (p0+4)) (v1 pT))))) <|Xy [(416,1)] pz (by simp only [jJ,ce,hq0,hf0,hb0,h5,h6,aB,aA] <;> rfl)
 have h5':=of_decide_eq_false h5
 exact Xu [Eb 19 false] none [Eb 24 false] [13] [] [] 320 (v3 (pg h5 (v5 pT))) <|Tri.cond_false (by kernel_rfl) <|Tri.skip <|Xt [El 4 416 ((p0+4)+((itr (aM) p3.length p3).length))] [24,0,1] [Mi 416 ((p0+4)+((itr (aM) p3.length p3).length)) ((fB p0 p2 (IntKind.wrap .u32 (((itr (aM) p3.length p3).length:Nat):Int)))++(itr (aM) p3.length p3))] [0] 448 (v4 (pu (pa pT (pa (Yr p0) (Ye p0 1000000000))) (v1 (pu (Ya pT 1 ((p0+4)+((itr (aM) p3.length p3).length)) ((itr (aM) p3.length p3).length) ((itr (aM) p3.length p3).length) (p0+4) (p0+4)) (v1 pT))))) <|Xy [(416,1)] pz (by simp only [jJ,ce,hq0,hf0,hb0,h5,aB,aA] <;> rfl)
theorem oF (k:Nat) (xs p3:List Int):ce k xs p3≤k+p3.length+5:=by
 have h0:∀ k,(itr aM k p3).length≤p3.length:=by
  intro k
  induction k with
  |zero=>rw [aX];exact Nat.le_refl _
  |succ k ih=>rw [aQ];show ((((itr aM k p3).drop 1).take ((itr aM k p3).length-1)).length≤_);simp only [List.length_take,List.length_drop];omega
 have s0:∀ (b:Bool) (x y:Nat),x≤k+p3.length+5→y≤k+p3.length+5→sel b x y≤k+p3.length+5:=by
  intro b x y hx hy
  cases b
  ·rw [aA];exact hy
  ·rw [aB];exact hx
 have h1:=h0 (ar (cf p3) p3.length)
 have h2:=h0 p3.length
 unfold ce
 repeat first|omega|apply s0
def qu (k0:Nat) (z0:List Int):List Int :=
 (z0.drop 1).take (z0.length-1)
def sH (p3:List Int) (k0:Nat):Bool :=
 (sel (((itr (qu) k0 p3).getD 0 0:Int)==0) false true)
def qk (p0:Nat) (p2:List Int) (p3:Bool):List Int :=
 (sel p3 (p2++[1]) (p2++[0]))
def Ce:List AV→List Blk→Option (Prop × Ret)
 |[.sc (.sl 0 0 p0 1 none),.sc (.b p3)],[.ints .u8 p1 p2]=>some (((p0=p1)∧(p0≤1000000000)),⟨.sc (.sl 1 0 (p0+1) 1 none),[none,some (.ints .u8 (p0+1) (qk p0 p2 p3))]⟩)
 |_,_=>none
theorem Ki:Known Tryz.prog gD 65 ⟨1,1,Ce⟩:=by
 refine Xw Tryz.f65 12 Zn mixed <|fun E args ks C r h hC hlen=>?_
 simp only at h
 unfold Ce at h
 split at h
 rotate_left
 cases h
 rename_i p0 p3 p1 p2
 cases h
 simp only [am] at hlen
 obtain ⟨hEp1,hC⟩:=hC
 subst hEp1
 refine ⟨rfl,?_⟩
 refine Xs [] [] 32 (v1 pT) <|Tri.seq <|Xs [Eb 5 p3] [1] 48 (v1 pT) <|Xa (fun h1=>?_) (fun h1=>?_)
 exact Xt [El 4 80 (p0+1)] [5,0] [Mi 80 (p0+1) (p2++[1])] [0] 112 (v1 (pu (Yf 1) (pu (Ya (Yw 1) 1 (p0+1) 1 1 p0 p0) (v1 pT)))) <|Xy [(80,1)] pz (by simp only [qk,h1,aB,aA] <;> rfl)
 exact Tri.skip <|Xt [El 4 80 (p0+1)] [5,0] [Mi 80 (p0+1) (p2++[0])] [0] 112 (v1 (pu (Yf 1) (pu (Ya (Yw 1) 1 (p0+1) 1 1 p0 p0) (v1 pT)))) <|Xy [(80,1)] pz (by simp only [qk,h1,aB,aA] <;> rfl)
end Go.Vm
end
