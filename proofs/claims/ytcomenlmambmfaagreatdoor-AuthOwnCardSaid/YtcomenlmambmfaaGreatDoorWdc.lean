/- A part of a proof (pack3): the small machine that walks the program, the walks of its functions, and what they compute in plain. -/
import Derived.Test.YtcomenlmambmfaaGreatDoorWdb
import Derived.Test.YtcomenlmambmfaaGreatDoorChecked
set_option maxHeartbeats 2000000
set_option maxRecDepth 100000
set_option linter.unusedVariables false
set_option linter.unusedSimpArgs false
noncomputable section
namespace Go.Vm
open Go Go.Proofs
def qV (p0:Int) (p1:Int):List Int :=
 (F20 (F30 p0) (F25 (F30 p1)))
def Kv:List AV→List Blk→Option (Prop × Ret)
 |[.sc (.i .u32 p0),.sc (.i .u32 p1)],[]=>some (True,⟨.ints .u64 5 (qV p0 p1),[]⟩)
 |_,_=>none
theorem Kj:Known Tryz.prog gD 101 ⟨0,0,Kv⟩:=by
 refine Xw Tryz.f101 11 (Zv K30 48 1 <|Zv K30 80 1 <|Zv K25 96 1 <|Zv K20 112 2 <|Zn) mixed <|fun E args ks C r h hC hlen=>?_
 simp only at h
 unfold Kv at h
 split at h
 rotate_left
 cases h
 rename_i p0 p1
 cases h
 simp only [bI] at hlen
 refine ⟨rfl,?_⟩
 exact Xt [Ep 4 16] [] [Mk 16 .u64 5 [0,0,0,0,0]] [] 32 (v1 pT) <|Xt [] [0,1] [Mk 16 .u64 5 (F20 (F30 p0) (F25 (F30 p1)))] [16] 144 (v1 (pu pz (v1 (pu pz (pu pz (pu pz (pu (Yz 5) pT))))))) <|Xz [] pz
def bu:List Int :=
 (F18 (F30 0) (qV 121665 121666))
def LQ:List AV→List Blk→Option (Prop × Ret)
 |[],[]=>some (True,⟨.ints .u64 5 (bu),[]⟩)
 |_,_=>none
theorem Iv:Known Tryz.prog gD 104 ⟨0,0,LQ⟩:=by
 refine Xw Tryz.f104 4 (Zv Kj 48 2 <|Zv K30 32 1 <|Zv K18 64 2 <|Zn) mixed <|fun E args ks C r h hC hlen=>?_
 simp only at h
 unfold LQ at h
 split at h
 rotate_left
 cases h
 cases h
 simp only [bI] at hlen
 refine ⟨rfl,?_⟩
 exact Xt [Ep 0 16] [] [Mk 16 .u64 5 [0,0,0,0,0]] [] 32 (v1 pT) <|Xt [] [] [Mk 16 .u64 5 (F18 (F30 0) (qV 121665 121666))] [16] 96 (pu pz (pu pz (pu pz (pu (Yz 5) pT)))) <|Xz [] pz
def ia (p0:List Int):List Int :=
 (sel (!(kR p0)) [0,0,0,0,0,0,0,0,0,0,0,0,0,0,0,0,0,0,0,0] (sel (((iOr .u8 ((F33 (F23 p0)).getD 31 0) (ai .u8 (p0.getD 31 0) 128)):Int) != p0.getD 31 0) [0,0,0,0,0,0,0,0,0,0,0,0,0,0,0,0,0,0,0,0] (sel (!(aC (bytesOf (((F33 (F23 p0)).drop 0).take 31)) (bytesOf ((p0.drop 0).take 31)))) [0,0,0,0,0,0,0,0,0,0,0,0,0,0,0,0,0,0,0,0] (sel (!(ra (F20 (F18 (F20 (F23 p0) (F23 p0)) (F30 1)) (F25 (F16 (F20 (F20 (F23 p0) (F23 p0)) (bu)) (F30 1)))))) [0,0,0,0,0,0,0,0,0,0,0,0,0,0,0,0,0,0,0,0] (sel (F29 (F34 (F20 (F18 (F20 (F23 p0) (F23 p0)) (F30 1)) (F25 (F16 (F20 (F20 (F23 p0) (F23 p0)) (bu)) (F30 1))))) (F30 0)) (sel (decide ((p0.getD 31 0:Int) ≥ 128)) [0,0,0,0,0,0,0,0,0,0,0,0,0,0,0,0,0,0,0,0] (aZ (aZ (aZ (aZ [0,0,0,0,0,0,0,0,0,0,0,0,0,0,0,0,0,0,0,0] 0 (sel (!((F32 (F34 (F20 (F18 (F20 (F23 p0) (F23 p0)) (F30 1)) (F25 (F16 (F20 (F20 (F23 p0) (F23 p0)) (bu)) (F30 1))))))==(decide ((p0.getD 31 0:Int) ≥ 128)))) (F18 (F30 0) (F34 (F20 (F18 (F20 (F23 p0) (F23 p0)) (F30 1)) (F25 (F16 (F20 (F20 (F23 p0) (F23 p0)) (bu)) (F30 1)))))) (F34 (F20 (F18 (F20 (F23 p0) (F23 p0)) (F30 1)) (F25 (F16 (F20 (F20 (F23 p0) (F23 p0)) (bu)) (F30 1))))))) 5 (F23 p0)) 10 (F30 1)) 15 (F20 (sel (!((F32 (F34 (F20 (F18 (F20 (F23 p0) (F23 p0)) (F30 1)) (F25 (F16 (F20 (F20 (F23 p0) (F23 p0)) (bu)) (F30 1))))))==(decide ((p0.getD 31 0:Int) ≥ 128)))) (F18 (F30 0) (F34 (F20 (F18 (F20 (F23 p0) (F23 p0)) (F30 1)) (F25 (F16 (F20 (F20 (F23 p0) (F23 p0)) (bu)) (F30 1)))))) (F34 (F20 (F18 (F20 (F23 p0) (F23 p0)) (F30 1)) (F25 (F16 (F20 (F20 (F23 p0) (F23 p0)) (bu)) (F30 1)))))) (F23 p0)))) (aZ (aZ (aZ (aZ [0,0,0,0,0,0,0,0,0,0,0,0,0,0,0,0,0,0,0,0] 0 (sel (!((F32 (F34 (F20 (F18 (F20 (F23 p0) (F23 p0)) (F30 1)) (F25 (F16 (F20 (F20 (F23 p0) (F23 p0)) (bu)) (F30 1))))))==(decide ((p0.getD 31 0:Int) ≥ 128)))) (F18 (F30 0) (F34 (F20 (F18 (F20 (F23 p0) (F23 p0)) (F30 1)) (F25 (F16 (F20 (F20 (F23 p0) (F23 p0)) (bu)) (F30 1)))))) (F34 (F20 (F18 (F20 (F23 p0) (F23 p0)) (F30 1)) (F25 (F16 (F20 (F20 (F23 p0) (F23 p0)) (bu)) (F30 1))))))) 5 (F23 p0)) 10 (F30 1)) 15 (F20 (sel (!((F32 (F34 (F20 (F18 (F20 (F23 p0) (F23 p0)) (F30 1)) (F25 (F16 (F20 (F20 (F23 p0) (F23 p0)) (bu)) (F30 1))))))==(decide ((p0.getD 31 0:Int) ≥ 128)))) (F18 (F30 0) (F34 (F20 (F18 (F20 (F23 p0) (F23 p0)) (F30 1)) (F25 (F16 (F20 (F20 (F23 p0) (F23 p0)) (bu)) (F30 1)))))) (F34 (F20 (F18 (F20 (F23 p0) (F23 p0)) (F30 1)) (F25 (F16 (F20 (F20 (F23 p0) (F23 p0)) (bu)) (F30 1)))))) (F23 p0))))))))
def gR (p0:List Int):Bool :=
 (sel (!(kR p0)) false (sel (((iOr .u8 ((F33 (F23 p0)).getD 31 0) (ai .u8 (p0.getD 31 0) 128)):Int) != p0.getD 31 0) false (sel (!(aC (bytesOf (((F33 (F23 p0)).drop 0).take 31)) (bytesOf ((p0.drop 0).take 31)))) false (sel (!(ra (F20 (F18 (F20 (F23 p0) (F23 p0)) (F30 1)) (F25 (F16 (F20 (F20 (F23 p0) (F23 p0)) (bu)) (F30 1)))))) false (sel (F29 (F34 (F20 (F18 (F20 (F23 p0) (F23 p0)) (F30 1)) (F25 (F16 (F20 (F20 (F23 p0) (F23 p0)) (bu)) (F30 1))))) (F30 0)) (sel (decide ((p0.getD 31 0:Int) ≥ 128)) false true) true)))))
def LH:List AV→List Blk→Option (Prop × Ret)
 |[.sc (.ro .u8 p0)],[]=>some (True,⟨.tup [.ints .u64 20 (ia p0),.sc (.b (gR p0))],[]⟩)
 |_,_=>none
def Lm:KL Tryz.prog gD:=Zv K33 224 1 <|Zv Iv 720 0 <|Zv K16 768 2 <|Zv K30 672 1 <|Zv K30 752 1 <|Zv K30 1072 1 <|Zv K30 1232 1 <|Zv K30 1328 1 <|Zv K25 784 1 <|Zv K20 608 2 <|Zv K20 736 2 <|Zv K20 800 2 <|Zv K20 1376 2 <|Zv K32 1184 1 <|Zv K18 688 2 <|Zv K18 1264 2 <|Zc K23 64 [.ro .u8] [] [] <|Zv K34 816 1 <|Zv K29 1088 2 <|Zn
theorem LS:Known Tryz.prog gD 103 ⟨0,0,LH⟩:=by
 refine Xw Tryz.f103 87 Lm mixed <|fun E args ks C r h hC hlen=>?_
 simp only at h
 unfold LH at h
 split at h
 rotate_left
 cases h
 rename_i p0
 cases h
 simp only [bI] at hlen
 refine ⟨rfl,?_⟩
 refine Xt [Ep 2 16] [] [Mk 16 .u64 20 [0,0,0,0,0,0,0,0,0,0,0,0,0,0,0,0,0,0,0,0]] [] 48 (v2 pT) <|Xt [Eb 5 (kR p0),Ep 4 128] [] [Mk 128 .u64 5 (F23 p0)] [] 176 (v1 (pu (pa pz pT) (v4 (pu (Yz 5) (v1 pT))))) <|Tri.seq <|Xs [Eb 17 (!(kR p0))] [5] 208 (v2 pT) <|Xa (fun h1=>?_) (fun h1=>?_)
 exact Xt [Eb 3 false] [17,4,0] [] [128] 256 (v1 (pu (Yz 20) (v1 pT))) <|Xy [] (pa pT pz) (by simp only [ia,gR,h1,aD,aA] <;> rfl)
 refine Tri.skip <|Xt [Ep 6 240] [17] [Mi 240 32 (F33 (F23 p0))] [] 272 (v1 (pu pz (v1 (pu (Yz 32) pT)))) <|Tri.seq <|Tri.split (((iOr .u8 ((F33 (F23 p0)).getD 31 0) (ai .u8 (p0.getD 31 0) 128)):Int) != p0.getD 31 0) (fun h2=>?_) (fun h2=>?_)
 have h2':=di h2
 refine Xu [Eb 32 true] (some [0,1,0,4,12,28,63,0,128,384,1023,2047,4095,8191,4095,20479,53247,131071,262143]) [Eb 39 true] [6] [] [240] 576 (pu (Yi 31 32) (pu (Yl 31 32) (v1 (pu (pl (show (0:Int)≤31∧31<(p0.length:Int) from by (have hl:=ip (p0:=p0) (by assumption);omega))) (pu (pl (show 31<p0.length from by (have hl:=ip (p0:=p0) (by assumption);omega))) (v3 (pu (pl (show (0:Int)≤31∧31<(p0.length:Int) from by (have hl:=ip (p0:=p0) (by assumption);omega))) (pu (pl (show 31<p0.length from by (have hl:=ip (p0:=p0) (by assumption);omega))) (v1 (pg h2 (v7 pT))))))))))) ?_
 exact Tri.cond_true (by kernel_rfl) <|Xt [Eb 3 false] [39,4,0] [] [128] 624 (v1 (pu (Yz 20) (v1 pT))) <|Xy [] (pa pT pz) (by simp only [ia,gR,h1,h2,aD,aA] <;> rfl)
 have h2':=bz h2
 refine Xu [Eb 32 false] (some [0,1,0,4,12,28,63,0,128,384,1023,2047,4095,8191,4095,20479,53247,131071,262143]) [Eb 39 (!(aC (bytesOf (((F33 (F23 p0)).drop 0).take 31)) (bytesOf ((p0.drop 0).take 31))))] [6] [] [240] 576 (pu (Yi 31 32) (pu (Yl 31 32) (v1 (pu (pl (show (0:Int)≤31∧31<(p0.length:Int) from by (have hl:=ip (p0:=p0) (by assumption);omega))) (pu (pl (show 31<p0.length from by (have hl:=ip (p0:=p0) (by assumption);omega))) (v3 (pu (pl (show (0:Int)≤31∧31<(p0.length:Int) from by (have hl:=ip (p0:=p0) (by assumption);omega))) (pu (pl (show 31<p0.length from by (have hl:=ip (p0:=p0) (by assumption);omega))) (v1 (pg h2 (pu (pa (lo ((0:Int)≤0∧(0:Int)≤31∧31≤((32:Nat):Int))) (Ye 32 32)) (pu (Ye (0+31) 32) (v1 (pu (pl (show (0:Int)≤0∧(0:Int)≤31∧31≤(p0.length:Int) from by (have hl:=ip (p0:=p0) (by assumption);omega))) (v3 pT))))))))))))))) ?_
 refine Xa (fun h3=>?_) (fun h3=>?_)
 exact Xt [Eb 3 false] [39,4,0] [] [128] 624 (v1 (pu (Yz 20) (v1 pT))) <|Xy [] (pa pT pz) (by simp only [ia,gR,h1,h2,h3,aD,aA] <;> rfl)
 refine Tri.skip <|Xt [Ep 7 624] [39] [Mk 624 .u64 5 (F20 (F23 p0) (F23 p0))] [] 656 (v2 (pu pz (v1 (pu (Yz 5) pT)))) <|Xu [] (some [0,0,3,0,7,31,63,127,255,511,1023,2047,4095,4095,0,24575,65535]) [Eb 9 (ra (F20 (F18 (F20 (F23 p0) (F23 p0)) (F30 1)) (F25 (F16 (F20 (F20 (F23 p0) (F23 p0)) (bu)) (F30 1))))),Ep 8 880] [7] [Mk 880 .u64 5 (F34 (F20 (F18 (F20 (F23 p0) (F23 p0)) (F30 1)) (F25 (F16 (F20 (F20 (F23 p0) (F23 p0)) (bu)) (F30 1)))))] [624] 928 (v1 (pu pz (pu pz (v1 (pu pz (pu pz (pu pz (pu pz (pu pz (pu pz (pu pz (v4 (pu (Yz 5) (v1 pT)))))))))))))) <|Xs [Eb 10 (decide ((p0.getD 31 0:Int) ≥ 128))] [0] 1008 (v1 (pu (pl (show (0:Int)≤31∧31<(p0.length:Int) from by (have hl:=ip (p0:=p0) (by assumption);omega))) (pu (pl (show 31<p0.length from by (have hl:=ip (p0:=p0) (by assumption);omega))) (v2 pT)))) ?_
 refine Tri.seq <|Tri.split (!(ra (F20 (F18 (F20 (F23 p0) (F23 p0)) (F30 1)) (F25 (F16 (F20 (F20 (F23 p0) (F23 p0)) (bu)) (F30 1)))))) (fun h4=>?_) (fun h4=>?_)
 exact Xu [Eb 64 true] (some [0,1,3,7,7,31,63,127,255,511]) [Eb 71 true] [9] [] [] 1168 (v2 (pg h4 (v7 pT))) <|Tri.cond_true (by kernel_rfl) <|Xt [Eb 3 false] [71,10,8,4] [] [880,128] 1216 (v1 (pu (Yz 20) (v1 pT))) <|Xy [] (pa pT pz) (by simp only [ia,gR,h1,h2,h3,h4,aD,aA] <;> rfl)
 refine Tri.split (F29 (F34 (F20 (F18 (F20 (F23 p0) (F23 p0)) (F30 1)) (F25 (F16 (F20 (F20 (F23 p0) (F23 p0)) (bu)) (F30 1))))) (F30 0)) (fun h5=>?_) (fun h5=>?_)
 refine Xu [Eb 64 false,Eb 68 true] (some [0,1,3,7,7,31,63,127,255,511]) [Eb 71 (decide ((p0.getD 31 0:Int) ≥ 128))] [9] [] [] 1168 (v2 (pg h4 (v1 (pu pz (pu pz (pg h5 (v3 pT))))))) <|Xb (fun h6 h6'=>?_) (fun h6 h6'=>?_)
 exact Xt [Eb 3 false] [71,10,8,4] [] [880,128] 1216 (v1 (pu (Yz 20) (v1 pT))) <|Xy [] (pa pT pz) (by simp only [ia,gR,h1,h2,h3,h4,h5,h6,aD,aA] <;> rfl)
 refine Tri.skip <|Tri.seq <|Xs [Eb 76 (!((F32 (F34 (F20 (F18 (F20 (F23 p0) (F23 p0)) (F30 1)) (F25 (F16 (F20 (F20 (F23 p0) (F23 p0)) (bu)) (F30 1))))))==(decide ((p0.getD 31 0:Int) ≥ 128))))] [71,10] 1232 (v1 (pu pz (v2 pT))) <|Xj (x:=(!((F32 (F34 (F20 (F18 (F20 (F23 p0) (F23 p0)) (F30 1)) (F25 (F16 (F20 (F20 (F23 p0) (F23 p0)) (bu)) (F30 1))))))==(decide ((p0.getD 31 0:Int) ≥ 128))))) (fun bb=>[]) [76] (fun bb=>[Mk 880 .u64 5 (sel bb (F18 (F30 0) (F34 (F20 (F18 (F20 (F23 p0) (F23 p0)) (F30 1)) (F25 (F16 (F20 (F20 (F23 p0) (F23 p0)) (bu)) (F30 1)))))) (F34 (F20 (F18 (F20 (F23 p0) (F23 p0)) (F30 1)) (F25 (F16 (F20 (F20 (F23 p0) (F23 p0)) (bu)) (F30 1))))))]) [880] 1296 (fun h7=>?_) (fun h7=>?_) ?_
 exact Wu [] (some [0,0,3,7]) [] [76] [Mk 880 .u64 5 (F18 (F30 0) (F34 (F20 (F18 (F20 (F23 p0) (F23 p0)) (F30 1)) (F25 (F16 (F20 (F20 (F23 p0) (F23 p0)) (bu)) (F30 1))))))] [880] 1296 (pu pz (v1 (pu pz (pu (Yz 5) pT)))) <|Xe [] [Mk 880 .u64 5 (F18 (F30 0) (F34 (F20 (F18 (F20 (F23 p0) (F23 p0)) (F30 1)) (F25 (F16 (F20 (F20 (F23 p0) (F23 p0)) (bu)) (F30 1))))))]
 exact Tri.skip <|Xe [] [Mk 880 .u64 5 (F34 (F20 (F18 (F20 (F23 p0) (F23 p0)) (F30 1)) (F25 (F16 (F20 (F20 (F23 p0) (F23 p0)) (bu)) (F30 1)))))]
 exact Xu [] (some [0,0,0,0,0,28,63,127,255]) [Eb 3 true] [8,4] [Mk 16 .u64 20 (aZ (aZ (aZ (aZ [0,0,0,0,0,0,0,0,0,0,0,0,0,0,0,0,0,0,0,0] 0 (sel (!((F32 (F34 (F20 (F18 (F20 (F23 p0) (F23 p0)) (F30 1)) (F25 (F16 (F20 (F20 (F23 p0) (F23 p0)) (bu)) (F30 1))))))==(decide ((p0.getD 31 0:Int) ≥ 128)))) (F18 (F30 0) (F34 (F20 (F18 (F20 (F23 p0) (F23 p0)) (F30 1)) (F25 (F16 (F20 (F20 (F23 p0) (F23 p0)) (bu)) (F30 1)))))) (F34 (F20 (F18 (F20 (F23 p0) (F23 p0)) (F30 1)) (F25 (F16 (F20 (F20 (F23 p0) (F23 p0)) (bu)) (F30 1))))))) 5 (F23 p0)) 10 (F30 1)) 15 (F20 (sel (!((F32 (F34 (F20 (F18 (F20 (F23 p0) (F23 p0)) (F30 1)) (F25 (F16 (F20 (F20 (F23 p0) (F23 p0)) (bu)) (F30 1))))))==(decide ((p0.getD 31 0:Int) ≥ 128)))) (F18 (F30 0) (F34 (F20 (F18 (F20 (F23 p0) (F23 p0)) (F30 1)) (F25 (F16 (F20 (F20 (F23 p0) (F23 p0)) (bu)) (F30 1)))))) (F34 (F20 (F18 (F20 (F23 p0) (F23 p0)) (F30 1)) (F25 (F16 (F20 (F20 (F23 p0) (F23 p0)) (bu)) (F30 1)))))) (F23 p0)))] [880,128,16] 1440 (v2 (pu pz (v2 (pu pz (pu (pa (pa (Ye (0+5) 20) (Yr 5)) (pa (pa (Ye (5+5) 20) (Yr 5)) (pa (pa (Ye (10+5) 20) (Yr 5)) (pa (pa (Ye (15+5) 20) (Yr 5)) pT)))) (pu (Yz 20) (v1 pT))))))) <|Xy (r':=⟨.tup [.ints .u64 20 (aZ (aZ (aZ (aZ [0,0,0,0,0,0,0,0,0,0,0,0,0,0,0,0,0,0,0,0] 0 (sel (!((F32 (F34 (F20 (F18 (F20 (F23 p0) (F23 p0)) (F30 1)) (F25 (F16 (F20 (F20 (F23 p0) (F23 p0)) (bu)) (F30 1))))))==(decide ((p0.getD 31 0:Int) ≥ 128)))) (F18 (F30 0) (F34 (F20 (F18 (F20 (F23 p0) (F23 p0)) (F30 1)) (F25 (F16 (F20 (F20 (F23 p0) (F23 p0)) (bu)) (F30 1)))))) (F34 (F20 (F18 (F20 (F23 p0) (F23 p0)) (F30 1)) (F25 (F16 (F20 (F20 (F23 p0) (F23 p0)) (bu)) (F30 1))))))) 5 (F23 p0)) 10 (F30 1)) 15 (F20 (sel (!((F32 (F34 (F20 (F18 (F20 (F23 p0) (F23 p0)) (F30 1)) (F25 (F16 (F20 (F20 (F23 p0) (F23 p0)) (bu)) (F30 1))))))==(decide ((p0.getD 31 0:Int) ≥ 128)))) (F18 (F30 0) (F34 (F20 (F18 (F20 (F23 p0) (F23 p0)) (F30 1)) (F25 (F16 (F20 (F20 (F23 p0) (F23 p0)) (bu)) (F30 1)))))) (F34 (F20 (F18 (F20 (F23 p0) (F23 p0)) (F30 1)) (F25 (F16 (F20 (F20 (F23 p0) (F23 p0)) (bu)) (F30 1)))))) (F23 p0))),.sc (.b true)],[]⟩) [] (pa pT pz) (by simp only [ia,gR,h1,h2,h3,h4,h5,h6,aD,aA])
 refine Xu [Eb 64 false,Eb 68 false] (some [0,1,3,7,7,31,63,127,255,511]) [Eb 71 false] [9] [] [] 1168 (v2 (pg h4 (v1 (pu pz (pu pz (pg h5 (v3 pT))))))) <|Tri.cond_false (by kernel_rfl) <|Tri.skip <|Tri.seq <|Xs [Eb 76 (!((F32 (F34 (F20 (F18 (F20 (F23 p0) (F23 p0)) (F30 1)) (F25 (F16 (F20 (F20 (F23 p0) (F23 p0)) (bu)) (F30 1))))))==(decide ((p0.getD 31 0:Int) ≥ 128))))] [71,10] 1232 (v1 (pu pz (v2 pT))) <|Xj (x:=(!((F32 (F34 (F20 (F18 (F20 (F23 p0) (F23 p0)) (F30 1)) (F25 (F16 (F20 (F20 (F23 p0) (F23 p0)) (bu)) (F30 1))))))==(decide ((p0.getD 31 0:Int) ≥ 128))))) (fun bb=>[]) [76] (fun bb=>[Mk 880 .u64 5 (sel bb (F18 (F30 0) (F34 (F20 (F18 (F20 (F23 p0) (F23 p0)) (F30 1)) (F25 (F16 (F20 (F20 (F23 p0) (F23 p0)) (bu)) (F30 1)))))) (F34 (F20 (F18 (F20 (F23 p0) (F23 p0)) (F30 1)) (F25 (F16 (F20 (F20 (F23 p0) (F23 p0)) (bu)) (F30 1))))))]) [880] 1296 (fun h8=>?_) (fun h8=>?_) ?_
 exact Wu [] (some [0,0,3,7]) [] [76] [Mk 880 .u64 5 (F18 (F30 0) (F34 (F20 (F18 (F20 (F23 p0) (F23 p0)) (F30 1)) (F25 (F16 (F20 (F20 (F23 p0) (F23 p0)) (bu)) (F30 1))))))] [880] 1296 (pu pz (v1 (pu pz (pu (Yz 5) pT)))) <|Xe [] [Mk 880 .u64 5 (F18 (F30 0) (F34 (F20 (F18 (F20 (F23 p0) (F23 p0)) (F30 1)) (F25 (F16 (F20 (F20 (F23 p0) (F23 p0)) (bu)) (F30 1))))))]
 exact Tri.skip <|Xe [] [Mk 880 .u64 5 (F34 (F20 (F18 (F20 (F23 p0) (F23 p0)) (F30 1)) (F25 (F16 (F20 (F20 (F23 p0) (F23 p0)) (bu)) (F30 1)))))]
 exact Xu [] (some [0,0,0,0,0,28,63,127,255]) [Eb 3 true] [8,4] [Mk 16 .u64 20 (aZ (aZ (aZ (aZ [0,0,0,0,0,0,0,0,0,0,0,0,0,0,0,0,0,0,0,0] 0 (sel (!((F32 (F34 (F20 (F18 (F20 (F23 p0) (F23 p0)) (F30 1)) (F25 (F16 (F20 (F20 (F23 p0) (F23 p0)) (bu)) (F30 1))))))==(decide ((p0.getD 31 0:Int) ≥ 128)))) (F18 (F30 0) (F34 (F20 (F18 (F20 (F23 p0) (F23 p0)) (F30 1)) (F25 (F16 (F20 (F20 (F23 p0) (F23 p0)) (bu)) (F30 1)))))) (F34 (F20 (F18 (F20 (F23 p0) (F23 p0)) (F30 1)) (F25 (F16 (F20 (F20 (F23 p0) (F23 p0)) (bu)) (F30 1))))))) 5 (F23 p0)) 10 (F30 1)) 15 (F20 (sel (!((F32 (F34 (F20 (F18 (F20 (F23 p0) (F23 p0)) (F30 1)) (F25 (F16 (F20 (F20 (F23 p0) (F23 p0)) (bu)) (F30 1))))))==(decide ((p0.getD 31 0:Int) ≥ 128)))) (F18 (F30 0) (F34 (F20 (F18 (F20 (F23 p0) (F23 p0)) (F30 1)) (F25 (F16 (F20 (F20 (F23 p0) (F23 p0)) (bu)) (F30 1)))))) (F34 (F20 (F18 (F20 (F23 p0) (F23 p0)) (F30 1)) (F25 (F16 (F20 (F20 (F23 p0) (F23 p0)) (bu)) (F30 1)))))) (F23 p0)))] [880,128,16] 1440 (v2 (pu pz (v2 (pu pz (pu (pa (pa (Ye (0+5) 20) (Yr 5)) (pa (pa (Ye (5+5) 20) (Yr 5)) (pa (pa (Ye (10+5) 20) (Yr 5)) (pa (pa (Ye (15+5) 20) (Yr 5)) pT)))) (pu (Yz 20) (v1 pT))))))) <|Xy [] (pa pT pz) (by simp only [ia,gR,h1,h2,h3,h4,h5,aD,aA] <;> rfl)
theorem ov {p0:List Int} (h:(!(gR p0))=false):p0.length=32:=by
 unfold gR at h
 cases hb:(!(kR p0))
 ·exact ip hb
 ·rw [hb,aD] at h
  cases h
def EX (p0:List Int):List Int :=
 (sel (F32 (F20 ((p0.drop 0).take 5) (F25 ((p0.drop 10).take 5)))) ((F33 (F20 ((p0.drop 5).take 5) (F25 ((p0.drop 10).take 5)))).set 31 (iOr .u8 ((F33 (F20 ((p0.drop 5).take 5) (F25 ((p0.drop 10).take 5)))).getD 31 0) 128)) (F33 (F20 ((p0.drop 5).take 5) (F25 ((p0.drop 10).take 5)))))
def LT:List AV→List Blk→Option (Prop × Ret)
 |[.ints .u64 20 p0],[]=>some (True,⟨.sc (.sl 0 0 32 1 (some 32)),[some (.ints .u8 32 (EX p0))]⟩)
 |_,_=>none
theorem Ly:Known Tryz.prog gD 63 ⟨0,1,LT⟩:=by
 refine Xw Tryz.f63 23 (Zv K33 192 1 <|Zv K25 80 1 <|Zv K20 176 2 <|Zv K20 288 2 <|Zv K32 304 1 <|Zn) mixed <|fun E args ks C r h hC hlen=>?_
 simp only at h
 unfold LT at h
 split at h
 rotate_left
 cases h
 rename_i p0
 cases h
 simp only [bI] at hlen
 refine ⟨rfl,?_⟩
 refine Xt [Ep 1 16] [0] [Mk 16 .u64 20 p0] [] 48 (v2 pT) <|Xt [Ep 3 96] [] [Mk 96 .u64 5 (F25 ((p0.drop 10).take 5))] [] 128 (v1 (pu (Ye (10+5) 20) (pu pz (v1 (pu (Yz 5) pT))))) <|Xt [Ep 4 208] [] [Mi 208 32 (F33 (F20 ((p0.drop 5).take 5) (F25 ((p0.drop 10).take 5))))] [] 240 (v1 (pu (Ye (5+5) 20) (v1 (pu pz (pu pz (v1 (pu (Yz 32) pT))))))) <|Tri.seq <|Xt [Eb 17 (F32 (F20 ((p0.drop 0).take 5) (F25 ((p0.drop 10).take 5))))] [3,1] [] [96,16] 320 (v1 (pu (Ye (0+5) 20) (v1 (pu pz (pu pz pT))))) <|Xj (x:=(F32 (F20 ((p0.drop 0).take 5) (F25 ((p0.drop 10).take 5))))) (fun bb=>[]) [17] (fun bb=>[Mi 208 32 (sel bb ((F33 (F20 ((p0.drop 5).take 5) (F25 ((p0.drop 10).take 5)))).set 31 (iOr .u8 ((F33 (F20 ((p0.drop 5).take 5) (F25 ((p0.drop 10).take 5)))).getD 31 0) 128)) (F33 (F20 ((p0.drop 5).take 5) (F25 ((p0.drop 10).take 5)))))]) [208] 400 (fun h1=>?_) (fun h1=>?_) ?_
 exact Wt [] [17] [Mi 208 32 ((F33 (F20 ((p0.drop 5).take 5) (F25 ((p0.drop 10).take 5)))).set 31 (iOr .u8 ((F33 (F20 ((p0.drop 5).take 5) (F25 ((p0.drop 10).take 5)))).getD 31 0) 128))] [208] 400 (pu (Yi 31 32) (pu (Yl 31 32) (v1 (pu (Yi 31 32) (pu (Ys 31 32) pT))))) <|Xe [] [Mi 208 32 ((F33 (F20 ((p0.drop 5).take 5) (F25 ((p0.drop 10).take 5)))).set 31 (iOr .u8 ((F33 (F20 ((p0.drop 5).take 5) (F25 ((p0.drop 10).take 5)))).getD 31 0) 128))]
 exact Tri.skip <|Xe [] [Mi 208 32 (F33 (F20 ((p0.drop 5).take 5) (F25 ((p0.drop 10).take 5))))]
 exact Xs [(2,.sc (.sl 208 0 32 1 (some 32)))] [4] 432 (pu (pa (lo ((0:Int)≤0∧(0:Int)≤32∧32≤((32:Nat):Int))) (Ye 32 32)) (v1 pT)) <|Xz [(208,0)] pz
def lM (p0:List Int) (p1:List Int) (p2:List Int):List Int :=
 aZ (aZ (aZ (aZ [0,0,0,0,0,0,0,0,0,0,0,0,0,0,0,0,0,0,0,0] 0 (F20 (F18 (F20 (F16 ((p0.drop 5).take 5) ((p0.drop 0).take 5)) (F16 ((p1.drop 5).take 5) ((p1.drop 0).take 5))) (F20 (F18 ((p0.drop 5).take 5) ((p0.drop 0).take 5)) (F18 ((p1.drop 5).take 5) ((p1.drop 0).take 5)))) (F18 (F16 (F20 ((p0.drop 10).take 5) ((p1.drop 10).take 5)) (F20 ((p0.drop 10).take 5) ((p1.drop 10).take 5))) (F20 (F20 ((p0.drop 15).take 5) ((p1.drop 15).take 5)) p2)))) 5 (F20 (F16 (F16 (F20 ((p0.drop 10).take 5) ((p1.drop 10).take 5)) (F20 ((p0.drop 10).take 5) ((p1.drop 10).take 5))) (F20 (F20 ((p0.drop 15).take 5) ((p1.drop 15).take 5)) p2)) (F16 (F20 (F16 ((p0.drop 5).take 5) ((p0.drop 0).take 5)) (F16 ((p1.drop 5).take 5) ((p1.drop 0).take 5))) (F20 (F18 ((p0.drop 5).take 5) ((p0.drop 0).take 5)) (F18 ((p1.drop 5).take 5) ((p1.drop 0).take 5)))))) 10 (F20 (F18 (F16 (F20 ((p0.drop 10).take 5) ((p1.drop 10).take 5)) (F20 ((p0.drop 10).take 5) ((p1.drop 10).take 5))) (F20 (F20 ((p0.drop 15).take 5) ((p1.drop 15).take 5)) p2)) (F16 (F16 (F20 ((p0.drop 10).take 5) ((p1.drop 10).take 5)) (F20 ((p0.drop 10).take 5) ((p1.drop 10).take 5))) (F20 (F20 ((p0.drop 15).take 5) ((p1.drop 15).take 5)) p2)))) 15 (F20 (F18 (F20 (F16 ((p0.drop 5).take 5) ((p0.drop 0).take 5)) (F16 ((p1.drop 5).take 5) ((p1.drop 0).take 5))) (F20 (F18 ((p0.drop 5).take 5) ((p0.drop 0).take 5)) (F18 ((p1.drop 5).take 5) ((p1.drop 0).take 5)))) (F16 (F20 (F16 ((p0.drop 5).take 5) ((p0.drop 0).take 5)) (F16 ((p1.drop 5).take 5) ((p1.drop 0).take 5))) (F20 (F18 ((p0.drop 5).take 5) ((p0.drop 0).take 5)) (F18 ((p1.drop 5).take 5) ((p1.drop 0).take 5)))))
def LP:List AV→List Blk→Option (Prop × Ret)
 |[.ints .u64 20 p0,.ints .u64 20 p1,.ints .u64 5 p2],[]=>some (True,⟨.ints .u64 20 (lM p0 p1 p2),[]⟩)
 |_,_=>none
def La:KL Tryz.prog gD:=Zv K16 320 2 <|Zv K16 400 2 <|Zv K16 784 2 <|Zv K16 944 2 <|Zv K16 992 2 <|Zv K20 240 2 <|Zv K20 416 2 <|Zv K20 560 2 <|Zv K20 592 2 <|Zv K20 672 2 <|Zv K20 1168 2 <|Zv K20 1216 2 <|Zv K20 1264 2 <|Zv K20 1312 2 <|Zv K18 144 2 <|Zv K18 224 2 <|Zv K18 848 2 <|Zv K18 896 2 <|Zn
theorem IJ:Known Tryz.prog gD 107 ⟨0,0,LP⟩:=by
 refine Xw Tryz.f107 77 La mixed <|fun E args ks C r h hC hlen=>?_
 simp only at h
 unfold LP at h
 split at h
 rotate_left
 cases h
 rename_i p0 p1 p2
 cases h
 simp only [bI] at hlen
 refine ⟨rfl,?_⟩
 exact Xt [Ep 6 64,Ep 5 48,Ep 4 32,Ep 3 16] [0,1,2] [Mk 64 .u64 20 [0,0,0,0,0,0,0,0,0,0,0,0,0,0,0,0,0,0,0,0],Mk 48 .u64 5 p2,Mk 32 .u64 20 p1,Mk 16 .u64 20 p0] [] 80 (v4 pT) <|Xu [] (some [0,1,0,4,15,0,32,0,128,511,1023,0,2048,0,8192,32767,0,65536,0,262144,1048575,2097151,0,0,16777215,33554431]) [Ep 8 448,Ep 7 432] [] [Mk 448 .u64 5 (F20 (F16 ((p0.drop 5).take 5) ((p0.drop 0).take 5)) (F16 ((p1.drop 5).take 5) ((p1.drop 0).take 5))),Mk 432 .u64 5 (F20 (F18 ((p0.drop 5).take 5) ((p0.drop 0).take 5)) (F18 ((p1.drop 5).take 5) ((p1.drop 0).take 5)))] [] 496 (v1 (pu (Ye (5+5) 20) (v1 (pu (Ye (0+5) 20) (pu pz (v1 (pu (Ye (5+5) 20) (v1 (pu (Ye (0+5) 20) (pu pz (pu pz (v1 (pu (Ye (5+5) 20) (v1 (pu (Ye (0+5) 20) (pu pz (v1 (pu (Ye (5+5) 20) (v1 (pu (Ye (0+5) 20) (pu pz (pu pz (v2 (pu (Yz 5) (pu (Yz 5) pT))))))))))))))))))))))))) <|Xu [] (some [0,1,0,4,15,0,63,0,128,0,512,2047,0,0,16383,32767]) [Ep 10 704,Ep 9 688] [5,4,3] [Mk 704 .u64 5 (F20 ((p0.drop 10).take 5) ((p1.drop 10).take 5)),Mk 688 .u64 5 (F20 (F20 ((p0.drop 15).take 5) ((p1.drop 15).take 5)) p2)] [48,32,16] 752 (v1 (pu (Ye (15+5) 20) (v1 (pu (Ye (15+5) 20) (pu pz (v1 (pu pz (v1 (pu (Ye (10+5) 20) (v1 (pu (Ye (10+5) 20) (pu pz (v2 (pu (Yz 5) (pu (Yz 5) pT))))))))))))))) <|Xt [] [] [Mk 704 .u64 5 (F16 (F20 ((p0.drop 10).take 5) ((p1.drop 10).take 5)) (F20 ((p0.drop 10).take 5) ((p1.drop 10).take 5)))] [704] 816 (v2 (pu pz (pu (Yz 5) pT))) <|Xu [] (some [0,0,3,0,0,31,0,0,255,0,0,2047,0,0,0,0,65535,131071,262143,524287]) [Ep 14 1056,Ep 13 1040,Ep 12 1024,Ep 11 1008] [10,9,8,7] [Mk 1056 .u64 5 (F16 (F20 (F16 ((p0.drop 5).take 5) ((p0.drop 0).take 5)) (F16 ((p1.drop 5).take 5) ((p1.drop 0).take 5))) (F20 (F18 ((p0.drop 5).take 5) ((p0.drop 0).take 5)) (F18 ((p1.drop 5).take 5) ((p1.drop 0).take 5)))),Mk 1040 .u64 5 (F16 (F16 (F20 ((p0.drop 10).take 5) ((p1.drop 10).take 5)) (F20 ((p0.drop 10).take 5) ((p1.drop 10).take 5))) (F20 (F20 ((p0.drop 15).take 5) ((p1.drop 15).take 5)) p2)),Mk 1024 .u64 5 (F18 (F16 (F20 ((p0.drop 10).take 5) ((p1.drop 10).take 5)) (F20 ((p0.drop 10).take 5) ((p1.drop 10).take 5))) (F20 (F20 ((p0.drop 15).take 5) ((p1.drop 15).take 5)) p2)),Mk 1008 .u64 5 (F18 (F20 (F16 ((p0.drop 5).take 5) ((p0.drop 0).take 5)) (F16 ((p1.drop 5).take 5) ((p1.drop 0).take 5))) (F20 (F18 ((p0.drop 5).take 5) ((p0.drop 0).take 5)) (F18 ((p1.drop 5).take 5) ((p1.drop 0).take 5))))] [704,688,448,432] 1136 (v2 (pu pz (v2 (pu pz (v2 (pu pz (v2 (pu pz (v4 (pu (Yz 5) (pu (Yz 5) (pu (Yz 5) (pu (Yz 5) pT))))))))))))) <|Xu [] (some [0,0,3,0,0,31,0,0,255,0,0,2047,4095,8191]) [] [14,13,12,11] [Mk 64 .u64 20 (aZ (aZ (aZ (aZ [0,0,0,0,0,0,0,0,0,0,0,0,0,0,0,0,0,0,0,0] 0 (F20 (F18 (F20 (F16 ((p0.drop 5).take 5) ((p0.drop 0).take 5)) (F16 ((p1.drop 5).take 5) ((p1.drop 0).take 5))) (F20 (F18 ((p0.drop 5).take 5) ((p0.drop 0).take 5)) (F18 ((p1.drop 5).take 5) ((p1.drop 0).take 5)))) (F18 (F16 (F20 ((p0.drop 10).take 5) ((p1.drop 10).take 5)) (F20 ((p0.drop 10).take 5) ((p1.drop 10).take 5))) (F20 (F20 ((p0.drop 15).take 5) ((p1.drop 15).take 5)) p2)))) 5 (F20 (F16 (F16 (F20 ((p0.drop 10).take 5) ((p1.drop 10).take 5)) (F20 ((p0.drop 10).take 5) ((p1.drop 10).take 5))) (F20 (F20 ((p0.drop 15).take 5) ((p1.drop 15).take 5)) p2)) (F16 (F20 (F16 ((p0.drop 5).take 5) ((p0.drop 0).take 5)) (F16 ((p1.drop 5).take 5) ((p1.drop 0).take 5))) (F20 (F18 ((p0.drop 5).take 5) ((p0.drop 0).take 5)) (F18 ((p1.drop 5).take 5) ((p1.drop 0).take 5)))))) 10 (F20 (F18 (F16 (F20 ((p0.drop 10).take 5) ((p1.drop 10).take 5)) (F20 ((p0.drop 10).take 5) ((p1.drop 10).take 5))) (F20 (F20 ((p0.drop 15).take 5) ((p1.drop 15).take 5)) p2)) (F16 (F16 (F20 ((p0.drop 10).take 5) ((p1.drop 10).take 5)) (F20 ((p0.drop 10).take 5) ((p1.drop 10).take 5))) (F20 (F20 ((p0.drop 15).take 5) ((p1.drop 15).take 5)) p2)))) 15 (F20 (F18 (F20 (F16 ((p0.drop 5).take 5) ((p0.drop 0).take 5)) (F16 ((p1.drop 5).take 5) ((p1.drop 0).take 5))) (F20 (F18 ((p0.drop 5).take 5) ((p0.drop 0).take 5)) (F18 ((p1.drop 5).take 5) ((p1.drop 0).take 5)))) (F16 (F20 (F16 ((p0.drop 5).take 5) ((p0.drop 0).take 5)) (F16 ((p1.drop 5).take 5) ((p1.drop 0).take 5))) (F20 (F18 ((p0.drop 5).take 5) ((p0.drop 0).take 5)) (F18 ((p1.drop 5).take 5) ((p1.drop 0).take 5))))))] [1056,1040,1024,1008,64] 1360 (v2 (pu pz (v2 (pu pz (v2 (pu pz (v2 (pu pz (pu (pa (pa (Ye (0+5) 20) (Yr 5)) (pa (pa (Ye (5+5) 20) (Yr 5)) (pa (pa (Ye (10+5) 20) (Yr 5)) (pa (pa (Ye (15+5) 20) (Yr 5)) pT)))) (pu (Yz 20) pT)))))))))) <|Xz [] pz
def oK (p0:List Int) (p1:List Int) (k0:Nat) (z0:List Int):List Int :=
 (sel (((ai .u8 (aa .u8 (p1.getD (((8*p1.length)-1-k0)/8) 0) ((((8*p1.length)-1-k0) % 8:Nat):Int)) 1):Int)==1) (lM (lM z0 z0 (F16 (bu) (bu))) p0 (F16 (bu) (bu))) (lM z0 z0 (F16 (bu) (bu))))
def vw (p0:List Int) (p1:List Int):List Int :=
 (itr (oK p0 p1) (8*p1.length) (aZ (aZ [0,0,0,0,0,0,0,0,0,0,0,0,0,0,0,0,0,0,0,0] 5 (F30 1)) 10 (F30 1)))
def Jw:List AV→List Blk→Option (Prop × Ret)
 |[.ints .u64 20 p0,.sc (.ro .u8 p1)],[]=>some ((p1.length≤1000000),⟨.ints .u64 20 (vw p0 p1),[]⟩)
 |_,_=>none
theorem Jp:Known Tryz.prog gD 62 ⟨0,0,Jw⟩:=by
 refine Xw Tryz.f62 42 (Zv Iv 48 0 <|Zv K16 128 2 <|Zv K30 160 1 <|Zv K30 176 1 <|Zv IJ 400 3 <|Zv IJ 640 3 <|Zn) mixed <|fun E args ks C r h hC hlen=>?_
 simp only at h
 unfold Jw at h
 split at h
 rotate_left
 cases h
 rename_i p0 p1
 cases h
 simp only [bI] at hlen
 refine ⟨rfl,?_⟩
 refine Xt [Ep 4 32,Ep 2 16] [0] [Mk 32 .u64 20 [0,0,0,0,0,0,0,0,0,0,0,0,0,0,0,0,0,0,0,0],Mk 16 .u64 20 p0] [] 48 (v2 pT) <|Xt [Ep 5 64] [] [Mk 64 .u64 5 (bu)] [] 96 (pu pz (v1 (pu (Yz 5) pT))) <|Xt [] [] [Mk 64 .u64 5 (F16 (bu) (bu))] [64] 160 (v2 (pu pz (pu (Yz 5) pT))) <|Xt [Ep 6 208] [] [Mk 208 .u64 20 (aZ (aZ [0,0,0,0,0,0,0,0,0,0,0,0,0,0,0,0,0,0,0,0] 5 (F30 1)) 10 (F30 1))] [] 240 (pu pz (pu pz (pu (pa (pa (Ye (5+5) 20) (Yr 5)) (pa (pa (Ye (10+5) 20) (Yr 5)) pT)) (v1 (pu (Yz 20) pT))))) <|Tri.seq <|Xu [Ej 17 (8*p1.length),Ei 18 (((8*p1.length:Nat):Int)-1-((0:Nat):Int))] none [Ei 7 (((8*p1.length:Nat):Int)-1-((0:Nat):Int))] [] [] [] 320 (v2 (pv pT (Yt 8 p1.length) (pv pT (pl (show (ag .i64 ((8*p1.length:Nat):Int) 1)=(((8*p1.length:Nat):Int)-1-((0:Nat):Int)) from lT (by omega))) (v1 pT)))) <|Tri.block <|Xc (8*p1.length) (oK p0 p1) (aZ (aZ [0,0,0,0,0,0,0,0,0,0,0,0,0,0,0,0,0,0,0,0] 5 (F30 1)) 10 (F30 1)) (fun k0 z0=>True) (fun k0 z0=>[Ei 7 (((8*p1.length:Nat):Int)-1-((k0:Nat):Int))]) (fun k0 z0=>[Mk 208 .u64 20 z0]) trivial <|fun k0 z0 hk0 hz0 hJ0=>Tri.seq <|Xs [Eb 20 (decide (((((8*p1.length:Nat):Int)-1-((k0:Nat):Int)):Int) ≥ 0))] [] 352 (v2 pT) <|Xb (fun h1 h1'=>?_) (fun h1 h1'=>?_)
 refine Tri.skip <|Tri.seq <|Tri.block <|Xt [] [20] [Mk 208 .u64 20 (lM z0 z0 (F16 (bu) (bu)))] [208] 432 (v3 (pu pz (pu (Yz 20) pT))) <|Xu [Ej 29 (((8*p1.length)-1-k0)/8),Ej 33 (((8*p1.length)-1-k0) % 8)] none [Eb 36 (((ai .u8 (aa .u8 (p1.getD (((8*p1.length)-1-k0)/8) 0) ((((8*p1.length)-1-k0) % 8:Nat):Int)) 1):Int)==1)] [] [] [] 592 (v2 (pv (Yn 8) (pl (show (iu .i64 (((8*p1.length:Nat):Int)-1-((k0:Nat):Int)) 8)=((((8*p1.length)-1-k0)/8:Nat):Int) from by rw [il (by omega)];exact dH (b:=8) (by omega))) (pu (Yj (((8*p1.length)-1-k0)/8) p1.length) (pu (Yl (((8*p1.length)-1-k0)/8) p1.length) (v1 (pv (Yn 8) (pl (show (br (((8*p1.length:Nat):Int)-1-((k0:Nat):Int)) 8)=((((8*p1.length)-1-k0) % 8:Nat):Int) from by rw [il (by omega)];exact eK (b:=8))) (pu (Y0 ((((8*p1.length)-1-k0) % 8:Nat):Int)) (v2 pT)))))))) ?_
 refine Xj (x:=(((ai .u8 (aa .u8 (p1.getD (((8*p1.length)-1-k0)/8) 0) ((((8*p1.length)-1-k0) % 8:Nat):Int)) 1):Int)==1)) (fun bb=>[]) [36] (fun bb=>[Mk 208 .u64 20 (sel bb (lM (lM z0 z0 (F16 (bu) (bu))) p0 (F16 (bu) (bu))) (lM z0 z0 (F16 (bu) (bu))))]) [208] 672 (fun h2=>?_) (fun h2=>?_) ?_
 have h2':=dA h2
 exact Wt [] [36] [Mk 208 .u64 20 (lM (lM z0 z0 (F16 (bu) (bu))) p0 (F16 (bu) (bu)))] [208] 672 (v3 (pu pz (pu (Yz 20) pT))) <|Xe [] [Mk 208 .u64 20 (lM (lM z0 z0 (F16 (bu) (bu))) p0 (F16 (bu) (bu)))]
 have h2':=cZ h2
 exact Tri.skip <|Xe [] [Mk 208 .u64 20 (lM z0 z0 (F16 (bu) (bu)))]
 exact Wu [Ei 22 (((8*p1.length:Nat):Int)-1-((k0+1:Nat):Int))] none [Ei 7 (((8*p1.length:Nat):Int)-1-((k0+1:Nat):Int))] [7] [] [] 720 (v1 (pv pT (pl (show (ag .i64 (((8*p1.length:Nat):Int)-1-((k0:Nat):Int)) 1)=(((8*p1.length:Nat):Int)-1-((k0+1:Nat):Int)) from jh (by omega) (by omega))) (v1 pT))) <|Xo [] trivial
 refine Tri.exit <|?_
 obtain rfl:k0=(8*p1.length):=(by omega);subst hz0
 exact Xt [] [20,7,6,5,2,1] [Mk 32 .u64 20 (itr (oK p0 p1) (8*p1.length) (aZ (aZ [0,0,0,0,0,0,0,0,0,0,0,0,0,0,0,0,0,0,0,0] 5 (F30 1)) 10 (F30 1)))] [208,64,32,16] 384 (v1 (pu (Yz 20) pT)) <|Xz [] pz
def BO:List Int :=
 (ia (aH (F33 (qV 4 5)) 32 0 32))
def Kt:List AV→List Blk→Option (Prop × Ret)
 |[],[]=>some (True,⟨.ints .u64 20 (BO),[]⟩)
 |_,_=>none
theorem Le:Known Tryz.prog gD 61 ⟨0,0,Kt⟩:=by
 refine Xw Tryz.f61 12 (Zv Kj 32 2 <|Zv K33 48 1 <|Zc LS 112 [.ro .u8] [64] [] <|Zn) mixed <|fun E args ks C r h hC hlen=>?_
 simp only at h
 unfold Kt at h
 split at h
 rotate_left
 cases h
 cases h
 simp only [bI] at hlen
 refine ⟨rfl,?_⟩
 exact Xt [Ep 0 16] [] [Mk 16 .u64 20 [0,0,0,0,0,0,0,0,0,0,0,0,0,0,0,0,0,0,0,0]] [] 32 (v1 pT) <|Xt [Ep 1 64] [] [Mi 64 32 (F33 (qV 4 5))] [] 96 (pu pz (pu pz (v1 (pu (Yz 32) pT)))) <|Tri.len 64 rfl <|fun hl1=>Xt [Ep 2 176] [1] [Mk 176 .u64 20 (ia (aH (F33 (qV 4 5)) 32 0 32))] [64] 224 (pu (pa (lo ((0:Int)≤0∧(0:Int)≤32∧32≤((32:Nat):Int))) (Ye 32 32)) (pu (pa (pa (Yw 32) pT) pT) (v4 (pu (Yz 20) (v1 pT))))) <|Tri.len 176 rfl <|fun hl2=>Xt [] [2] [Mk 16 .u64 20 (ia (aH (F33 (qV 4 5)) 32 0 32))] [176,16] 256 (v1 (pu (Yz 20) pT)) <|Xz [] pz
theorem fc (x y c:Int):0≤cy x y c∧cy x y c≤1:=by unfold cy;split <;> omega
theorem fb (x y c:Int):0≤gL x y c∧gL x y c<18446744073709551616:=CJ _
theorem sp:rng xa:=gb (by decide)
theorem qd:rng ((xa.drop 0).take 4):=sp
def xV (p0:List Int) (p1:List Int) (k0:Nat) (z0:Int):Int :=
 (cy (p0.getD k0 0) (p1.getD k0 0) z0)
def sN (p0:List Int) (p1:List Int):Bool :=
 (((itr (xV p0 p1) 4 0):Int)==1)
def LM:List AV→List Blk→Option (Prop × Ret)
 |[.ints .u64 4 p0,.ints .u64 4 p1],[]=>some ((rng p0∧rng p1),⟨.sc (.b (sN p0 p1)),[]⟩)
 |_,_=>none
theorem KO:Known Tryz.prog gD 114 ⟨0,0,LM⟩:=by
 refine Xw Tryz.f114 24 (Zv Kx 256 3 <|Zn) mixed <|fun E args ks C r h hC hlen=>?_
 simp only at h
 unfold LM at h
 split at h
 rotate_left
 cases h
 rename_i p0 p1
 cases h
 simp only [bI] at hlen
 have hf1:=hC.1
 have hf2:=hC.2
 refine ⟨rfl,?_⟩
 refine Xt [Ep 3 32,Ep 2 16] [0,1] [Mk 32 .u64 4 p1,Mk 16 .u64 4 p0] [] 64 (v3 pT) <|Xs [Ek 5 .u64 0] [] 80 (v1 pT) <|Tri.seq <|Xs [Ei 7 0] [] 96 (v1 pT) <|Tri.block <|Xc 4 (xV p0 p1) 0 (fun k0 z0=>0≤z0∧z0≤1) (fun k0 z0=>[Ej 7 k0,Ek 5 .u64 z0]) (fun k0 z0=>[]) (by omega) <|fun k0 z0 hk0 hz0 hJ0=>Xs [Eb 8 (decide ((((k0:Nat):Int):Int)<4))] [] 112 (v1 pT) <|Tri.seq <|Xb (fun h1 h1'=>?_) (fun h1 h1'=>?_)
 exact Tri.skip <|Tri.seq <|Tri.block <|Xs [Ej 6 k0] [8] 144 (v2 pT) <|Wu [] (some [0,1,3,0,8,24,0,127,255,511,511,2047]) [Ek 5 .u64 (cy (p0.getD k0 0) (p1.getD k0 0) z0)] [6,5] [] [] 336 (v1 (pu (Yj k0 4) (pu (Yl k0 4) (v1 (pu (Yj k0 4) (pu (Yl k0 4) (v1 (pu (pa pT (pl (show ((0:Int)≤(p0.getD k0 0)∧((p0.getD k0 0):Int)<18446744073709551616)∧((0:Int)≤(p1.getD k0 0)∧((p1.getD k0 0):Int)<18446744073709551616)∧(0:Int)≤z0∧(z0:Int)≤1 from ⟨hf1 k0,hf2 k0,hJ0.1,hJ0.2⟩))) (v4 pT))))))))) <|Wu [Ej 21 (k0+1)] none [Ej 7 (k0+1)] [7] [] [] 368 (pv pT (Yp k0 1) (v1 pT)) <|Xo [] (fc _ _ _)
 refine Tri.exit <|?_
 obtain rfl:k0=4:=(by omega);subst hz0
 exact Xt [Eb 4 (((itr (xV p0 p1) 4 0):Int)==1)] [8,7,5,3,2] [] [32,16] 160 (v3 pT) <|Xz [] pz
def ff (k0:Nat) (z0:Int × List Int):Int × List Int :=
 ((aa .u64 (z0.2.getD k0 0) 63),z0.2.set k0 (iOr .u64 (cu .u64 (z0.2.getD k0 0) 1) z0.1))
def my (k1:Nat) (z1:Int × List Int):Int × List Int :=
 ((cy (z1.2.getD k1 0) (xa.getD (0+k1) 0) z1.1),z1.2.set k1 (gL (z1.2.getD k1 0) (xa.getD (0+k1) 0) z1.1))
def ye (p0:List Int) (p1:Int):List Int :=
 (sel (!(sN ((itr (ff) 4 (p1,p0)).2) ((xa.drop 0).take 4))) ((itr (my) 4 (0,(itr (ff) 4 (p1,p0)).2)).2) ((itr (ff) 4 (p1,p0)).2))
def Kn:List AV→List Blk→Option (Prop × Ret)
 |[.ints .u64 4 p0,.sc (.i .u64 p1)],[]=>some ((rng p0),⟨.ints .u64 4 (ye p0 p1),[]⟩)
 |_,_=>none
theorem Li:Known Tryz.prog gD 111 ⟨0,0,Kn⟩:=by
 refine Xw Tryz.f111 46 (Zv KO 112 2 <|Zv Kx 352 3 <|Zn) mixed <|fun E args ks C r h hC hlen=>?_
 simp only at h
 unfold Kn at h
 split at h
 rotate_left
 cases h
 rename_i p0 p1
 cases h
 simp only [bI] at hlen
 have hg:xa.length=4:=rfl
 refine ⟨rfl,?_⟩
 refine Xt [Ep 4 32,Ep 2 16] [0] [Mk 32 .u64 4 [0,0,0,0],Mk 16 .u64 4 p0] [] 48 (v2 pT) <|Tri.seq <|Xs [Ei 8 0] [] 64 (v1 pT) <|Tri.block <|Xc 4 (ff) (p1,p0) (fun k0 z0=>rng z0.2) (fun k0 z0=>[Ej 8 k0,Ek 1 .u64 z0.1]) (fun k0 z0=>[Mk 16 .u64 4 z0.2]) hC <|fun k0 z0 hk0 hz0 hJ0=>Xs [Eb 9 (decide ((((k0:Nat):Int):Int)<4))] [] 80 (v1 pT) <|Tri.seq <|Xb (fun h1 h1'=>?_) (fun h1 h1'=>?_)
 exact Tri.skip <|Tri.seq <|Tri.block <|Xs [Ej 5 k0] [9] 112 (v2 pT) <|Wu [] (some [0,0,2,6,14,0,62,0,128,384,896,1023,3071,8191]) [Ek 1 .u64 (aa .u64 (z0.2.getD k0 0) 63)] [5,1] [Mk 16 .u64 4 (z0.2.set k0 (iOr .u64 (cu .u64 (z0.2.getD k0 0) 1) z0.1))] [16] 336 (v2 (pu (Yj k0 4) (pu (Yl k0 4) (pu (Y0 1) (v3 (pu (Yj k0 4) (pu (Yl k0 4) (pu (Y0 63) (pu (Yj k0 4) (pu (Ys k0 4) (v1 pT))))))))))) <|Wu [Ej 23 (k0+1)] none [Ej 8 (k0+1)] [8] [] [] 368 (pv pT (Yp k0 1) (v1 pT)) <|Xo [] (show rng (List.set _ _ _) from kq hJ0 (ga _))
 refine Tri.exit <|?_
 obtain rfl:k0=4:=(by omega);subst hz0
 refine Tri.seq <|Xs [Eb 27 (!(sN ((itr (ff) 4 (p1,p0)).2) ((xa.drop 0).take 4)))] [9,8,1] 144 (v1 (pu (Ye (0+4) xa.length) (pu (pa pT (pl (show rng ((itr (ff) 4 (p1,p0)).2)∧rng ((xa.drop 0).take 4) from ⟨hJ0,qd⟩))) (v1 pT)))) <|Xj (x:=(!(sN ((itr (ff) 4 (p1,p0)).2) ((xa.drop 0).take 4)))) (fun bb=>[]) [27] (fun bb=>[Mk 32 .u64 4 [0,0,0,0],Mk 16 .u64 4 (sel bb ((itr (my) 4 (0,(itr (ff) 4 (p1,p0)).2)).2) ((itr (ff) 4 (p1,p0)).2))]) [32,16] 192 (fun h2=>?_) (fun h2=>?_) ?_
 refine Xs [Ek 6 .u64 0] [27] 160 (v1 pT) <|Xs [Ei 28 0] [] 176 (v1 pT) <|Tri.block <|Xc 4 (my) (0,(itr (ff) 4 (p1,p0)).2) (fun k1 z1=>rng z1.2∧0≤z1.1∧z1.1≤1) (fun k1 z1=>[Ej 28 k1,Ek 6 .u64 z1.1]) (fun k1 z1=>[Mk 16 .u64 4 z1.2]) (⟨hJ0,Int.le_refl 0,(show (0:Int)≤1 by decide)⟩) <|fun k1 z1 hk1 hz1 hJ1=>Xs [Eb 29 (decide ((((k1:Nat):Int):Int)<4))] [] 192 (v1 pT) <|Tri.seq <|Xb (fun h3 h3'=>?_) (fun h3 h3'=>?_)
 exact Tri.skip <|Tri.seq <|Tri.block <|Xs [Ej 7 k1] [29] 224 (v2 pT) <|Wu [] (some [0,0,2,6,0,16,48,0,254,510,1022,1022,2047,6143,16383]) [Ek 6 .u64 (cy (z1.2.getD k1 0) (xa.getD (0+k1) 0) z1.1)] [7,6] [Mk 16 .u64 4 (z1.2.set k1 (gL (z1.2.getD k1 0) (xa.getD (0+k1) 0) z1.1))] [16] 464 (v2 (pu (Yj k1 4) (pu (Yl k1 4) (v1 (pu (Yj k1 4) (pu (Yl (0+k1) xa.length) (v1 (pu (pa pT (pl (show ((0:Int)≤(z1.2.getD k1 0)∧((z1.2.getD k1 0):Int)<18446744073709551616)∧((0:Int)≤(xa.getD (0+k1) 0)∧((xa.getD (0+k1) 0):Int)<18446744073709551616)∧(0:Int)≤z1.1∧(z1.1:Int)≤1 from ⟨hJ1.1 _,sp _,hJ1.2⟩))) (v3 (pu (Yj k1 4) (pu (Ys k1 4) (v1 pT)))))))))))) <|Wu [Ej 44 (k1+1)] none [Ej 28 (k1+1)] [28] [] [] 496 (pv pT (Yp k1 1) (v1 pT)) <|Xo [] (show rng (List.set _ _ _)∧_∧_ from ⟨kq hJ1.1 (fb _ _ _),fc _ _ _⟩)
 refine Tri.exit <|?_
 obtain rfl:k1=4:=(by omega);subst hz1
 exact Xe [] [Mk 32 .u64 4 [0,0,0,0],Mk 16 .u64 4 ((itr (my) 4 (0,(itr (ff) 4 (p1,p0)).2)).2)]
 exact Tri.skip <|Xe [] [Mk 32 .u64 4 [0,0,0,0],Mk 16 .u64 4 ((itr (ff) 4 (p1,p0)).2)]
 exact Xt [] [2] [Mk 32 .u64 4 (sel (!(sN ((itr (ff) 4 (p1,p0)).2) ((xa.drop 0).take 4))) ((itr (my) 4 (0,(itr (ff) 4 (p1,p0)).2)).2) ((itr (ff) 4 (p1,p0)).2))] [32,16] 224 (v1 (pu (Yz 4) pT)) <|Xz [] pz
theorem KJ {p0:List Int} (h:rng p0) (p1:Int):rng (ye p0 p1):=by
 have h0:∀ n z,rng z.2→rng (itr ff n z).2:=by
  intro n z hz
  induction n with
  |zero=>rw [bB];exact hz
  |succ n ih=>rw [aq];exact kq ih (ga _)
 have h1:∀ n z,rng z.2→rng (itr my n z).2:=by
  intro n z hz
  induction n with
  |zero=>rw [bB];exact hz
  |succ n ih=>rw [aq];exact kq ih (fb _ _ _)
 unfold ye
 cases (!(sN ((itr (ff) 4 (p1,p0)).2) ((xa.drop 0).take 4)))
 ·exact h0 4 _ h
 ·exact h1 4 _ (h0 4 _ h)
theorem vu:rng [0,0,0,0]:=gb (by decide)
def pJ (p0:List Int) (k0:Nat) (z0:List Int):List Int :=
 (ye z0 (IntKind.wrap .u64 (ai .u8 (aa .u8 (p0.getD (((8*p0.length)-1-k0)/8) 0) ((((8*p0.length)-1-k0) % 8:Nat):Int)) 1)))
def xo (p0:List Int):List Int :=
 (itr (pJ p0) (8*p0.length) [0,0,0,0])
def Kh:List AV→List Blk→Option (Prop × Ret)
 |[.sc (.ro .u8 p0)],[]=>some ((p0.length≤1000000),⟨.ints .u64 4 (xo p0),[]⟩)
 |_,_=>none
theorem Lh:Known Tryz.prog gD 65 ⟨0,0,Kh⟩:=by
 refine Xw Tryz.f65 26 (Zv Li 336 2 <|Zn) mixed <|fun E args ks C r h hC hlen=>?_
 simp only at h
 unfold Kh at h
 split at h
 rotate_left
 cases h
 rename_i p0
 cases h
 simp only [bI] at hlen
 refine ⟨rfl,?_⟩
 refine Xt [Ep 2 16] [] [Mk 16 .u64 4 [0,0,0,0]] [] 32 (v1 pT) <|Xt [Ep 3 32] [] [Mk 32 .u64 4 [0,0,0,0]] [] 48 (v1 pT) <|Tri.seq <|Xu [Ej 7 (8*p0.length),Ei 8 (((8*p0.length:Nat):Int)-1-((0:Nat):Int))] none [Ei 4 (((8*p0.length:Nat):Int)-1-((0:Nat):Int))] [] [] [] 128 (v2 (pv pT (Yt 8 p0.length) (pv pT (pl (show (ag .i64 ((8*p0.length:Nat):Int) 1)=(((8*p0.length:Nat):Int)-1-((0:Nat):Int)) from lT (by omega))) (v1 pT)))) <|Tri.block <|Xc (8*p0.length) (pJ p0) [0,0,0,0] (fun k0 z0=>rng z0) (fun k0 z0=>[Ei 4 (((8*p0.length:Nat):Int)-1-((k0:Nat):Int))]) (fun k0 z0=>[Mk 32 .u64 4 z0]) vu <|fun k0 z0 hk0 hz0 hJ0=>Tri.seq <|Xs [Eb 10 (decide (((((8*p0.length:Nat):Int)-1-((k0:Nat):Int)):Int) ≥ 0))] [] 160 (v2 pT) <|Xb (fun h1 h1'=>?_) (fun h1 h1'=>?_)
 refine Tri.skip <|Tri.seq <|Tri.block <|Wu [Ej 16 (((8*p0.length)-1-k0)/8),Ej 20 (((8*p0.length)-1-k0) % 8)] (some [0,0,0,4,14,30,0,64,254,510,1022,2047,4095]) [] [10] [Mk 32 .u64 4 (ye z0 (IntKind.wrap .u64 (ai .u8 (aa .u8 (p0.getD (((8*p0.length)-1-k0)/8) 0) ((((8*p0.length)-1-k0) % 8:Nat):Int)) 1)))] [32] 368 (v3 (pv (Yn 8) (pl (show (iu .i64 (((8*p0.length:Nat):Int)-1-((k0:Nat):Int)) 8)=((((8*p0.length)-1-k0)/8:Nat):Int) from by rw [il (by omega)];exact dH (b:=8) (by omega))) (pu (Yj (((8*p0.length)-1-k0)/8) p0.length) (pu (Yl (((8*p0.length)-1-k0)/8) p0.length) (v1 (pv (Yn 8) (pl (show (br (((8*p0.length:Nat):Int)-1-((k0:Nat):Int)) 8)=((((8*p0.length)-1-k0) % 8:Nat):Int) from by rw [il (by omega)];exact eK (b:=8))) (pu (Y0 ((((8*p0.length)-1-k0) % 8:Nat):Int)) (v2 (pu (pa pT (pl hJ0)) (pu (Yz 4) pT)))))))))) ?_
 exact Wu [Ei 12 (((8*p0.length:Nat):Int)-1-((k0+1:Nat):Int))] none [Ei 4 (((8*p0.length:Nat):Int)-1-((k0+1:Nat):Int))] [4] [] [] 416 (v1 (pv pT (pl (show (ag .i64 (((8*p0.length:Nat):Int)-1-((k0:Nat):Int)) 1)=(((8*p0.length:Nat):Int)-1-((k0+1:Nat):Int)) from jh (by omega) (by omega))) (v1 pT))) <|Xo [] (KJ hJ0 _)
 refine Tri.exit <|?_
 obtain rfl:k0=(8*p0.length):=(by omega);subst hz0
 exact Xt [] [10,4,3,0] [Mk 16 .u64 4 (itr (pJ p0) (8*p0.length) [0,0,0,0])] [32,16] 192 (v1 (pu (Yz 4) pT)) <|Xz [] pz
def gP (p0:List Int) (k0:Nat) (k1:Nat) (z1:Nat × List Int):Nat × List Int :=
 (z1.1+1,z1.2++[(IntKind.wrap .u8 (aa .u64 (p0.getD k0 0) ((8*k1:Nat):Int)))])
def gz (p0:List Int) (k0:Nat) (z0:Nat × List Int):Nat × List Int :=
 ((itr (gP p0 k0) 8 (z0.1,z0.2)).1,(itr (gP p0 k0) 8 (z0.1,z0.2)).2)
def ng (p0:List Int):List Int :=
 (itr (gz p0) 4 (0,([]:List Int))).2
theorem Lv (p0:List Int):(itr (gz p0) 4 (0,[])).1=32:=by
 have h1:∀ (j k:Nat) (z:Nat × List Int),(itr (gP p0 j) k z).1=z.1+k:=by
  intro j k z
  induction k with
  |zero=>rw [bB];rfl
  |succ k ih=>rw [aq];show (itr (gP p0 j) k z).1+1=_;rw [ih];omega
 have h0:∀ (k:Nat),(itr (gz p0) k (0,[])).1=8*k:=by
  intro k
  induction k with
  |zero=>rw [bB]
  |succ k ih=>rw [aq];show (itr (gP p0 k) 8 ((itr (gz p0) k (0,[])).1,(itr (gz p0) k (0,[])).2)).1=_;rw [h1,ih];show 8*k+8=_;omega
 rw [h0]
def Kp:List AV→List Blk→Option (Prop × Ret)
 |[.ints .u64 4 p0],[]=>some (True,⟨.sc (.sl 0 0 32 1 none),[some (.ints .u8 32 (ng p0))]⟩)
 |_,_=>none
theorem Kl:Known Tryz.prog gD 66 ⟨0,1,Kp⟩:=by
 refine Xw Tryz.f66 25 Zn mixed <|fun E args ks C r h hC hlen=>?_
 simp only at h
 unfold Kp at h
 split at h
 rotate_left
 cases h
 rename_i p0
 cases h
 simp only [bI] at hlen
 refine ⟨rfl,?_⟩
 refine Xt [Ep 1 16] [0] [Mk 16 .u64 4 p0] [] 48 (v2 pT) <|Xs [(3,.sc (.nils))] [] 64 (v1 pT) <|Tri.seq <|Xt [Ei 8 0,(7,.ints .u64 4 p0)] [1] [] [16] 96 (v2 pT) <|Tri.block <|Tri.sub (Sub.openNil (U:=96) (U':=112) 3 96 1 .u8 none (.inl rfl) (by decide) (by decide) (by kernel_rfl) (by kernel_rfl)) <|Xc 4 (gz p0) (0,([]:List Int)) (fun k0 z0=>z0.1=8*k0) (fun k0 z0=>[El 3 96 z0.1,Ej 8 k0]) (fun k0 z0=>[Mi 96 z0.1 z0.2]) rfl <|fun k0 z0 hk0 hz0 hJ0=>Xs [Eb 9 (decide ((((k0:Nat):Int):Int)<4))] [] 128 (v1 pT) <|Tri.seq <|Xb (fun h1 h1'=>?_) (fun h1 h1'=>?_)
 refine Tri.skip <|Tri.seq <|Tri.block <|Xs [Ek 5 .u64 (p0.getD k0 0)] [9] 160 (pu (pa (Yj k0 4) (Yl k0 4)) (v1 pT)) <|Xs [Ei 11 0] [] 176 (v1 pT) <|Tri.block <|Xc 8 (gP p0 k0) (z0.1,z0.2) (fun k1 z1=>z1.1=z0.1+1*k1∧z1.1=8*k0+k1) (fun k1 z1=>[Ej 11 k1,El 3 96 z1.1]) (fun k1 z1=>[Mi 96 z1.1 z1.2]) (⟨(by simp),hJ0⟩) <|fun k1 z1 hk1 hz1 hJ1=>Xs [Eb 12 (decide ((((k1:Nat):Int):Int)<8))] [] 192 (v1 pT) <|Tri.seq <|Xb (fun h2 h2'=>?_) (fun h2 h2'=>?_)
 exact Tri.skip <|Tri.seq <|Tri.block <|Xs [Ej 6 k1] [12] 224 (v2 pT) <|Wu [Ej 17 (8*k1)] none [El 3 336 (z1.1+1)] [6,3] [Mi 336 (z1.1+1) (z1.2++[(IntKind.wrap .u8 (aa .u64 (p0.getD k0 0) ((8*k1:Nat):Int)))])] [96] 368 (v3 (pv pT (Yt 8 k1) (pu (Y0 ((8*k1:Nat):Int)) (v1 (pu (Yf 1) (pu (Ya (Yw 1) 1 (z1.1+1) 1 1 z1.1 z1.1) (v1 pT))))))) <|Wu [Ej 22 (k1+1)] none [Ej 11 (k1+1)] [11] [] [] 400 (pv pT (Yp k1 1) (v1 pT)) <|Xo [(96,336)] (⟨(show z1.1+1=z0.1+1*(k1+1) by omega),(show z1.1+1=8*k0+(k1+1) by omega)⟩)
 refine Tri.exit <|?_
 obtain rfl:k1=8:=(by omega);subst hz1
 exact Wu [Ej 23 (k0+1)] none [Ej 8 (k0+1)] [12,11,5,8] [] [] 224 (pv pT (Yp k0 1) (v1 pT)) <|Xo [] (show (itr (gP p0 k0) 8 (z0.1,z0.2)).1=8*(k0+1) by omega)
 refine Tri.exit <|?_
 obtain rfl:k0=4:=(by omega);subst hz0
 exact Xs [El 2 96 ((itr (gz p0) 4 (0,([]:List Int))).1)] [9,3,8,7] 160 (v2 pT) <|Xy (r':=⟨.sc (.sl 0 0 ((itr (gz p0) 4 (0,([]:List Int))).1) 1 none),[some (.ints .u8 ((itr (gz p0) 4 (0,([]:List Int))).1) ((itr (gz p0) 4 (0,([]:List Int))).2))]⟩) [(96,0)] pz (by simp only [ng,Lv,aD,aA])
theorem Ec (p0:List Int):(ng p0).length=32:=by
 have h1:∀ (j k:Nat) (z:Nat × List Int),(itr (gP p0 j) k z).2.length=z.2.length+k:=by
  intro j k z
  induction k with
  |zero=>rw [bB];rfl
  |succ k ih=>rw [aq];show ((itr (gP p0 j) k z).2++[_]).length=_;rw [List.length_append,ih];rfl
 have h0:∀ (k:Nat),(itr (gz p0) k (0,[])).2.length=8*k:=by
  intro k
  induction k with
  |zero=>rw [bB];rfl
  |succ k ih=>rw [aq];show (itr (gP p0 k) 8 ((itr (gz p0) k (0,[])).1,(itr (gz p0) k (0,[])).2)).2.length=_;rw [h1];show (itr (gz p0) k (0,[])).2.length+8=_;rw [ih];omega
 exact h0 4
def cL (p:List (List Int)):Nat→Nat
 |0=>0
 |k+1=>cL p k+(p.getD k []).length
theorem Ar (p:List (List Int)) {k n:Nat} (h:k≤n):cL p k≤cL p n:=by
 induction n with
 |zero=>rw [Nat.le_zero.1 h];exact Nat.le_refl _
 |succ n ih =>
  by_cases e:k=n+1
  ·rw [e];exact Nat.le_refl _
  ·exact Nat.le_trans (ih (by omega)) (Nat.le_add_right _ _)
theorem zk {p:List (List Int)} {k z c:Nat} (hz:z=c+cL p k) (hk:k<p.length):z+(p.getD k []).length≤c+cL p p.length:=by
 have h:cL p k+(p.getD k []).length≤cL p p.length:=Ar p (show k+1≤p.length from hk)
 omega
def im (p0:List (List Int)) (k0:Nat) (z0:Nat × List Int):Nat × List Int :=
 (z0.1+((p0.getD k0 []).length),z0.2++(p0.getD k0 []))
def oO (p0:List (List Int)):List Int :=
 (itr (im p0) p0.length (0,([]:List Int))).2
theorem ML (p0:List (List Int)):(itr (im p0) p0.length (0,[])).1=cL p0 p0.length:=by
 have h0:∀ k,(itr (im p0) k (0,[])).1=cL p0 k:=by
  intro k
  induction k with
  |zero=>rw [bB];rfl
  |succ k ih=>rw [aq];show (itr (im p0) k (0,[])).1+(p0.getD k []).length=cL p0 k+(p0.getD k []).length;rw [ih]
 exact h0 _
def Kw:List AV→List Blk→Option (Prop × Ret)
 |[.sc (.rob p0)],[]=>some ((cL p0 p0.length≤100000∧p0.length≤100000),⟨.sc (.sl 0 0 (cL p0 p0.length) 1 none),[some (.ints .u8 (cL p0 p0.length) (oO p0))]⟩)
 |_,_=>none
theorem Lr:Known Tryz.prog gD 64 ⟨0,1,Kw⟩:=by
 refine Xw Tryz.f64 17 Zn mixed <|fun E args ks C r h hC hlen=>?_
 simp only at h
 unfold Kw at h
 split at h
 rotate_left
 cases h
 rename_i p0
 cases h
 simp only [bI] at hlen
 refine ⟨rfl,?_⟩
 refine Xs [] [] 32 (v1 pT) <|Xs [(3,.sc (.nils))] [] 48 (v1 pT) <|Tri.seq <|Xs [Ei 8 0,Ej 7 p0.length,(6,.sc (.rob p0))] [0] 96 (v3 pT) <|Tri.block <|Tri.sub (Sub.openNil (U:=96) (U':=112) 3 96 1 .u8 none (.inl rfl) (by decide) (by decide) (by kernel_rfl) (by kernel_rfl)) <|Xc p0.length (im p0) (0,([]:List Int)) (fun k0 z0=>z0.1=0+cL p0 k0) (fun k0 z0=>[El 3 96 z0.1,Ej 8 k0]) (fun k0 z0=>[Mi 96 z0.1 z0.2]) rfl <|fun k0 z0 hk0 hz0 hJ0=>Xs [Eb 9 (decide ((((k0:Nat):Int):Int)<((p0.length:Nat):Int)))] [] 128 (v1 pT) <|Tri.seq <|Xb (fun h1 h1'=>?_) (fun h1 h1'=>?_)
 refine Tri.skip <|Tri.seq <|Tri.block <|Xs [Er 5 (p0.getD k0 [])] [9] 176 (pu (Yj k0 p0.length) (v2 pT)) <|Wt [El 3 208 (z0.1+((p0.getD k0 []).length))] [5,3] [Mi 208 (z0.1+((p0.getD k0 []).length)) (z0.2++(p0.getD k0 []))] [96] 240 (v2 (pu (pa (pa (pa (Yz 1) (pa (Yl 0 1) (pa (pl (show (z0.1+((p0.getD k0 []).length))*1≤140737488355328 from by (have hq:=zk hJ0 (by omega);omega))) (pl (show z0.1+((p0.getD k0 []).length)≤140737488355328 from by (have hq:=zk hJ0 (by omega);omega)))))) (lo ((p0.getD k0 []).length=((p0.getD k0 []).length)*1))) (pa (Yr 1) (lo (0+z0.1*1=z0.1)))) (v1 pT))) ?_
 exact Wu [Ej 15 (k0+1)] none [Ej 8 (k0+1)] [8] [] [] 272 (pv pT (Yp k0 1) (v1 pT)) <|Xo [(96,208)] (show z0.1+(p0.getD k0 []).length=0+(cL p0 k0+(p0.getD k0 []).length) by omega)
 refine Tri.exit <|?_
 obtain rfl:k0=p0.length:=(by omega);subst hz0
 exact Xs [El 2 96 ((itr (im p0) p0.length (0,([]:List Int))).1)] [9,3,8,7,6] 160 (v2 pT) <|Xy (r':=⟨.sc (.sl 0 0 ((itr (im p0) p0.length (0,([]:List Int))).1) 1 none),[some (.ints .u8 ((itr (im p0) p0.length (0,([]:List Int))).1) ((itr (im p0) p0.length (0,([]:List Int))).2))]⟩) [(96,0)] pz (by simp only [oO,ML,aD,aA])
theorem Cb (p0:List (List Int)):(oO p0).length=cL p0 p0.length:=by
 have h0:∀ k,(itr (im p0) k (0,[])).2.length=cL p0 k:=by
  intro k
  induction k with
  |zero=>rw [bB];rfl
  |succ k ih=>rw [aq];show ((itr (im p0) k (0,[])).2++p0.getD k []).length=cL p0 k+(p0.getD k []).length;rw [List.length_append,ih]
 exact h0 _
end Go.Vm
namespace Go.Vm
open Go Go.Proofs
theorem rF {a b c:List Int} (h:a.length≤20000) (h':b.length≤20000) (h'':c.length≤20000):cL [a,b,c] [a,b,c].length≤100000∧[a,b,c].length≤100000:=⟨(show 0+a.length+b.length+c.length≤100000 by omega),(show 3≤100000 by omega)⟩
theorem FM {X:List (List Int)} (h:cL X X.length≤100000):(aH (oO X) (cL X X.length) 0 (cL X X.length)).length≤100000000:=bV (Nat.le_trans h (by decide)) (by rw [Cb];exact Nat.le_trans h (by decide))
def iG (p2:List Int) (k0:Nat) (z0:List Int):List Int :=
 z0.set (k0/8) (iOr .u64 (z0.getD (k0/8) 0) (cu .u64 (IntKind.wrap .u64 (p2.getD (32+k0) 0)) ((8*(k0 % 8):Nat):Int)))
def rm (p0:List Int) (p1:List Int) (p2:List Int):Bool :=
 (sel ((((p2.length:Nat):Int):Int) != 64) false (sel (!(gR p0)) false (sel (!(sN (itr (iG p2) 32 [0,0,0,0]) ((xa.drop 0).take 4))) false (aC (bytesOf (((EX (lM (vw (BO) (aH (ng (itr (iG p2) 32 [0,0,0,0])) 32 0 32)) (vw (aZ (aZ (ia p0) 0 (F18 (F30 0) (((ia p0).drop 0).take 5))) 15 (F18 (F30 0) (((ia p0).drop 15).take 5))) (aH (ng (xo (aH (qe (aH (oO [(p2.drop 0).take 32,p0,p1]) (cL [(p2.drop 0).take 32,p0,p1] [(p2.drop 0).take 32,p0,p1].length) 0 (cL [(p2.drop 0).take 32,p0,p1] [(p2.drop 0).take 32,p0,p1].length))) 64 0 64))) 32 0 32)) (F16 (bu) (bu)))).drop 0).take 32)) (bytesOf ((p2.drop 0).take 32))))))
def LB:List AV→List Blk→Option (Prop × Ret)
 |[.sc (.ro .u8 p0),.sc (.ro .u8 p1),.sc (.ro .u8 p2)],[]=>some ((p1.length≤10000),⟨.sc (.b (rm p0 p1 p2)),[]⟩)
 |_,_=>none
def Lw:KL Tryz.prog gD:=Zc MK 480 [.ro .u8] [464] [] <|Zv Le 768 0 <|Zc Jp 816 [.val,.ro .u8] [800] [] <|Zc Jp 896 [.val,.ro .u8] [880] [] <|Zv Ly 1024 1 <|Zc Lr 464 [.rob] [448] [] <|Zc Lh 864 [.ro .u8] [496] [] <|Zv Kl 800 1 <|Zv Kl 880 1 <|Zc LS 96 [.ro .u8] [] [] <|Zv Iv 720 0 <|Zv K16 944 2 <|Zv K30 528 1 <|Zv K30 592 1 <|Zv IJ 960 3 <|Zv KO 336 2 <|Zv K18 576 2 <|Zv K18 640 2 <|Zn
theorem Lo:Known Tryz.prog gD 82 ⟨0,0,LB⟩:=by
 refine Xw Tryz.f82 88 Lw mixed <|fun E args ks C r h hC hlen=>?_
 simp only at h
 unfold LB at h
 split at h
 rotate_left
 cases h
 rename_i p0 p1 p2
 cases h
 simp only [bI] at hlen
 refine ⟨rfl,?_⟩
 refine Xs [] [] 32 (v1 pT) <|Tri.seq <|Xs [Eb 16 ((((p2.length:Nat):Int):Int) != 64)] [] 80 (v3 pT) <|Xa (fun h1=>?_) (fun h1=>?_)
 have h1':=di h1
 exact Xs [Eb 6 false] [16,0,1,2] 96 (v1 pT) <|Xy [] pz (by simp only [rm,h1,aD,aA] <;> rfl)
 have h1':=bz h1
 refine Tri.skip <|Xt [Eb 8 (gR p0),Ep 7 160] [16] [Mk 160 .u64 20 (ia p0)] [] 208 (v1 (pu (pa pz pT) (v4 (pu (Yz 20) (v1 pT))))) <|Xt [Ep 9 208] [] [Mk 208 .u64 4 [0,0,0,0]] [] 224 (v1 pT) <|Tri.seq <|Xs [Ei 22 0] [] 240 (v1 pT) <|Tri.block <|Xc 32 (iG p2) [0,0,0,0] (fun k0 z0=>rng z0) (fun k0 z0=>[Ej 22 k0]) (fun k0 z0=>[Mk 208 .u64 4 z0]) vu <|fun k0 z0 hk0 hz0 hJ0=>Xs [Eb 23 (decide ((((k0:Nat):Int):Int)<32))] [] 256 (v1 pT) <|Tri.seq <|Xb (fun h2 h2'=>?_) (fun h2 h2'=>?_)
 exact Tri.skip <|Tri.seq <|Tri.block <|Xs [Ej 10 k0] [23] 288 (v2 pT) <|Wu [Ej 26 (k0/8),Ej 31 (32+k0),Ej 36 (k0 % 8),Ej 37 (8*(k0 % 8))] (some [0,1,3,7,0,0,32,112,240,496,0,1024,3072,8176,16383,32767,65535]) [] [10] [Mk 208 .u64 4 (z0.set (k0/8) (iOr .u64 (z0.getD (k0/8) 0) (cu .u64 (IntKind.wrap .u64 (p2.getD (32+k0) 0)) ((8*(k0 % 8):Nat):Int))))] [208] 560 (v1 (pv (Yn 8) (pl (dH (a:=k0) (b:=8) (by omega))) (pu (Yj (k0/8) 4) (pu (Yl (k0/8) 4) (v2 (pv pT (Yp 32 k0) (pu (Yj (32+k0) p2.length) (pu (Yl (32+k0) p2.length) (v2 (pv (Yn 8) (pl (eK (a:=k0) (b:=8))) (pv pT (Yt 8 (k0 % 8)) (pu (Y0 ((8*(k0 % 8):Nat):Int)) (v1 (pu (Yj (k0/8) 4) (pu (Ys (k0/8) 4) pT))))))))))))))) <|Wu [Ej 41 (k0+1)] none [Ej 22 (k0+1)] [22] [] [] 592 (pv pT (Yp k0 1) (v1 pT)) <|Xo [] (show rng (List.set _ _ _) from kq hJ0 (ga _))
 refine Tri.exit <|?_
 obtain rfl:k0=32:=(by omega);subst hz0
 refine Tri.seq <|Tri.split (!(gR p0)) (fun h3=>?_) (fun h3=>?_)
 exact Xu [Eb 44 true] none [Eb 49 true] [23,22,8] [] [] 384 (v2 (pg h3 (v5 pT))) <|Tri.cond_true (by kernel_rfl) <|Xt [Eb 6 false] [49,9,7,0,1,2] [] [208,160] 400 (v1 pT) <|Xy [] pz (by simp only [rm,h1,h3,aD,aA] <;> rfl)
 refine Xu [Eb 44 false] none [Eb 49 (!(sN (itr (iG p2) 32 [0,0,0,0]) ((xa.drop 0).take 4)))] [23,22,8] [] [] 384 (v2 (pg h3 (v1 (pu (Ye (0+4) xa.length) (pu (pa pT (pl (show rng (itr (iG p2) 32 [0,0,0,0])∧rng ((xa.drop 0).take 4) from ⟨hJ0,qd⟩))) (v2 pT)))))) <|Xa (fun h4=>?_) (fun h4=>?_)
 exact Xt [Eb 6 false] [49,9,7,0,1,2] [] [208,160] 400 (v1 pT) <|Xy [] pz (by simp only [rm,h1,h3,h4,aD,aA] <;> rfl)
 refine Tri.skip <|Tri.len 208 rfl <|fun hl5=>Tri.len 160 rfl <|fun hl6=>Xt [Ep 11 496] [49,0,1] [Mi 496 64 (qe (aH (oO [(p2.drop 0).take 32,p0,p1]) (cL [(p2.drop 0).take 32,p0,p1] [(p2.drop 0).take 32,p0,p1].length) 0 (cL [(p2.drop 0).take 32,p0,p1] [(p2.drop 0).take 32,p0,p1].length)))] [] 528 (v1 (pu (lo ((0:Int)≤0∧(0:Int)≤32∧32≤(p2.length:Int))) (v2 (pu (Yf 3) (pu (pa (pa (pa (ld (0+3≤3)) (pa pT (pa pT pz))) pT) (pl (show cL [(p2.drop 0).take 32,p0,p1] [(p2.drop 0).take 32,p0,p1].length≤100000∧[(p2.drop 0).take 32,p0,p1].length≤100000 from by exact rF (by first|omega|(have hl:=ov (p0:=p0) (by assumption);omega)|exact bV (by omega) (by omega)|(rw [List.length_take];omega)) (by first|omega|(have hl:=ov (p0:=p0) (by assumption);omega)|exact bV (by omega) (by omega)|(rw [List.length_take];omega)) (by first|omega|(have hl:=ov (p0:=p0) (by assumption);omega)|exact bV (by omega) (by omega)|(rw [List.length_take];omega))))) (pu (pa (pa (Yw (cL [(p2.drop 0).take 32,p0,p1] [(p2.drop 0).take 32,p0,p1].length)) pT) (pl (show (aH (oO [(p2.drop 0).take 32,p0,p1]) (cL [(p2.drop 0).take 32,p0,p1] [(p2.drop 0).take 32,p0,p1].length) 0 (cL [(p2.drop 0).take 32,p0,p1] [(p2.drop 0).take 32,p0,p1].length)).length≤100000000 from by exact FM (rF (by first|omega|(have hl:=ov (p0:=p0) (by assumption);omega)|exact bV (by omega) (by omega)|(rw [List.length_take];omega)) (by first|omega|(have hl:=ov (p0:=p0) (by assumption);omega)|exact bV (by omega) (by omega)|(rw [List.length_take];omega)) (by first|omega|(have hl:=ov (p0:=p0) (by assumption);omega)|exact bV (by omega) (by omega)|(rw [List.length_take];omega))).1))) (v1 (pu (Yz 64) pT)))))))) ?_
 refine Xu [] (some [0,0,2,7,15,0,32,127,111,511,1023,2047]) [] [] [Mk 160 .u64 20 (aZ (aZ (ia p0) 0 (F18 (F30 0) (((ia p0).drop 0).take 5))) 15 (F18 (F30 0) (((ia p0).drop 15).take 5)))] [160] 720 (pu pz (v1 (pu (Ye (0+5) 20) (pu pz (pu pz (v1 (pu (Ye (15+5) 20) (pu pz (v1 (pu (pa (Ye (0+5) 20) (Yr 5)) (v1 (pu (pa (Ye (15+5) 20) (Yr 5)) pT)))))))))))) <|Xt [Ep 12 736] [] [Mk 736 .u64 5 (bu)] [] 768 (pu pz (v1 (pu (Yz 5) pT))) <|Tri.len 736 rfl <|fun hl7=>Tri.len 160 rfl <|fun hl8=>Tri.len 496 rfl <|fun hl9=>Tri.len 208 rfl <|fun hl10=>Xu [] (some [0,0,3,7,0,0,47,111,255,0,0,2047,4095,0,16383]) [Ep 13 976] [12,11,9,7] [Mk 976 .u64 20 (lM (vw (BO) (aH (ng (itr (iG p2) 32 [0,0,0,0])) 32 0 32)) (vw (aZ (aZ (ia p0) 0 (F18 (F30 0) (((ia p0).drop 0).take 5))) 15 (F18 (F30 0) (((ia p0).drop 15).take 5))) (aH (ng (xo (aH (qe (aH (oO [(p2.drop 0).take 32,p0,p1]) (cL [(p2.drop 0).take 32,p0,p1] [(p2.drop 0).take 32,p0,p1].length) 0 (cL [(p2.drop 0).take 32,p0,p1] [(p2.drop 0).take 32,p0,p1].length))) 64 0 64))) 32 0 32)) (F16 (bu) (bu)))] [736,160,496,208] 1008 (pu pz (v1 (pu pz (pu (pa (pa (Yw 32) pT) (pl (show (aH (ng (itr (iG p2) 32 [0,0,0,0])) 32 0 32).length≤1000000 from by exact bV (by decide) (by rw [Ec];decide)))) (v1 (pu (pa (lo ((0:Int)≤0∧(0:Int)≤64∧64≤((64:Nat):Int))) (Ye 64 64)) (pu (pa (pa (Yw 64) pT) (Ye ((aH (qe (aH (oO [(p2.drop 0).take 32,p0,p1]) (cL [(p2.drop 0).take 32,p0,p1] [(p2.drop 0).take 32,p0,p1].length) 0 (cL [(p2.drop 0).take 32,p0,p1] [(p2.drop 0).take 32,p0,p1].length))) 64 0 64).length) 1000000)) (pu pz (pu (pa (pa (Yw 32) pT) (pl (show (aH (ng (xo (aH (qe (aH (oO [(p2.drop 0).take 32,p0,p1]) (cL [(p2.drop 0).take 32,p0,p1] [(p2.drop 0).take 32,p0,p1].length) 0 (cL [(p2.drop 0).take 32,p0,p1] [(p2.drop 0).take 32,p0,p1].length))) 64 0 64))) 32 0 32).length≤1000000 from by exact bV (by decide) (by rw [Ec];decide)))) (v2 (pu pz (pu pz (v1 (pu (Yz 20) pT)))))))))))))) ?_
 exact Tri.len 976 rfl <|fun hl11=>Xu [] (some [0,1,3,0,8,24,63,127]) [Eb 6 (aC (bytesOf (((EX (lM (vw (BO) (aH (ng (itr (iG p2) 32 [0,0,0,0])) 32 0 32)) (vw (aZ (aZ (ia p0) 0 (F18 (F30 0) (((ia p0).drop 0).take 5))) 15 (F18 (F30 0) (((ia p0).drop 15).take 5))) (aH (ng (xo (aH (qe (aH (oO [(p2.drop 0).take 32,p0,p1]) (cL [(p2.drop 0).take 32,p0,p1] [(p2.drop 0).take 32,p0,p1].length) 0 (cL [(p2.drop 0).take 32,p0,p1] [(p2.drop 0).take 32,p0,p1].length))) 64 0 64))) 32 0 32)) (F16 (bu) (bu)))).drop 0).take 32)) (bytesOf ((p2.drop 0).take 32)))] [13,2] [] [976] 1136 (v1 (pu pz (pu (Yw 32) (v1 (pu (lo ((0:Int)≤0∧(0:Int)≤32∧32≤(p2.length:Int))) (v3 pT)))))) <|Xy [] pz (by simp only [rm,h1,h3,h4,aD,aA] <;> rfl)
end Go.Vm
namespace Go.Vm
open Go Go.Proofs
theorem CM {α:Type} (b:Bool) (x:α):sel b x x=x:=by cases b <;> rfl
theorem DF {a b c:Nat} (h:a≤20000) (h':b≤20000) (h'':c≤20000):a+b+c≤1000000:=by omega
theorem vd (p:List Int) (o:Nat) (h:o+32≤64):(aH (dN p) 64 o 32).length=32:=by
 rw [kL (mH p),List.length_take,List.length_drop,mH]
 omega
def cY (p0:List Int) (p1:List Int):List Int :=
 (F19 p0 p1)
def KH:List AV→List Blk→Option (Prop × Ret)
 |[.ints .i64 16 p0,.ints .i64 16 p1],[]=>some (True,⟨.ints .i64 16 (cY p0 p1),[]⟩)
 |_,_=>none
theorem Ch:Known Tryz.prog gD 89 ⟨0,0,KH⟩:=by
 refine Xw Tryz.f89 8 (Zv K19 96 2 <|Zn) mixed <|fun E args ks C r h hC hlen=>?_
 simp only at h
 unfold KH at h
 split at h
 rotate_left
 cases h
 rename_i p0 p1
 cases h
 simp only [bI] at hlen
 refine ⟨rfl,?_⟩
 exact Xt [Ep 4 48,Ep 3 32,Ep 2 16] [0,1] [Mk 48 .i64 16 [0,0,0,0,0,0,0,0,0,0,0,0,0,0,0,0],Mk 32 .i64 16 p1,Mk 16 .i64 16 p0] [] 64 (v3 pT) <|Xt [] [3,2] [Mk 48 .i64 16 (F19 p0 p1)] [48,32,16] 128 (v2 (pu pz (pu (Yz 16) pT))) <|Xz [] pz
def bC (p0:Int):List Int :=
 (F31 p0)
def KR:List AV→List Blk→Option (Prop × Ret)
 |[.sc (.i .i64 p0)],[]=>some (True,⟨.ints .i64 16 (bC p0),[]⟩)
 |_,_=>none
theorem oq:Known Tryz.prog gD 90 ⟨0,0,KR⟩:=by
 refine Xw Tryz.f90 5 (Zv K31 48 1 <|Zn) mixed <|fun E args ks C r h hC hlen=>?_
 simp only at h
 unfold KR at h
 split at h
 rotate_left
 cases h
 rename_i p0
 cases h
 simp only [bI] at hlen
 refine ⟨rfl,?_⟩
 exact Xt [Ep 2 16] [] [Mk 16 .i64 16 [0,0,0,0,0,0,0,0,0,0,0,0,0,0,0,0]] [] 32 (v1 pT) <|Xt [] [0] [Mk 16 .i64 16 (F31 p0)] [16] 80 (v1 (pu pz (pu (Yz 16) pT))) <|Xz [] pz
def aT (p0:List Int) (p1:List Int):List Int :=
 (F21 p0 p1)
def Ku:List AV→List Blk→Option (Prop × Ret)
 |[.ints .i64 16 p0,.ints .i64 16 p1],[]=>some (True,⟨.ints .i64 16 (aT p0 p1),[]⟩)
 |_,_=>none
theorem kE:Known Tryz.prog gD 95 ⟨0,0,Ku⟩:=by
 refine Xw Tryz.f95 8 (Zv K21 96 2 <|Zn) mixed <|fun E args ks C r h hC hlen=>?_
 simp only at h
 unfold Ku at h
 split at h
 rotate_left
 cases h
 rename_i p0 p1
 cases h
 simp only [bI] at hlen
 refine ⟨rfl,?_⟩
 exact Xt [Ep 4 48,Ep 3 32,Ep 2 16] [0,1] [Mk 48 .i64 16 [0,0,0,0,0,0,0,0,0,0,0,0,0,0,0,0],Mk 32 .i64 16 p1,Mk 16 .i64 16 p0] [] 64 (v3 pT) <|Xt [] [3,2] [Mk 48 .i64 16 (F21 p0 p1)] [48,32,16] 128 (v2 (pu pz (pu (Yz 16) pT))) <|Xz [] pz
def dS (p0:List Int) (p1:List Int):List Int :=
 (F17 p0 p1)
def JW:List AV→List Blk→Option (Prop × Ret)
 |[.ints .i64 16 p0,.ints .i64 16 p1],[]=>some (True,⟨.ints .i64 16 (dS p0 p1),[]⟩)
 |_,_=>none
theorem Gd:Known Tryz.prog gD 119 ⟨0,0,JW⟩:=by
 refine Xw Tryz.f119 8 (Zv K17 96 2 <|Zn) mixed <|fun E args ks C r h hC hlen=>?_
 simp only at h
 unfold JW at h
 split at h
 rotate_left
 cases h
 rename_i p0 p1
 cases h
 simp only [bI] at hlen
 refine ⟨rfl,?_⟩
 exact Xt [Ep 4 48,Ep 3 32,Ep 2 16] [0,1] [Mk 48 .i64 16 [0,0,0,0,0,0,0,0,0,0,0,0,0,0,0,0],Mk 32 .i64 16 p1,Mk 16 .i64 16 p0] [] 64 (v3 pT) <|Xt [] [3,2] [Mk 48 .i64 16 (F17 p0 p1)] [48,32,16] 128 (v2 (pu pz (pu (Yz 16) pT))) <|Xz [] pz
def dP:List Int :=
 (cY (bC 0) (aT (bC 121665) (F28 (bC 121666))))
def Jz:List AV→List Blk→Option (Prop × Ret)
 |[],[]=>some (True,⟨.ints .i64 16 (dP),[]⟩)
 |_,_=>none
theorem IV:Known Tryz.prog gD 92 ⟨0,0,Jz⟩:=by
 refine Xw Tryz.f92 7 (Zv Ch 112 2 <|Zv oq 32 1 <|Zv oq 48 1 <|Zv oq 64 1 <|Zv K28 80 1 <|Zv kE 96 2 <|Zn) mixed <|fun E args ks C r h hC hlen=>?_
 simp only at h
 unfold Jz at h
 split at h
 rotate_left
 cases h
 cases h
 simp only [bI] at hlen
 refine ⟨rfl,?_⟩
 exact Xt [Ep 0 16] [] [Mk 16 .i64 16 [0,0,0,0,0,0,0,0,0,0,0,0,0,0,0,0]] [] 32 (v1 pT) <|Xt [] [] [Mk 16 .i64 16 (cY (bC 0) (aT (bC 121665) (F28 (bC 121666))))] [16] 144 (pu pz (pu pz (pu pz (pu pz (pu pz (pu pz (pu (Yz 16) pT))))))) <|Xz [] pz
def pp (p0:List Int) (p1:List Int) (p2:List Int):List Int :=
 aZ (aZ (aZ [0,0,0,0,0,0,0,0,0,0,0,0,0,0,0,0,0,0,0,0,0,0,0,0,0,0,0,0,0,0,0,0,0,0,0,0,0,0,0,0,0,0,0,0,0,0,0,0] 0 (aT (aT (dS (aT ((p0.drop 0).take 16) ((p1.drop 16).take 16)) (aT ((p1.drop 0).take 16) ((p0.drop 16).take 16))) (aT ((p0.drop 32).take 16) ((p1.drop 32).take 16))) (cY (aT (aT ((p0.drop 32).take 16) ((p1.drop 32).take 16)) (aT ((p0.drop 32).take 16) ((p1.drop 32).take 16))) (aT p2 (aT (aT ((p0.drop 0).take 16) ((p1.drop 0).take 16)) (aT ((p0.drop 16).take 16) ((p1.drop 16).take 16))))))) 16 (aT (aT (dS (aT ((p0.drop 16).take 16) ((p1.drop 16).take 16)) (aT ((p0.drop 0).take 16) ((p1.drop 0).take 16))) (aT ((p0.drop 32).take 16) ((p1.drop 32).take 16))) (dS (aT (aT ((p0.drop 32).take 16) ((p1.drop 32).take 16)) (aT ((p0.drop 32).take 16) ((p1.drop 32).take 16))) (aT p2 (aT (aT ((p0.drop 0).take 16) ((p1.drop 0).take 16)) (aT ((p0.drop 16).take 16) ((p1.drop 16).take 16))))))) 32 (aT (dS (aT (aT ((p0.drop 32).take 16) ((p1.drop 32).take 16)) (aT ((p0.drop 32).take 16) ((p1.drop 32).take 16))) (aT p2 (aT (aT ((p0.drop 0).take 16) ((p1.drop 0).take 16)) (aT ((p0.drop 16).take 16) ((p1.drop 16).take 16))))) (cY (aT (aT ((p0.drop 32).take 16) ((p1.drop 32).take 16)) (aT ((p0.drop 32).take 16) ((p1.drop 32).take 16))) (aT p2 (aT (aT ((p0.drop 0).take 16) ((p1.drop 0).take 16)) (aT ((p0.drop 16).take 16) ((p1.drop 16).take 16))))))
def Kz:List AV→List Blk→Option (Prop × Ret)
 |[.ints .i64 48 p0,.ints .i64 48 p1,.ints .i64 16 p2],[]=>some (True,⟨.ints .i64 48 (pp p0 p1 p2),[]⟩)
 |_,_=>none
def MA:KL Tryz.prog gD:=Zv Ch 896 2 <|Zv kE 144 2 <|Zv kE 224 2 <|Zv kE 304 2 <|Zv kE 480 2 <|Zv kE 560 2 <|Zv kE 672 2 <|Zv kE 688 2 <|Zv kE 768 2 <|Zv kE 1008 2 <|Zv kE 1040 2 <|Zv kE 1120 2 <|Zv kE 1152 2 <|Zv kE 1200 2 <|Zv Gd 576 2 <|Zv Gd 848 2 <|Zv Gd 1088 2 <|Zn
theorem JL:Known Tryz.prog gD 91 ⟨0,0,Kz⟩:=by
 refine Xw Tryz.f91 71 MA mixed <|fun E args ks C r h hC hlen=>?_
 simp only at h
 unfold Kz at h
 split at h
 rotate_left
 cases h
 rename_i p0 p1 p2
 cases h
 simp only [bI] at hlen
 refine ⟨rfl,?_⟩
 exact Xt [Ep 6 64,Ep 5 48,Ep 4 32,Ep 3 16] [0,1,2] [Mk 64 .i64 48 [0,0,0,0,0,0,0,0,0,0,0,0,0,0,0,0,0,0,0,0,0,0,0,0,0,0,0,0,0,0,0,0,0,0,0,0,0,0,0,0,0,0,0,0,0,0,0,0],Mk 48 .i64 16 p2,Mk 32 .i64 48 p1,Mk 16 .i64 48 p0] [] 80 (v4 pT) <|Xu [] (some [0,1,0,4,15,0,32,0,128,511,0,1024,0,4096,16383,0,0,0,262143,524287,1048575]) [Ep 9 352,Ep 8 336,Ep 7 320] [] [Mk 352 .i64 16 (aT ((p0.drop 32).take 16) ((p1.drop 32).take 16)),Mk 336 .i64 16 (aT ((p0.drop 16).take 16) ((p1.drop 16).take 16)),Mk 320 .i64 16 (aT ((p0.drop 0).take 16) ((p1.drop 0).take 16))] [] 416 (v1 (pu (Ye (0+16) 48) (v1 (pu (Ye (0+16) 48) (pu pz (v1 (pu (Ye (16+16) 48) (v1 (pu (Ye (16+16) 48) (pu pz (v1 (pu (Ye (32+16) 48) (v1 (pu (Ye (32+16) 48) (pu pz (v3 (pu (Yz 16) (pu (Yz 16) (pu (Yz 16) pT))))))))))))))))))) <|Xu [] (some [0,1,0,4,15,0,32,0,128,511,1023,0,4095]) [Ep 10 592] [4,3] [Mk 592 .i64 16 (dS (aT ((p0.drop 0).take 16) ((p1.drop 16).take 16)) (aT ((p1.drop 0).take 16) ((p0.drop 16).take 16)))] [32,16] 624 (v1 (pu (Ye (0+16) 48) (v1 (pu (Ye (16+16) 48) (pu pz (v1 (pu (Ye (0+16) 48) (v1 (pu (Ye (16+16) 48) (pu pz (pu pz (v1 (pu (Yz 16) pT))))))))))))) <|Xu [] (some [0,0,0,6,15,0,63]) [Ep 11 704] [5] [Mk 704 .i64 16 (aT p2 (aT (aT ((p0.drop 0).take 16) ((p1.drop 0).take 16)) (aT ((p0.drop 16).take 16) ((p1.drop 16).take 16))))] [48] 736 (v3 (pu pz (pu pz (v1 (pu (Yz 16) pT))))) <|Xt [Ep 12 784] [] [Mk 784 .i64 16 (aT (aT ((p0.drop 32).take 16) ((p1.drop 32).take 16)) (aT ((p0.drop 32).take 16) ((p1.drop 32).take 16)))] [] 816 (v2 (pu pz (v1 (pu (Yz 16) pT)))) <|Xu [] (some [0,0,3,0,0,31,0,0,255,511]) [Ep 14 928,Ep 13 912] [12,11] [Mk 928 .i64 16 (cY (aT (aT ((p0.drop 32).take 16) ((p1.drop 32).take 16)) (aT ((p0.drop 32).take 16) ((p1.drop 32).take 16))) (aT p2 (aT (aT ((p0.drop 0).take 16) ((p1.drop 0).take 16)) (aT ((p0.drop 16).take 16) ((p1.drop 16).take 16))))),Mk 912 .i64 16 (dS (aT (aT ((p0.drop 32).take 16) ((p1.drop 32).take 16)) (aT ((p0.drop 32).take 16) ((p1.drop 32).take 16))) (aT p2 (aT (aT ((p0.drop 0).take 16) ((p1.drop 0).take 16)) (aT ((p0.drop 16).take 16) ((p1.drop 16).take 16)))))] [784,704] 976 (v2 (pu pz (v2 (pu pz (v2 (pu (Yz 16) (pu (Yz 16) pT))))))) <|Xu [] (some [0,0,3,0,15,0,0,127,0,511,0,2047,0,0,16383,32767,65535]) [] [14,13,10,9,8,7] [Mk 64 .i64 48 (aZ (aZ (aZ [0,0,0,0,0,0,0,0,0,0,0,0,0,0,0,0,0,0,0,0,0,0,0,0,0,0,0,0,0,0,0,0,0,0,0,0,0,0,0,0,0,0,0,0,0,0,0,0] 0 (aT (aT (dS (aT ((p0.drop 0).take 16) ((p1.drop 16).take 16)) (aT ((p1.drop 0).take 16) ((p0.drop 16).take 16))) (aT ((p0.drop 32).take 16) ((p1.drop 32).take 16))) (cY (aT (aT ((p0.drop 32).take 16) ((p1.drop 32).take 16)) (aT ((p0.drop 32).take 16) ((p1.drop 32).take 16))) (aT p2 (aT (aT ((p0.drop 0).take 16) ((p1.drop 0).take 16)) (aT ((p0.drop 16).take 16) ((p1.drop 16).take 16))))))) 16 (aT (aT (dS (aT ((p0.drop 16).take 16) ((p1.drop 16).take 16)) (aT ((p0.drop 0).take 16) ((p1.drop 0).take 16))) (aT ((p0.drop 32).take 16) ((p1.drop 32).take 16))) (dS (aT (aT ((p0.drop 32).take 16) ((p1.drop 32).take 16)) (aT ((p0.drop 32).take 16) ((p1.drop 32).take 16))) (aT p2 (aT (aT ((p0.drop 0).take 16) ((p1.drop 0).take 16)) (aT ((p0.drop 16).take 16) ((p1.drop 16).take 16))))))) 32 (aT (dS (aT (aT ((p0.drop 32).take 16) ((p1.drop 32).take 16)) (aT ((p0.drop 32).take 16) ((p1.drop 32).take 16))) (aT p2 (aT (aT ((p0.drop 0).take 16) ((p1.drop 0).take 16)) (aT ((p0.drop 16).take 16) ((p1.drop 16).take 16))))) (cY (aT (aT ((p0.drop 32).take 16) ((p1.drop 32).take 16)) (aT ((p0.drop 32).take 16) ((p1.drop 32).take 16))) (aT p2 (aT (aT ((p0.drop 0).take 16) ((p1.drop 0).take 16)) (aT ((p0.drop 16).take 16) ((p1.drop 16).take 16)))))))] [928,912,592,352,336,320,64] 1248 (v2 (pu pz (v1 (pu pz (v2 (pu pz (v1 (pu pz (v1 (pu pz (v2 (pu pz (pu (pa (pa (Ye (0+16) 48) (Yr 16)) (pa (pa (Ye (16+16) 48) (Yr 16)) (pa (pa (Ye (32+16) 48) (Yr 16)) pT))) (pu (Yz 48) pT)))))))))))))) <|Xz [] pz
def mq (p0:List Int) (k0:Nat) (z0:List Int × List Int):List Int × List Int :=
 ((sel (((br (aa .u8 (p0.getD (k0/8) 0) ((k0 % 8:Nat):Int)) 2):Int)==1) (pp z0.1 z0.2 (dP)) z0.1),(pp z0.2 z0.2 (dP)))
def vC (p0:List Int) (p1:List Int):List Int :=
 (itr (mq p0) (8*p0.length) (aZ (aZ [0,0,0,0,0,0,0,0,0,0,0,0,0,0,0,0,0,0,0,0,0,0,0,0,0,0,0,0,0,0,0,0,0,0,0,0,0,0,0,0,0,0,0,0,0,0,0,0] 16 (bC 1)) 32 (bC 1),p1)).1
def Jh:List AV→List Blk→Option (Prop × Ret)
 |[.sc (.ro .u8 p0),.ints .i64 48 p1],[]=>some ((p0.length≤1000000),⟨.ints .i64 48 (vC p0 p1),[]⟩)
 |_,_=>none
theorem JE:Known Tryz.prog gD 55 ⟨0,0,Jh⟩:=by
 refine Xw Tryz.f55 38 (Zv oq 96 1 <|Zv oq 112 1 <|Zv JL 480 3 <|Zv JL 560 3 <|Zv IV 48 0 <|Zn) mixed <|fun E args ks C r h hC hlen=>?_
 simp only at h
 unfold Jh at h
 split at h
 rotate_left
 cases h
 rename_i p0 p1
 cases h
 simp only [bI] at hlen
 refine ⟨rfl,?_⟩
 refine Xt [Ep 4 32,Ep 3 16] [1] [Mk 32 .i64 48 [0,0,0,0,0,0,0,0,0,0,0,0,0,0,0,0,0,0,0,0,0,0,0,0,0,0,0,0,0,0,0,0,0,0,0,0,0,0,0,0,0,0,0,0,0,0,0,0],Mk 16 .i64 48 p1] [] 48 (v2 pT) <|Xt [Ep 5 64] [] [Mk 64 .i64 16 (dP)] [] 96 (pu pz (v1 (pu (Yz 16) pT))) <|Xt [Ep 6 144] [] [Mk 144 .i64 48 (aZ (aZ [0,0,0,0,0,0,0,0,0,0,0,0,0,0,0,0,0,0,0,0,0,0,0,0,0,0,0,0,0,0,0,0,0,0,0,0,0,0,0,0,0,0,0,0,0,0,0,0] 16 (bC 1)) 32 (bC 1))] [] 176 (pu pz (pu pz (pu (pa (pa (Ye (16+16) 48) (Yr 16)) (pa (pa (Ye (32+16) 48) (Yr 16)) pT)) (v1 (pu (Yz 48) pT))))) <|Tri.seq <|Xs [Ei 7 0] [] 192 (v1 pT) <|Tri.block <|Xc (8*p0.length) (mq p0) (aZ (aZ [0,0,0,0,0,0,0,0,0,0,0,0,0,0,0,0,0,0,0,0,0,0,0,0,0,0,0,0,0,0,0,0,0,0,0,0,0,0,0,0,0,0,0,0,0,0,0,0] 16 (bC 1)) 32 (bC 1),p1) (fun k0 z0=>True) (fun k0 z0=>[Ej 7 k0]) (fun k0 z0=>[Mk 144 .i64 48 z0.1,Mk 16 .i64 48 z0.2]) trivial <|fun k0 z0 hk0 hz0 hJ0=>Tri.seq <|Xu [Ej 15 (8*p0.length)] none [Eb 16 (decide ((((k0:Nat):Int):Int)<((8*p0.length:Nat):Int)))] [] [] [] 272 (v3 (pv pT (Yt 8 p0.length) (v1 pT))) <|Xb (fun h1 h1'=>?_) (fun h1 h1'=>?_)
 refine Tri.skip <|Tri.seq <|Tri.block <|Tri.seq <|Xu [Ej 21 (k0/8),Ej 25 (k0 % 8)] none [Eb 28 (((br (aa .u8 (p0.getD (k0/8) 0) ((k0 % 8:Nat):Int)) 2):Int)==1)] [16] [] [] 432 (v2 (pv (Yn 8) (pl (dH (a:=k0) (b:=8) (by omega))) (pu (Yj (k0/8) p0.length) (pu (Yl (k0/8) p0.length) (v1 (pv (Yn 8) (pl (eK (a:=k0) (b:=8))) (pu (Y0 ((k0 % 8:Nat):Int)) (pu (Yn 2) (v1 pT))))))))) <|Xj (x:=(((br (aa .u8 (p0.getD (k0/8) 0) ((k0 % 8:Nat):Int)) 2):Int)==1)) (fun bb=>[]) [28] (fun bb=>[Mk 144 .i64 48 (sel bb (pp z0.1 z0.2 (dP)) z0.1)]) [144] 512 (fun h2=>?_) (fun h2=>?_) ?_
 have h2':=dA h2
 exact Wt [] [28] [Mk 144 .i64 48 (pp z0.1 z0.2 (dP))] [144] 512 (v3 (pu pz (pu (Yz 48) pT))) <|Xe [] [Mk 144 .i64 48 (pp z0.1 z0.2 (dP))]
 have h2':=cZ h2
 exact Tri.skip <|Xe [] [Mk 144 .i64 48 z0.1]
 exact Wt [] [] [Mk 16 .i64 48 (pp z0.2 z0.2 (dP))] [16] 592 (v3 (pu pz (pu (Yz 48) pT))) <|Wu [Ej 18 (k0+1)] none [Ej 7 (k0+1)] [7] [] [] 640 (v1 (pv pT (Yp k0 1) (v1 pT))) <|Xo [] trivial
 refine Tri.exit <|?_
 obtain rfl:k0=(8*p0.length):=(by omega);subst hz0
 exact Xt [] [16,7,6,5,3,0] [Mk 32 .i64 48 ((itr (mq p0) (8*p0.length) (aZ (aZ [0,0,0,0,0,0,0,0,0,0,0,0,0,0,0,0,0,0,0,0,0,0,0,0,0,0,0,0,0,0,0,0,0,0,0,0,0,0,0,0,0,0,0,0,0,0,0,0] 16 (bC 1)) 32 (bC 1),p1)).1)] [144,64,32,16] 304 (v1 (pu (Yz 48) pT)) <|Xz [] pz
def xb (p0:List Int):List Int :=
 (sel (((br ((aT ((p0.drop 0).take 16) (F28 ((p0.drop 32).take 16))).getD 0 0) 2):Int)==1) ((F49 (aT ((p0.drop 16).take 16) (F28 ((p0.drop 32).take 16)))).set 31 (aN .u8 ((F49 (aT ((p0.drop 16).take 16) (F28 ((p0.drop 32).take 16)))).getD 31 0) 128)) (F49 (aT ((p0.drop 16).take 16) (F28 ((p0.drop 32).take 16)))))
def Kb:List AV→List Blk→Option (Prop × Ret)
 |[.ints .i64 48 p0],[]=>some (True,⟨.sc (.sl 0 0 32 1 none),[some (.ints .u8 32 (xb p0))]⟩)
 |_,_=>none
theorem KF:Known Tryz.prog gD 54 ⟨0,1,Kb⟩:=by
 refine Xw Tryz.f54 26 (Zv K28 80 1 <|Zv K49 192 1 <|Zv kE 176 2 <|Zv kE 272 2 <|Zn) mixed <|fun E args ks C r h hC hlen=>?_
 simp only at h
 unfold Kb at h
 split at h
 rotate_left
 cases h
 rename_i p0
 cases h
 simp only [bI] at hlen
 refine ⟨rfl,?_⟩
 refine Xt [Ep 1 16] [0] [Mk 16 .i64 48 p0] [] 48 (v2 pT) <|Xt [Ep 3 96] [] [Mk 96 .i64 16 (F28 ((p0.drop 32).take 16))] [] 128 (v1 (pu (Ye (32+16) 48) (pu pz (v1 (pu (Yz 16) pT))))) <|Xt [El 4 192 32] [] [Mi 192 32 (F49 (aT ((p0.drop 16).take 16) (F28 ((p0.drop 32).take 16))))] [] 224 (v1 (pu (Ye (16+16) 48) (v1 (pu pz (pu pz (v1 pT)))))) <|Tri.seq <|Xt [Eb 19 (((br ((aT ((p0.drop 0).take 16) (F28 ((p0.drop 32).take 16))).getD 0 0) 2):Int)==1)] [3,1] [] [96,16] 336 (v1 (pu (Ye (0+16) 48) (v1 (pu pz (pu (pa (Yi 0 16) (Yl 0 16)) (pu (Yn 2) (v1 pT))))))) <|Xj (x:=(((br ((aT ((p0.drop 0).take 16) (F28 ((p0.drop 32).take 16))).getD 0 0) 2):Int)==1)) (fun bb=>[]) [19] (fun bb=>[Mi 192 32 (sel bb ((F49 (aT ((p0.drop 16).take 16) (F28 ((p0.drop 32).take 16)))).set 31 (aN .u8 ((F49 (aT ((p0.drop 16).take 16) (F28 ((p0.drop 32).take 16)))).getD 31 0) 128)) (F49 (aT ((p0.drop 16).take 16) (F28 ((p0.drop 32).take 16)))))]) [192] 432 (fun h1=>?_) (fun h1=>?_) ?_
 have h1':=dA h1
 exact Wt [] [19] [Mi 192 32 ((F49 (aT ((p0.drop 16).take 16) (F28 ((p0.drop 32).take 16)))).set 31 (aN .u8 ((F49 (aT ((p0.drop 16).take 16) (F28 ((p0.drop 32).take 16)))).getD 31 0) 128))] [192] 432 (v1 (pu (Yi 31 32) (pu (Yl 31 32) (v1 (pu (Yi 31 32) (pu (Ys 31 32) pT)))))) <|Xe [] [Mi 192 32 ((F49 (aT ((p0.drop 16).take 16) (F28 ((p0.drop 32).take 16)))).set 31 (aN .u8 ((F49 (aT ((p0.drop 16).take 16) (F28 ((p0.drop 32).take 16)))).getD 31 0) 128))]
 have h1':=cZ h1
 exact Tri.skip <|Xe [] [Mi 192 32 (F49 (aT ((p0.drop 16).take 16) (F28 ((p0.drop 32).take 16))))]
 exact Xs [El 2 192 32] [4] 464 (v2 pT) <|Xz [(192,0)] pz
def lB (p0:List Int):List Int :=
 (sel ((((p0.length:Nat):Int):Int) != 32) [0,0,0,0,0,0,0,0,0,0,0,0,0,0,0,0,0,0,0,0,0,0,0,0,0,0,0,0,0,0,0,0,0,0,0,0,0,0,0,0,0,0,0,0,0,0,0,0] (sel (!(aC (bytesOf (((sel (decide ((p0.getD 31 0:Int) ≥ 128)) ((F49 (F24 p0)).set 31 (aN .u8 ((F49 (F24 p0)).getD 31 0) 128)) (F49 (F24 p0))).drop 0).take 32)) (bytesOf p0))) [0,0,0,0,0,0,0,0,0,0,0,0,0,0,0,0,0,0,0,0,0,0,0,0,0,0,0,0,0,0,0,0,0,0,0,0,0,0,0,0,0,0,0,0,0,0,0,0] (sel (!(rX (aT (cY (aT (F24 p0) (F24 p0)) (bC 1)) (F28 (dS (aT (dP) (aT (F24 p0) (F24 p0))) (bC 1)))))) [0,0,0,0,0,0,0,0,0,0,0,0,0,0,0,0,0,0,0,0,0,0,0,0,0,0,0,0,0,0,0,0,0,0,0,0,0,0,0,0,0,0,0,0,0,0,0,0] (sel (((F35 (aT (cY (aT (F24 p0) (F24 p0)) (bC 1)) (F28 (dS (aT (dP) (aT (F24 p0) (F24 p0))) (bC 1))))):List Int)==(bC 0)) (sel (decide ((p0.getD 31 0:Int) ≥ 128)) [0,0,0,0,0,0,0,0,0,0,0,0,0,0,0,0,0,0,0,0,0,0,0,0,0,0,0,0,0,0,0,0,0,0,0,0,0,0,0,0,0,0,0,0,0,0,0,0] (aZ (aZ (aZ [0,0,0,0,0,0,0,0,0,0,0,0,0,0,0,0,0,0,0,0,0,0,0,0,0,0,0,0,0,0,0,0,0,0,0,0,0,0,0,0,0,0,0,0,0,0,0,0] 0 (sel (!((((br ((F35 (aT (cY (aT (F24 p0) (F24 p0)) (bC 1)) (F28 (dS (aT (dP) (aT (F24 p0) (F24 p0))) (bC 1))))).getD 0 0) 2):Int)==1)==(decide ((p0.getD 31 0:Int) ≥ 128)))) (cY (bC 0) (F35 (aT (cY (aT (F24 p0) (F24 p0)) (bC 1)) (F28 (dS (aT (dP) (aT (F24 p0) (F24 p0))) (bC 1)))))) (F35 (aT (cY (aT (F24 p0) (F24 p0)) (bC 1)) (F28 (dS (aT (dP) (aT (F24 p0) (F24 p0))) (bC 1))))))) 16 (F24 p0)) 32 (bC 1))) (aZ (aZ (aZ [0,0,0,0,0,0,0,0,0,0,0,0,0,0,0,0,0,0,0,0,0,0,0,0,0,0,0,0,0,0,0,0,0,0,0,0,0,0,0,0,0,0,0,0,0,0,0,0] 0 (sel (!((((br ((F35 (aT (cY (aT (F24 p0) (F24 p0)) (bC 1)) (F28 (dS (aT (dP) (aT (F24 p0) (F24 p0))) (bC 1))))).getD 0 0) 2):Int)==1)==(decide ((p0.getD 31 0:Int) ≥ 128)))) (cY (bC 0) (F35 (aT (cY (aT (F24 p0) (F24 p0)) (bC 1)) (F28 (dS (aT (dP) (aT (F24 p0) (F24 p0))) (bC 1)))))) (F35 (aT (cY (aT (F24 p0) (F24 p0)) (bC 1)) (F28 (dS (aT (dP) (aT (F24 p0) (F24 p0))) (bC 1))))))) 16 (F24 p0)) 32 (bC 1))))))
def gQ (p0:List Int):Bool :=
 (sel ((((p0.length:Nat):Int):Int) != 32) false (sel (!(aC (bytesOf (((sel (decide ((p0.getD 31 0:Int) ≥ 128)) ((F49 (F24 p0)).set 31 (aN .u8 ((F49 (F24 p0)).getD 31 0) 128)) (F49 (F24 p0))).drop 0).take 32)) (bytesOf p0))) false (sel (!(rX (aT (cY (aT (F24 p0) (F24 p0)) (bC 1)) (F28 (dS (aT (dP) (aT (F24 p0) (F24 p0))) (bC 1)))))) false (sel (((F35 (aT (cY (aT (F24 p0) (F24 p0)) (bC 1)) (F28 (dS (aT (dP) (aT (F24 p0) (F24 p0))) (bC 1))))):List Int)==(bC 0)) (sel (decide ((p0.getD 31 0:Int) ≥ 128)) false true) true))))
def LG:List AV→List Blk→Option (Prop × Ret)
 |[.sc (.ro .u8 p0)],[]=>some (True,⟨.tup [.ints .i64 48 (lB p0),.sc (.b (gQ p0))],[]⟩)
 |_,_=>none
def Lt:KL Tryz.prog gD:=Zv Ch 592 2 <|Zv Ch 1120 2 <|Zv oq 576 1 <|Zv oq 656 1 <|Zv oq 896 1 <|Zv oq 1088 1 <|Zv oq 1184 1 <|Zv IV 608 0 <|Zv K28 688 1 <|Zv K49 176 1 <|Zv kE 512 2 <|Zv kE 640 2 <|Zv kE 704 2 <|Zc K24 112 [.ro .u8] [] [] <|Zv K35 720 1 <|Zv Gd 672 2 <|Zn
theorem LU:Known Tryz.prog gD 86 ⟨0,0,LG⟩:=by
 refine Xw Tryz.f86 75 Lt mixed <|fun E args ks C r h hC hlen=>?_
 simp only at h
 unfold LG at h
 split at h
 rotate_left
 cases h
 rename_i p0
 cases h
 simp only [bI] at hlen
 refine ⟨rfl,?_⟩
 refine Xt [Ep 2 16] [] [Mk 16 .i64 48 [0,0,0,0,0,0,0,0,0,0,0,0,0,0,0,0,0,0,0,0,0,0,0,0,0,0,0,0,0,0,0,0,0,0,0,0,0,0,0,0,0,0,0,0,0,0,0,0]] [] 48 (v2 pT) <|Tri.seq <|Xs [Eb 12 ((((p0.length:Nat):Int):Int) != 32)] [] 96 (v3 pT) <|Xa (fun h1=>?_) (fun h1=>?_)
 have h1':=di h1
 exact Xs [Eb 3 false] [12,0] 144 (v1 (pu (Yz 48) (v1 pT))) <|Tri.ret <|rt <|oo.conv (r':=⟨.tup [.ints .i64 48 [0,0,0,0,0,0,0,0,0,0,0,0,0,0,0,0,0,0,0,0,0,0,0,0,0,0,0,0,0,0,0,0,0,0,0,0,0,0,0,0,0,0,0,0,0,0,0,0],.sc (.b false)],[]⟩) (by simp only [lB,gQ];try simp only [h1,aD,aA]) <|er [] (pa pT pz)
 have h1':=bz h1
 refine Tri.skip <|Xt [Ep 4 128] [12] [Mk 128 .i64 16 (F24 p0)] [] 160 (v1 (pu (pa pz (lo (p0.length=32))) (v1 (pu (Yz 16) pT)))) <|Xt [El 5 176 32] [] [Mi 176 32 (F49 (F24 p0))] [] 208 (v1 (pu pz (v1 pT))) <|Xs [Eb 6 (decide ((p0.getD 31 0:Int) ≥ 128))] [] 288 (v1 (pu (Yi 31 p0.length) (pu (Yl 31 p0.length) (v2 pT)))) <|Tri.seq <|Xs [Eb 22 (decide ((p0.getD 31 0:Int) ≥ 128))] [] 304 (v1 pT) <|Xj (x:=(decide ((p0.getD 31 0:Int) ≥ 128))) (fun bb=>[]) [22] (fun bb=>[Mi 176 32 (sel bb ((F49 (F24 p0)).set 31 (aN .u8 ((F49 (F24 p0)).getD 31 0) 128)) (F49 (F24 p0)))]) [176] 400 (fun h2=>?_) (fun h2=>?_) ?_
 have h2':=of_decide_eq_true h2
 exact Wt [] [22] [Mi 176 32 ((F49 (F24 p0)).set 31 (aN .u8 ((F49 (F24 p0)).getD 31 0) 128))] [176] 400 (v1 (pu (Yi 31 32) (pu (Yl 31 32) (v1 (pu (Yi 31 32) (pu (Ys 31 32) pT)))))) <|Xe [] [Mi 176 32 ((F49 (F24 p0)).set 31 (aN .u8 ((F49 (F24 p0)).getD 31 0) 128))]
 have h2':=of_decide_eq_false h2
 exact Tri.skip <|Xe [] [Mi 176 32 (F49 (F24 p0))]
 refine Tri.seq <|Xt [Eb 32 (!(aC (bytesOf (((sel (decide ((p0.getD 31 0:Int) ≥ 128)) ((F49 (F24 p0)).set 31 (aN .u8 ((F49 (F24 p0)).getD 31 0) 128)) (F49 (F24 p0))).drop 0).take 32)) (bytesOf p0)))] [5,0] [] [176] 480 (v1 (pu (Yw 32) (v3 pT))) <|Xa (fun h3=>?_) (fun h3=>?_)
 exact Xt [Eb 3 false] [32,6,4] [] [128] 528 (v1 (pu (Yz 48) (v1 pT))) <|Tri.ret <|rt <|oo.conv (r':=⟨.tup [.ints .i64 48 [0,0,0,0,0,0,0,0,0,0,0,0,0,0,0,0,0,0,0,0,0,0,0,0,0,0,0,0,0,0,0,0,0,0,0,0,0,0,0,0,0,0,0,0,0,0,0,0],.sc (.b false)],[]⟩) (by simp only [lB,gQ];try simp only [h1,aD,aA];try simp only [h3,aD,aA]) <|er [] (pa pT pz)
 refine Tri.skip <|Xt [Ep 7 528] [32] [Mk 528 .i64 16 (aT (F24 p0) (F24 p0))] [] 560 (v2 (pu pz (v1 (pu (Yz 16) pT)))) <|Xu [] (some [0,0,3,7,0,31,63,127,255,511,1023,2047,4095,4095,0,24575,65535]) [Eb 9 (rX (aT (cY (aT (F24 p0) (F24 p0)) (bC 1)) (F28 (dS (aT (dP) (aT (F24 p0) (F24 p0))) (bC 1))))),Ep 8 784] [7] [Mk 784 .i64 16 (F35 (aT (cY (aT (F24 p0) (F24 p0)) (bC 1)) (F28 (dS (aT (dP) (aT (F24 p0) (F24 p0))) (bC 1)))))] [528] 832 (v1 (pu pz (pu pz (pu pz (v1 (pu pz (pu pz (pu pz (pu pz (pu pz (pu pz (v4 (pu (Yz 16) (v1 pT)))))))))))))) <|Tri.seq <|Tri.split (!(rX (aT (cY (aT (F24 p0) (F24 p0)) (bC 1)) (F28 (dS (aT (dP) (aT (F24 p0) (F24 p0))) (bC 1)))))) (fun h4=>?_) (fun h4=>?_)
 exact Xu [Eb 53 true] (some [0,1,3,7,7,31,63,127,255,511]) [Eb 60 true] [9] [] [] 992 (v2 (pg h4 (v7 pT))) <|Tri.cond_true (by kernel_rfl) <|Xt [Eb 3 false] [60,8,6,4] [] [784,128] 1040 (v1 (pu (Yz 48) (v1 pT))) <|Tri.ret <|rt <|oo.conv (r':=⟨.tup [.ints .i64 48 [0,0,0,0,0,0,0,0,0,0,0,0,0,0,0,0,0,0,0,0,0,0,0,0,0,0,0,0,0,0,0,0,0,0,0,0,0,0,0,0,0,0,0,0,0,0,0,0],.sc (.b false)],[]⟩) (by simp only [lB,gQ];try simp only [h1,aD,aA];try simp only [h3,aD,aA];try simp only [h4,aD,aA]) <|er [] (pa pT pz)
 refine Tri.split (((F35 (aT (cY (aT (F24 p0) (F24 p0)) (bC 1)) (F28 (dS (aT (dP) (aT (F24 p0) (F24 p0))) (bC 1))))):List Int)==(bC 0)) (fun h5=>?_) (fun h5=>?_)
 refine Xu [Eb 53 false,Eb 57 true] (some [0,1,3,7,7,31,63,127,255,511]) [Eb 60 (decide ((p0.getD 31 0:Int) ≥ 128))] [9] [] [] 992 (v2 (pg h4 (v1 (pu pz (v1 (pg h5 (v3 pT))))))) <|Xb (fun h6 h6'=>?_) (fun h6 h6'=>?_)
 exact Xt [Eb 3 false] [60,8,6,4] [] [784,128] 1040 (v1 (pu (Yz 48) (v1 pT))) <|Tri.ret <|rt <|oo.conv (r':=⟨.tup [.ints .i64 48 [0,0,0,0,0,0,0,0,0,0,0,0,0,0,0,0,0,0,0,0,0,0,0,0,0,0,0,0,0,0,0,0,0,0,0,0,0,0,0,0,0,0,0,0,0,0,0,0],.sc (.b false)],[]⟩) (by simp only [lB,gQ];try simp only [h1,aD,aA];try simp only [h3,aD,aA];try simp only [h4,aD,aA];try simp only [h5,aD,aA];try simp only [h6,aD,aA]) <|er [] (pa pT pz)
 refine Tri.skip <|Tri.seq <|Xs [Eb 67 (!((((br ((F35 (aT (cY (aT (F24 p0) (F24 p0)) (bC 1)) (F28 (dS (aT (dP) (aT (F24 p0) (F24 p0))) (bC 1))))).getD 0 0) 2):Int)==1)==(decide ((p0.getD 31 0:Int) ≥ 128))))] [60,6] 1088 (pu (Yi 0 16) (pu (Yl 0 16) (pu (Yn 2) (v3 pT)))) <|Xj (x:=(!((((br ((F35 (aT (cY (aT (F24 p0) (F24 p0)) (bC 1)) (F28 (dS (aT (dP) (aT (F24 p0) (F24 p0))) (bC 1))))).getD 0 0) 2):Int)==1)==(decide ((p0.getD 31 0:Int) ≥ 128))))) (fun bb=>[]) [67] (fun bb=>[Mk 784 .i64 16 (sel bb (cY (bC 0) (F35 (aT (cY (aT (F24 p0) (F24 p0)) (bC 1)) (F28 (dS (aT (dP) (aT (F24 p0) (F24 p0))) (bC 1)))))) (F35 (aT (cY (aT (F24 p0) (F24 p0)) (bC 1)) (F28 (dS (aT (dP) (aT (F24 p0) (F24 p0))) (bC 1))))))]) [784] 1152 (fun h7=>?_) (fun h7=>?_) ?_
 exact Wu [] (some [0,0,3,7]) [] [67] [Mk 784 .i64 16 (cY (bC 0) (F35 (aT (cY (aT (F24 p0) (F24 p0)) (bC 1)) (F28 (dS (aT (dP) (aT (F24 p0) (F24 p0))) (bC 1))))))] [784] 1152 (pu pz (v1 (pu pz (pu (Yz 16) pT)))) <|Xe [] [Mk 784 .i64 16 (cY (bC 0) (F35 (aT (cY (aT (F24 p0) (F24 p0)) (bC 1)) (F28 (dS (aT (dP) (aT (F24 p0) (F24 p0))) (bC 1))))))]
 exact Tri.skip <|Xe [] [Mk 784 .i64 16 (F35 (aT (cY (aT (F24 p0) (F24 p0)) (bC 1)) (F28 (dS (aT (dP) (aT (F24 p0) (F24 p0))) (bC 1)))))]
 exact Xu [] (some [0,0,0,7,15,31]) [Eb 3 true] [8,4] [Mk 16 .i64 48 (aZ (aZ (aZ [0,0,0,0,0,0,0,0,0,0,0,0,0,0,0,0,0,0,0,0,0,0,0,0,0,0,0,0,0,0,0,0,0,0,0,0,0,0,0,0,0,0,0,0,0,0,0,0] 0 (sel (!((((br ((F35 (aT (cY (aT (F24 p0) (F24 p0)) (bC 1)) (F28 (dS (aT (dP) (aT (F24 p0) (F24 p0))) (bC 1))))).getD 0 0) 2):Int)==1)==(decide ((p0.getD 31 0:Int) ≥ 128)))) (cY (bC 0) (F35 (aT (cY (aT (F24 p0) (F24 p0)) (bC 1)) (F28 (dS (aT (dP) (aT (F24 p0) (F24 p0))) (bC 1)))))) (F35 (aT (cY (aT (F24 p0) (F24 p0)) (bC 1)) (F28 (dS (aT (dP) (aT (F24 p0) (F24 p0))) (bC 1))))))) 16 (F24 p0)) 32 (bC 1))] [784,128,16] 1248 (v2 (pu pz (pu (pa (pa (Ye (0+16) 48) (Yr 16)) (pa (pa (Ye (16+16) 48) (Yr 16)) (pa (pa (Ye (32+16) 48) (Yr 16)) pT))) (pu (Yz 48) (v1 pT))))) <|Tri.ret <|rt <|oo.conv (r':=⟨.tup [.ints .i64 48 (aZ (aZ (aZ [0,0,0,0,0,0,0,0,0,0,0,0,0,0,0,0,0,0,0,0,0,0,0,0,0,0,0,0,0,0,0,0,0,0,0,0,0,0,0,0,0,0,0,0,0,0,0,0] 0 (sel (!((((br ((F35 (aT (cY (aT (F24 p0) (F24 p0)) (bC 1)) (F28 (dS (aT (dP) (aT (F24 p0) (F24 p0))) (bC 1))))).getD 0 0) 2):Int)==1)==(decide ((p0.getD 31 0:Int) ≥ 128)))) (cY (bC 0) (F35 (aT (cY (aT (F24 p0) (F24 p0)) (bC 1)) (F28 (dS (aT (dP) (aT (F24 p0) (F24 p0))) (bC 1)))))) (F35 (aT (cY (aT (F24 p0) (F24 p0)) (bC 1)) (F28 (dS (aT (dP) (aT (F24 p0) (F24 p0))) (bC 1))))))) 16 (F24 p0)) 32 (bC 1)),.sc (.b true)],[]⟩) (by simp only [lB,gQ];try simp only [h1,aD,aA];try simp only [h3,aD,aA];try simp only [h4,aD,aA];try simp only [h5,aD,aA];try simp only [h6,aD,aA]) <|er [] (pa pT pz)
 refine Xu [Eb 53 false,Eb 57 false] (some [0,1,3,7,7,31,63,127,255,511]) [Eb 60 false] [9] [] [] 992 (v2 (pg h4 (v1 (pu pz (v1 (pg h5 (v3 pT))))))) <|Tri.cond_false (by kernel_rfl) <|Tri.skip <|Tri.seq <|Xs [Eb 67 (!((((br ((F35 (aT (cY (aT (F24 p0) (F24 p0)) (bC 1)) (F28 (dS (aT (dP) (aT (F24 p0) (F24 p0))) (bC 1))))).getD 0 0) 2):Int)==1)==(decide ((p0.getD 31 0:Int) ≥ 128))))] [60,6] 1088 (pu (Yi 0 16) (pu (Yl 0 16) (pu (Yn 2) (v3 pT)))) <|Xj (x:=(!((((br ((F35 (aT (cY (aT (F24 p0) (F24 p0)) (bC 1)) (F28 (dS (aT (dP) (aT (F24 p0) (F24 p0))) (bC 1))))).getD 0 0) 2):Int)==1)==(decide ((p0.getD 31 0:Int) ≥ 128))))) (fun bb=>[]) [67] (fun bb=>[Mk 784 .i64 16 (sel bb (cY (bC 0) (F35 (aT (cY (aT (F24 p0) (F24 p0)) (bC 1)) (F28 (dS (aT (dP) (aT (F24 p0) (F24 p0))) (bC 1)))))) (F35 (aT (cY (aT (F24 p0) (F24 p0)) (bC 1)) (F28 (dS (aT (dP) (aT (F24 p0) (F24 p0))) (bC 1))))))]) [784] 1152 (fun h8=>?_) (fun h8=>?_) ?_
 exact Wu [] (some [0,0,3,7]) [] [67] [Mk 784 .i64 16 (cY (bC 0) (F35 (aT (cY (aT (F24 p0) (F24 p0)) (bC 1)) (F28 (dS (aT (dP) (aT (F24 p0) (F24 p0))) (bC 1))))))] [784] 1152 (pu pz (v1 (pu pz (pu (Yz 16) pT)))) <|Xe [] [Mk 784 .i64 16 (cY (bC 0) (F35 (aT (cY (aT (F24 p0) (F24 p0)) (bC 1)) (F28 (dS (aT (dP) (aT (F24 p0) (F24 p0))) (bC 1))))))]
 exact Tri.skip <|Xe [] [Mk 784 .i64 16 (F35 (aT (cY (aT (F24 p0) (F24 p0)) (bC 1)) (F28 (dS (aT (dP) (aT (F24 p0) (F24 p0))) (bC 1)))))]
 exact Xu [] (some [0,0,0,7,15,31]) [Eb 3 true] [8,4] [Mk 16 .i64 48 (aZ (aZ (aZ [0,0,0,0,0,0,0,0,0,0,0,0,0,0,0,0,0,0,0,0,0,0,0,0,0,0,0,0,0,0,0,0,0,0,0,0,0,0,0,0,0,0,0,0,0,0,0,0] 0 (sel (!((((br ((F35 (aT (cY (aT (F24 p0) (F24 p0)) (bC 1)) (F28 (dS (aT (dP) (aT (F24 p0) (F24 p0))) (bC 1))))).getD 0 0) 2):Int)==1)==(decide ((p0.getD 31 0:Int) ≥ 128)))) (cY (bC 0) (F35 (aT (cY (aT (F24 p0) (F24 p0)) (bC 1)) (F28 (dS (aT (dP) (aT (F24 p0) (F24 p0))) (bC 1)))))) (F35 (aT (cY (aT (F24 p0) (F24 p0)) (bC 1)) (F28 (dS (aT (dP) (aT (F24 p0) (F24 p0))) (bC 1))))))) 16 (F24 p0)) 32 (bC 1))] [784,128,16] 1248 (v2 (pu pz (pu (pa (pa (Ye (0+16) 48) (Yr 16)) (pa (pa (Ye (16+16) 48) (Yr 16)) (pa (pa (Ye (32+16) 48) (Yr 16)) pT))) (pu (Yz 48) (v1 pT))))) <|Tri.ret <|rt <|oo.conv (r':=⟨.tup [.ints .i64 48 (aZ (aZ (aZ [0,0,0,0,0,0,0,0,0,0,0,0,0,0,0,0,0,0,0,0,0,0,0,0,0,0,0,0,0,0,0,0,0,0,0,0,0,0,0,0,0,0,0,0,0,0,0,0] 0 (sel (!((((br ((F35 (aT (cY (aT (F24 p0) (F24 p0)) (bC 1)) (F28 (dS (aT (dP) (aT (F24 p0) (F24 p0))) (bC 1))))).getD 0 0) 2):Int)==1)==(decide ((p0.getD 31 0:Int) ≥ 128)))) (cY (bC 0) (F35 (aT (cY (aT (F24 p0) (F24 p0)) (bC 1)) (F28 (dS (aT (dP) (aT (F24 p0) (F24 p0))) (bC 1)))))) (F35 (aT (cY (aT (F24 p0) (F24 p0)) (bC 1)) (F28 (dS (aT (dP) (aT (F24 p0) (F24 p0))) (bC 1))))))) 16 (F24 p0)) 32 (bC 1)),.sc (.b true)],[]⟩) (by simp only [lB,gQ];try simp only [h1,aD,aA];try simp only [h3,aD,aA];try simp only [h4,aD,aA];try simp only [h5,aD,aA]) <|er [] (pa pT pz)
theorem xd {p0:List Int} (h:(!(gQ p0))=false):p0.length=32:=by
 unfold gQ at h
 cases hb:((((p0.length:Nat):Int):Int) != 32)
 ·have:=bz hb
  omega
 ·rw [hb,aD] at h
  cases h
def xL:List Int :=
 (lB (aH (F49 (aT (bC 4) (F28 (bC 5)))) 32 0 32))
def Kr:List AV→List Blk→Option (Prop × Ret)
 |[],[]=>some (True,⟨.ints .i64 48 (xL),[]⟩)
 |_,_=>none
theorem Jm:Known Tryz.prog gD 58 ⟨0,0,Kr⟩:=by
 refine Xw Tryz.f58 13 (Zc LU 112 [.ro .u8] [96] [] <|Zv oq 32 1 <|Zv oq 48 1 <|Zv K28 64 1 <|Zv K49 96 1 <|Zv kE 80 2 <|Zn) mixed <|fun E args ks C r h hC hlen=>?_
 simp only at h
 unfold Kr at h
 split at h
 rotate_left
 cases h
 cases h
 simp only [bI] at hlen
 refine ⟨rfl,?_⟩
 exact Xt [Ep 0 16] [] [Mk 16 .i64 48 [0,0,0,0,0,0,0,0,0,0,0,0,0,0,0,0,0,0,0,0,0,0,0,0,0,0,0,0,0,0,0,0,0,0,0,0,0,0,0,0,0,0,0,0,0,0,0,0]] [] 32 (v1 pT) <|Xt [Ep 1 176] [] [Mk 176 .i64 48 (lB (aH (F49 (aT (bC 4) (F28 (bC 5)))) 32 0 32))] [] 224 (pu pz (pu pz (pu pz (pu pz (pu pz (pu (pa (pa (Yw 32) pT) pT) (v4 (pu (Yz 48) (v1 pT))))))))) <|Tri.len 176 rfl <|fun hl1=>Xt [] [1] [Mk 16 .i64 48 (lB (aH (F49 (aT (bC 4) (F28 (bC 5)))) 32 0 32))] [176,16] 256 (v1 (pu (Yz 48) pT)) <|Xz [] pz
def Ja:List AV→List Blk→Option (Prop × Ret)
 |[],[]=>some (True,⟨.sc (.sl 0 0 32 1 none),[some (.ints .u8 32 [237,211,245,92,26,99,18,88,214,156,247,162,222,249,222,20,0,0,0,0,0,0,0,0,0,0,0,0,0,0,0,16])]⟩)
 |_,_=>none
theorem LF:Known Tryz.prog gD 88 ⟨0,1,Ja⟩:=by
 refine Xw Tryz.f88 2 Zn mixed <|fun E args ks C r h hC hlen=>?_
 simp only at h
 unfold Ja at h
 split at h
 rotate_left
 cases h
 cases h
 simp only [bI] at hlen
 refine ⟨rfl,?_⟩
 exact Xs [] [] 32 (v1 pT) <|Xt [El 0 32 32] [] [Mi 32 32 [237,211,245,92,26,99,18,88,214,156,247,162,222,249,222,20,0,0,0,0,0,0,0,0,0,0,0,0,0,0,0,16]] [] 64 (pu (Yf 32) (v1 pT)) <|Xz [(32,0)] pz
def IA (k0:Nat) (z0:Unit):Unit :=
 ()
def ck (p0:List Int) (p1:List Int) (k0:Nat):Bool :=
 (sel ((p0.getD (32-1-k0) 0:Int) != p1.getD (32-1-k0) 0) true false)
def wa (p0:List Int) (p1:List Int):Bool :=
 (sel (Nat.blt (aW (ck p0 p1) 32) 32) (decide ((p0.getD (32-1-(aW (ck p0 p1) 32)) 0:Int)<p1.getD (32-1-(aW (ck p0 p1) 32)) 0)) false)
def KE:List AV→List Blk→Option (Prop × Ret)
 |[.sc (.ro .u8 p0),.sc (.ro .u8 p1)],[]=>some ((p0.length=32∧p1.length=32),⟨.sc (.b (wa p0 p1)),[]⟩)
 |_,_=>none
theorem Ll:Known Tryz.prog gD 87 ⟨0,0,KE⟩:=by
 refine Xw Tryz.f87 28 Zn mixed <|fun E args ks C r h hC hlen=>?_
 simp only at h
 unfold KE at h
 split at h
 rotate_left
 cases h
 rename_i p0 p1
 cases h
 simp only [bI] at hlen
 refine ⟨rfl,?_⟩
 refine Xs [] [] 32 (v1 pT) <|Tri.seq <|Xs [Ei 5 31] [] 48 (v1 pT) <|Tri.block <|Xc 32 (IA) (()) (fun k0 z0=>(∀ j,j<k0→(ck p0 p1) j=false)) (fun k0 z0=>[Ei 5 (((32:Nat):Int)-1-((k0:Nat):Int))]) (fun k0 z0=>[]) (fun j hj=>absurd hj (Nat.not_lt_zero j)) <|fun k0 z0 hk0 hz0 hJ0=>Tri.seq <|Xs [Eb 7 (decide (((((32:Nat):Int)-1-((k0:Nat):Int)):Int) ≥ 0))] [] 80 (v2 pT) <|Xb (fun h1 h1'=>?_) (fun h1 h1'=>?_)
 refine Tri.skip <|Tri.seq <|Tri.block <|Xu [Ej 11 (32-1-k0),Ej 15 (32-1-k0)] (some [0,0,3,7,0,0,48,112,255]) [Eb 18 ((p0.getD (32-1-k0) 0:Int) != p1.getD (32-1-k0) 0)] [7] [] [] 224 (v1 (pv pT (pl (show (((32:Nat):Int)-1-((k0:Nat):Int))=((32-1-k0:Nat):Int) from il (by omega))) (pu (Yj (32-1-k0) p0.length) (pu (Yl (32-1-k0) p0.length) (v1 (pv pT (pl (show (((32:Nat):Int)-1-((k0:Nat):Int))=((32-1-k0:Nat):Int) from il (by omega))) (pu (Yj (32-1-k0) p1.length) (pu (Yl (32-1-k0) p1.length) (v1 pT))))))))) <|Xa (fun h2=>?_) (fun h2=>?_)
 have h2':=di h2
 refine Xu [Ej 20 (32-1-k0),Ej 24 (32-1-k0)] (some [0,0,3,7,0,0,48,112,255,511]) [Eb 4 (decide ((p0.getD (32-1-k0) 0:Int)<p1.getD (32-1-k0) 0))] [18,5,0,1] [] [] 384 (v1 (pv pT (pl (show (((32:Nat):Int)-1-((k0:Nat):Int))=((32-1-k0:Nat):Int) from il (by omega))) (pu (Yj (32-1-k0) p0.length) (pu (Yl (32-1-k0) p0.length) (v1 (pv pT (pl (show (((32:Nat):Int)-1-((k0:Nat):Int))=((32-1-k0:Nat):Int) from il (by omega))) (pu (Yj (32-1-k0) p1.length) (pu (Yl (32-1-k0) p1.length) (v2 pT))))))))) <|?_
 subst hz0
 have hf0:aW (ck p0 p1) 32=k0:=ah (by omega) hJ0 (by simp only [ck,h1,h2,aD,aA])
 have hb0:Nat.blt k0 32=true:=ak (by omega)
 have hq0:Nat.blt (aW (ck p0 p1) 32) 32=true:=by rw [hf0];exact hb0
 exact Xy [] pz (by simp only [wa,hq0,hf0,hb0,aD,aA] <;> rfl)
 have h2':=bz h2
 exact Tri.skip <|Wu [Ei 9 (((32:Nat):Int)-1-((k0+1:Nat):Int))] none [Ei 5 (((32:Nat):Int)-1-((k0+1:Nat):Int))] [18,5] [] [] 272 (v1 (pv pT (pl (show (ag .i64 (((32:Nat):Int)-1-((k0:Nat):Int)) 1)=(((32:Nat):Int)-1-((k0+1:Nat):Int)) from jh (by omega) (by omega))) (v1 pT))) <|Xo [] (ke hJ0 (by subst hz0;simp only [ck,h1,h2,aD,aA]))
 refine Tri.exit <|?_
 obtain rfl:k0=32:=(by omega);subst hz0
 have hf0:aW (ck p0 p1) 32=32:=lR hJ0
 have hb0:Nat.blt 32 32=false:=lp _
 have hq0:Nat.blt (aW (ck p0 p1) 32) 32=false:=by rw [hf0];exact hb0
 exact Xs [Eb 4 false] [7,5,0,1] 96 (v1 pT) <|Xy [] pz (by simp only [wa,hq0,hf0,hb0,aD,aA] <;> rfl)
end Go.Vm
namespace Go.Vm
open Go Go.Proofs
def cK (k2:Nat) (z2:Int × List Int):Int × List Int :=
 ((iu .i64 (aN .i64 (bS .i64 2 (z2.2.getD k2 0)) z2.1) 256),z2.2.set k2 (br (aN .i64 (bS .i64 2 (z2.2.getD k2 0)) z2.1) 256))
def mu (p0:List Int) (k0:Nat) (k1:Nat) (z1:Nat × List Int) (k3:Nat) (z3:Int × List Int):Int × List Int :=
 ((sel (decide (((sel (decide ((((k3:Nat):Int):Int)<32)) (ag .i64 (ag .i64 (((itr (cK) 33 ((br (aa .i64 (IntKind.wrap .i64 (p0.getD (p0.length-1-k0) 0)) (((8:Nat):Int)-1-((k1:Nat):Int))) 2),z1.2)).2).getD k3 0) z3.1) (IntKind.wrap .i64 ([237,211,245,92,26,99,18,88,214,156,247,162,222,249,222,20,0,0,0,0,0,0,0,0,0,0,0,0,0,0,0,16].getD k3 0))) (ag .i64 (((itr (cK) 33 ((br (aa .i64 (IntKind.wrap .i64 (p0.getD (p0.length-1-k0) 0)) (((8:Nat):Int)-1-((k1:Nat):Int))) 2),z1.2)).2).getD k3 0) z3.1)):Int)<0)) 1 0),z3.2.set k3 (sel (decide (((sel (decide ((((k3:Nat):Int):Int)<32)) (ag .i64 (ag .i64 (((itr (cK) 33 ((br (aa .i64 (IntKind.wrap .i64 (p0.getD (p0.length-1-k0) 0)) (((8:Nat):Int)-1-((k1:Nat):Int))) 2),z1.2)).2).getD k3 0) z3.1) (IntKind.wrap .i64 ([237,211,245,92,26,99,18,88,214,156,247,162,222,249,222,20,0,0,0,0,0,0,0,0,0,0,0,0,0,0,0,16].getD k3 0))) (ag .i64 (((itr (cK) 33 ((br (aa .i64 (IntKind.wrap .i64 (p0.getD (p0.length-1-k0) 0)) (((8:Nat):Int)-1-((k1:Nat):Int))) 2),z1.2)).2).getD k3 0) z3.1)):Int)<0)) (aN .i64 (sel (decide ((((k3:Nat):Int):Int)<32)) (ag .i64 (ag .i64 (((itr (cK) 33 ((br (aa .i64 (IntKind.wrap .i64 (p0.getD (p0.length-1-k0) 0)) (((8:Nat):Int)-1-((k1:Nat):Int))) 2),z1.2)).2).getD k3 0) z3.1) (IntKind.wrap .i64 ([237,211,245,92,26,99,18,88,214,156,247,162,222,249,222,20,0,0,0,0,0,0,0,0,0,0,0,0,0,0,0,16].getD k3 0))) (ag .i64 (((itr (cK) 33 ((br (aa .i64 (IntKind.wrap .i64 (p0.getD (p0.length-1-k0) 0)) (((8:Nat):Int)-1-((k1:Nat):Int))) 2),z1.2)).2).getD k3 0) z3.1)) 256) (sel (decide ((((k3:Nat):Int):Int)<32)) (ag .i64 (ag .i64 (((itr (cK) 33 ((br (aa .i64 (IntKind.wrap .i64 (p0.getD (p0.length-1-k0) 0)) (((8:Nat):Int)-1-((k1:Nat):Int))) 2),z1.2)).2).getD k3 0) z3.1) (IntKind.wrap .i64 ([237,211,245,92,26,99,18,88,214,156,247,162,222,249,222,20,0,0,0,0,0,0,0,0,0,0,0,0,0,0,0,16].getD k3 0))) (ag .i64 (((itr (cK) 33 ((br (aa .i64 (IntKind.wrap .i64 (p0.getD (p0.length-1-k0) 0)) (((8:Nat):Int)-1-((k1:Nat):Int))) 2),z1.2)).2).getD k3 0) z3.1))))
def jS (p0:List Int) (k0:Nat) (k1:Nat) (z1:Nat × List Int):Nat × List Int :=
 ((sel (((itr (mu p0 k0 k1 z1) 33 (0,List.replicate 33 0)).1:Int)==0) 33 z1.1),(sel (((itr (mu p0 k0 k1 z1) 33 (0,List.replicate 33 0)).1:Int)==0) ((itr (mu p0 k0 k1 z1) 33 (0,List.replicate 33 0)).2) ((itr (cK) 33 ((br (aa .i64 (IntKind.wrap .i64 (p0.getD (p0.length-1-k0) 0)) (((8:Nat):Int)-1-((k1:Nat):Int))) 2),z1.2)).2)))
def mG (p0:List Int) (k0:Nat) (z0:Nat × List Int):Nat × List Int :=
 ((itr (jS p0 k0) 8 (z0.1,z0.2)).1,(itr (jS p0 k0) 8 (z0.1,z0.2)).2)
def om (p0:List Int) (k4:Nat) (z4:List Int):List Int :=
 z4.set k4 (IntKind.wrap .u8 (((itr (mG p0) p0.length (33,List.replicate 33 0)).2).getD k4 0))
def xY (p0:List Int):List Int :=
 (itr (om p0) 32 (List.replicate 32 0))
def KI:List AV→List Blk→Option (Prop × Ret)
 |[.sc (.ro .u8 p0)],[]=>some ((p0.length≤1000),⟨.sc (.sl 0 0 32 1 none),[some (.ints .u8 32 (xY p0))]⟩)
 |_,_=>none
theorem Ld:Known Tryz.prog gD 72 ⟨0,1,KI⟩:=by
 refine Xw Tryz.f72 100 (Zv LF 64 0 <|Zn) mixed <|fun E args ks C r h hC hlen=>?_
 simp only at h
 unfold KI at h
 split at h
 rotate_left
 cases h
 rename_i p0
 cases h
 simp only [bI] at hlen
 refine ⟨rfl,?_⟩
 refine Xs [] [] 32 (v1 pT) <|Xt [El 3 32 33] [] [Mk 32 .i64 33 (List.replicate 33 0)] [] 64 (pu (pa (lo ((0:Int)≤33∧(33:Int)=33)) (pa (lo (33≤(140737488355328:Int))) (lo (((8:Nat):Int)*33≤281474976710656)))) (v1 pT)) <|Xt [El 4 64 32] [] [Mi 64 32 [237,211,245,92,26,99,18,88,214,156,247,162,222,249,222,20,0,0,0,0,0,0,0,0,0,0,0,0,0,0,0,16]] [] 96 (pu pz (v1 pT)) <|Tri.seq <|Xu [Ei 20 (((p0.length:Nat):Int)-1-((0:Nat):Int))] none [Ei 5 (((p0.length:Nat):Int)-1-((0:Nat):Int))] [] [] [] 160 (v2 (pv pT (pl (show (ag .i64 ((p0.length:Nat):Int) 1)=(((p0.length:Nat):Int)-1-((0:Nat):Int)) from lT (by omega))) (v1 pT))) <|Tri.block <|Xc p0.length (mG p0) (33,List.replicate 33 0) (fun k0 z0=>z0.1=33) (fun k0 z0=>[Ei 5 (((p0.length:Nat):Int)-1-((k0:Nat):Int)),El 3 32 z0.1]) (fun k0 z0=>[Mk 32 .i64 z0.1 z0.2]) rfl <|fun k0 z0 hk0 hz0 hJ0=>Tri.seq <|Xs [Eb 22 (decide (((((p0.length:Nat):Int)-1-((k0:Nat):Int)):Int) ≥ 0))] [] 192 (v2 pT) <|Xb (fun h1 h1'=>?_) (fun h1 h1'=>?_)
 refine Tri.skip <|Tri.seq <|Tri.block <|Xs [Ei 6 7] [22] 208 (v1 pT) <|Tri.block <|Xc 8 (jS p0 k0) (z0.1,z0.2) (fun k1 z1=>z1.1=33) (fun k1 z1=>[Ei 6 (((8:Nat):Int)-1-((k1:Nat):Int)),El 3 32 z1.1]) (fun k1 z1=>[Mk 32 .i64 z1.1 z1.2]) hJ0 <|fun k1 z1 hk1 hz1 hJ1=>Tri.seq <|Xs [Eb 26 (decide (((((8:Nat):Int)-1-((k1:Nat):Int)):Int) ≥ 0))] [] 240 (v2 pT) <|Xb (fun h2 h2'=>?_) (fun h2 h2'=>?_)
 refine Tri.skip <|Tri.seq <|Tri.block <|Xu [Ej 30 (p0.length-1-k0)] none [Ei 7 (br (aa .i64 (IntKind.wrap .i64 (p0.getD (p0.length-1-k0) 0)) (((8:Nat):Int)-1-((k1:Nat):Int))) 2)] [26] [] [] 384 (v1 (pv pT (pl (show (((p0.length:Nat):Int)-1-((k0:Nat):Int))=((p0.length-1-k0:Nat):Int) from il (by omega))) (pu (Yj (p0.length-1-k0) p0.length) (pu (Yl (p0.length-1-k0) p0.length) (v2 (pu (Y0 (((8:Nat):Int)-1-((k1:Nat):Int))) (pu (Yn 2) (v1 pT)))))))) <|Tri.seq <|Xs [Ei 8 0] [] 400 (v1 pT) <|Tri.block <|Xc 33 (cK) ((br (aa .i64 (IntKind.wrap .i64 (p0.getD (p0.length-1-k0) 0)) (((8:Nat):Int)-1-((k1:Nat):Int))) 2),z1.2) (fun k2 z2=>True) (fun k2 z2=>[Ej 8 k2,Ei 7 z2.1]) (fun k2 z2=>[Mk 32 .i64 z1.1 z2.2]) trivial <|fun k2 z2 hk2 hz2 hJ2=>Tri.seq <|Xs [Eb 38 (decide ((((k2:Nat):Int):Int)<33))] [] 432 (v2 pT) <|Xb (fun h3 h3'=>?_) (fun h3 h3'=>?_)
 exact Tri.skip <|Tri.seq <|Tri.block <|Xs [Ei 9 (aN .i64 (bS .i64 2 (z2.2.getD k2 0)) z2.1)] [38,7] 560 (v2 (pu (Yj k2 z1.1) (pu (Yl k2 z1.1) (v4 pT)))) <|Xt [] [] [Mk 32 .i64 z1.1 (z2.2.set k2 (br (aN .i64 (bS .i64 2 (z2.2.getD k2 0)) z2.1) 256))] [32] 656 (v3 (pu (Yn 256) (pu (Yj k2 z1.1) (pu (Ys k2 z1.1) pT)))) <|Ws [Ei 7 (iu .i64 (aN .i64 (bS .i64 2 (z2.2.getD k2 0)) z2.1) 256)] [9] 704 (v1 (pu (Yn 256) (v1 pT))) <|Wu [Ej 40 (k2+1)] none [Ej 8 (k2+1)] [8] [] [] 752 (v1 (pv pT (Yp k2 1) (v1 pT))) <|Xo [] trivial
 refine Tri.exit <|?_
 obtain rfl:k2=33:=(by omega);subst hz2
 refine Xt [El 10 432 33] [38,8,7] [Mk 432 .i64 33 (List.replicate 33 0)] [] 464 (pu (pa (lo ((0:Int)≤33∧(33:Int)=33)) (pa (lo (33≤(140737488355328:Int))) (lo (((8:Nat):Int)*33≤281474976710656)))) (v1 pT)) <|Xs [Ei 11 0] [] 480 (v1 pT) <|Tri.seq <|Xs [Ei 12 0] [] 496 (v1 pT) <|Tri.block <|Xc 33 (mu p0 k0 k1 z1) (0,List.replicate 33 0) (fun k3 z3=>True) (fun k3 z3=>[Ej 12 k3,Ei 11 z3.1]) (fun k3 z3=>[Mk 432 .i64 33 z3.2]) trivial <|fun k3 z3 hk3 hz3 hJ3=>Tri.seq <|Xs [Eb 57 (decide ((((k3:Nat):Int):Int)<33))] [] 528 (v2 pT) <|Xb (fun h4 h4'=>?_) (fun h4 h4'=>?_)
 refine Tri.skip <|Tri.seq <|Tri.block <|Xs [Ei 13 (ag .i64 (((itr (cK) 33 ((br (aa .i64 (IntKind.wrap .i64 (p0.getD (p0.length-1-k0) 0)) (((8:Nat):Int)-1-((k1:Nat):Int))) 2),z1.2)).2).getD k3 0) z3.1)] [57,11] 640 (v2 (pu (Yj k3 z1.1) (pu (Yl k3 z1.1) (v3 pT)))) <|Tri.seq <|Xs [Eb 67 (decide ((((k3:Nat):Int):Int)<32))] [] 672 (v2 pT) <|Xj (x:=(decide ((((k3:Nat):Int):Int)<32))) (fun bb=>[Ei 13 (sel bb (ag .i64 (ag .i64 (((itr (cK) 33 ((br (aa .i64 (IntKind.wrap .i64 (p0.getD (p0.length-1-k0) 0)) (((8:Nat):Int)-1-((k1:Nat):Int))) 2),z1.2)).2).getD k3 0) z3.1) (IntKind.wrap .i64 ([237,211,245,92,26,99,18,88,214,156,247,162,222,249,222,20,0,0,0,0,0,0,0,0,0,0,0,0,0,0,0,16].getD k3 0))) (ag .i64 (((itr (cK) 33 ((br (aa .i64 (IntKind.wrap .i64 (p0.getD (p0.length-1-k0) 0)) (((8:Nat):Int)-1-((k1:Nat):Int))) 2),z1.2)).2).getD k3 0) z3.1))]) [67,13] (fun bb=>[]) [] 800 (fun h5=>?_) (fun h5=>?_) ?_
 have h5':=of_decide_eq_true h5
 exact Ws [Ei 13 (ag .i64 (ag .i64 (((itr (cK) 33 ((br (aa .i64 (IntKind.wrap .i64 (p0.getD (p0.length-1-k0) 0)) (((8:Nat):Int)-1-((k1:Nat):Int))) 2),z1.2)).2).getD k3 0) z3.1) (IntKind.wrap .i64 ([237,211,245,92,26,99,18,88,214,156,247,162,222,249,222,20,0,0,0,0,0,0,0,0,0,0,0,0,0,0,0,16].getD k3 0)))] [67,13] 800 (v3 (pu (Yj k3 32) (pu (Yl k3 32) (v3 pT)))) <|Xe [Ei 13 (ag .i64 (ag .i64 (((itr (cK) 33 ((br (aa .i64 (IntKind.wrap .i64 (p0.getD (p0.length-1-k0) 0)) (((8:Nat):Int)-1-((k1:Nat):Int))) 2),z1.2)).2).getD k3 0) z3.1) (IntKind.wrap .i64 ([237,211,245,92,26,99,18,88,214,156,247,162,222,249,222,20,0,0,0,0,0,0,0,0,0,0,0,0,0,0,0,16].getD k3 0)))] []
 have h5':=of_decide_eq_false h5
 exact Tri.skip <|Xe [Ei 13 (ag .i64 (((itr (cK) 33 ((br (aa .i64 (IntKind.wrap .i64 (p0.getD (p0.length-1-k0) 0)) (((8:Nat):Int)-1-((k1:Nat):Int))) 2),z1.2)).2).getD k3 0) z3.1)] []
 refine Xs [Ei 11 0] [] 816 (v1 pT) <|Tri.seq <|Xs [Eb 76 (decide (((sel (decide ((((k3:Nat):Int):Int)<32)) (ag .i64 (ag .i64 (((itr (cK) 33 ((br (aa .i64 (IntKind.wrap .i64 (p0.getD (p0.length-1-k0) 0)) (((8:Nat):Int)-1-((k1:Nat):Int))) 2),z1.2)).2).getD k3 0) z3.1) (IntKind.wrap .i64 ([237,211,245,92,26,99,18,88,214,156,247,162,222,249,222,20,0,0,0,0,0,0,0,0,0,0,0,0,0,0,0,16].getD k3 0))) (ag .i64 (((itr (cK) 33 ((br (aa .i64 (IntKind.wrap .i64 (p0.getD (p0.length-1-k0) 0)) (((8:Nat):Int)-1-((k1:Nat):Int))) 2),z1.2)).2).getD k3 0) z3.1)):Int)<0))] [] 848 (v2 pT) <|Xj (x:=(decide (((sel (decide ((((k3:Nat):Int):Int)<32)) (ag .i64 (ag .i64 (((itr (cK) 33 ((br (aa .i64 (IntKind.wrap .i64 (p0.getD (p0.length-1-k0) 0)) (((8:Nat):Int)-1-((k1:Nat):Int))) 2),z1.2)).2).getD k3 0) z3.1) (IntKind.wrap .i64 ([237,211,245,92,26,99,18,88,214,156,247,162,222,249,222,20,0,0,0,0,0,0,0,0,0,0,0,0,0,0,0,16].getD k3 0))) (ag .i64 (((itr (cK) 33 ((br (aa .i64 (IntKind.wrap .i64 (p0.getD (p0.length-1-k0) 0)) (((8:Nat):Int)-1-((k1:Nat):Int))) 2),z1.2)).2).getD k3 0) z3.1)):Int)<0))) (fun bb=>[Ei 11 (sel bb 1 0),Ei 13 (sel bb (aN .i64 (sel (decide ((((k3:Nat):Int):Int)<32)) (ag .i64 (ag .i64 (((itr (cK) 33 ((br (aa .i64 (IntKind.wrap .i64 (p0.getD (p0.length-1-k0) 0)) (((8:Nat):Int)-1-((k1:Nat):Int))) 2),z1.2)).2).getD k3 0) z3.1) (IntKind.wrap .i64 ([237,211,245,92,26,99,18,88,214,156,247,162,222,249,222,20,0,0,0,0,0,0,0,0,0,0,0,0,0,0,0,16].getD k3 0))) (ag .i64 (((itr (cK) 33 ((br (aa .i64 (IntKind.wrap .i64 (p0.getD (p0.length-1-k0) 0)) (((8:Nat):Int)-1-((k1:Nat):Int))) 2),z1.2)).2).getD k3 0) z3.1)) 256) (sel (decide ((((k3:Nat):Int):Int)<32)) (ag .i64 (ag .i64 (((itr (cK) 33 ((br (aa .i64 (IntKind.wrap .i64 (p0.getD (p0.length-1-k0) 0)) (((8:Nat):Int)-1-((k1:Nat):Int))) 2),z1.2)).2).getD k3 0) z3.1) (IntKind.wrap .i64 ([237,211,245,92,26,99,18,88,214,156,247,162,222,249,222,20,0,0,0,0,0,0,0,0,0,0,0,0,0,0,0,16].getD k3 0))) (ag .i64 (((itr (cK) 33 ((br (aa .i64 (IntKind.wrap .i64 (p0.getD (p0.length-1-k0) 0)) (((8:Nat):Int)-1-((k1:Nat):Int))) 2),z1.2)).2).getD k3 0) z3.1)))]) [76,11,13] (fun bb=>[]) [] 912 (fun h6=>?_) (fun h6=>?_) ?_
 have h6':=of_decide_eq_true h6
 exact Xs [Ei 13 (aN .i64 (sel (decide ((((k3:Nat):Int):Int)<32)) (ag .i64 (ag .i64 (((itr (cK) 33 ((br (aa .i64 (IntKind.wrap .i64 (p0.getD (p0.length-1-k0) 0)) (((8:Nat):Int)-1-((k1:Nat):Int))) 2),z1.2)).2).getD k3 0) z3.1) (IntKind.wrap .i64 ([237,211,245,92,26,99,18,88,214,156,247,162,222,249,222,20,0,0,0,0,0,0,0,0,0,0,0,0,0,0,0,16].getD k3 0))) (ag .i64 (((itr (cK) 33 ((br (aa .i64 (IntKind.wrap .i64 (p0.getD (p0.length-1-k0) 0)) (((8:Nat):Int)-1-((k1:Nat):Int))) 2),z1.2)).2).getD k3 0) z3.1)) 256)] [76,11,13] 896 (v3 pT) <|Ws [Ei 11 1] [] 912 (v1 pT) <|Xe [Ei 11 1,Ei 13 (aN .i64 (sel (decide ((((k3:Nat):Int):Int)<32)) (ag .i64 (ag .i64 (((itr (cK) 33 ((br (aa .i64 (IntKind.wrap .i64 (p0.getD (p0.length-1-k0) 0)) (((8:Nat):Int)-1-((k1:Nat):Int))) 2),z1.2)).2).getD k3 0) z3.1) (IntKind.wrap .i64 ([237,211,245,92,26,99,18,88,214,156,247,162,222,249,222,20,0,0,0,0,0,0,0,0,0,0,0,0,0,0,0,16].getD k3 0))) (ag .i64 (((itr (cK) 33 ((br (aa .i64 (IntKind.wrap .i64 (p0.getD (p0.length-1-k0) 0)) (((8:Nat):Int)-1-((k1:Nat):Int))) 2),z1.2)).2).getD k3 0) z3.1)) 256)] []
 have h6':=of_decide_eq_false h6
 exact Tri.skip <|Xe [Ei 11 0,Ei 13 (sel (decide ((((k3:Nat):Int):Int)<32)) (ag .i64 (ag .i64 (((itr (cK) 33 ((br (aa .i64 (IntKind.wrap .i64 (p0.getD (p0.length-1-k0) 0)) (((8:Nat):Int)-1-((k1:Nat):Int))) 2),z1.2)).2).getD k3 0) z3.1) (IntKind.wrap .i64 ([237,211,245,92,26,99,18,88,214,156,247,162,222,249,222,20,0,0,0,0,0,0,0,0,0,0,0,0,0,0,0,16].getD k3 0))) (ag .i64 (((itr (cK) 33 ((br (aa .i64 (IntKind.wrap .i64 (p0.getD (p0.length-1-k0) 0)) (((8:Nat):Int)-1-((k1:Nat):Int))) 2),z1.2)).2).getD k3 0) z3.1))] []
 exact Wt [] [13] [Mk 432 .i64 33 (z3.2.set k3 (sel (decide (((sel (decide ((((k3:Nat):Int):Int)<32)) (ag .i64 (ag .i64 (((itr (cK) 33 ((br (aa .i64 (IntKind.wrap .i64 (p0.getD (p0.length-1-k0) 0)) (((8:Nat):Int)-1-((k1:Nat):Int))) 2),z1.2)).2).getD k3 0) z3.1) (IntKind.wrap .i64 ([237,211,245,92,26,99,18,88,214,156,247,162,222,249,222,20,0,0,0,0,0,0,0,0,0,0,0,0,0,0,0,16].getD k3 0))) (ag .i64 (((itr (cK) 33 ((br (aa .i64 (IntKind.wrap .i64 (p0.getD (p0.length-1-k0) 0)) (((8:Nat):Int)-1-((k1:Nat):Int))) 2),z1.2)).2).getD k3 0) z3.1)):Int)<0)) (aN .i64 (sel (decide ((((k3:Nat):Int):Int)<32)) (ag .i64 (ag .i64 (((itr (cK) 33 ((br (aa .i64 (IntKind.wrap .i64 (p0.getD (p0.length-1-k0) 0)) (((8:Nat):Int)-1-((k1:Nat):Int))) 2),z1.2)).2).getD k3 0) z3.1) (IntKind.wrap .i64 ([237,211,245,92,26,99,18,88,214,156,247,162,222,249,222,20,0,0,0,0,0,0,0,0,0,0,0,0,0,0,0,16].getD k3 0))) (ag .i64 (((itr (cK) 33 ((br (aa .i64 (IntKind.wrap .i64 (p0.getD (p0.length-1-k0) 0)) (((8:Nat):Int)-1-((k1:Nat):Int))) 2),z1.2)).2).getD k3 0) z3.1)) 256) (sel (decide ((((k3:Nat):Int):Int)<32)) (ag .i64 (ag .i64 (((itr (cK) 33 ((br (aa .i64 (IntKind.wrap .i64 (p0.getD (p0.length-1-k0) 0)) (((8:Nat):Int)-1-((k1:Nat):Int))) 2),z1.2)).2).getD k3 0) z3.1) (IntKind.wrap .i64 ([237,211,245,92,26,99,18,88,214,156,247,162,222,249,222,20,0,0,0,0,0,0,0,0,0,0,0,0,0,0,0,16].getD k3 0))) (ag .i64 (((itr (cK) 33 ((br (aa .i64 (IntKind.wrap .i64 (p0.getD (p0.length-1-k0) 0)) (((8:Nat):Int)-1-((k1:Nat):Int))) 2),z1.2)).2).getD k3 0) z3.1))))] [432] 992 (v3 (pu (Yj k3 33) (pu (Ys k3 33) pT))) <|Wu [Ej 59 (k3+1)] none [Ej 12 (k3+1)] [12] [] [] 1040 (v1 (pv pT (Yp k3 1) (v1 pT))) <|Xo [] trivial
 refine Tri.exit <|?_
 obtain rfl:k3=33:=(by omega);subst hz3
 refine Xs [Eb 84 (((itr (mu p0 k0 k1 z1) 33 (0,List.replicate 33 0)).1:Int)==0)] [57,12,11] 560 (v2 pT) <|Xa (fun h7=>?_) (fun h7=>?_)
 have h7':=dA h7
 exact Wt [El 3 432 33] [84,10,3] [] [32] 592 (v2 pT) <|Wu [Ei 28 (((8:Nat):Int)-1-((k1+1:Nat):Int))] none [Ei 6 (((8:Nat):Int)-1-((k1+1:Nat):Int))] [6] [] [] 640 (v1 (pv pT (pl (show (ag .i64 (((8:Nat):Int)-1-((k1:Nat):Int)) 1)=(((8:Nat):Int)-1-((k1+1:Nat):Int)) from jh (by omega) (by omega))) (v1 pT))) <|Xp (show sel _ 33 z1.1=33 by rw [hJ1];exact CM _ _) [(32,432)] [Ei 6 (((8:Nat):Int)-1-((k1+1:Nat):Int)),El 3 32 33] [Mk 32 .i64 33 ((itr (mu p0 k0 k1 z1) 33 (0,List.replicate 33 0)).2)] (by simp only [jS,h1,h2,h7,aD,aA]) (by simp only [jS,h1,h2,h7,aD,aA])
 have h7':=cZ h7
 exact Tri.skip <|Wu [Ei 28 (((8:Nat):Int)-1-((k1+1:Nat):Int))] none [Ei 6 (((8:Nat):Int)-1-((k1+1:Nat):Int))] [84,10,6] [] [432] 608 (v1 (pv pT (pl (show (ag .i64 (((8:Nat):Int)-1-((k1:Nat):Int)) 1)=(((8:Nat):Int)-1-((k1+1:Nat):Int)) from jh (by omega) (by omega))) (v1 pT))) <|Xp (show sel _ 33 z1.1=33 by rw [hJ1];exact CM _ _) [] [Ei 6 (((8:Nat):Int)-1-((k1+1:Nat):Int)),El 3 32 z1.1] [Mk 32 .i64 z1.1 ((itr (cK) 33 ((br (aa .i64 (IntKind.wrap .i64 (p0.getD (p0.length-1-k0) 0)) (((8:Nat):Int)-1-((k1:Nat):Int))) 2),z1.2)).2)] (by simp only [jS,h1,h2,h7,aD,aA]) (by simp only [jS,h1,h2,h7,aD,aA])
 refine Tri.exit <|?_
 obtain rfl:k1=8:=(by omega);subst hz1
 exact Wu [Ei 24 (((p0.length:Nat):Int)-1-((k0+1:Nat):Int))] none [Ei 5 (((p0.length:Nat):Int)-1-((k0+1:Nat):Int))] [26,6,5] [] [] 288 (v1 (pv pT (pl (show (ag .i64 (((p0.length:Nat):Int)-1-((k0:Nat):Int)) 1)=(((p0.length:Nat):Int)-1-((k0+1:Nat):Int)) from jh (by omega) (by omega))) (v1 pT))) <|Xo [] (show (itr (jS p0 k0) 8 (z0.1,z0.2)).1=33 from hJ1)
 refine Tri.exit <|?_
 obtain rfl:k0=p0.length:=(by omega);subst hz0
 refine Xt [El 14 192 32] [22,5,4,0] [Mi 192 32 (List.replicate 32 0)] [64] 224 (pu (pa (lo ((0:Int)≤32∧(32:Int)=32)) (pa (lo (32≤(140737488355328:Int))) (lo (((1:Nat):Int)*32≤281474976710656)))) (v1 pT)) <|Tri.seq <|Xs [Ei 15 0] [] 240 (v1 pT) <|Tri.block <|Xc 32 (om p0) (List.replicate 32 0) (fun k4 z4=>True) (fun k4 z4=>[Ej 15 k4]) (fun k4 z4=>[Mi 192 32 z4]) trivial <|fun k4 z4 hk4 hz4 hJ4=>Tri.seq <|Xs [Eb 88 (decide ((((k4:Nat):Int):Int)<32))] [] 272 (v2 pT) <|Xb (fun h8 h8'=>?_) (fun h8 h8'=>?_)
 exact Tri.skip <|Tri.seq <|Tri.block <|Wt [] [88] [Mi 192 32 (z4.set k4 (IntKind.wrap .u8 (((itr (mG p0) p0.length (33,List.replicate 33 0)).2).getD k4 0)))] [192] 416 (v4 (pu (Yj k4 ((itr (mG p0) p0.length (33,List.replicate 33 0)).1)) (pu (Yl k4 ((itr (mG p0) p0.length (33,List.replicate 33 0)).1)) (v1 (pu (Yj k4 32) (pu (Ys k4 32) pT)))))) <|Wu [Ej 90 (k4+1)] none [Ej 15 (k4+1)] [15] [] [] 464 (v1 (pv pT (Yp k4 1) (v1 pT))) <|Xo [] trivial
 refine Tri.exit <|?_
 obtain rfl:k4=32:=(by omega);subst hz4
 exact Xt [El 2 192 32] [88,15,14,3] [] [32] 304 (v2 pT) <|Xz [(192,0)] pz
theorem IK (p0:List Int):(xY p0).length=32:=by
 have h:∀ n,(itr (om p0) n (List.replicate 32 0)).length=32:=by
  intro n
  induction n with
  |zero=>rw [bB];rfl
  |succ n ih=>rw [aq];show (List.set _ _ _).length=32;rw [List.length_set];exact ih
 exact h _
def yD (p0:List Int) (p1:List Int) (p2:List Int):List Int :=
 (xY (aH (dN (aH ((p0++p1)++p2) ((p0.length+p1.length)+p2.length) 0 ((p0.length+p1.length)+p2.length))) 64 0 64))
def Kf:List AV→List Blk→Option (Prop × Ret)
 |[.sc (.ro .u8 p0),.sc (.ro .u8 p1),.sc (.ro .u8 p2)],[]=>some ((p0.length+p1.length+p2.length≤1000000),⟨.sc (.sl 0 0 32 1 none),[some (.ints .u8 32 (yD p0 p1 p2))]⟩)
 |_,_=>none
theorem MJ:Known Tryz.prog gD 71 ⟨0,1,Kf⟩:=by
 refine Xw Tryz.f71 15 (Zc zG 128 [.ro .u8,.val] [112] [] <|Zc Ld 144 [.ro .u8] [128] [] <|Zn) mixed <|fun E args ks C r h hC hlen=>?_
 simp only at h
 unfold Kf at h
 split at h
 rotate_left
 cases h
 rename_i p0 p1 p2
 cases h
 simp only [bI] at hlen
 refine ⟨rfl,?_⟩
 refine Xs [] [] 32 (v1 pT) <|Xt [El 6 144 32] [0,1,2] [Mi 144 32 (xY (aH (dN (aH ((p0++p1)++p2) ((p0.length+p1.length)+p2.length) 0 ((p0.length+p1.length)+p2.length))) 64 0 64))] [] 176 (v1 (pu (YN pT 1 p0.length p0.length p0.length) (v1 (pu (Ya pT 1 (p0.length+p1.length) p1.length p1.length p0.length p0.length) (v1 (pu (Ya pT 1 ((p0.length+p1.length)+p2.length) p2.length p2.length (p0.length+p1.length) (p0.length+p1.length)) (pu (pa (pa (Yw ((p0.length+p1.length)+p2.length)) pT) (pa (Yr (64:Int)) (Ye ((aH ((p0++p1)++p2) ((p0.length+p1.length)+p2.length) 0 ((p0.length+p1.length)+p2.length)).length) 100000000))) (pu (pa (pa (Yw 64) pT) (pl (show (aH (dN (aH ((p0++p1)++p2) ((p0.length+p1.length)+p2.length) 0 ((p0.length+p1.length)+p2.length))) 64 0 64).length≤1000 from by exact bV (by decide) (by rw [mH];decide)))) (v1 pT))))))))) ?_
 exact Xz [(144,0)] pz
theorem EH (p0 p1 p2:List Int):(yD p0 p1 p2).length=32:=IK _
def Il (p0:List Int):List Int :=
 (xb (vC (aH (F44 (aH (dN p0) 64 0 32)) ((aH (dN p0) 64 0 32).length) 0 ((aH (dN p0) 64 0 32).length)) (xL)))
def Ko:List AV→List Blk→Option (Prop × Ret)
 |[.sc (.ro .u8 p0)],[]=>some ((p0.length=32),⟨.sc (.sl 0 0 32 1 none),[some (.ints .u8 32 (Il p0))]⟩)
 |_,_=>none
theorem Jy:Known Tryz.prog gD 24 ⟨0,1,Ko⟩:=by
 refine Xw Tryz.f24 10 (Zv KF 128 1 <|Zc JE 112 [.ro .u8,.val] [80] [] <|Zc K44 80 [.ro .u8] [48] [] <|Zc zG 48 [.ro .u8,.val] [] [] <|Zv Jm 96 0 <|Zn) mixed <|fun E args ks C r h hC hlen=>?_
 simp only at h
 unfold Ko at h
 split at h
 rotate_left
 cases h
 rename_i p0
 cases h
 simp only [bI] at hlen
 have hh:=vd p0 0 (by decide)
 have hh2:=vd p0 32 (by decide)
 refine ⟨rfl,?_⟩
 refine Xs [] [] 32 (v1 pT) <|Xt [El 2 128 32] [0] [Mi 128 32 (xb (vC (aH (F44 (aH (dN p0) 64 0 32)) ((aH (dN p0) 64 0 32).length) 0 ((aH (dN p0) 64 0 32).length)) (xL)))] [] 160 (v1 (pu (pa pz (pa (Yr (64:Int)) (Ye p0.length 100000000))) (pu (lo ((0:Int)≤0∧(0:Int)≤32∧32≤((64:Nat):Int))) (pu (pa (pa (Ye (0+32) 64) pT) (pl (show (aH (dN p0) 64 0 32).length=32 from hh))) (pu pz (pu (pa (pa (Yw ((aH (dN p0) 64 0 32).length)) pT) (pl (show (aH (F44 (aH (dN p0) 64 0 32)) ((aH (dN p0) 64 0 32).length) 0 ((aH (dN p0) 64 0 32).length)).length≤1000000 from by exact bV (by omega) (by rw [Jb];omega)))) (pu pz (v1 pT)))))))) ?_
 exact Xz [(128,0)] pz
def nc (p0:List Int) (p1:List Int) (p2:List Int):Bool :=
 (sel (!(gQ p0)) false (sel ((((p2.length:Nat):Int):Int) != 64) false (sel (!(wa ((p2.drop 32).take (p2.length-32)) (aH [237,211,245,92,26,99,18,88,214,156,247,162,222,249,222,20,0,0,0,0,0,0,0,0,0,0,0,0,0,0,0,16] 32 0 32))) false (aC (bytesOf (((xb (pp (vC ((p2.drop 32).take (p2.length-32)) (xL)) (vC (aH (yD ((p2.drop 0).take 32) p0 p1) 32 0 32) (aZ (lB p0) 0 (cY (bC 0) (((lB p0).drop 0).take 16)))) (dP))).drop 0).take 32)) (bytesOf ((p2.drop 0).take 32))))))
def KN:List AV→List Blk→Option (Prop × Ret)
 |[.sc (.ro .u8 p0),.sc (.ro .u8 p1),.sc (.ro .u8 p2)],[]=>some ((p1.length≤10000),⟨.sc (.b (nc p0 p1 p2)),[]⟩)
 |_,_=>none
theorem MG:Known Tryz.prog gD 51 ⟨0,0,KN⟩:=by
 refine Xw Tryz.f51 52 (Zv KF 688 1 <|Zc JE 528 [.ro .u8,.val] [] [] <|Zc JE 640 [.ro .u8,.val] [608] [] <|Zv Jm 512 0 <|Zc MJ 608 [.ro .u8,.ro .u8,.ro .u8] [] [] <|Zc LU 48 [.ro .u8] [] [] <|Zc Ll 336 [.ro .u8,.ro .u8] [320] [] <|Zv LF 320 0 <|Zv Ch 432 2 <|Zv oq 384 1 <|Zv JL 672 3 <|Zv IV 656 0 <|Zn) mixed <|fun E args ks C r h hC hlen=>?_
 simp only at h
 unfold KN at h
 split at h
 rotate_left
 cases h
 rename_i p0 p1 p2
 cases h
 simp only [bI] at hlen
 refine ⟨rfl,?_⟩
 refine Xs [] [] 32 (v1 pT) <|Xt [Eb 8 (gQ p0),Ep 7 112] [] [Mk 112 .i64 48 (lB p0)] [] 160 (v1 (pu (pa pz pT) (v4 (pu (Yz 48) (v1 pT))))) <|Tri.seq <|Tri.split (!(gQ p0)) (fun h1=>?_) (fun h1=>?_)
 exact Xu [Eb 16 true] (some [0,1,3,7,15,31,63,127,255,511,255,2047,4095,8191]) [Eb 27 true] [8] [] [] 384 (v2 (pg h1 (v2 (v9 pT)))) <|Tri.cond_true (by kernel_rfl) <|Xt [Eb 6 false] [27,7,0,1,2] [] [112] 400 (v1 pT) <|Xy [] pz (by simp only [nc,h1,aD,aA] <;> rfl)
 refine Tri.split ((((p2.length:Nat):Int):Int) != 64) (fun h2=>?_) (fun h2=>?_)
 have h2':=di h2
 exact Xu [Eb 16 false,Eb 21 true] (some [0,1,3,7,15,31,63,127,255,511,255,2047,4095,8191]) [Eb 27 true] [8] [] [] 384 (v2 (pg h1 (v4 (pg h2 (v6 pT))))) <|Tri.cond_true (by kernel_rfl) <|Xt [Eb 6 false] [27,7,0,1,2] [] [112] 400 (v1 pT) <|Xy [] pz (by simp only [nc,h1,h2,aD,aA] <;> rfl)
 have h2':=bz h2
 refine Tri.len 112 rfl <|fun hl3=>Xu [Eb 16 false,Eb 21 false] (some [0,1,3,7,15,31,63,127,255,511,255,2047,4095,8191]) [Eb 27 (!(wa ((p2.drop 32).take (p2.length-32)) (aH [237,211,245,92,26,99,18,88,214,156,247,162,222,249,222,20,0,0,0,0,0,0,0,0,0,0,0,0,0,0,0,16] 32 0 32)))] [8] [] [] 384 (v2 (pg h1 (v4 (pg h2 (v1 (pu (lo ((0:Int)≤32∧(32:Int)≤((p2.length:Nat):Int)∧((p2.length:Nat):Int)≤(p2.length:Int))) (pu pz (pu (pa (pa pT (pa (Yw 32) pT)) (pl (show ((p2.drop 32).take (p2.length-32)).length=32∧(aH [237,211,245,92,26,99,18,88,214,156,247,162,222,249,222,20,0,0,0,0,0,0,0,0,0,0,0,0,0,0,0,16] 32 0 32).length=32 from ⟨by rw [List.length_take,List.length_drop];omega,by rw [bJ (n:=32) rfl];rfl⟩))) (v2 pT))))))))) <|Xa (fun h4=>?_) (fun h4=>?_)
 exact Xt [Eb 6 false] [27,7,0,1,2] [] [112] 400 (v1 pT) <|Xy [] pz (by simp only [nc,h1,h2,h4,aD,aA] <;> rfl)
 refine Tri.skip <|Xu [] (some [0,0,2,7,15,31]) [] [27] [Mk 112 .i64 48 (aZ (lB p0) 0 (cY (bC 0) (((lB p0).drop 0).take 16)))] [112] 480 (pu pz (v1 (pu (Ye (0+16) 48) (pu pz (v1 (pu (pa (Ye (0+16) 48) (Yr 16)) pT)))))) <|Tri.len 112 rfl <|fun hl5=>Xu [] (some [0,1,0,7,0,16,0,0,255,0,1023,2047,4095,8191,16383,0,32768,98304,262143,524287]) [Eb 6 (aC (bytesOf (((xb (pp (vC ((p2.drop 32).take (p2.length-32)) (xL)) (vC (aH (yD ((p2.drop 0).take 32) p0 p1) 32 0 32) (aZ (lB p0) 0 (cY (bC 0) (((lB p0).drop 0).take 16)))) (dP))).drop 0).take 32)) (bytesOf ((p2.drop 0).take 32)))] [7,0,1,2] [] [112] 800 (v1 (pu (lo ((0:Int)≤32∧(32:Int)≤((p2.length:Nat):Int)∧((p2.length:Nat):Int)≤(p2.length:Int))) (pu pz (pu (pa pz (pl (show ((p2.drop 32).take (p2.length-32)).length≤1000000 from by first|(rw [List.length_take,List.length_drop];omega)|exact bV (by decide) (by rw [EH];decide)))) (v1 (pu (lo ((0:Int)≤0∧(0:Int)≤32∧32≤(p2.length:Int))) (v2 (pu (pa (pa pT (pa pT pz)) (pl (show ((p2.drop 0).take 32).length+p0.length+p1.length≤1000000 from by exact DF (by first|omega|(rw [List.length_take];omega)|(have hl:=xd (p0:=p0) h1;omega)) (by first|omega|(rw [List.length_take];omega)|(have hl:=xd (p0:=p0) h1;omega)) (by first|omega|(rw [List.length_take];omega)|(have hl:=xd (p0:=p0) h1;omega))))) (v1 (pu (pa (pa (Yw 32) pT) (pl (show (aH (yD ((p2.drop 0).take 32) p0 p1) 32 0 32).length≤1000000 from by first|(rw [List.length_take,List.length_drop];omega)|exact bV (by decide) (by rw [EH];decide)))) (pu pz (pu pz (pu pz (pu (Yw 32) (v1 (pu (lo ((0:Int)≤0∧(0:Int)≤32∧32≤(p2.length:Int))) (v3 pT))))))))))))))))) ?_
 exact Xy [] pz (by simp only [nc,h1,h2,h4,aD,aA] <;> rfl)
end Go.Vm
namespace Go.Vm
open Go Go.Proofs
def DC:List AV→List Blk→Option (Prop × Ret)
 |[.sc (.ro .u8 p0)],[]=>some (True,⟨.sc (.p 0 0),[some (.cells [.ro .u8 p0,.b false])]⟩)
 |_,_=>none
theorem IP:Known Tryz.prog gD 41 ⟨0,1,DC⟩:=by
 refine Xw Tryz.f41 6 Zn mixed <|fun E args ks C r h hC hlen=>?_
 simp only at h
 unfold DC at h
 split at h
 rotate_left
 cases h
 rename_i p0
 cases h
 simp only [bI] at hlen
 refine ⟨rfl,?_⟩
 exact Xs [] [] 32 (v1 pT) <|Xt [Ep 2 64] [0] [Mc 64 [.ro .u8 p0,.b false]] [] 96 (v1 (pu (pa (Ys 0 2) pT) (v2 pT))) <|Xz [(64,0)] pz
def fH (p0:List Int) (p1:Bool) (p2:Int):List Int :=
 (p0.drop 0).take (((p2).toNat)-0)
def gc (p0:List Int) (p1:Bool) (p2:Int):List Int :=
 (p0.drop ((p2).toNat)).take (p0.length-((p2).toNat))
def vO:List AV→List Blk→Option (Prop × Ret)
 |[.sc (.p 0 0),.sc (.i .i64 p2)],[.cells [.ro .u8 p0,.b p1]]=>some (((p1=false)∧(((decide ((p2:Int)>((p0.length:Nat):Int)))=false)∧((0:Int)≤p2))),⟨.sc (.ro .u8 (fH p0 p1 p2)),[some (.cells [.ro .u8 (gc p0 p1 p2),.b p1])]⟩)
 |_,_=>none
theorem BY:Known Tryz.prog gD 74 ⟨1,0,vO⟩:=by
 refine Xw Tryz.f74 48 Zn mixed <|fun E args ks C r h hC hlen=>?_
 simp only at h
 unfold vO at h
 split at h
 rotate_left
 cases h
 rename_i p2 p0 p1
 cases h
 simp only [bI] at hlen
 have hG0:=hC.1
 have hG1:=hC.2.1
 have hG1':=of_decide_eq_false hG1
 have hC:=hC.2.2
 refine ⟨rfl,?_⟩
 refine Xs [] [] 32 (v1 pT) <|Tri.seq <|Xu [Eb 14 false] none [Eb 22 (decide ((p2:Int)>((p0.length:Nat):Int)))] [] [] [] 304 (v6 (pu (Yl 1 2) (v1 (pg hG0 (v4 (pu (Yl 0 2) (v3 pT))))))) <|Tri.cond (x:=(decide ((p2:Int)>((p0.length:Nat):Int)))) (by kernel_rfl) (fun h=>absurd (h.symm.trans hG1) (by decide)) (fun h=>?_)
 exact Tri.skip <|Xs [Er 5 ((p0.drop 0).take (((p2).toNat)-0))] [22] 432 (v3 (pu (Yl 0 2) (v2 (pu (lo ((0:Int)≤0∧(0:Int)≤p2∧(p2:Int)≤p2∧(p2:Int)≤(p0.length:Int))) (v1 pT))))) <|Xt [] [0,1] [Mc 0 [.ro .u8 ((p0.drop ((p2).toNat)).take (p0.length-((p2).toNat))),.b p1]] [0] 592 (v4 (pu (Yl 0 2) (v1 (pu (lo ((0:Int)≤p2∧(p2:Int)≤((p0.length:Nat):Int)∧((p0.length:Nat):Int)≤(p0.length:Int))) (v2 (pu (Ys 0 2) pT)))))) <|Xs [Er 4 ((p0.drop 0).take (((p2).toNat)-0))] [5] 624 (v2 pT) <|Xz [(0,0)] pz
theorem kY {p0:List Int} {p1:Bool} {p2:Int} (h:(decide ((p2:Int)>((p0.length:Nat):Int)))=false) (h0:0≤p2):((fH p0 p1 p2).length:Int)=p2:=by
 have:=of_decide_eq_false h
 unfold fH
 simp only [List.length_take,List.length_drop]
 omega
def vp:List AV→List Blk→Option (Prop × Ret)
 |[.sc (.p 0 0),.sc (.i .i64 p2)],[.cells [.ro .u8 p0,.b p1]]=>some (((p1=false)∧(((decide ((p2:Int)>((p0.length:Nat):Int)))=true)∧True)),⟨.sc (.nils),[some (.cells [.ro .u8 ([]:List Int),.b true])]⟩)
 |_,_=>none
theorem DP:Known Tryz.prog gD 74 ⟨1,0,vp⟩:=by
 refine Xw Tryz.f74 48 Zn mixed <|fun E args ks C r h hC hlen=>?_
 simp only at h
 unfold vp at h
 split at h
 rotate_left
 cases h
 rename_i p2 p0 p1
 cases h
 simp only [bI] at hlen
 have hG0:=hC.1
 have hG1:=hC.2.1
 have hG1':=of_decide_eq_true hG1
 have hC:=hC.2.2
 refine ⟨rfl,?_⟩
 refine Xs [] [] 32 (v1 pT) <|Tri.seq <|Xu [Eb 14 false] none [Eb 22 (decide ((p2:Int)>((p0.length:Nat):Int)))] [] [] [] 304 (v6 (pu (Yl 1 2) (v1 (pg hG0 (v4 (pu (Yl 0 2) (v3 pT))))))) <|Tri.cond (x:=(decide ((p2:Int)>((p0.length:Nat):Int)))) (by kernel_rfl) (fun h=>?_) (fun h=>absurd (h.symm.trans hG1) (by decide))
 exact Tri.seq <|Xs [Eb 24 true] [22,1] 336 (v2 pT) <|Tri.cond_true (by kernel_rfl) <|Wt [] [24,0] [Mc 0 [.nils,.b true]] [0] 464 (v4 (pu (Ys 1 2) (v2 (pu (Ys 0 2) pT)))) <|Xs [(4,.sc (.nils))] [] 480 (v1 pT) <|Tri.sub (Sub.nilCell (l:=[.nils,.b true]) 0 0 .u8 (by kernel_rfl) (by kernel_rfl)) <|Xz [(0,0)] pz
def sR:List AV→List Blk→Option (Prop × Ret)
 |[.sc (.p 0 0),.sc (.i .i64 p2)],[.cells [.ro .u8 p0,.b p1]]=>some (((p1=true)∧True),⟨.sc (.nils),[some (.cells [.ro .u8 ([]:List Int),.b true])]⟩)
 |_,_=>none
theorem BH:Known Tryz.prog gD 74 ⟨1,0,sR⟩:=by
 refine Xw Tryz.f74 48 Zn mixed <|fun E args ks C r h hC hlen=>?_
 simp only at h
 unfold sR at h
 split at h
 rotate_left
 cases h
 rename_i p2 p0 p1
 cases h
 simp only [bI] at hlen
 have hG0:=hC.1
 have hC:=hC.2
 refine ⟨rfl,?_⟩
 exact Xs [] [] 32 (v1 pT) <|Tri.seq <|Xu [Eb 14 true] none [Eb 22 true] [] [] [] 304 (v6 (pu (Yl 1 2) (v1 (pg hG0 (v8 pT))))) <|Tri.cond_true (by kernel_rfl) <|Tri.seq <|Xs [Eb 24 true] [22,1] 336 (v2 pT) <|Tri.cond_true (by kernel_rfl) <|Wt [] [24,0] [Mc 0 [.nils,.b true]] [0] 464 (v4 (pu (Ys 1 2) (v2 (pu (Ys 0 2) pT)))) <|Xs [(4,.sc (.nils))] [] 480 (v1 pT) <|Tri.sub (Sub.nilCell (l:=[.nils,.b true]) 0 0 .u8 (by kernel_rfl) (by kernel_rfl)) <|Xz [(0,0)] pz
def ct (p0:List Int) (p1:Bool) (p2:Int):List Int :=
 (sel p1 ([]:List Int) (sel (decide ((p2:Int)>((p0.length:Nat):Int))) ([]:List Int) ((p0.drop 0).take (((p2).toNat)-0))))
def dg (p0:List Int) (p1:Bool) (p2:Int):List Int :=
 (sel p1 ([]:List Int) (sel (decide ((p2:Int)>((p0.length:Nat):Int))) ([]:List Int) ((p0.drop ((p2).toNat)).take (p0.length-((p2).toNat)))))
def eU (p0:List Int) (p1:Bool) (p2:Int):Bool :=
 (sel p1 true (sel (decide ((p2:Int)>((p0.length:Nat):Int))) true p1))
def yp:List AV→List Blk→Option (Prop × Ret)
 |[.sc (.p 0 0),.sc (.i .i64 p2)],[.cells [.ro .u8 p0,.b p1]]=>some (((0:Int)≤p2),⟨.sc (.ro .u8 (ct p0 p1 p2)),[some (.cells [.ro .u8 (dg p0 p1 p2),.b (eU p0 p1 p2)])]⟩)
 |_,_=>none
theorem uS:Known Tryz.prog gD 74 ⟨1,0,yp⟩:=by
 refine Xw Tryz.f74 48 Zn mixed <|fun E args ks C r h hC hlen=>?_
 simp only at h
 unfold yp at h
 split at h
 rotate_left
 cases h
 rename_i p2 p0 p1
 cases h
 simp only [bI] at hlen
 refine ⟨rfl,?_⟩
 refine Xs [] [] 32 (v1 pT) <|Tri.seq <|Tri.split p1 (fun h1=>?_) (fun h1=>?_)
 exact Xu [Eb 14 true] none [Eb 22 true] [] [] [] 304 (v6 (pu (Yl 1 2) (v1 (pg h1 (v8 pT))))) <|Tri.cond_true (by kernel_rfl) <|Tri.seq <|Xs [Eb 24 true] [22,1] 336 (v2 pT) <|Tri.cond_true (by kernel_rfl) <|Wt [] [24,0] [Mc 0 [.nils,.b true]] [0] 464 (v4 (pu (Ys 1 2) (v2 (pu (Ys 0 2) pT)))) <|Xs [(4,.sc (.nils))] [] 480 (v1 pT) <|Tri.sub (Sub.nilRo 4 .u8 (by kernel_rfl)) <|Tri.sub (Sub.nilCell (l:=[.nils,.b true]) 0 0 .u8 (by kernel_rfl) (by kernel_rfl)) <|Xy [(0,0)] pz (by simp only [ct,dg,eU,h1,aD,aA] <;> rfl)
 refine Xu [Eb 14 false] none [Eb 22 (decide ((p2:Int)>((p0.length:Nat):Int)))] [] [] [] 304 (v6 (pu (Yl 1 2) (v1 (pg h1 (v4 (pu (Yl 0 2) (v3 pT))))))) <|Xb (fun h2 h2'=>?_) (fun h2 h2'=>?_)
 exact Tri.seq <|Xs [Eb 24 true] [22,1] 336 (v2 pT) <|Tri.cond_true (by kernel_rfl) <|Wt [] [24,0] [Mc 0 [.nils,.b true]] [0] 464 (v4 (pu (Ys 1 2) (v2 (pu (Ys 0 2) pT)))) <|Xs [(4,.sc (.nils))] [] 480 (v1 pT) <|Tri.sub (Sub.nilRo 4 .u8 (by kernel_rfl)) <|Tri.sub (Sub.nilCell (l:=[.nils,.b true]) 0 0 .u8 (by kernel_rfl) (by kernel_rfl)) <|Xy [(0,0)] pz (by simp only [ct,dg,eU,h1,h2,aD,aA] <;> rfl)
 exact Tri.skip <|Xs [Er 5 ((p0.drop 0).take (((p2).toNat)-0))] [22] 432 (v3 (pu (Yl 0 2) (v2 (pu (lo ((0:Int)≤0∧(0:Int)≤p2∧(p2:Int)≤p2∧(p2:Int)≤(p0.length:Int))) (v1 pT))))) <|Xt [] [0,1] [Mc 0 [.ro .u8 ((p0.drop ((p2).toNat)).take (p0.length-((p2).toNat))),.b p1]] [0] 592 (v4 (pu (Yl 0 2) (v1 (pu (lo ((0:Int)≤p2∧(p2:Int)≤((p0.length:Nat):Int)∧((p0.length:Nat):Int)≤(p0.length:Int))) (v2 (pu (Ys 0 2) pT)))))) <|Xs [Er 4 ((p0.drop 0).take (((p2).toNat)-0))] [5] 624 (v2 pT) <|Xy (r':=⟨.sc (.ro .u8 ((p0.drop 0).take (((p2).toNat)-0))),[some (.cells [.ro .u8 ((p0.drop ((p2).toNat)).take (p0.length-((p2).toNat))),.b p1])]⟩) [(0,0)] pz (by simp only [ct,dg,eU,h1,h2,aD,aA])
theorem qh (p0:List Int) (p1:Bool) (p2:Int):(ct p0 p1 p2).length≤p2.toNat:=by
 unfold ct
 cases p1
 ·simp only [aA]
  cases (decide ((p2:Int)>((p0.length:Nat):Int)))
  ·simp only [aA,List.length_take,List.length_drop];omega
  ·simp only [aD,List.length_nil];omega
 ·simp only [aD,List.length_nil];omega
def dZ (p0:List Int) (p1:Bool):Int :=
 (sel p1 0 (sel (decide ((1:Int)>((p0.length:Nat):Int))) 0 ((fH p0 p1 1).getD 0 0)))
def bO (p0:List Int) (p1:Bool):List Int :=
 (sel p1 ([]:List Int) (sel (decide ((1:Int)>((p0.length:Nat):Int))) ([]:List Int) (gc p0 p1 1)))
def bR (p0:List Int) (p1:Bool):Bool :=
 (sel p1 true (sel (decide ((1:Int)>((p0.length:Nat):Int))) true p1))
def De:List AV→List Blk→Option (Prop × Ret)
 |[.sc (.p 0 0)],[.cells [.ro .u8 p0,.b p1]]=>some (True,⟨.sc (.i .u8 (dZ p0 p1)),[some (.cells [.ro .u8 (bO p0 p1),.b (bR p0 p1)])]⟩)
 |_,_=>none
theorem CP:Known Tryz.prog gD 42 ⟨1,0,De⟩:=by
 refine Xw Tryz.f42 11 (Zc BH 48 [.io,.val] [] [0] <|Zc DP 144 [.io,.val] [] [0] <|Zc BY 240 [.io,.val] [] [0] <|Zn) mixed <|fun E args ks C r h hC hlen=>?_
 simp only at h
 unfold De at h
 split at h
 rotate_left
 cases h
 rename_i p0 p1
 cases h
 simp only [bI] at hlen
 refine ⟨rfl,?_⟩
 refine Xs [] [] 32 (v1 pT) <|Tri.seq <|Tri.split p1 (fun h1=>?_) (fun h1=>?_)
 exact Xt [(3,.sc (.nils))] [0] [Mc 0 [.ro .u8 ([]:List Int),.b true]] [0] 80 (v1 (pu (pa pT (pa (pl h1) pT)) (v1 pT))) <|Xs [Eb 7 false] [] 112 (v2 pT) <|Tri.cond_false (by kernel_rfl) <|Tri.skip <|Xs [Ek 2 .u8 0] [7,3] 128 (v1 pT) <|Xy [(0,0)] pz (by simp only [dZ,bO,bR,h1,aD,aA] <;> rfl)
 refine Tri.sub (Sub.up (U':=128) (by decide)) <|Tri.split (decide ((1:Int)>((p0.length:Nat):Int))) (fun h2=>?_) (fun h2=>?_)
 have h2':=of_decide_eq_true h2
 exact Xt [(3,.sc (.nils))] [0] [Mc 0 [.ro .u8 ([]:List Int),.b true]] [0] 176 (v1 (pu (pa pT (pa (pl h1) (pa (pl h2) pT))) (v1 pT))) <|Xs [Eb 7 false] [] 208 (v2 pT) <|Tri.cond_false (by kernel_rfl) <|Tri.skip <|Xs [Ek 2 .u8 0] [7,3] 224 (v1 pT) <|Xy [(0,0)] pz (by simp only [dZ,bO,bR,h1,h2,aD,aA] <;> rfl)
 have h2':=of_decide_eq_false h2
 refine Tri.sub (Sub.up (U':=224) (by decide)) <|Xt [Er 3 (fH p0 p1 1)] [0] [Mc 0 [.ro .u8 (gc p0 p1 1),.b p1]] [0] 272 (v1 (pu (pa pT (pa (pl h1) (pa (pl h2) (Y0 1)))) (v1 pT))) <|Xs [Eb 7 true] [] 304 (v1 (pu (pl (show 0<(fH p0 p1 1).length from by (have hq:=kY (p0:=p0) (p1:=p1) (p2:=1) (by assumption) (by decide);omega))) pT)) ?_
 refine Tri.cond_true (by kernel_rfl) <|Xs [Ek 2 .u8 ((fH p0 p1 1).getD 0 0)] [7,3] 368 (v1 (pu (pl (show (0:Int)≤0∧0<((fH p0 p1 1).length:Int) from by (have hq:=kY (p0:=p0) (p1:=p1) (p2:=1) (by assumption) (by decide);omega))) (pu (pl (show 0<(fH p0 p1 1).length from by (have hq:=kY (p0:=p0) (p1:=p1) (p2:=1) (by assumption) (by decide);omega))) (v1 pT)))) ?_
 exact Xy (r':=⟨.sc (.i .u8 ((fH p0 p1 1).getD 0 0)),[some (.cells [.ro .u8 (gc p0 p1 1),.b p1])]⟩) [(0,0)] pz (by simp only [dZ,bO,bR,h1,h2,aD,aA])
def fv (p0:List Int) (p1:Bool):Bool :=
 (((dZ p0 p1):Int) != 0)
def bU (p0:List Int) (p1:Bool):List Int :=
 (bO p0 p1)
def bf (p0:List Int) (p1:Bool):Bool :=
 (bR p0 p1)
def Dh:List AV→List Blk→Option (Prop × Ret)
 |[.sc (.p 0 0)],[.cells [.ro .u8 p0,.b p1]]=>some (True,⟨.sc (.b (fv p0 p1)),[some (.cells [.ro .u8 (bU p0 p1),.b (bf p0 p1)])]⟩)
 |_,_=>none
theorem EU:Known Tryz.prog gD 78 ⟨1,0,Dh⟩:=by
 refine Xw Tryz.f78 6 (Zc CP 48 [.io] [] [0] <|Zn) mixed <|fun E args ks C r h hC hlen=>?_
 simp only at h
 unfold Dh at h
 split at h
 rotate_left
 cases h
 rename_i p0 p1
 cases h
 simp only [bI] at hlen
 refine ⟨rfl,?_⟩
 exact Xs [] [] 32 (v1 pT) <|Xt [Eb 2 (((dZ p0 p1):Int) != 0)] [0] [Mc 0 [.ro .u8 (bO p0 p1),.b (bR p0 p1)]] [0] 96 (v1 (pu pz (v2 pT))) <|Xz [(0,0)] pz
def Bn (p0:List Int) (p1:Bool):Bool :=
 (!p1)
def KU:List AV→List Blk→Option (Prop × Ret)
 |[.sc (.p 0 0)],[.cells [.ro .u8 p0,.b p1]]=>some (True,⟨.sc (.b (Bn p0 p1)),[some (.cells [.ro .u8 p0,.b p1])]⟩)
 |_,_=>none
theorem LN:Known Tryz.prog gD 76 ⟨1,0,KU⟩:=by
 refine Xw Tryz.f76 12 Zn mixed <|fun E args ks C r h hC hlen=>?_
 simp only at h
 unfold KU at h
 split at h
 rotate_left
 cases h
 rename_i p0 p1
 cases h
 simp only [bI] at hlen
 refine ⟨rfl,?_⟩
 exact Xs [] [] 32 (v1 pT) <|Xs [Eb 2 (!p1)] [0] 192 (v6 (pu (Yl 1 2) (v3 pT))) <|Xz [(0,0)] pz
def fj (p0:List Int) (p1:Bool):Bool :=
 (sel (Bn p0 p1) ((((p0.length:Nat):Int):Int)==0) false)
def HJ:List AV→List Blk→Option (Prop × Ret)
 |[.sc (.p 0 0)],[.cells [.ro .u8 p0,.b p1]]=>some (True,⟨.sc (.b (fj p0 p1)),[some (.cells [.ro .u8 p0,.b p1])]⟩)
 |_,_=>none
theorem lI:Known Tryz.prog gD 44 ⟨1,0,HJ⟩:=by
 refine Xw Tryz.f44 13 (Zc LN 48 [.io] [] [0] <|Zn) mixed <|fun E args ks C r h hC hlen=>?_
 simp only at h
 unfold HJ at h
 split at h
 rotate_left
 cases h
 rename_i p0 p1
 cases h
 simp only [bI] at hlen
 refine ⟨rfl,?_⟩
 refine Xs [] [] 32 (v1 pT) <|Tri.split (Bn p0 p1) (fun h1=>?_) (fun h1=>?_)
 exact Xu [Eb 5 true] none [Eb 2 ((((p0.length:Nat):Int):Int)==0)] [0] [] [] 208 (v1 (pu pz (pg h1 (v3 (pu (Yl 0 2) (v4 pT)))))) <|Xy [(0,0)] pz (by simp only [fj,h1,aD,aA] <;> rfl)
 exact Xu [Eb 5 false] none [Eb 2 false] [0] [] [] 208 (v1 (pu pz (pg h1 (v8 pT)))) <|Xy [(0,0)] pz (by simp only [fj,h1,aD,aA] <;> rfl)
def jo (p0:List Int) (p1:Bool) (k0:Nat) (z0:Int):Int :=
 (iOr .u32 (cu .u32 z0 8) (IntKind.wrap .u32 ((ct p0 p1 4).getD k0 0)))
def gK (p0:List Int) (p1:Bool):Int :=
 (itr (jo p0 p1) ((ct p0 p1 4).length) 0)
def eZ (p0:List Int) (p1:Bool):List Int :=
 (dg p0 p1 4)
def fO (p0:List Int) (p1:Bool):Bool :=
 (eU p0 p1 4)
def Hi:List AV→List Blk→Option (Prop × Ret)
 |[.sc (.p 0 0)],[.cells [.ro .u8 p0,.b p1]]=>some (True,⟨.sc (.i .u32 (gK p0 p1)),[some (.cells [.ro .u8 (eZ p0 p1),.b (fO p0 p1)])]⟩)
 |_,_=>none
theorem Ky:Known Tryz.prog gD 75 ⟨1,0,Hi⟩:=by
 refine Xw Tryz.f75 20 (Zc uS 64 [.io,.val] [] [0] <|Zn) mixed <|fun E args ks C r h hC hlen=>?_
 simp only at h
 unfold Hi at h
 split at h
 rotate_left
 cases h
 rename_i p0 p1
 cases h
 simp only [bI] at hlen
 have hf0:(ct p0 p1 4).length≤4:=qh p0 p1 4
 refine ⟨rfl,?_⟩
 refine Xs [] [] 32 (v1 pT) <|Xs [Ek 3 .u32 0] [] 48 (v1 pT) <|Tri.seq <|Xt [Ei 9 0,Ej 8 ((ct p0 p1 4).length),Er 7 (ct p0 p1 4)] [0] [Mc 0 [.ro .u8 (dg p0 p1 4),.b (eU p0 p1 4)]] [0] 112 (v1 (pu (pa pT (Y0 4)) (v2 pT))) <|Tri.block <|Xc ((ct p0 p1 4).length) (jo p0 p1) 0 (fun k0 z0=>True) (fun k0 z0=>[Ej 9 k0,Ek 3 .u32 z0]) (fun k0 z0=>[]) trivial <|fun k0 z0 hk0 hz0 hJ0=>Xs [Eb 10 (decide ((((k0:Nat):Int):Int)<(((ct p0 p1 4).length:Nat):Int)))] [] 128 (v1 pT) <|Tri.seq <|Xb (fun h1 h1'=>?_) (fun h1 h1'=>?_)
 exact Tri.skip <|Tri.seq <|Tri.block <|Xs [Ek 5 .u8 ((ct p0 p1 4).getD k0 0)] [10] 176 (pu (Yj k0 ((ct p0 p1 4).length)) (pu (Yl k0 ((ct p0 p1 4).length)) (v1 pT))) <|Ws [Ek 3 .u32 (iOr .u32 (cu .u32 z0 8) (IntKind.wrap .u32 ((ct p0 p1 4).getD k0 0)))] [5,3] 272 (v1 (pu (Y0 8) (v4 pT))) <|Wu [Ej 18 (k0+1)] none [Ej 9 (k0+1)] [9] [] [] 304 (pv pT (Yp k0 1) (v1 pT)) <|Xo [] trivial
 refine Tri.exit <|?_
 obtain rfl:k0=((ct p0 p1 4).length):=(by omega);subst hz0
 exact Xs [Ek 2 .u32 (itr (jo p0 p1) ((ct p0 p1 4).length) 0)] [10,9,8,7,3] 160 (v2 pT) <|Xz [(0,0)] pz
theorem wy (p0:List Int) (p1:Bool):0≤gK p0 p1∧gK p0 p1<4294967296:=by
 have h0:∀ n,0≤itr (jo p0 p1) n 0∧itr (jo p0 p1) n 0<4294967296:=by
  intro n
  cases n with
  |zero=>rw [bB];decide
  |succ k=>rw [aq];unfold jo iOr;rw [lf];omega
 exact h0 _
theorem Dj (p0:List Int) (p1:Bool):0≤IntKind.wrap .i64 (gK p0 p1):=by
 have:=wy p0 p1
 rw [bm (by omega) (by omega)]
 exact this.1
def aj (p0:List Int) (p1:Bool):ByteArray :=
 (sel (decide (((gK p0 p1):Int)>16384)) (⟨#[]⟩:ByteArray) (bytesOf (ct (eZ p0 p1) (fO p0 p1) (IntKind.wrap .i64 (gK p0 p1)))))
def au (p0:List Int) (p1:Bool):List Int :=
 (sel (decide (((gK p0 p1):Int)>16384)) (dg (eZ p0 p1) (fO p0 p1) 1073741824) (dg (eZ p0 p1) (fO p0 p1) (IntKind.wrap .i64 (gK p0 p1))))
def bA (p0:List Int) (p1:Bool):Bool :=
 (sel (decide (((gK p0 p1):Int)>16384)) (eU (eZ p0 p1) (fO p0 p1) 1073741824) (eU (eZ p0 p1) (fO p0 p1) (IntKind.wrap .i64 (gK p0 p1))))
def Bz:List AV→List Blk→Option (Prop × Ret)
 |[.sc (.p 0 0)],[.cells [.ro .u8 p0,.b p1]]=>some (True,⟨.sc (.s (aj p0 p1)),[some (.cells [.ro .u8 (au p0 p1),.b (bA p0 p1)])]⟩)
 |_,_=>none
theorem gC:Known Tryz.prog gD 43 ⟨1,0,Bz⟩:=by
 refine Xw Tryz.f43 15 (Zc uS 128 [.io,.val] [] [0] <|Zc uS 160 [.io,.val] [] [0] <|Zc Ky 48 [.io] [] [0] <|Zn) mixed <|fun E args ks C r h hC hlen=>?_
 simp only at h
 unfold Bz at h
 split at h
 rotate_left
 cases h
 rename_i p0 p1
 cases h
 simp only [bI] at hlen
 refine ⟨rfl,?_⟩
 refine Xs [] [] 32 (v1 pT) <|Xt [Ek 3 .u32 (gK p0 p1)] [] [Mc 0 [.ro .u8 (eZ p0 p1),.b (fO p0 p1)]] [0] 80 (v1 (pu pz (v1 pT))) <|Tri.seq <|Xs [Eb 7 (decide (((gK p0 p1):Int)>16384))] [] 112 (v2 pT) <|Xb (fun h1 h1'=>?_) (fun h1 h1'=>?_)
 exact Xt [] [7,3,0] [Mc 0 [.ro .u8 (dg (eZ p0 p1) (fO p0 p1) 1073741824),.b (eU (eZ p0 p1) (fO p0 p1) 1073741824)]] [0] 144 (v1 (pu (pa pT (Y0 1073741824)) pT)) <|Xs [Es 2 (⟨#[]⟩:ByteArray)] [] 160 (v1 pT) <|Xy [(0,0)] pz (by simp only [aj,au,bA,h1,aD,aA] <;> rfl)
 exact Tri.skip <|Xt [Es 2 (bytesOf (ct (eZ p0 p1) (fO p0 p1) (IntKind.wrap .i64 (gK p0 p1))))] [7,3,0] [Mc 0 [.ro .u8 (dg (eZ p0 p1) (fO p0 p1) (IntKind.wrap .i64 (gK p0 p1))),.b (eU (eZ p0 p1) (fO p0 p1) (IntKind.wrap .i64 (gK p0 p1)))]] [0] 208 (v3 (pu (pa pT (pl (show (0:Int)≤(IntKind.wrap .i64 (gK p0 p1)) from Dj _ _))) (v2 pT))) <|Xy [(0,0)] pz (by simp only [aj,au,bA,h1,aD,aA] <;> rfl)
theorem dJ (p0:List Int) (p1:Bool):(aj p0 p1).size≤16384:=by
 unfold aj
 cases h:(decide (((gK p0 p1):Int)>16384))
 ·have h0:=of_decide_eq_false h
  have h1:=wy p0 p1
  have h2:=qh (eZ p0 p1) (fO p0 p1) (IntKind.wrap .i64 (gK p0 p1))
  rw [bm (by omega) (by omega)] at h2 ⊢
  rw [aA]
  have h3:∀ xs:List Int,(bytesOf xs).size=xs.length:=fun xs=>by simp [bytesOf,ByteArray.size]
  rw [h3]
  omega
 ·rw [aD];decide
end Go.Vm
namespace Go.Vm
open Go Go.Proofs
def be (p0:List Int) (p1:Int) (p2:Bool) (p3:Int):List Int :=
 (sel p2 ([]:List Int) (sel (decide ((p3:Int)<0)) ([]:List Int) (sel (decide ((p3:Int)>(ag .i64 ((p0.length:Nat):Int) p1))) ([]:List Int) ((p0.drop (((ag .i64 (aN .i64 p1 p3) p3)).toNat)).take ((((aN .i64 p1 p3)).toNat)-(((ag .i64 (aN .i64 p1 p3) p3)).toNat))))))
def cA (p0:List Int) (p1:Int) (p2:Bool) (p3:Int):Int :=
 (sel p2 p1 (sel (decide ((p3:Int)<0)) p1 (sel (decide ((p3:Int)>(ag .i64 ((p0.length:Nat):Int) p1))) p1 (aN .i64 p1 p3))))
def bl (p0:List Int) (p1:Int) (p2:Bool) (p3:Int):Bool :=
 (sel p2 true (sel (decide ((p3:Int)<0)) true (sel (decide ((p3:Int)>(ag .i64 ((p0.length:Nat):Int) p1))) true p2)))
def zK:List AV→List Blk→Option (Prop × Ret)
 |[.sc (.p 0 0),.sc (.i .i64 p3)],[.cells [.ro .u8 p0,.i .i64 p1,.b p2]]=>some ((p0.length≤1000000000∧(0:Int)≤p1∧p1≤(p0.length:Int)),⟨.sc (.ro .u8 (be p0 p1 p2 p3)),[some (.cells [.ro .u8 p0,.i .i64 (cA p0 p1 p2 p3),.b (bl p0 p1 p2 p3)])]⟩)
 |_,_=>none
theorem td:Known Tryz.prog gD 84 ⟨1,0,zK⟩:=by
 refine Xw Tryz.f84 53 Zn mixed <|fun E args ks C r h hC hlen=>?_
 simp only at h
 unfold zK at h
 split at h
 rotate_left
 cases h
 rename_i p3 p0 p1 p2
 cases h
 simp only [bI] at hlen
 refine ⟨rfl,?_⟩
 refine Xs [] [] 32 (v1 pT) <|Tri.seq <|Tri.split p2 (fun h1=>?_) (fun h1=>?_)
 exact Xu [Eb 9 true] (some [0,1,3,7,15,31,63,127,255,511,511,1535,3583,7679,15871,511,33279,98815,229887,523775,1048575,2097151]) [Eb 26 true] [] [] [] 384 (v3 (pu (Yl 2 3) (pg h1 (v8 (v9 pT))))) <|Tri.cond_true (by kernel_rfl) <|Xt [] [26,0,1] [Mc 0 [.ro .u8 p0,.i .i64 p1,.b true]] [0] 448 (v3 (pu (Ys 2 3) pT)) <|Xs [(4,.sc (.nils))] [] 464 (v1 pT) <|Tri.sub (Sub.nilRo 4 .u8 (by kernel_rfl)) <|Xy [(0,0)] pz (by simp only [be,cA,bl,h1,aD,aA] <;> rfl)
 refine Tri.split (decide ((p3:Int)<0)) (fun h2=>?_) (fun h2=>?_)
 have h2':=of_decide_eq_true h2
 exact Xu [Eb 9 false,Eb 13 true] (some [0,1,3,7,15,31,63,127,255,511,511,1535,3583,7679,15871,511,33279,98815,229887,523775,1048575,2097151]) [Eb 26 true] [] [] [] 384 (v3 (pu (Yl 2 3) (pg h1 (v3 (pg h2 (v4 (v9 pT))))))) <|Tri.cond_true (by kernel_rfl) <|Xt [] [26,0,1] [Mc 0 [.ro .u8 p0,.i .i64 p1,.b true]] [0] 448 (v3 (pu (Ys 2 3) pT)) <|Xs [(4,.sc (.nils))] [] 464 (v1 pT) <|Tri.sub (Sub.nilRo 4 .u8 (by kernel_rfl)) <|Xy [(0,0)] pz (by simp only [be,cA,bl,h1,h2,aD,aA] <;> rfl)
 have h2':=of_decide_eq_false h2
 refine Xu [Eb 9 false,Eb 13 false] (some [0,1,3,7,15,31,63,127,255,511,511,1535,3583,7679,15871,511,33279,98815,229887,523775,1048575,2097151]) [Eb 26 (decide ((p3:Int)>(ag .i64 ((p0.length:Nat):Int) p1)))] [] [] [] 384 (v3 (pu (Yl 2 3) (pg h1 (v3 (pg h2 (v4 (pu (Yl 0 3) (v4 (pu (Yl 1 3) (v3 pT)))))))))) <|Xb (fun h3 h3'=>?_) (fun h3 h3'=>?_)
 exact Xt [] [26,0,1] [Mc 0 [.ro .u8 p0,.i .i64 p1,.b true]] [0] 448 (v3 (pu (Ys 2 3) pT)) <|Xs [(4,.sc (.nils))] [] 464 (v1 pT) <|Tri.sub (Sub.nilRo 4 .u8 (by kernel_rfl)) <|Xy [(0,0)] pz (by simp only [be,cA,bl,h1,h2,h3,aD,aA] <;> rfl)
 refine Tri.skip <|Xt [] [26] [Mc 0 [.ro .u8 p0,.i .i64 (aN .i64 p1 p3),.b p2]] [0] 528 (v3 (pu (Yl 1 3) (v4 (pu (Ys 1 3) pT)))) <|Xu [] (some [0,1,3,7,0,16,48,112,0,496,0,1024,3072,7168,16383,32767]) [Er 4 ((p0.drop (((ag .i64 (aN .i64 p1 p3) p3)).toNat)).take ((((aN .i64 p1 p3)).toNat)-(((ag .i64 (aN .i64 p1 p3) p3)).toNat)))] [0,1] [] [] 784 (v3 (pu (Yl 0 3) (v3 (pu (Yl 1 3) (v5 (pu (Yl 1 3) (pu (pl (show (0:Int)≤(ag .i64 (aN .i64 p1 p3) p3)∧((ag .i64 (aN .i64 p1 p3) p3):Int)≤(aN .i64 p1 p3)∧(aN .i64 p1 p3)≤(p0.length:Int) from by (have a1:ag .i64 ((p0.length:Nat):Int) p1=(p0.length:Int)-p1:=ce (by omega) (by omega);have a2:aN .i64 p1 p3=p1+p3:=bq (by omega) (by omega);have a3:ag .i64 (aN .i64 p1 p3) p3=aN .i64 p1 p3-p3:=ce (by omega) (by omega);omega))) (v1 pT)))))))) ?_
 exact Xy (r':=⟨.sc (.ro .u8 ((p0.drop (((ag .i64 (aN .i64 p1 p3) p3)).toNat)).take ((((aN .i64 p1 p3)).toNat)-(((ag .i64 (aN .i64 p1 p3) p3)).toNat)))),[some (.cells [.ro .u8 p0,.i .i64 (aN .i64 p1 p3),.b p2])]⟩) [(0,0)] pz (by simp only [be,cA,bl,h1,h2,h3,aD,aA])
theorem ic {p0:List Int} {p1:Int} (p2:Bool) (n:Int) (h:p0.length≤1000000000∧(0:Int)≤p1∧p1≤(p0.length:Int)) :
  (p2=false∧0≤n∧p1+n≤(p0.length:Int)∧be p0 p1 p2 n=(p0.drop p1.toNat).take n.toNat∧cA p0 p1 p2 n=p1+n∧bl p0 p1 p2 n=false) ∨
  (¬ (p2=false∧0≤n∧p1+n≤(p0.length:Int))∧be p0 p1 p2 n=[]∧cA p0 p1 p2 n=p1∧bl p0 p1 p2 n=true):=by
 obtain ⟨h1,h2,h3⟩:=h
 unfold be cA bl
 cases p2
 ·simp only [aA]
  cases h4:decide (n<0)
  ·have h4':=of_decide_eq_false h4
   simp only [aA]
   have a1:ag .i64 ((p0.length:Nat):Int) p1=(p0.length:Int)-p1:=ce (by omega) (by omega)
   rw [a1]
   cases h5:decide (n>(p0.length:Int)-p1)
   ·have h5':=of_decide_eq_false h5
    simp only [aA]
    have a2:aN .i64 p1 n=p1+n:=bq (by omega) (by omega)
    have a3:ag .i64 (p1+n) n=p1:=by rw [ce (by omega) (by omega)];omega
    rw [a2,a3]
    have a4:(p1+n).toNat-p1.toNat=n.toNat:=by omega
    rw [a4]
    first|exact .inl ⟨rfl,by omega,by omega,rfl,rfl,rfl⟩|exact .inl ⟨trivial,by omega,by omega,rfl,rfl,trivial⟩|exact .inl ⟨trivial,by omega,by omega,trivial,trivial,trivial⟩
   ·have h5':=of_decide_eq_true h5
    simp only [aD]
    exact .inr ⟨fun ⟨_,_,h⟩=>by omega,trivial,trivial,trivial⟩
  ·have h4':=of_decide_eq_true h4
   simp only [aD]
   exact .inr ⟨fun ⟨_,h,_⟩=>by omega,trivial,trivial,trivial⟩
 ·simp only [aD]
  exact .inr ⟨fun ⟨h,_⟩=>(by cases h),trivial,trivial,trivial⟩
theorem oB {p0:List Int} {p1:Int} (p2:Bool) (n:Int) (h:p0.length≤1000000000∧(0:Int)≤p1∧p1≤(p0.length:Int)):0≤cA p0 p1 p2 n∧cA p0 p1 p2 n≤(p0.length:Int):=by
 rcases ic p2 n h with ⟨_,_,_,_,h1,_⟩|⟨_,_,h1,_⟩ <;> rw [h1] <;> omega
theorem fa {p0:List Int} {p1:Int} {p2:Bool} {n:Int} (h:p0.length≤1000000000∧(0:Int)≤p1∧p1≤(p0.length:Int)) (hb:bl p0 p1 p2 n=false):((be p0 p1 p2 n).length:Int)=n:=by
 rcases ic p2 n h with ⟨_,_,_,h1,_⟩|⟨_,_,_,h1⟩
 ·rw [h1,List.length_take,List.length_drop];omega
 ·rw [h1] at hb;cases hb
def eY (p0:List Int) (p1:Int) (p2:Bool):Int :=
 (sel (bl p0 p1 p2 1) 0 (IntKind.wrap .i64 ((be p0 p1 p2 1).getD 0 0)))
def aL (p0:List Int) (p1:Int) (p2:Bool):Int :=
 (cA p0 p1 p2 1)
def aM (p0:List Int) (p1:Int) (p2:Bool):Bool :=
 (bl p0 p1 p2 1)
def zE:List AV→List Blk→Option (Prop × Ret)
 |[.sc (.p 0 0)],[.cells [.ro .u8 p0,.i .i64 p1,.b p2]]=>some ((p0.length≤1000000000∧(0:Int)≤p1∧p1≤(p0.length:Int)),⟨.sc (.i .i64 (eY p0 p1 p2)),[some (.cells [.ro .u8 p0,.i .i64 (aL p0 p1 p2),.b (aM p0 p1 p2)])]⟩)
 |_,_=>none
theorem uM:Known Tryz.prog gD 47 ⟨1,0,zE⟩:=by
 refine Xw Tryz.f47 14 (Zc td 48 [.io,.val] [] [0] <|Zn) mixed <|fun E args ks C r h hC hlen=>?_
 simp only at h
 unfold zE at h
 split at h
 rotate_left
 cases h
 rename_i p0 p1 p2
 cases h
 simp only [bI] at hlen
 refine ⟨rfl,?_⟩
 refine Xs [] [] 32 (v1 pT) <|Xt [Er 3 (be p0 p1 p2 1)] [] [Mc 0 [.ro .u8 p0,.i .i64 (cA p0 p1 p2 1),.b (bl p0 p1 p2 1)]] [0] 80 (v1 (pu (pa pT (lo (p0.length≤1000000000∧(0:Int)≤p1∧p1≤(p0.length:Int)))) (v1 pT))) <|Tri.seq <|Xs [Eb 9 (bl p0 p1 p2 1)] [0] 144 (v3 (pu (Yl 2 3) pT)) <|Xa (fun h1=>?_) (fun h1=>?_)
 exact Xs [Ei 2 0] [9,3] 160 (v1 pT) <|Xy (r':=⟨.sc (.i .i64 0),[some (.cells [.ro .u8 p0,.i .i64 (cA p0 p1 p2 1),.b (bl p0 p1 p2 1)])]⟩) [(0,0)] pz (by simp only [eY,aL,aM,h1,aD,aA])
 refine Tri.skip <|Xs [Ei 2 (IntKind.wrap .i64 ((be p0 p1 p2 1).getD 0 0))] [9,3] 224 (v1 (pu (pl (show (0:Int)≤0∧0<((be p0 p1 p2 1).length:Int) from by (have hq:=fa hC (n:=1) (by assumption);omega))) (pu (pl (show 0<(be p0 p1 p2 1).length from by (have hq:=fa hC (n:=1) (by assumption);omega))) (v2 pT)))) ?_
 exact Xy (r':=⟨.sc (.i .i64 (IntKind.wrap .i64 ((be p0 p1 p2 1).getD 0 0))),[some (.cells [.ro .u8 p0,.i .i64 (cA p0 p1 p2 1),.b (bl p0 p1 p2 1)])]⟩) [(0,0)] pz (by simp only [eY,aL,aM,h1,aD,aA])
theorem vL {p0:List Int} {p1:Int} (p2:Bool) (h:p0.length≤1000000000∧(0:Int)≤p1∧p1≤(p0.length:Int)):0≤aL p0 p1 p2∧aL p0 p1 p2≤(p0.length:Int):=oB p2 1 h
def co (p0:List Int) (p1:Int) (p2:Bool):Int :=
 (sel (bl p0 p1 p2 4) 0 (aN .i64 (aN .i64 (aN .i64 (bS .i64 (IntKind.wrap .i64 ((be p0 p1 p2 4).getD 0 0)) 16777216) (bS .i64 (IntKind.wrap .i64 ((be p0 p1 p2 4).getD 1 0)) 65536)) (bS .i64 (IntKind.wrap .i64 ((be p0 p1 p2 4).getD 2 0)) 256)) (IntKind.wrap .i64 ((be p0 p1 p2 4).getD 3 0))))
def cd (p0:List Int) (p1:Int) (p2:Bool):Int :=
 (cA p0 p1 p2 4)
def dG (p0:List Int) (p1:Int) (p2:Bool):Bool :=
 (bl p0 p1 p2 4)
def ET:List AV→List Blk→Option (Prop × Ret)
 |[.sc (.p 0 0)],[.cells [.ro .u8 p0,.i .i64 p1,.b p2]]=>some ((p0.length≤1000000000∧(0:Int)≤p1∧p1≤(p0.length:Int)),⟨.sc (.i .i64 (co p0 p1 p2)),[some (.cells [.ro .u8 p0,.i .i64 (cd p0 p1 p2),.b (dG p0 p1 p2)])]⟩)
 |_,_=>none
theorem It:Known Tryz.prog gD 85 ⟨1,0,ET⟩:=by
 refine Xw Tryz.f85 32 (Zc td 48 [.io,.val] [] [0] <|Zn) mixed <|fun E args ks C r h hC hlen=>?_
 simp only at h
 unfold ET at h
 split at h
 rotate_left
 cases h
 rename_i p0 p1 p2
 cases h
 simp only [bI] at hlen
 refine ⟨rfl,?_⟩
 refine Xs [] [] 32 (v1 pT) <|Xt [Er 3 (be p0 p1 p2 4)] [] [Mc 0 [.ro .u8 p0,.i .i64 (cA p0 p1 p2 4),.b (bl p0 p1 p2 4)]] [0] 80 (v1 (pu (pa pT (lo (p0.length≤1000000000∧(0:Int)≤p1∧p1≤(p0.length:Int)))) (v1 pT))) <|Tri.seq <|Xs [Eb 9 (bl p0 p1 p2 4)] [0] 144 (v3 (pu (Yl 2 3) pT)) <|Xa (fun h1=>?_) (fun h1=>?_)
 exact Xs [Ei 2 0] [9,3] 160 (v1 pT) <|Xy (r':=⟨.sc (.i .i64 0),[some (.cells [.ro .u8 p0,.i .i64 (cA p0 p1 p2 4),.b (bl p0 p1 p2 4)])]⟩) [(0,0)] pz (by simp only [co,cd,dG,h1,aD,aA])
 refine Tri.skip <|Xu [] (some [0,1,3,7,15,0,32,96,224,480,1023,0,2048,6144,14336,30720,65535,0,131072,393216,917504,2097151,4194303]) [Ei 2 (aN .i64 (aN .i64 (aN .i64 (bS .i64 (IntKind.wrap .i64 ((be p0 p1 p2 4).getD 0 0)) 16777216) (bS .i64 (IntKind.wrap .i64 ((be p0 p1 p2 4).getD 1 0)) 65536)) (bS .i64 (IntKind.wrap .i64 ((be p0 p1 p2 4).getD 2 0)) 256)) (IntKind.wrap .i64 ((be p0 p1 p2 4).getD 3 0)))] [9,3] [] [] 512 (v1 (pu (pl (show (0:Int)≤0∧0<((be p0 p1 p2 4).length:Int) from by (have hq:=fa hC (n:=4) (by assumption);omega))) (pu (pl (show 0<(be p0 p1 p2 4).length from by (have hq:=fa hC (n:=4) (by assumption);omega))) (v3 (pu (pl (show (0:Int)≤1∧1<((be p0 p1 p2 4).length:Int) from by (have hq:=fa hC (n:=4) (by assumption);omega))) (pu (pl (show 1<(be p0 p1 p2 4).length from by (have hq:=fa hC (n:=4) (by assumption);omega))) (v4 (pu (pl (show (0:Int)≤2∧2<((be p0 p1 p2 4).length:Int) from by (have hq:=fa hC (n:=4) (by assumption);omega))) (pu (pl (show 2<(be p0 p1 p2 4).length from by (have hq:=fa hC (n:=4) (by assumption);omega))) (v4 (pu (pl (show (0:Int)≤3∧3<((be p0 p1 p2 4).length:Int) from by (have hq:=fa hC (n:=4) (by assumption);omega))) (pu (pl (show 3<(be p0 p1 p2 4).length from by (have hq:=fa hC (n:=4) (by assumption);omega))) (v3 pT))))))))))))) ?_
 exact Xy (r':=⟨.sc (.i .i64 (aN .i64 (aN .i64 (aN .i64 (bS .i64 (IntKind.wrap .i64 ((be p0 p1 p2 4).getD 0 0)) 16777216) (bS .i64 (IntKind.wrap .i64 ((be p0 p1 p2 4).getD 1 0)) 65536)) (bS .i64 (IntKind.wrap .i64 ((be p0 p1 p2 4).getD 2 0)) 256)) (IntKind.wrap .i64 ((be p0 p1 p2 4).getD 3 0)))),[some (.cells [.ro .u8 p0,.i .i64 (cA p0 p1 p2 4),.b (bl p0 p1 p2 4)])]⟩) [(0,0)] pz (by simp only [co,cd,dG,h1,aD,aA])
theorem mJ {p0:List Int} {p1:Int} (p2:Bool) (h:p0.length≤1000000000∧(0:Int)≤p1∧p1≤(p0.length:Int)):0≤cd p0 p1 p2∧cd p0 p1 p2≤(p0.length:Int):=oB p2 4 h
def aE (p0:List Int) (p1:Int) (p2:Bool):ByteArray :=
 (bytesOf (be p0 (cd p0 p1 p2) (sel (decide (((co p0 p1 p2):Int)>16384)) true (dG p0 p1 p2)) (co p0 p1 p2)))
def ab (p0:List Int) (p1:Int) (p2:Bool):Int :=
 (cA p0 (cd p0 p1 p2) (sel (decide (((co p0 p1 p2):Int)>16384)) true (dG p0 p1 p2)) (co p0 p1 p2))
def aS (p0:List Int) (p1:Int) (p2:Bool):Bool :=
 (bl p0 (cd p0 p1 p2) (sel (decide (((co p0 p1 p2):Int)>16384)) true (dG p0 p1 p2)) (co p0 p1 p2))
def AH:List AV→List Blk→Option (Prop × Ret)
 |[.sc (.p 0 0)],[.cells [.ro .u8 p0,.i .i64 p1,.b p2]]=>some ((p0.length≤1000000000∧(0:Int)≤p1∧p1≤(p0.length:Int)),⟨.sc (.s (aE p0 p1 p2)),[some (.cells [.ro .u8 p0,.i .i64 (ab p0 p1 p2),.b (aS p0 p1 p2)])]⟩)
 |_,_=>none
theorem jB:Known Tryz.prog gD 48 ⟨1,0,AH⟩:=by
 refine Xw Tryz.f48 15 (Zc td 208 [.io,.val] [] [0] <|Zc It 48 [.io] [] [0] <|Zn) mixed <|fun E args ks C r h hC hlen=>?_
 simp only at h
 unfold AH at h
 split at h
 rotate_left
 cases h
 rename_i p0 p1 p2
 cases h
 simp only [bI] at hlen
 refine ⟨rfl,?_⟩
 refine Xs [] [] 32 (v1 pT) <|Xt [Ei 3 (co p0 p1 p2)] [] [Mc 0 [.ro .u8 p0,.i .i64 (cd p0 p1 p2),.b (dG p0 p1 p2)]] [0] 80 (v1 (pu (pa pT (lo (p0.length≤1000000000∧(0:Int)≤p1∧p1≤(p0.length:Int)))) (v1 pT))) <|Tri.seq <|Xs [Eb 7 (decide (((co p0 p1 p2):Int)>16384))] [] 112 (v2 pT) <|Xj (x:=(decide (((co p0 p1 p2):Int)>16384))) (fun bb=>[]) [7] (fun bb=>[Mc 0 [.ro .u8 p0,.i .i64 (cd p0 p1 p2),.b (sel bb true (dG p0 p1 p2))]]) [0] 176 (fun h1=>?_) (fun h1=>?_) ?_
 have h1':=of_decide_eq_true h1
 exact Wt [] [7] [Mc 0 [.ro .u8 p0,.i .i64 (cd p0 p1 p2),.b true]] [0] 176 (v3 (pu (Ys 2 3) pT)) <|Xe [] [Mc 0 [.ro .u8 p0,.i .i64 (cd p0 p1 p2),.b true]]
 have h1':=of_decide_eq_false h1
 exact Tri.skip <|Xe [] [Mc 0 [.ro .u8 p0,.i .i64 (cd p0 p1 p2),.b (dG p0 p1 p2)]]
 refine Xt [Es 2 (bytesOf (be p0 (cd p0 p1 p2) (sel (decide (((co p0 p1 p2):Int)>16384)) true (dG p0 p1 p2)) (co p0 p1 p2)))] [3,0] [Mc 0 [.ro .u8 p0,.i .i64 (cA p0 (cd p0 p1 p2) (sel (decide (((co p0 p1 p2):Int)>16384)) true (dG p0 p1 p2)) (co p0 p1 p2)),.b (bl p0 (cd p0 p1 p2) (sel (decide (((co p0 p1 p2):Int)>16384)) true (dG p0 p1 p2)) (co p0 p1 p2))]] [0] 256 (v2 (pu (pa pT (pl (show p0.length≤1000000000∧(0:Int)≤(cd p0 p1 p2)∧(cd p0 p1 p2)≤(p0.length:Int) from by (have hq:=mJ p2 hC;exact ⟨hC.1,hq.1,hq.2⟩)))) (v2 pT))) ?_
 exact Xz [(0,0)] pz
theorem nt {p0:List Int} {p1:Int} (p2:Bool) (h:p0.length≤1000000000∧(0:Int)≤p1∧p1≤(p0.length:Int)):0≤ab p0 p1 p2∧ab p0 p1 p2≤(p0.length:Int):=by
 have hc:=mJ p2 h
 exact oB _ _ ⟨h.1,hc.1,hc.2⟩
theorem rW {p0:List Int} {p1:Int} (p2:Bool) (h:p0.length≤1000000000∧(0:Int)≤p1∧p1≤(p0.length:Int)):(aE p0 p1 p2).size≤16384:=by
 have hc:=mJ p2 h
 unfold aE
 rw [cF]
 rcases ic (sel (decide (((co p0 p1 p2):Int)>16384)) true (dG p0 p1 p2)) (co p0 p1 p2) ⟨h.1,hc.1,hc.2⟩ with ⟨hb,_,_,h1,_⟩|⟨_,h1,_⟩
 ·rw [h1,List.length_take]
  cases hd:decide (co p0 p1 p2>16384)
  ·have:=of_decide_eq_false hd
   omega
  ·rw [hd,aD] at hb;cases hb
 ·rw [h1];exact Nat.zero_le _
def kA (p0:List Int) (p1:Int) (p2:Bool):Bool :=
 (sel (!p2) ((p1:Int)==((p0.length:Nat):Int)) false)
def DL:List AV→List Blk→Option (Prop × Ret)
 |[.sc (.p 0 0)],[.cells [.ro .u8 p0,.i .i64 p1,.b p2]]=>some (True,⟨.sc (.b (kA p0 p1 p2)),[some (.cells [.ro .u8 p0,.i .i64 p1,.b p2])]⟩)
 |_,_=>none
theorem ug:Known Tryz.prog gD 49 ⟨1,0,DL⟩:=by
 refine Xw Tryz.f49 20 Zn mixed <|fun E args ks C r h hC hlen=>?_
 simp only at h
 unfold DL at h
 split at h
 rotate_left
 cases h
 rename_i p0 p1 p2
 cases h
 simp only [bI] at hlen
 refine ⟨rfl,?_⟩
 refine Xs [] [] 32 (v1 pT) <|Tri.split (!p2) (fun h1=>?_) (fun h1=>?_)
 exact Xu [Eb 8 true] (some [0,1,3,7,15,31,63,127,255,511,63,1087,3135,7231,15423,32767,65535,131071]) [Eb 2 ((p1:Int)==((p0.length:Nat):Int))] [0] [] [] 320 (v3 (pu (Yl 2 3) (v1 (pg h1 (v3 (pu (Yl 1 3) (v3 (pu (Yl 0 3) (v4 pT))))))))) <|Xy (r':=⟨.sc (.b ((p1:Int)==((p0.length:Nat):Int))),[some (.cells [.ro .u8 p0,.i .i64 p1,.b p2])]⟩) [(0,0)] pz (by simp only [kA,h1,aD,aA])
 exact Xu [Eb 8 false] (some [0,1,3,7,15,31,63,127,255,511,63,1087,3135,7231,15423,32767,65535,131071]) [Eb 2 false] [0] [] [] 320 (v3 (pu (Yl 2 3) (v1 (pg h1 (v3 (v9 pT)))))) <|Xy (r':=⟨.sc (.b false),[some (.cells [.ro .u8 p0,.i .i64 p1,.b p2])]⟩) [(0,0)] pz (by simp only [kA,h1,aD,aA])
def qP (p0:Int):List Int :=
 [(IntKind.wrap .u8 (iu .i64 p0 16777216)),(IntKind.wrap .u8 (iu .i64 p0 65536)),(IntKind.wrap .u8 (iu .i64 p0 256)),(IntKind.wrap .u8 p0)]
def CQ:List AV→List Blk→Option (Prop × Ret)
 |[.sc (.i .i64 p0)],[]=>some (True,⟨.sc (.sl 0 0 4 1 none),[some (.ints .u8 4 (qP p0))]⟩)
 |_,_=>none
theorem Ir:Known Tryz.prog gD 113 ⟨0,1,CQ⟩:=by
 refine Xw Tryz.f113 15 Zn mixed <|fun E args ks C r h hC hlen=>?_
 simp only at h
 unfold CQ at h
 split at h
 rotate_left
 cases h
 rename_i p0
 cases h
 simp only [bI] at hlen
 refine ⟨rfl,?_⟩
 exact Xs [] [] 32 (v1 pT) <|Xt [El 2 208 4] [0] [Mi 208 4 [(IntKind.wrap .u8 (iu .i64 p0 16777216)),(IntKind.wrap .u8 (iu .i64 p0 65536)),(IntKind.wrap .u8 (iu .i64 p0 256)),(IntKind.wrap .u8 p0)]] [] 240 (v1 (pu (Yn 16777216) (v2 (pu (Yn 65536) (v2 (pu (Yn 256) (v3 (pu (Yf 4) (v1 pT))))))))) <|Xz [(208,0)] pz
def iz (p0:ByteArray):List Int :=
 (qP ((p0.size:Nat):Int))++(aR p0)
def AA:List AV→List Blk→Option (Prop × Ret)
 |[.sc (.s p0)],[]=>some ((p0.size≤1000000000),⟨.sc (.sl 0 0 (4+p0.size) 1 none),[some (.ints .u8 (4+p0.size) (iz p0))]⟩)
 |_,_=>none
theorem zy:Known Tryz.prog gD 70 ⟨0,1,AA⟩:=by
 refine Xw Tryz.f70 8 (Zv Ir 64 1 <|Zn) mixed <|fun E args ks C r h hC hlen=>?_
 simp only at h
 unfold AA at h
 split at h
 rotate_left
 cases h
 rename_i p0
 cases h
 simp only [bI] at hlen
 refine ⟨rfl,?_⟩
 exact Xs [] [] 32 (v1 pT) <|Xt [El 2 96 (4+p0.size)] [0] [Mi 96 (4+p0.size) ((qP ((p0.size:Nat):Int))++(aR p0))] [] 128 (v2 (pu pz (v1 (pu (Ya pT 1 (4+p0.size) p0.size p0.size 4 4) (v1 pT))))) <|Xz [(96,0)] pz
theorem pZ (s:ByteArray):(iz s).length=4+s.size:=by
 unfold iz
 rw [List.length_append,ap]
 rfl
theorem fp:∀ (p:List ByteArray) (k:Nat),k<p.length→(kB (p.take k)+(p.getD k (⟨#[]⟩:ByteArray)).size=kB (p.take (k+1))∧kB (p.take (k+1))≤kB p)
 |[],k,h=>absurd h (Nat.not_lt_zero k)
 |x :: p,0,_=>⟨by simp [kB],by simp [kB]⟩
 |x :: p,k+1,h=>by
  obtain ⟨h1,h2⟩:=fp p k (by simpa using h)
  refine ⟨?_,?_⟩
  ·simp only [List.take_succ_cons,kB,List.getD_cons_succ];omega
  ·simp only [List.take_succ_cons,kB] at h2 ⊢;omega
theorem cg {b:Bool} {x y:ByteArray} {n:Nat} (hx:x.size≤n) (hy:y.size≤n):(sel b x y).size≤n:=by
 cases b
 ·rw [aA];exact hy
 ·rw [aD];exact hx
def du (p0:List ByteArray) (k0:Nat) (z0:ByteArray):ByteArray :=
 ((sel (decide ((((k0:Nat):Int):Int)>0)) (z0++(⟨#[44]⟩:ByteArray)) z0)++p0.getD k0 ⟨#[]⟩)
def nR (p0:List ByteArray):List Int :=
 (iz (itr (du p0) p0.length (⟨#[]⟩:ByteArray)))
def bD (p0:List ByteArray):Nat :=
 4+(itr (du p0) p0.length (⟨#[]⟩:ByteArray)).size
def vt:List AV→List Blk→Option (Prop × Ret)
 |[.sc (.ros p0)],[]=>some ((kB p0≤500000000∧p0.length≤500000000),⟨.sc (.sl 0 0 (bD p0) 1 none),[some (.ints .u8 (bD p0) (nR p0))]⟩)
 |_,_=>none
theorem wE:Known Tryz.prog gD 53 ⟨0,1,vt⟩:=by
 refine Xw Tryz.f53 23 (Zv zy 144 1 <|Zn) mixed <|fun E args ks C r h hC hlen=>?_
 simp only at h
 unfold vt at h
 split at h
 rotate_left
 cases h
 rename_i p0
 cases h
 simp only [bI] at hlen
 refine ⟨rfl,?_⟩
 refine Xs [] [] 32 (v1 pT) <|Xs [Es 3 (⟨#[]⟩:ByteArray)] [] 48 (v1 pT) <|Tri.seq <|Xs [Ei 4 0] [] 64 (v1 pT) <|Tri.block <|Xc p0.length (du p0) (⟨#[]⟩:ByteArray) (fun k0 z0=>z0.size≤kB (p0.take k0)+k0) (fun k0 z0=>[Ej 4 k0,Es 3 z0]) (fun k0 z0=>[]) (Nat.zero_le _) <|fun k0 z0 hk0 hz0 hJ0=>Tri.seq <|Xs [Eb 8 (decide ((((k0:Nat):Int):Int)<((p0.length:Nat):Int)))] [] 128 (v4 pT) <|Xb (fun h1 h1'=>?_) (fun h1 h1'=>?_)
 refine Tri.skip <|Tri.seq <|Tri.block <|Tri.seq <|Xs [Eb 12 (decide ((((k0:Nat):Int):Int)>0))] [8] 160 (v2 pT) <|Xj (x:=(decide ((((k0:Nat):Int):Int)>0))) (fun bb=>[Es 3 (sel bb (z0++(⟨#[44]⟩:ByteArray)) z0)]) [12,3] (fun bb=>[]) [] 208 (fun h2=>?_) (fun h2=>?_) ?_
 have h2':=of_decide_eq_true h2
 refine Ws [Es 3 (z0++(⟨#[44]⟩:ByteArray))] [12,3] 208 (v1 (pu (pl (show z0.size+(⟨#[44]⟩:ByteArray).size≤9223372036854775807 from by first|omega|decide|(have hq:=fp p0 k0 (by omega);have hz:(sel (decide (((k0:Nat):Int)>0)) (z0++(⟨#[44]⟩:ByteArray)) z0).size≤kB (p0.take k0)+k0+1:=cg (by rw [ByteArray.size_append];show _+1≤_;omega) (by omega);first|omega|(show _+1≤_;omega))|(have hq:=fp p0 k0 (by omega);show _+1≤_;omega)|(rw [List.take_length] at hJ0;omega))) (v1 pT))) ?_
 exact Xe [Es 3 (z0++(⟨#[44]⟩:ByteArray))] []
 have h2':=of_decide_eq_false h2
 exact Tri.skip <|Xe [Es 3 z0] []
 refine Ws [Es 3 ((sel (decide ((((k0:Nat):Int):Int)>0)) (z0++(⟨#[44]⟩:ByteArray)) z0)++p0.getD k0 ⟨#[]⟩)] [3] 320 (v3 (pu (pl (show (0:Int)≤((k0:Nat):Int)∧((k0:Nat):Int)<(p0.length:Int) from by first|omega|decide|(have hq:=fp p0 k0 (by omega);have hz:(sel (decide (((k0:Nat):Int)>0)) (z0++(⟨#[44]⟩:ByteArray)) z0).size≤kB (p0.take k0)+k0+1:=cg (by rw [ByteArray.size_append];show _+1≤_;omega) (by omega);first|omega|(show _+1≤_;omega))|(have hq:=fp p0 k0 (by omega);show _+1≤_;omega)|(rw [List.take_length] at hJ0;omega))) (v1 (pu (pl (show (sel (decide ((((k0:Nat):Int):Int)>0)) (z0++(⟨#[44]⟩:ByteArray)) z0).size+(p0.getD k0 ⟨#[]⟩).size≤9223372036854775807 from by first|omega|decide|(have hq:=fp p0 k0 (by omega);have hz:(sel (decide (((k0:Nat):Int)>0)) (z0++(⟨#[44]⟩:ByteArray)) z0).size≤kB (p0.take k0)+k0+1:=cg (by rw [ByteArray.size_append];show _+1≤_;omega) (by omega);first|omega|(show _+1≤_;omega))|(have hq:=fp p0 k0 (by omega);show _+1≤_;omega)|(rw [List.take_length] at hJ0;omega))) (v1 pT))))) ?_
 exact Wu [Ej 10 (k0+1)] none [Ej 4 (k0+1)] [4] [] [] 368 (v1 (pv pT (Yp k0 1) (v1 pT))) <|Xo [] (by have hq:=(fp p0 k0 (by omega)).1;unfold du;rw [ByteArray.size_append];have hz:(sel (decide (((k0:Nat):Int)>0)) (z0++(⟨#[44]⟩:ByteArray)) z0).size≤kB (p0.take k0)+k0+1:=cg (by rw [ByteArray.size_append];show _+1≤_;omega) (by omega);omega)
 refine Tri.exit <|?_
 obtain rfl:k0=p0.length:=(by omega);subst hz0
 refine Xt [El 2 144 (4+(itr (du p0) p0.length (⟨#[]⟩:ByteArray)).size)] [8,4,3,0] [Mi 144 (4+(itr (du p0) p0.length (⟨#[]⟩:ByteArray)).size) (iz (itr (du p0) p0.length (⟨#[]⟩:ByteArray)))] [] 176 (v1 (pu (pa pT (pl (show (itr (du p0) p0.length (⟨#[]⟩:ByteArray)).size≤1000000000 from by first|omega|decide|(have hq:=fp p0 k0 (by omega);have hz:(sel (decide (((k0:Nat):Int)>0)) (z0++(⟨#[44]⟩:ByteArray)) z0).size≤kB (p0.take k0)+k0+1:=cg (by rw [ByteArray.size_append];show _+1≤_;omega) (by omega);first|omega|(show _+1≤_;omega))|(have hq:=fp p0 k0 (by omega);show _+1≤_;omega)|(rw [List.take_length] at hJ0;omega)))) (v1 pT))) ?_
 exact Xz [(144,0)] pz
theorem wP (p:List ByteArray):∀ k,k≤p.length→(itr (du p) k (⟨#[]⟩:ByteArray)).size≤kB (p.take k)+k:=by
 intro k
 induction k with
 |zero=>intro _;rw [bB];exact Nat.zero_le _
 |succ k ih =>
  intro hk
  have h1:=ih (by omega)
  have h2:=(fp p k (by omega)).1
  rw [aq]
  unfold du
  rw [ByteArray.size_append]
  have hz:∀ z:ByteArray,(sel (decide (((k:Nat):Int)>0)) (z++(⟨#[44]⟩:ByteArray)) z).size≤z.size+1:=fun z=>cg (by rw [ByteArray.size_append];exact Nat.le_refl _) (by omega)
  have:=hz (itr (du p) k (⟨#[]⟩:ByteArray))
  unfold du at this h1
  omega
theorem jm (p:List ByteArray):(nR p).length≤4+kB p+p.length∧bD p≤4+kB p+p.length:=by
 have h:=wP p p.length (Nat.le_refl _)
 rw [List.take_length] at h
 unfold nR bD
 rw [pZ]
 omega
theorem mY {α:Type}:∀ (p:List (List α)) (k:Nat),k<p.length→((p.take k).flatten.length+(p.getD k []).length≤p.flatten.length∧(p.take (k+1)).flatten=(p.take k).flatten++p.getD k [])
 |[],k,h=>absurd h (Nat.not_lt_zero k)
 |x :: p,0,_=>⟨by simp,by simp⟩
 |x :: p,k+1,h=>by
  obtain ⟨h1,h2⟩:=mY p k (by simpa using h)
  refine ⟨?_,?_⟩
  ·simp only [List.take_succ_cons,List.flatten_cons,List.length_append,List.getD_cons_succ];omega
  ·rw [List.take_succ_cons,List.take_succ_cons,List.flatten_cons,List.flatten_cons,h2,List.getD_cons_succ,List.append_assoc]
def iN (p0:List (List Int)) (k0:Nat) (z0:List Int):List Int :=
 z0++(p0.getD k0 [])
def uK (p0:List (List Int)):List Int :=
 (itr (iN p0) p0.length ([]:List Int))
def cS (p0:List (List Int)):Nat :=
 (itr (iN p0) p0.length ([]:List Int)).length
def zY:List AV→List Blk→Option (Prop × Ret)
 |[.sc (.rob p0)],[]=>some ((p0.flatten.length≤1000000000∧p0.length≤1000000000),⟨.sc (.sl 0 0 (cS p0) 1 none),[some (.ints .u8 (cS p0) (uK p0))]⟩)
 |_,_=>none
theorem Gm:Known Tryz.prog gD 73 ⟨0,1,zY⟩:=by
 refine Xw Tryz.f73 18 Zn mixed <|fun E args ks C r h hC hlen=>?_
 simp only at h
 unfold zY at h
 split at h
 rotate_left
 cases h
 rename_i p0
 cases h
 simp only [bI] at hlen
 refine ⟨rfl,?_⟩
 refine Xs [] [] 32 (v1 pT) <|Xs [(3,.sc (.nils))] [] 48 (v1 pT) <|Tri.seq <|Xs [Ei 4 0] [] 64 (v1 pT) <|Tri.block <|Tri.sub (Sub.openNil (U:=64) (U':=80) 3 64 1 .u8 none (.inl rfl) (by decide) (by decide) (by kernel_rfl) (by kernel_rfl)) <|Xc p0.length (iN p0) ([]:List Int) (fun k0 z0=>z0=(p0.take k0).flatten) (fun k0 z0=>[El 3 64 z0.length,Ej 4 k0]) (fun k0 z0=>[Mi 64 z0.length z0]) rfl <|fun k0 z0 hk0 hz0 hJ0=>Tri.seq <|Xs [Eb 8 (decide ((((k0:Nat):Int):Int)<((p0.length:Nat):Int)))] [] 144 (v4 pT) <|Xb (fun h1 h1'=>?_) (fun h1 h1'=>?_)
 refine Tri.skip <|Tri.seq <|Tri.block <|Wt [El 3 224 (z0.length+((p0.getD k0 []).length))] [8,3] [Mi 224 (z0.length+((p0.getD k0 []).length)) (z0++(p0.getD k0 []))] [64] 256 (v3 (pu (Yj k0 p0.length) (v1 (pu (pa (pa (pa (Yz 1) (pa (Yl 0 1) (pa (pl (show (z0.length+((p0.getD k0 []).length))*1≤140737488355328 from by (have hq:=(mY p0 k0 (by omega)).1;rw [hJ0];omega))) (pl (show z0.length+((p0.getD k0 []).length)≤140737488355328 from by (have hq:=(mY p0 k0 (by omega)).1;rw [hJ0];omega)))))) (lo ((p0.getD k0 []).length=((p0.getD k0 []).length)*1))) (pa (Yr 1) (lo (0+z0.length*1=z0.length)))) (v1 pT))))) ?_
 exact Wu [Ej 10 (k0+1)] none [Ej 4 (k0+1)] [4] [] [] 304 (v1 (pv pT (Yp k0 1) (v1 pT))) <|Xp (by unfold iN;rw [hJ0,(mY p0 k0 (by omega)).2]) [(64,224)] [El 3 64 (z0.length+((p0.getD k0 []).length)),Ej 4 (k0+1)] [Mi 64 (z0.length+((p0.getD k0 []).length)) (z0++(p0.getD k0 []))] (by simp only [iN,h1,aD,aA,List.length_append,List.length_set,List.length_cons,List.length_nil,Nat.zero_add,Nat.reduceAdd]) (by simp only [iN,h1,aD,aA,List.length_append,List.length_set,List.length_cons,List.length_nil,Nat.zero_add,Nat.reduceAdd])
 refine Tri.exit <|?_
 obtain rfl:k0=p0.length:=(by omega);subst hz0
 exact Xs [El 2 64 ((itr (iN p0) p0.length ([]:List Int)).length)] [8,3,4,0] 176 (v2 pT) <|Xz [(64,0)] pz
def qo (p0:Nat) (p2:List Int) (p3:Int):List Int :=
 p2++[(IntKind.wrap .u8 (aa .u32 p3 24)),(IntKind.wrap .u8 (aa .u32 p3 16)),(IntKind.wrap .u8 (aa .u32 p3 8)),(IntKind.wrap .u8 p3)]
def EA:List AV→List Blk→Option (Prop × Ret)
 |[.sc (.sl 0 0 p0 1 none),.sc (.i .u32 p3)],[.ints .u8 p1 p2]=>some (((p0=p1)∧(p0≤1000000000)),⟨.sc (.sl 1 0 (p0+4) 1 none),[none,some (.ints .u8 (p0+4) (qo p0 p2 p3))]⟩)
 |_,_=>none
theorem IR:Known Tryz.prog gD 69 ⟨1,1,EA⟩:=by
 refine Xw Tryz.f69 19 Zn mixed <|fun E args ks C r h hC hlen=>?_
 simp only at h
 unfold EA at h
 split at h
 rotate_left
 cases h
 rename_i p0 p3 p1 p2
 cases h
 simp only [bI] at hlen
 obtain ⟨hEp1,hC⟩:=hC
 subst hEp1
 refine ⟨rfl,?_⟩
 exact Xs [] [] 32 (v1 pT) <|Xt [El 4 240 (p0+4)] [0,1] [Mi 240 (p0+4) (p2++[(IntKind.wrap .u8 (aa .u32 p3 24)),(IntKind.wrap .u8 (aa .u32 p3 16)),(IntKind.wrap .u8 (aa .u32 p3 8)),(IntKind.wrap .u8 p3)])] [0] 272 (v2 (pu (Y0 24) (v2 (pu (Y0 16) (v2 (pu (Y0 8) (v3 (pu (Yf 4) (pu (Ya (Yw 4) 1 (p0+4) 4 4 p0 p0) (v1 pT)))))))))) <|Xz [(240,1)] pz
def nT (p3:Int):List Int :=
 [(IntKind.wrap .u8 (aa .u32 p3 24)),(IntKind.wrap .u8 (aa .u32 p3 16)),(IntKind.wrap .u8 (aa .u32 p3 8)),(IntKind.wrap .u8 p3)]
def yi:List AV→List Blk→Option (Prop × Ret)
 |[.sc (.nils),.sc (.i .u32 p3)],[]=>some (True,⟨.sc (.sl 0 0 4 1 none),[some (.ints .u8 4 (nT p3))]⟩)
 |_,_=>none
theorem GQ:Known Tryz.prog gD 69 ⟨0,1,yi⟩:=by
 refine Xw Tryz.f69 19 Zn mixed <|fun E args ks C r h hC hlen=>?_
 simp only at h
 unfold yi at h
 split at h
 rotate_left
 cases h
 rename_i p3
 cases h
 simp only [bI] at hlen
 refine ⟨rfl,?_⟩
 exact Xs [] [] 32 (v1 pT) <|Xt [El 4 240 4] [0,1] [Mi 240 4 [(IntKind.wrap .u8 (aa .u32 p3 24)),(IntKind.wrap .u8 (aa .u32 p3 16)),(IntKind.wrap .u8 (aa .u32 p3 8)),(IntKind.wrap .u8 p3)]] [] 272 (v2 (pu (Y0 24) (v2 (pu (Y0 16) (v2 (pu (Y0 8) (v3 (pu (Yf 4) (pu (YN (Yw 4) 1 4 4 4) (v1 pT)))))))))) <|Xz [(240,0)] pz
def df (p0:Nat) (p2:List Int) (p3:ByteArray):List Int :=
 (qo p0 p2 (IntKind.wrap .u32 ((p3.size:Nat):Int)))++(aR p3)
def yw:List AV→List Blk→Option (Prop × Ret)
 |[.sc (.sl 0 0 p0 1 none),.sc (.s p3)],[.ints .u8 p1 p2]=>some (((p0=p1)∧(p0≤1000000000∧p3.size≤1000000000)),⟨.sc (.sl 1 0 ((p0+4)+p3.size) 1 none),[none,some (.ints .u8 ((p0+4)+p3.size) (df p0 p2 p3))]⟩)
 |_,_=>none
theorem hF:Known Tryz.prog gD 32 ⟨1,1,yw⟩:=by
 refine Xw Tryz.f32 12 (Zc IR 96 [.io,.val] [] [0] <|Zn) mixed <|fun E args ks C r h hC hlen=>?_
 simp only at h
 unfold yw at h
 split at h
 rotate_left
 cases h
 rename_i p0 p3 p1 p2
 cases h
 simp only [bI] at hlen
 obtain ⟨hEp1,hC⟩:=hC
 subst hEp1
 refine ⟨rfl,?_⟩
 exact Xs [] [] 32 (v1 pT) <|Xt [El 4 128 ((p0+4)+p3.size)] [0,1] [Mi 128 ((p0+4)+p3.size) ((qo p0 p2 (IntKind.wrap .u32 ((p3.size:Nat):Int)))++(aR p3))] [0] 160 (v4 (pu (pa pT (pa (Yr p0) (Ye p0 1000000000))) (v1 (pu (Ya pT 1 ((p0+4)+p3.size) p3.size p3.size (p0+4) (p0+4)) (v1 pT))))) <|Xz [(128,1)] pz
def gq (p3:ByteArray):List Int :=
 (nT (IntKind.wrap .u32 ((p3.size:Nat):Int)))++(aR p3)
def vJ:List AV→List Blk→Option (Prop × Ret)
 |[.sc (.nils),.sc (.s p3)],[]=>some ((p3.size≤1000000000),⟨.sc (.sl 0 0 (4+p3.size) 1 none),[some (.ints .u8 (4+p3.size) (gq p3))]⟩)
 |_,_=>none
theorem BV:Known Tryz.prog gD 32 ⟨0,1,vJ⟩:=by
 refine Xw Tryz.f32 12 (Zv GQ 96 2 <|Zn) mixed <|fun E args ks C r h hC hlen=>?_
 simp only at h
 unfold vJ at h
 split at h
 rotate_left
 cases h
 rename_i p3
 cases h
 simp only [bI] at hlen
 refine ⟨rfl,?_⟩
 exact Xs [] [] 32 (v1 pT) <|Xt [El 4 128 (4+p3.size)] [0,1] [Mi 128 (4+p3.size) ((nT (IntKind.wrap .u32 ((p3.size:Nat):Int)))++(aR p3))] [] 160 (v4 (pu pz (v1 (pu (Ya pT 1 (4+p3.size) p3.size p3.size 4 4) (v1 pT))))) <|Xz [(128,0)] pz
def wF (p0:Nat) (p2:List Int) (p3:List ByteArray):List Int :=
 (df p0 p2 (lL p3 (⟨#[44]⟩:ByteArray)))
def fo (p0:Nat) (p2:List Int) (p3:List ByteArray):Nat :=
 (p0+4)+(lL p3 (⟨#[44]⟩:ByteArray)).size
def wZ:List AV→List Blk→Option (Prop × Ret)
 |[.sc (.sl 0 0 p0 1 none),.sc (.ros p3)],[.ints .u8 p1 p2]=>some (((p0=p1)∧(p0≤1000000000∧p3.length≤1000000000∧(lL p3 (⟨#[44]⟩:ByteArray)).size≤1000000000)),⟨.sc (.sl 1 0 (fo p0 p2 p3) 1 none),[none,some (.ints .u8 (fo p0 p2 p3) (wF p0 p2 p3))]⟩)
 |_,_=>none
theorem Dx:Known Tryz.prog gD 83 ⟨1,1,wZ⟩:=by
 refine Xw Tryz.f83 9 (Zc hF 80 [.io,.val] [] [0] <|Zc Jd 64 [.ros,.val] [] [] <|Zn) mixed <|fun E args ks C r h hC hlen=>?_
 simp only at h
 unfold wZ at h
 split at h
 rotate_left
 cases h
 rename_i p0 p3 p1 p2
 cases h
 simp only [bI] at hlen
 obtain ⟨hEp1,hC⟩:=hC
 subst hEp1
 refine ⟨rfl,?_⟩
 exact Xs [] [] 32 (v1 pT) <|Xt [El 4 80 ((p0+4)+(lL p3 (⟨#[44]⟩:ByteArray)).size)] [0,1] [Mi 80 ((p0+4)+(lL p3 (⟨#[44]⟩:ByteArray)).size) (df p0 p2 (lL p3 (⟨#[44]⟩:ByteArray)))] [0] 112 (v2 (pu (pa pT (lo (p3.length≤1000000000∧(lL p3 (⟨#[44]⟩:ByteArray)).size≤1000000000))) (pu (pa pT (pa (Yr p0) (lo (p0≤1000000000∧(lL p3 (⟨#[44]⟩:ByteArray)).size≤1000000000)))) (v1 pT)))) <|Xz [(80,1)] pz
def it (p0:Nat) (p2:List Int) (p3:Bool):List Int :=
 (sel p3 (p2++[1]) (p2++[0]))
def zI:List AV→List Blk→Option (Prop × Ret)
 |[.sc (.sl 0 0 p0 1 none),.sc (.b p3)],[.ints .u8 p1 p2]=>some (((p0=p1)∧(p0≤1000000000)),⟨.sc (.sl 1 0 (p0+1) 1 none),[none,some (.ints .u8 (p0+1) (it p0 p2 p3))]⟩)
 |_,_=>none
theorem tr:Known Tryz.prog gD 33 ⟨1,1,zI⟩:=by
 refine Xw Tryz.f33 12 Zn mixed <|fun E args ks C r h hC hlen=>?_
 simp only at h
 unfold zI at h
 split at h
 rotate_left
 cases h
 rename_i p0 p3 p1 p2
 cases h
 simp only [bI] at hlen
 obtain ⟨hEp1,hC⟩:=hC
 subst hEp1
 refine ⟨rfl,?_⟩
 refine Xs [] [] 32 (v1 pT) <|Tri.seq <|Xs [Eb 5 p3] [1] 48 (v1 pT) <|Xa (fun h1=>?_) (fun h1=>?_)
 exact Xt [El 4 80 (p0+1)] [5,0] [Mi 80 (p0+1) (p2++[1])] [0] 112 (v1 (pu (Yf 1) (pu (Ya (Yw 1) 1 (p0+1) 1 1 p0 p0) (v1 pT)))) <|Xy [(80,1)] pz (by simp only [it,h1,aD,aA] <;> rfl)
 exact Tri.skip <|Xt [El 4 80 (p0+1)] [5,0] [Mi 80 (p0+1) (p2++[0])] [0] 112 (v1 (pu (Yf 1) (pu (Ya (Yw 1) 1 (p0+1) 1 1 p0 p0) (v1 pT)))) <|Xy [(80,1)] pz (by simp only [it,h1,aD,aA] <;> rfl)
end Go.Vm
namespace Go.Vm
open Go Go.Proofs
def bW (p0:Nat) (p2:List Int):List Int :=
 aH p2 p0 0 p0
def AK:List AV→List Blk→Option (Prop × Ret)
 |[.sc (.sl 0 0 p0 1 none)],[.ints .u8 p1 p2]=>some (((p0=p1)∧True),⟨.sc (.p 1 0),[none,some (.cells [.ro .u8 (bW p0 p2),.b false])]⟩)
 |_,_=>none
theorem uu:Known Tryz.prog gD 41 ⟨1,1,AK⟩:=by
 refine Xw Tryz.f41 6 Zn mixed <|fun E args ks C r h hC hlen=>?_
 simp only at h
 unfold AK at h
 split at h
 rotate_left
 cases h
 rename_i p0 p1 p2
 cases h
 simp only [bI] at hlen
 obtain ⟨hEp1,hC⟩:=hC
 subst hEp1
 refine ⟨rfl,?_⟩
 refine Tri.sub (Xf 0 (.ints .u8 p0 p2) (show 0+p0≤p0 from by first|omega|(rw [eJ];omega)|exact eP _ _|exact eR _ _|exact bV (by omega) (by first|omega|(simp only [List.length_append];omega))|decide)) ?_
 exact Xs [] [] 32 (v1 pT) <|Xt [Ep 2 64] [0] [Mc 64 [.ro .u8 (aH p2 p0 0 p0),.b false]] [] 96 (v1 (pu (pa (Ys 0 2) pT) (v2 pT))) <|Xz [(64,1)] pz
def gF (p0:ByteArray):ByteArray :=
 (aj (au (bW p0.size (aR p0)) false) (bA (bW p0.size (aR p0)) false))
def ir (p0:ByteArray):List Int :=
 (au (au (bW p0.size (aR p0)) false) (bA (bW p0.size (aR p0)) false))
def jA (p0:ByteArray):Bool :=
 (bA (au (bW p0.size (aR p0)) false) (bA (bW p0.size (aR p0)) false))
def bg (p0:ByteArray):ByteArray :=
 (sel (!(fj (ir p0) (jA p0))) (⟨#[]⟩:ByteArray) (sel (!(aC (aj (bW p0.size (aR p0)) false) (⟨#[115,115,104,45,101,100,50,53,53,49,57]⟩:ByteArray))) (⟨#[]⟩:ByteArray) (sel (((((gF p0).size:Nat):Int):Int) != 32) (⟨#[]⟩:ByteArray) (gF p0))))
def rl:List AV→List Blk→Option (Prop × Ret)
 |[.sc (.s p0)],[]=>some ((p0.size≤1000000000),⟨.sc (.s (bg p0)),[]⟩)
 |_,_=>none
theorem yc:Known Tryz.prog gD 80 ⟨0,0,rl⟩:=by
 refine Xw Tryz.f80 26 (Zc uu 64 [.io] [] [48] <|Zc gC 112 [.io] [] [64] <|Zc gC 144 [.io] [] [64] <|Zc lI 208 [.io] [] [64] <|Zn) mixed <|fun E args ks C r h hC hlen=>?_
 simp only at h
 unfold rl at h
 split at h
 rotate_left
 cases h
 rename_i p0
 cases h
 simp only [bI] at hlen
 refine ⟨rfl,?_⟩
 refine Xs [] [] 32 (v1 pT) <|Xt [Ep 3 64] [0] [Mc 64 [.ro .u8 (bW p0.size (aR p0)),.b false]] [] 96 (v2 (pu (pa pT (pa (Yr p0.size) pT)) (v1 pT))) <|Xt [Es 5 (gF p0),Es 4 (aj (bW p0.size (aR p0)) false)] [] [Mc 64 [.ro .u8 (ir p0),.b (jA p0)]] [64] 192 (v1 (pu pz (v1 (pu pz (v2 pT))))) <|Tri.seq <|Tri.split (!(fj (ir p0) (jA p0))) (fun h1=>?_) (fun h1=>?_)
 exact Xu [Eb 16 true] none [Eb 24 true] [4,3] [] [64] 384 (v1 (pu pz (v1 (pg h1 (v8 pT))))) <|Tri.cond_true (by kernel_rfl) <|Xs [Es 2 (⟨#[]⟩:ByteArray)] [24,5] 400 (v1 pT) <|Xy [] pz (by simp only [bg,h1,aD,aA] <;> rfl)
 refine Tri.split (!(aC (aj (bW p0.size (aR p0)) false) (⟨#[115,115,104,45,101,100,50,53,53,49,57]⟩:ByteArray))) (fun h2=>?_) (fun h2=>?_)
 exact Xu [Eb 16 false,Eb 20 true] none [Eb 24 true] [4,3] [] [64] 384 (v1 (pu pz (v1 (pg h1 (v3 (pg h2 (v4 pT))))))) <|Tri.cond_true (by kernel_rfl) <|Xs [Es 2 (⟨#[]⟩:ByteArray)] [24,5] 400 (v1 pT) <|Xy [] pz (by simp only [bg,h1,h2,aD,aA] <;> rfl)
 refine Xu [Eb 16 false,Eb 20 false] none [Eb 24 (((((gF p0).size:Nat):Int):Int) != 32)] [4,3] [] [64] 384 (v1 (pu pz (v1 (pg h1 (v3 (pg h2 (v4 pT))))))) <|Xa (fun h3=>?_) (fun h3=>?_)
 have h3':=di h3
 exact Xs [Es 2 (⟨#[]⟩:ByteArray)] [24,5] 400 (v1 pT) <|Xy [] pz (by simp only [bg,h1,h2,h3,aD,aA] <;> rfl)
 have h3':=bz h3
 exact Tri.skip <|Xs [Es 2 (gF p0)] [24,5] 416 (v2 pT) <|Xy [] pz (by simp only [bg,h1,h2,h3,aD,aA] <;> rfl)
def dD (p:List Int) (i:Int):Prop:=p.length≤1000000000∧(0:Int)≤i∧i≤(p.length:Int)
theorem JF {p:List Int} (h:p.length≤1000000000):dD p 0:=⟨h,by omega,by omega⟩
theorem dO {p:List Int} {i:Int} {b:Bool} (h:dD p i):dD p (ab p i b):=⟨h.1,nt b h⟩
theorem fV {p:List Int} {i:Int} {b:Bool} (h:dD p i):dD p (aL p i b):=⟨h.1,vL b h⟩
theorem Bq {p:List Int} {i:Int} {b:Bool} (h:dD p i):dD p (cd p i b):=⟨h.1,mJ b h⟩
theorem yq {p:List Int} {i n:Int} {b:Bool} (h:dD p i):dD p (cA p i b n):=⟨h.1,oB b n h⟩
theorem JJ {p:ByteArray} (h:p.size≤1000000000):(aH (aR p) p.size 0 p.size).length≤1000000000:=bV h (by rw [ap];exact h)
def iU (p0:ByteArray):ByteArray :=
 (aE (aH (aR p0) p0.size 0 p0.size) (ab (aH (aR p0) p0.size 0 p0.size) 0 false) (aS (aH (aR p0) p0.size 0 p0.size) 0 false))
def nD (p0:ByteArray):Bool :=
 (aS (aH (aR p0) p0.size 0 p0.size) (ab (aH (aR p0) p0.size 0 p0.size) 0 false) (aS (aH (aR p0) p0.size 0 p0.size) 0 false))
def mv (p0:ByteArray):Bool :=
 (kA (aH (aR p0) p0.size 0 p0.size) (ab (aH (aR p0) p0.size 0 p0.size) (ab (aH (aR p0) p0.size 0 p0.size) 0 false) (aS (aH (aR p0) p0.size 0 p0.size) 0 false)) (nD p0))
def aJ (p0:ByteArray) (p1:Int):ByteArray :=
 (sel (!(mv p0)) (⟨#[]⟩:ByteArray) (sel (!(aC (aE (aH (aR p0) p0.size 0 p0.size) 0 false) (⟨#[115,115,104,45,101,100,50,53,53,49,57]⟩:ByteArray))) (⟨#[]⟩:ByteArray) (sel (((((iU p0).size:Nat):Int):Int) != p1) (⟨#[]⟩:ByteArray) (iU p0))))
def vP:List AV→List Blk→Option (Prop × Ret)
 |[.sc (.s p0),.sc (.i .i64 p1)],[]=>some ((p0.size≤1000000000),⟨.sc (.s (aJ p0 p1)),[]⟩)
 |_,_=>none
theorem wT:Known Tryz.prog gD 50 ⟨0,0,vP⟩:=by
 refine Xw Tryz.f50 30 (Zc jB 128 [.io] [] [80] <|Zc jB 176 [.io] [] [80] <|Zc ug 224 [.io] [] [80] <|Zn) mixed <|fun E args ks C r h hC hlen=>?_
 simp only at h
 unfold vP at h
 split at h
 rotate_left
 cases h
 rename_i p0 p1
 cases h
 simp only [bI] at hlen
 have cs:=JF (JJ hC)
 refine ⟨rfl,?_⟩
 refine Xs [] [] 32 (v1 pT) <|Xt [Ep 5 80] [0] [Mc 80 [.sl 48 0 p0.size 1 none,.i .i64 0,.b false],Mi 48 p0.size (aR p0)] [] 112 (v2 (pu (pa (Ys 0 3) pT) (v2 pT))) <|Tri.sub (Xf 48 (.ints .u8 p0.size (aR p0)) (show 0+p0.size≤p0.size from by first|omega|(rw [eJ];omega)|exact eP _ _|exact eR _ _|exact bV (by omega) (by first|omega|(simp only [List.length_append];omega))|decide)) ?_
 refine Xt [Es 6 (aE (aH (aR p0) p0.size 0 p0.size) 0 false)] [] [Mc 80 [.ro .u8 (aH (aR p0) p0.size 0 p0.size),.i .i64 (ab (aH (aR p0) p0.size 0 p0.size) 0 false),.b (aS (aH (aR p0) p0.size 0 p0.size) 0 false)]] [80] 160 (v1 (pu (pa pT (pl (show (aH (aR p0) p0.size 0 p0.size).length≤1000000000∧(0:Int)≤0∧0≤((aH (aR p0) p0.size 0 p0.size).length:Int) from by (show dD _ _;repeat (first|exact cs|refine dO ?_|refine fV ?_|refine Bq ?_|refine yq ?_))))) (v1 pT))) ?_
 refine Xt [Es 7 (iU p0)] [] [Mc 80 [.ro .u8 (aH (aR p0) p0.size 0 p0.size),.i .i64 (ab (aH (aR p0) p0.size 0 p0.size) (ab (aH (aR p0) p0.size 0 p0.size) 0 false) (aS (aH (aR p0) p0.size 0 p0.size) 0 false)),.b (nD p0)]] [80] 208 (v1 (pu (pa pT (pl (show (aH (aR p0) p0.size 0 p0.size).length≤1000000000∧(0:Int)≤(ab (aH (aR p0) p0.size 0 p0.size) 0 false)∧(ab (aH (aR p0) p0.size 0 p0.size) 0 false)≤((aH (aR p0) p0.size 0 p0.size).length:Int) from by (show dD _ _;repeat (first|exact cs|refine dO ?_|refine fV ?_|refine Bq ?_|refine yq ?_))))) (v1 pT))) ?_
 refine Tri.seq <|Tri.split (!(mv p0)) (fun h1=>?_) (fun h1=>?_)
 exact Xu [Eb 19 true] none [Eb 28 true] [6,5,1] [] [80] 416 (v1 (pu pz (v1 (pg h1 (v9 pT))))) <|Tri.cond_true (by kernel_rfl) <|Xs [Es 4 (⟨#[]⟩:ByteArray)] [28,7] 432 (v1 pT) <|Xy [] pz (by simp only [aJ,h1,aD,aA] <;> rfl)
 refine Tri.split (!(aC (aE (aH (aR p0) p0.size 0 p0.size) 0 false) (⟨#[115,115,104,45,101,100,50,53,53,49,57]⟩:ByteArray))) (fun h2=>?_) (fun h2=>?_)
 exact Xu [Eb 19 false,Eb 23 true] none [Eb 28 true] [6,5,1] [] [80] 416 (v1 (pu pz (v1 (pg h1 (v3 (pg h2 (v5 pT))))))) <|Tri.cond_true (by kernel_rfl) <|Xs [Es 4 (⟨#[]⟩:ByteArray)] [28,7] 432 (v1 pT) <|Xy [] pz (by simp only [aJ,h1,h2,aD,aA] <;> rfl)
 refine Xu [Eb 19 false,Eb 23 false] none [Eb 28 (((((iU p0).size:Nat):Int):Int) != p1)] [6,5,1] [] [80] 416 (v1 (pu pz (v1 (pg h1 (v3 (pg h2 (v5 pT))))))) <|Xa (fun h3=>?_) (fun h3=>?_)
 have h3':=di h3
 exact Xs [Es 4 (⟨#[]⟩:ByteArray)] [28,7] 432 (v1 pT) <|Xy [] pz (by simp only [aJ,h1,h2,h3,aD,aA] <;> rfl)
 have h3':=bz h3
 exact Tri.skip <|Xs [Es 4 (iU p0)] [28,7] 448 (v2 pT) <|Xy [] pz (by simp only [aJ,h1,h2,h3,aD,aA] <;> rfl)
def fK (p0:ByteArray):ByteArray :=
 (aj (au (bW p0.size (aR p0)) false) (bA (bW p0.size (aR p0)) false))
def gk (p0:ByteArray):List Int :=
 (au (au (bW p0.size (aR p0)) false) (bA (bW p0.size (aR p0)) false))
def gh (p0:ByteArray):Bool :=
 (bA (au (bW p0.size (aR p0)) false) (bA (bW p0.size (aR p0)) false))
def jw (p0:ByteArray):Bool:=sel (!(fj (gk p0) (gh p0))) true (sel (!(aC (aj (bW p0.size (aR p0)) false) (⟨#[115,115,104,45,101,100,50,53,53,49,57]⟩:ByteArray))) true (((((fK p0).size:Nat):Int):Int) != 64))
theorem zz {p0:ByteArray} (h:jw p0=false):(!(fj (gk p0) (gh p0)))=false∧(!(aC (aj (bW p0.size (aR p0)) false) (⟨#[115,115,104,45,101,100,50,53,53,49,57]⟩:ByteArray)))=false∧(((((fK p0).size:Nat):Int):Int) != 64)=false:=by
 unfold jw at h
 revert h
 generalize (!(fj (gk p0) (gh p0)))=a
 generalize (!(aC (aj (bW p0.size (aR p0)) false) (⟨#[115,115,104,45,101,100,50,53,53,49,57]⟩:ByteArray)))=b
 generalize (((((fK p0).size:Nat):Int):Int) != 64)=c
 intro h
 cases a
 ·cases b
  ·rw [aA,aA] at h;exact ⟨rfl,rfl,h⟩
  ·rw [aA,aD] at h;cases h
 ·rw [aD] at h;cases h
theorem Gf {p0:ByteArray} (h:jw p0=true) (h1:(!(fj (gk p0) (gh p0)))=false) (h2:(!(aC (aj (bW p0.size (aR p0)) false) (⟨#[115,115,104,45,101,100,50,53,53,49,57]⟩:ByteArray)))=false):(((((fK p0).size:Nat):Int):Int) != 64)=true:=by
 unfold jw at h
 rw [h1,h2,aA,aA] at h
 exact h
def bH (p0:ByteArray):ByteArray :=
 (aj (au (bW p0.size (aR p0)) false) (bA (bW p0.size (aR p0)) false))
def mg (p0:ByteArray):List Int :=
 (au (au (bW p0.size (aR p0)) false) (bA (bW p0.size (aR p0)) false))
def me (p0:ByteArray):Bool :=
 (bA (au (bW p0.size (aR p0)) false) (bA (bW p0.size (aR p0)) false))
def dK (p0:ByteArray):List Int :=
 aR (bH p0)
def pO:List AV→List Blk→Option (Prop × Ret)
 |[.sc (.s p0)],[]=>some ((((jw p0)=false)∧(p0.size≤1000000000)),⟨.sc (.sl 0 0 ((bH p0).size) 1 none),[some (.ints .u8 ((bH p0).size) (dK p0))]⟩)
 |_,_=>none
theorem lh:Known Tryz.prog gD 81 ⟨0,1,pO⟩:=by
 refine Xw Tryz.f81 27 (Zc uu 64 [.io] [] [48] <|Zc gC 112 [.io] [] [64] <|Zc gC 144 [.io] [] [64] <|Zc lI 208 [.io] [] [64] <|Zn) mixed <|fun E args ks C r h hC hlen=>?_
 simp only at h
 unfold pO at h
 split at h
 rotate_left
 cases h
 rename_i p0
 cases h
 simp only [bI] at hlen
 have hG0:=hC.1
 have hC:=hC.2
 have hsig:=zz hG0
 refine ⟨rfl,?_⟩
 refine Xs [] [] 32 (v1 pT) <|Xt [Ep 3 64] [0] [Mc 64 [.ro .u8 (bW p0.size (aR p0)),.b false]] [] 96 (v2 (pu (pa pT (pa (Yr p0.size) pT)) (v1 pT))) <|Xt [Es 5 (bH p0),Es 4 (aj (bW p0.size (aR p0)) false)] [] [Mc 64 [.ro .u8 (mg p0),.b (me p0)]] [64] 192 (v1 (pu pz (v1 (pu pz (v2 pT))))) <|Tri.seq <|Xu [Eb 16 false,Eb 20 false] none [Eb 24 (((((bH p0).size:Nat):Int):Int) != 64)] [4,3] [] [64] 384 (v1 (pu pz (v1 (pv pT (pl (show (!(fj (mg p0) (me p0)))=false from hsig.1)) (v3 (pv pT (pl (show (!(aC (aj (bW p0.size (aR p0)) false) (⟨#[115,115,104,45,101,100,50,53,53,49,57]⟩:ByteArray)))=false from hsig.2.1)) (v4 pT))))))) <|Tri.cond (x:=(((((bH p0).size:Nat):Int):Int) != 64)) (by kernel_rfl) (fun h=>absurd (h.symm.trans hsig.2.2) (by decide)) (fun h=>?_)
 exact Tri.skip <|Xt [El 2 400 ((bH p0).size)] [24,5] [Mi 400 ((bH p0).size) (aR (bH p0))] [] 432 (v3 pT) <|Xz [(400,0)] pz
theorem GE {p0:ByteArray} (h:jw p0=false):0<(bH p0).size:=by
 have h3:=bz (zz h).2.2
 have e:(bH p0).size=(fK p0).size:=rfl
 omega
def jz (p0:ByteArray):ByteArray :=
 (aj (au (bW p0.size (aR p0)) false) (bA (bW p0.size (aR p0)) false))
def mb (p0:ByteArray):List Int :=
 (au (au (bW p0.size (aR p0)) false) (bA (bW p0.size (aR p0)) false))
def md (p0:ByteArray):Bool :=
 (bA (au (bW p0.size (aR p0)) false) (bA (bW p0.size (aR p0)) false))
def pK:List AV→List Blk→Option (Prop × Ret)
 |[.sc (.s p0)],[]=>some ((((jw p0)=true)∧(p0.size≤1000000000)),⟨.sc (.nils),[]⟩)
 |_,_=>none
theorem wN:Known Tryz.prog gD 81 ⟨0,0,pK⟩:=by
 refine Xw Tryz.f81 27 (Zc uu 64 [.io] [] [48] <|Zc gC 112 [.io] [] [64] <|Zc gC 144 [.io] [] [64] <|Zc lI 208 [.io] [] [64] <|Zn) mixed <|fun E args ks C r h hC hlen=>?_
 simp only at h
 unfold pK at h
 split at h
 rotate_left
 cases h
 rename_i p0
 cases h
 simp only [bI] at hlen
 have hG0:=hC.1
 have hC:=hC.2
 refine ⟨rfl,?_⟩
 refine Xs [] [] 32 (v1 pT) <|Xt [Ep 3 64] [0] [Mc 64 [.ro .u8 (bW p0.size (aR p0)),.b false]] [] 96 (v2 (pu (pa pT (pa (Yr p0.size) pT)) (v1 pT))) <|Xt [Es 5 (jz p0),Es 4 (aj (bW p0.size (aR p0)) false)] [] [Mc 64 [.ro .u8 (mb p0),.b (md p0)]] [64] 192 (v1 (pu pz (v1 (pu pz (v2 pT))))) <|Tri.seq <|Tri.split (!(fj (mb p0) (md p0))) (fun h1=>?_) (fun h1=>?_)
 exact Xu [Eb 16 true] none [Eb 24 true] [4,3] [] [64] 384 (v1 (pu pz (v1 (pg h1 (v8 pT))))) <|Tri.cond_true (by kernel_rfl) <|Xs [(2,.sc (.nils))] [24,5] 400 (v1 pT) <|Xy [] pz rfl
 refine Tri.split (!(aC (aj (bW p0.size (aR p0)) false) (⟨#[115,115,104,45,101,100,50,53,53,49,57]⟩:ByteArray))) (fun h2=>?_) (fun h2=>?_)
 exact Xu [Eb 16 false,Eb 20 true] none [Eb 24 true] [4,3] [] [64] 384 (v1 (pu pz (v1 (pg h1 (v3 (pg h2 (v4 pT))))))) <|Tri.cond_true (by kernel_rfl) <|Xs [(2,.sc (.nils))] [24,5] 400 (v1 pT) <|Xy [] pz rfl
 refine Xu [Eb 16 false,Eb 20 false] none [Eb 24 (((((jz p0).size:Nat):Int):Int) != 64)] [4,3] [] [64] 384 (v1 (pu pz (v1 (pg h1 (v3 (pg h2 (v4 pT))))))) <|Tri.cond (x:=(((((jz p0).size:Nat):Int):Int) != 64)) (by kernel_rfl) (fun h=>?_) (fun h=>absurd (h.symm.trans (Gf hG0 h1 h2)) (by decide))
 exact Xs [(2,.sc (.nils))] [24,5] 400 (v1 pT) <|Xy [] pz rfl
end Go.Vm
namespace Go.Vm
open Go Go.Proofs
def rz (p0:Int) (k0:Nat) (z0:List Int):List Int :=
 z0.set k0 p0
def no (p0:Int):List Int :=
 (itr (rz p0) 32 (List.replicate 32 0))
def fA (p0:Int):ByteArray :=
 (bytesOf (((no p0).drop 0).take 32))
def CH:List AV→List Blk→Option (Prop × Ret)
 |[.sc (.i .u8 p0)],[]=>some (True,⟨.sc (.s (fA p0)),[]⟩)
 |_,_=>none
theorem DY:Known Tryz.prog gD 25 ⟨0,0,CH⟩:=by
 refine Xw Tryz.f25 18 Zn mixed <|fun E args ks C r h hC hlen=>?_
 simp only at h
 unfold CH at h
 split at h
 rotate_left
 cases h
 rename_i p0
 cases h
 simp only [bI] at hlen
 refine ⟨rfl,?_⟩
 refine Xs [] [] 32 (v1 pT) <|Xt [El 3 32 32] [] [Mi 32 32 (List.replicate 32 0)] [] 64 (pu (pa (lo ((0:Int)≤32∧(32:Int)=32)) (pa (lo (32≤(140737488355328:Int))) (lo (((1:Nat):Int)*32≤281474976710656)))) (v1 pT)) <|Tri.seq <|Xs [Ei 8 0,Ei 7 32] [] 112 (v3 pT) <|Tri.block <|Xc 32 (rz p0) (List.replicate 32 0) (fun k0 z0=>True) (fun k0 z0=>[Ej 8 k0]) (fun k0 z0=>[Mi 32 32 z0]) trivial <|fun k0 z0 hk0 hz0 hJ0=>Xs [Eb 9 (decide ((((k0:Nat):Int):Int)<32))] [] 128 (v1 pT) <|Tri.seq <|Xb (fun h1 h1'=>?_) (fun h1 h1'=>?_)
 exact Tri.skip <|Tri.seq <|Tri.block <|Xs [Ej 4 k0] [9] 160 (v2 pT) <|Wt [] [4] [Mi 32 32 (z0.set k0 p0)] [32] 240 (v3 (pu (Yj k0 32) (pu (Ys k0 32) pT))) <|Wu [Ej 15 (k0+1)] none [Ej 8 (k0+1)] [8] [] [] 272 (pv pT (Yp k0 1) (v1 pT)) <|Xo [] trivial
 refine Tri.exit <|?_
 obtain rfl:k0=32:=(by omega);obtain rfl:z0=(no p0):=hz0
 exact Xt [Es 2 (bytesOf (((no p0).drop 0).take 32))] [9,8,7,3,0] [] [32] 176 (v1 (pu (Yw 32) (v1 pT))) <|Xz [] pz
theorem Az (c:Int):(fA c).size=32:=by
 have h:∀ (f:Nat→List Int→List Int) (hf:∀ k z,(f k z).length=z.length) (n:Nat) (z:List Int),(itr f n z).length=z.length:=by
  intro f hf n z
  induction n with
  |zero=>rw [bB]
  |succ n ih=>rw [aq,hf,ih]
 unfold fA no
 rw [cF,List.length_take,List.drop_zero,h _ (fun k z=>by unfold rz;rw [List.length_set])]
 decide
theorem vh (c:Int):(aH (aR (fA c)) (fA c).size 0 (fA c).size).length=32:=by rw [bJ (ap _),ap,Az]
def pG:List Int :=
 (Il (aH (aR (fA 107)) ((fA 107).size) 0 ((fA 107).size)))
def se:List Int :=
 (Il (aH (aR (fA 99)) ((fA 99).size) 0 ((fA 99).size)))
def cw:ByteArray :=
 (bytesOf (((pG).drop 0).take 32))
def ar:ByteArray :=
 (bytesOf (((se).drop 0).take 32))
def UA:List Sc:=[.s (⟨#[97,110,110]⟩:ByteArray),.s (⟨#[115,101,99,114,101,116]⟩:ByteArray),.s (⟨#[]⟩:ByteArray),.nils,.s (⟨#[98,111,98]⟩:ByteArray),.s (⟨#[]⟩:ByteArray),.s (cw),.nils,.s (⟨#[99,121]⟩:ByteArray),.s (⟨#[119,111,114,100]⟩:ByteArray),.s (ar),.nils,.s (⟨#[110,105,108]⟩:ByteArray),.s (⟨#[]⟩:ByteArray),.s (⟨#[]⟩:ByteArray),.nils]
def zU:List AV→List Blk→Option (Prop × Ret)
 |[],[]=>some (True,⟨.sc (.sl 0 0 4 4 none),[some (.cells UA)]⟩)
 |_,_=>none
theorem ud:Known Tryz.prog gD 19 ⟨0,1,zU⟩:=by
 refine Xw Tryz.f19 16 (Zc Jy 64 [.ro .u8] [48] [] <|Zc Jy 192 [.ro .u8] [176] [] <|Zv DY 32 1 <|Zv DY 160 1 <|Zn) mixed <|fun E args ks C r h hC hlen=>?_
 simp only at h
 unfold zU at h
 split at h
 rotate_left
 cases h
 cases h
 simp only [bI] at hlen
 refine ⟨rfl,?_⟩
 exact Xs [] [] 32 (v1 pT) <|Xs [Es 1 (bytesOf (((pG).drop 0).take 32))] [] 112 (pu pz (v1 (pu (pa (pa (Yw ((fA 107).size)) pT) (pl (show (aH (aR (fA 107)) ((fA 107).size) 0 ((fA 107).size)).length=32 from vh _))) (pu (Yw 32) (v1 pT))))) <|Xt [(0,.sc (.sl 256 0 4 4 none))] [1] [Mc 256 [.s (⟨#[97,110,110]⟩:ByteArray),.s (⟨#[115,101,99,114,101,116]⟩:ByteArray),.s (⟨#[]⟩:ByteArray),.nils,.s (⟨#[98,111,98]⟩:ByteArray),.s (⟨#[]⟩:ByteArray),.s (bytesOf (((pG).drop 0).take 32)),.nils,.s (⟨#[99,121]⟩:ByteArray),.s (⟨#[119,111,114,100]⟩:ByteArray),.s (bytesOf (((se).drop 0).take 32)),.nils,.s (⟨#[110,105,108]⟩:ByteArray),.s (⟨#[]⟩:ByteArray),.s (⟨#[]⟩:ByteArray),.nils]] [] 288 (pu (pa (Ys 0 4) (pa (Ys 1 4) pT)) (v1 (pu (pa (Ys 0 4) (pa (Ys 2 4) pT)) (pu pz (v1 (pu (pa (pa (Yw ((fA 99).size)) pT) (pl (show (aH (aR (fA 99)) ((fA 99).size) 0 ((fA 99).size)).length=32 from vh _))) (pu (Yw 32) (pu (pa (Ys 0 4) (pa (Ys 1 4) (pa (Ys 2 4) pT))) (pu (pa (Ys 0 4) pT) (pu (pa (pa (pa (Ye (0+4) 16) (Yr 4)) (pa (pa (Ye (4+4) 16) (Yr 4)) (pa (pa (Ye (8+4) 16) (Yr 4)) (pa (pa (Ye (12+4) 16) (Yr 4)) pT)))) (pa (Ye (4*4) 16777216) (Yr 4))) (v1 pT))))))))))) <|Xz [(256,0)] pz
def Hh:List AV→List Blk→Option (Prop × Ret)
 |[.sc (.sl 0 0 4 4 none),.sc (.ro .u8 p1),.sc (.i .i64 p2)],[.cells p9]=>some (((UA=p9)∧(p1.length≤100000)),⟨.sc (.p 1 0),[some (.cells UA),some (.cells [.sl 0 0 4 4 none,.sl 2 0 p1.length 1 none,.i .i64 p2,.b false,.s (⟨#[]⟩:ByteArray),.b false]),some (.ints .u8 p1.length p1)]⟩)
 |_,_=>none
theorem Hd:Known Tryz.prog gD 18 ⟨1,2,Hh⟩:=by
 refine Xw Tryz.f18 13 Zn mixed <|fun E args ks C r h hC hlen=>?_
 simp only at h
 unfold Hh at h
 split at h
 rotate_left
 cases h
 rename_i p1 p2 p9
 cases h
 simp only [bI] at hlen
 obtain ⟨hEp9,hC⟩:=hC
 subst hEp9
 refine ⟨rfl,?_⟩
 exact Xs [] [] 32 (v1 pT) <|Xt [Ep 6 112] [0,1,2] [Mc 112 [.sl 0 0 4 4 none,.sl 64 0 p1.length 1 none,.i .i64 p2,.b false,.s (⟨#[]⟩:ByteArray),.b false],Mi 64 p1.length p1] [] 144 (v2 (pu (YN pT 1 p1.length p1.length p1.length) (v1 (pu (pa (Ys 0 6) (pa (Ys 1 6) (pa (Ys 2 6) pT))) (v2 pT))))) <|Xz [(0,0),(112,1),(64,2)] pz
def gS (p3:ByteArray) (p4:Bool):ByteArray :=
 (sel (!p4) (⟨#[]⟩:ByteArray) p3)
def Bh:List AV→List Blk→Option (Prop × Ret)
 |[.sc (.p 0 0)],[.cells [.sl 1 0 4 4 none,.sl 2 0 p10 1 none,.i .i64 p1,.b p2,.s p3,.b p4],.cells p9,.ints .u8 p11 p0]=>some (((p10=p11)∧((UA=p9)∧True)),⟨.sc (.s (gS p3 p4)),[some (.cells [.sl 1 0 4 4 none,.sl 2 0 p10 1 none,.i .i64 p1,.b p2,.s p3,.b p4]),some (.cells UA),some (.ints .u8 p10 p0)]⟩)
 |_,_=>none
theorem Db:Known Tryz.prog gD 21 ⟨3,0,Bh⟩:=by
 refine Xw Tryz.f21 16 Zn mixed <|fun E args ks C r h hC hlen=>?_
 simp only at h
 unfold Bh at h
 split at h
 rotate_left
 cases h
 rename_i p10 p1 p2 p3 p4 p9 p11 p0
 cases h
 simp only [bI] at hlen
 obtain ⟨hEp11,hC⟩:=hC
 obtain ⟨hEp9,hC⟩:=hC
 subst hEp11
 subst hEp9
 refine ⟨rfl,?_⟩
 refine Xs [] [] 32 (v1 pT) <|Tri.seq <|Xs [Eb 11 (!p4)] [] 176 (v6 (pu (Yl 5 6) (v2 pT))) <|Xa (fun h1=>?_) (fun h1=>?_)
 exact Xs [Es 2 (⟨#[]⟩:ByteArray)] [11,0] 192 (v1 pT) <|Xy (r':=⟨.sc (.s (⟨#[]⟩:ByteArray)),[some (.cells [.sl 1 0 4 4 none,.sl 2 0 p10 1 none,.i .i64 p1,.b p2,.s p3,.b p4]),some (.cells UA),some (.ints .u8 p10 p0)]⟩) [(0,0),(1,1),(2,2)] pz (by simp only [gS,h1,aD,aA])
 exact Tri.skip <|Xs [Es 2 p3] [11,0] 256 (v3 (pu (Yl 4 6) (v1 pT))) <|Xy (r':=⟨.sc (.s p3),[some (.cells [.sl 1 0 4 4 none,.sl 2 0 p10 1 none,.i .i64 p1,.b p2,.s p3,.b p4]),some (.cells UA),some (.ints .u8 p10 p0)]⟩) [(0,0),(1,1),(2,2)] pz (by simp only [gS,h1,aD,aA])
def nG (p5:ByteArray):ByteArray :=
 (sel (aC (⟨#[97,110,110]⟩:ByteArray) p5) (⟨#[97,110,110]⟩:ByteArray) (sel (aC (⟨#[98,111,98]⟩:ByteArray) p5) (⟨#[98,111,98]⟩:ByteArray) (sel (aC (⟨#[99,121]⟩:ByteArray) p5) (⟨#[99,121]⟩:ByteArray) (sel (aC (⟨#[110,105,108]⟩:ByteArray) p5) (⟨#[110,105,108]⟩:ByteArray) (⟨#[]⟩:ByteArray)))))
def cb (p5:ByteArray):ByteArray :=
 (sel (aC (⟨#[97,110,110]⟩:ByteArray) p5) (⟨#[115,101,99,114,101,116]⟩:ByteArray) (sel (aC (⟨#[98,111,98]⟩:ByteArray) p5) (⟨#[]⟩:ByteArray) (sel (aC (⟨#[99,121]⟩:ByteArray) p5) (⟨#[119,111,114,100]⟩:ByteArray) (⟨#[]⟩:ByteArray))))
def cP (p5:ByteArray):ByteArray :=
 (sel (aC (⟨#[97,110,110]⟩:ByteArray) p5) (⟨#[]⟩:ByteArray) (sel (aC (⟨#[98,111,98]⟩:ByteArray) p5) (cw) (sel (aC (⟨#[99,121]⟩:ByteArray) p5) (ar) (⟨#[]⟩:ByteArray))))
def Bl:List AV→List Blk→Option (Prop × Ret)
 |[.sc (.p 0 0),.sc (.s p5)],[.cells [.sl 1 0 4 4 none,.sl 2 0 p10 1 none,.i .i64 p1,.b p2,.s p3,.b p4],.cells p9,.ints .u8 p11 p0]=>some (((p10=p11)∧((UA=p9)∧True)),⟨.agg [.s (nG p5),.s (cb p5),.s (cP p5),.nils],[some (.cells [.sl 1 0 4 4 none,.sl 2 0 p10 1 none,.i .i64 p1,.b p2,.s p3,.b p4]),some (.cells UA),some (.ints .u8 p10 p0)]⟩)
 |_,_=>none
theorem Iu:Known Tryz.prog gD 77 ⟨3,0,Bl⟩:=by
 refine Xw Tryz.f77 23 Zn mixed <|fun E args ks C r h hC hlen=>?_
 simp only at h
 unfold Bl at h
 split at h
 rotate_left
 cases h
 rename_i p5 p10 p1 p2 p3 p4 p9 p11 p0
 cases h
 simp only [bI] at hlen
 obtain ⟨hEp11,hC⟩:=hC
 obtain ⟨hEp9,hC⟩:=hC
 subst hEp11
 subst hEp9
 refine ⟨rfl,?_⟩
 refine Xt [Ep 4 16] [] [Mc 16 [.s (⟨#[]⟩:ByteArray),.s (⟨#[]⟩:ByteArray),.s (⟨#[]⟩:ByteArray),.nils]] [] 32 (v1 pT) <|Tri.seq <|Xs [Ei 12 0,Ei 11 4,(10,.sc (.sl 1 0 4 4 none))] [0] 128 (v3 (pu (Yl 0 6) (v2 pT))) <|Tri.block <|Tri.rounds 4 <|Xs [Eb 13 true] [] 144 (v1 pT) <|Tri.seq <|Tri.cond_true (by kernel_rfl) <|Tri.skip <|Tri.seq <|Tri.block <|Xt [Ep 6 176] [13] [Mc 176 [.s (⟨#[97,110,110]⟩:ByteArray),.s (⟨#[115,101,99,114,101,116]⟩:ByteArray),.s (⟨#[]⟩:ByteArray),.nils]] [] 208 (pu (Yi 0 4) (pu (Ye (0+4) 16) (v1 (pu (pa (Yw 4) (Yr 4)) pT)))) <|Xs [Eb 19 (aC (⟨#[97,110,110]⟩:ByteArray) p5)] [] 272 (v1 (pu (Yl 0 4) (v2 pT))) <|Xa (fun h1=>?_) (fun h1=>?_)
 exact Xt [] [19,6,12,11,10,1] [Mc 16 [.s (⟨#[97,110,110]⟩:ByteArray),.s (⟨#[115,101,99,114,101,116]⟩:ByteArray),.s (⟨#[]⟩:ByteArray),.nils]] [176,16] 304 (pu (Yw 4) (pu (pa (Yw 4) (Yr 4)) pT)) <|Xy [(0,0),(1,1),(2,2)] (pa (Yw 4) pT) (by simp only [nG,cb,cP,h1,aD,aA] <;> rfl)
 refine Tri.skip <|Wt [Ei 12 1] [19,6,12] [] [176] 304 (v2 pT) <|Xs [Eb 13 true] [] 320 (v1 pT) <|Tri.seq <|Tri.cond_true (by kernel_rfl) <|Tri.skip <|Tri.seq <|Tri.block <|Xt [Ep 6 352] [13] [Mc 352 [.s (⟨#[98,111,98]⟩:ByteArray),.s (⟨#[]⟩:ByteArray),.s (cw),.nils]] [] 384 (pu (Yi 1 4) (pu (Ye (4+4) 16) (v1 (pu (pa (Yw 4) (Yr 4)) pT)))) <|Xs [Eb 19 (aC (⟨#[98,111,98]⟩:ByteArray) p5)] [] 448 (v1 (pu (Yl 0 4) (v2 pT))) <|Xa (fun h2=>?_) (fun h2=>?_)
 exact Xt [] [19,6,12,11,10,1] [Mc 16 [.s (⟨#[98,111,98]⟩:ByteArray),.s (⟨#[]⟩:ByteArray),.s (cw),.nils]] [352,16] 480 (pu (Yw 4) (pu (pa (Yw 4) (Yr 4)) pT)) <|Xy [(0,0),(1,1),(2,2)] (pa (Yw 4) pT) (by simp only [nG,cb,cP,h1,h2,aD,aA] <;> rfl)
 refine Tri.skip <|Wt [Ei 12 2] [19,6,12] [] [352] 480 (v2 pT) <|Xs [Eb 13 true] [] 496 (v1 pT) <|Tri.seq <|Tri.cond_true (by kernel_rfl) <|Tri.skip <|Tri.seq <|Tri.block <|Xt [Ep 6 528] [13] [Mc 528 [.s (⟨#[99,121]⟩:ByteArray),.s (⟨#[119,111,114,100]⟩:ByteArray),.s (ar),.nils]] [] 560 (pu (Yi 2 4) (pu (Ye (8+4) 16) (v1 (pu (pa (Yw 4) (Yr 4)) pT)))) <|Xs [Eb 19 (aC (⟨#[99,121]⟩:ByteArray) p5)] [] 624 (v1 (pu (Yl 0 4) (v2 pT))) <|Xa (fun h3=>?_) (fun h3=>?_)
 exact Xt [] [19,6,12,11,10,1] [Mc 16 [.s (⟨#[99,121]⟩:ByteArray),.s (⟨#[119,111,114,100]⟩:ByteArray),.s (ar),.nils]] [528,16] 656 (pu (Yw 4) (pu (pa (Yw 4) (Yr 4)) pT)) <|Xy [(0,0),(1,1),(2,2)] (pa (Yw 4) pT) (by simp only [nG,cb,cP,h1,h2,h3,aD,aA] <;> rfl)
 refine Tri.skip <|Wt [Ei 12 3] [19,6,12] [] [528] 656 (v2 pT) <|Xs [Eb 13 true] [] 672 (v1 pT) <|Tri.seq <|Tri.cond_true (by kernel_rfl) <|Tri.skip <|Tri.seq <|Tri.block <|Xt [Ep 6 704] [13] [Mc 704 [.s (⟨#[110,105,108]⟩:ByteArray),.s (⟨#[]⟩:ByteArray),.s (⟨#[]⟩:ByteArray),.nils]] [] 736 (pu (Yi 3 4) (pu (Ye (12+4) 16) (v1 (pu (pa (Yw 4) (Yr 4)) pT)))) <|Xs [Eb 19 (aC (⟨#[110,105,108]⟩:ByteArray) p5)] [] 800 (v1 (pu (Yl 0 4) (v2 pT))) <|Xa (fun h4=>?_) (fun h4=>?_)
 exact Xt [] [19,6,12,11,10,1] [Mc 16 [.s (⟨#[110,105,108]⟩:ByteArray),.s (⟨#[]⟩:ByteArray),.s (⟨#[]⟩:ByteArray),.nils]] [704,16] 832 (pu (Yw 4) (pu (pa (Yw 4) (Yr 4)) pT)) <|Xy [(0,0),(1,1),(2,2)] (pa (Yw 4) pT) (by simp only [nG,cb,cP,h1,h2,h3,h4,aD,aA] <;> rfl)
 exact Tri.skip <|Wt [Ei 12 4] [19,6,12] [] [704] 832 (v2 pT) <|Xs [Eb 13 false] [] 848 (v1 pT) <|Tri.seq <|Tri.cond_false (by kernel_rfl) <|Tri.exit <|Xs [] [13,12,11,10,1] 880 (v1 (pu (pa (Yw 4) (Yr 4)) pT)) <|Xy [(0,0),(1,1),(2,2)] (pa (Yw 4) pT) (by simp only [nG,cb,cP,h1,h2,h3,h4,aD,aA] <;> rfl)
def mU (p0:ByteArray):List Int :=
 (df 1 [5] p0)
def sT:List AV→List Blk→Option (Prop × Ret)
 |[.sc (.s p0)],[]=>some ((p0.size≤100000),⟨.sc (.sl 0 0 ((1+4)+p0.size) 1 none),[some (.ints .u8 ((1+4)+p0.size) (mU p0))]⟩)
 |_,_=>none
theorem tQ:Known Tryz.prog gD 22 ⟨0,1,sT⟩:=by
 refine Xw Tryz.f22 6 (Zc hF 64 [.io,.val] [] [32] <|Zn) mixed <|fun E args ks C r h hC hlen=>?_
 simp only at h
 unfold sT at h
 split at h
 rotate_left
 cases h
 rename_i p0
 cases h
 simp only [bI] at hlen
 refine ⟨rfl,?_⟩
 exact Xs [] [] 32 (v1 pT) <|Xt [El 2 64 ((1+4)+p0.size)] [0] [Mi 64 ((1+4)+p0.size) (df 1 [5] p0)] [] 96 (pu (Yf 1) (v1 (pu (pa pT (pa (Yr 1) (lo (1≤1000000000∧p0.size≤1000000000)))) (v1 pT)))) <|Xz [(64,0)] pz
def rh (p0:ByteArray):List Int :=
 (df 1 [6] p0)
def vV:List AV→List Blk→Option (Prop × Ret)
 |[.sc (.s p0)],[]=>some ((p0.size≤100000),⟨.sc (.sl 0 0 ((1+4)+p0.size) 1 none),[some (.ints .u8 ((1+4)+p0.size) (rh p0))]⟩)
 |_,_=>none
theorem wx:Known Tryz.prog gD 27 ⟨0,1,vV⟩:=by
 refine Xw Tryz.f27 6 (Zc hF 64 [.io,.val] [] [32] <|Zn) mixed <|fun E args ks C r h hC hlen=>?_
 simp only at h
 unfold vV at h
 split at h
 rotate_left
 cases h
 rename_i p0
 cases h
 simp only [bI] at hlen
 refine ⟨rfl,?_⟩
 exact Xs [] [] 32 (v1 pT) <|Xt [El 2 64 ((1+4)+p0.size)] [0] [Mi 64 ((1+4)+p0.size) (df 1 [6] p0)] [] 96 (pu (Yf 1) (v1 (pu (pa pT (pa (Yr 1) (lo (1≤1000000000∧p0.size≤1000000000)))) (v1 pT)))) <|Xz [(64,0)] pz
def qk (p0:ByteArray):List Int :=
 (df ((1+4)+p0.size) (df 1 [50] p0) (⟨#[115,115,104,45,99,111,110,110,101,99,116,105,111,110]⟩:ByteArray))
def nO (p0:ByteArray) (p1:ByteArray):List Int :=
 (df ((((1+4)+p0.size)+4)+(⟨#[115,115,104,45,99,111,110,110,101,99,116,105,111,110]⟩:ByteArray).size) (qk p0) p1)
def nA (p0:ByteArray) (p1:ByteArray):List Int :=
 (nO p0 p1)
def bG (p0:ByteArray) (p1:ByteArray):Nat :=
 (((((1+4)+p0.size)+4)+(⟨#[115,115,104,45,99,111,110,110,101,99,116,105,111,110]⟩:ByteArray).size)+4)+p1.size
def BU:List AV→List Blk→Option (Prop × Ret)
 |[.sc (.s p0),.sc (.s p1)],[]=>some ((p0.size≤100000∧p1.size≤100000),⟨.sc (.sl 0 0 (bG p0 p1) 1 none),[some (.ints .u8 (bG p0 p1) (nA p0 p1))]⟩)
 |_,_=>none
theorem FA:Known Tryz.prog gD 34 ⟨0,1,BU⟩:=by
 refine Xw Tryz.f34 11 (Zc hF 64 [.io,.val] [] [32] <|Zc hF 80 [.io,.val] [] [64] <|Zc hF 112 [.io,.val] [] [80] <|Zn) mixed <|fun E args ks C r h hC hlen=>?_
 simp only at h
 unfold BU at h
 split at h
 rotate_left
 cases h
 rename_i p0 p1
 cases h
 simp only [bI] at hlen
 have sz0:(⟨#[115,115,104,45,99,111,110,110,101,99,116,105,111,110]⟩:ByteArray).size=14:=rfl
 refine ⟨rfl,?_⟩
 exact Xs [] [] 32 (v1 pT) <|Xt [El 4 112 ((((((1+4)+p0.size)+4)+(⟨#[115,115,104,45,99,111,110,110,101,99,116,105,111,110]⟩:ByteArray).size)+4)+p1.size)] [0,1] [Mi 112 ((((((1+4)+p0.size)+4)+(⟨#[115,115,104,45,99,111,110,110,101,99,116,105,111,110]⟩:ByteArray).size)+4)+p1.size) (nO p0 p1)] [] 144 (pu (Yf 1) (v1 (pu (pa pT (pa (Yr 1) (lo (1≤1000000000∧p0.size≤1000000000)))) (pu (pa pT (pa (Yr ((1+4)+p0.size)) (lo (((1+4)+p0.size)≤1000000000∧(⟨#[115,115,104,45,99,111,110,110,101,99,116,105,111,110]⟩:ByteArray).size≤1000000000)))) (v1 (pu (pa pT (pa (Yr ((((1+4)+p0.size)+4)+(⟨#[115,115,104,45,99,111,110,110,101,99,116,105,111,110]⟩:ByteArray).size)) (lo (((((1+4)+p0.size)+4)+(⟨#[115,115,104,45,99,111,110,110,101,99,116,105,111,110]⟩:ByteArray).size)≤1000000000∧p1.size≤1000000000)))) (v1 pT))))))) <|Xz [(112,0)] pz
theorem jD (k:Nat) (xs:List Int) (s:ByteArray):(df k xs s).length=xs.length+4+s.size:=by unfold df qo;simp only [List.length_append,ap,List.length_cons,List.length_nil]
theorem tJ (k:Nat) (xs:List Int) (b:Bool):(it k xs b).length=xs.length+1:=by cases b <;> (unfold it;simp only [aD,aA,List.length_append,List.length_cons,List.length_nil])
theorem xh (s:ByteArray):(gq s).length=4+s.size:=by unfold gq nT;simp only [List.length_append,ap,List.length_cons,List.length_nil]
theorem nv (a b:ByteArray):(nA a b).length=bG a b:=by
 unfold nA nO qk bG
 rw [jD,jD,jD]
 rfl
def kj (p0:ByteArray):List Int :=
 (it (bG p0 (⟨#[112,97,115,115,119,111,114,100]⟩:ByteArray)) (nA p0 (⟨#[112,97,115,115,119,111,114,100]⟩:ByteArray)) false)
def iw (p0:ByteArray) (p1:ByteArray):List Int :=
 (df ((bG p0 (⟨#[112,97,115,115,119,111,114,100]⟩:ByteArray))+1) (kj p0) p1)
def ef (p0:ByteArray) (p1:ByteArray):List Int :=
 (iw p0 p1)
def aU (p0:ByteArray) (p1:ByteArray):Nat :=
 (((bG p0 (⟨#[112,97,115,115,119,111,114,100]⟩:ByteArray))+1)+4)+p1.size
def rZ:List AV→List Blk→Option (Prop × Ret)
 |[.sc (.s p0),.sc (.s p1)],[]=>some ((p0.size≤100000∧p1.size≤100000),⟨.sc (.sl 0 0 (aU p0 p1) 1 none),[some (.ints .u8 (aU p0 p1) (ef p0 p1))]⟩)
 |_,_=>none
theorem nJ:Known Tryz.prog gD 11 ⟨0,1,rZ⟩:=by
 refine Xw Tryz.f11 10 (Zc hF 96 [.io,.val] [] [64] <|Zc tr 64 [.io,.val] [] [48] <|Zv FA 48 2 <|Zn) mixed <|fun E args ks C r h hC hlen=>?_
 simp only at h
 unfold rZ at h
 split at h
 rotate_left
 cases h
 rename_i p0 p1
 cases h
 simp only [bI] at hlen
 have sz0:(⟨#[115,115,104,45,99,111,110,110,101,99,116,105,111,110]⟩:ByteArray).size=14:=rfl
 have sz1:(⟨#[112,97,115,115,119,111,114,100]⟩:ByteArray).size=8:=rfl
 refine ⟨rfl,?_⟩
 refine Xs [] [] 32 (v1 pT) <|Xt [El 4 96 ((((bG p0 (⟨#[112,97,115,115,119,111,114,100]⟩:ByteArray))+1)+4)+p1.size)] [0,1] [Mi 96 ((((bG p0 (⟨#[112,97,115,115,119,111,114,100]⟩:ByteArray))+1)+4)+p1.size) (iw p0 p1)] [] 128 (v1 (pu (pa pT (lo (p0.size≤100000∧(⟨#[112,97,115,115,119,111,114,100]⟩:ByteArray).size≤100000))) (pu (pa pT (pa (Yr (bG p0 (⟨#[112,97,115,115,119,111,114,100]⟩:ByteArray))) (pl (show (bG p0 (⟨#[112,97,115,115,119,111,114,100]⟩:ByteArray))≤1000000000 from by (unfold bG;omega))))) (v1 (pu (pa pT (pa (Yr ((bG p0 (⟨#[112,97,115,115,119,111,114,100]⟩:ByteArray))+1)) (pl (show ((bG p0 (⟨#[112,97,115,115,119,111,114,100]⟩:ByteArray))+1)≤1000000000∧p1.size≤1000000000 from by (unfold bG;omega))))) (v1 pT)))))) ?_
 exact Xz [(96,0)] pz
def wD:List Int :=
 (wF 1 [51] ([(⟨#[112,117,98,108,105,99,107,101,121]⟩:ByteArray),(⟨#[112,97,115,115,119,111,114,100]⟩:ByteArray)]))
def pi:List Int :=
 (it (fo 1 [51] ([(⟨#[112,117,98,108,105,99,107,101,121]⟩:ByteArray),(⟨#[112,97,115,115,119,111,114,100]⟩:ByteArray)])) (wD) false)
def iL:List Int :=
 (pi)
def dM:Nat :=
 (fo 1 [51] ([(⟨#[112,117,98,108,105,99,107,101,121]⟩:ByteArray),(⟨#[112,97,115,115,119,111,114,100]⟩:ByteArray)]))+1
def tD:List AV→List Blk→Option (Prop × Ret)
 |[],[]=>some (True,⟨.sc (.sl 0 0 (dM) 1 none),[some (.ints .u8 (dM) (iL))]⟩)
 |_,_=>none
theorem sf:Known Tryz.prog gD 46 ⟨0,1,tD⟩:=by
 refine Xw Tryz.f46 5 (Zc tr 80 [.io,.val] [] [64] <|Zc Dx 64 [.io,.ros] [48] [32] <|Zn) mixed <|fun E args ks C r h hC hlen=>?_
 simp only at h
 unfold tD at h
 split at h
 rotate_left
 cases h
 cases h
 simp only [bI] at hlen
 refine ⟨rfl,?_⟩
 exact Xs [] [] 32 (v1 pT) <|Xt [El 0 80 ((fo 1 [51] ([(⟨#[112,117,98,108,105,99,107,101,121]⟩:ByteArray),(⟨#[112,97,115,115,119,111,114,100]⟩:ByteArray)]))+1)] [] [Mi 80 ((fo 1 [51] ([(⟨#[112,117,98,108,105,99,107,101,121]⟩:ByteArray),(⟨#[112,97,115,115,119,111,114,100]⟩:ByteArray)]))+1) (pi)] [] 112 (pu (Yf 1) (pu (Yf 2) (pu (pa (pa (ld (0+2≤2)) pT) (pa (Yr 1) (lo (1≤1000000000∧([(⟨#[112,117,98,108,105,99,107,101,121]⟩:ByteArray),(⟨#[112,97,115,115,119,111,114,100]⟩:ByteArray)]).length≤1000000000∧(lL ([(⟨#[112,117,98,108,105,99,107,101,121]⟩:ByteArray),(⟨#[112,97,115,115,119,111,114,100]⟩:ByteArray)]) (⟨#[44]⟩:ByteArray)).size≤1000000000)))) (pu (pa pT (pa (Yr (fo 1 [51] ([(⟨#[112,117,98,108,105,99,107,101,121]⟩:ByteArray),(⟨#[112,97,115,115,119,111,114,100]⟩:ByteArray)]))) (Ye (fo 1 [51] ([(⟨#[112,117,98,108,105,99,107,101,121]⟩:ByteArray),(⟨#[112,97,115,115,119,111,114,100]⟩:ByteArray)])) 1000000000))) (v1 pT))))) <|Xz [(80,0)] pz
def ko (p1:ByteArray):List Int :=
 (nA p1 (⟨#[112,117,98,108,105,99,107,101,121]⟩:ByteArray))
def nI (p0:List Int) (p1:ByteArray):List Int :=
 (it ((4+(bytesOf p0).size)+(bG p1 (⟨#[112,117,98,108,105,99,107,101,121]⟩:ByteArray))) ((gq (bytesOf p0))++(aH (ko p1) (bG p1 (⟨#[112,117,98,108,105,99,107,101,121]⟩:ByteArray)) 0 (bG p1 (⟨#[112,117,98,108,105,99,107,101,121]⟩:ByteArray)))) true)
def mo (p0:List Int) (p1:ByteArray):List Int :=
 (df (((4+(bytesOf p0).size)+(bG p1 (⟨#[112,117,98,108,105,99,107,101,121]⟩:ByteArray)))+1) (nI p0 p1) (⟨#[115,115,104,45,101,100,50,53,53,49,57]⟩:ByteArray))
def kt (p0:List Int) (p1:ByteArray) (p2:ByteArray):List Int :=
 (df (((((4+(bytesOf p0).size)+(bG p1 (⟨#[112,117,98,108,105,99,107,101,121]⟩:ByteArray)))+1)+4)+(⟨#[115,115,104,45,101,100,50,53,53,49,57]⟩:ByteArray).size) (mo p0 p1) p2)
def jO (p0:List Int) (p1:ByteArray) (p2:ByteArray):List Int :=
 (kt p0 p1 p2)
def dv (p0:List Int) (p1:ByteArray) (p2:ByteArray):Nat :=
 ((((((4+(bytesOf p0).size)+(bG p1 (⟨#[112,117,98,108,105,99,107,101,121]⟩:ByteArray)))+1)+4)+(⟨#[115,115,104,45,101,100,50,53,53,49,57]⟩:ByteArray).size)+4)+p2.size
def vR:List AV→List Blk→Option (Prop × Ret)
 |[.sc (.ro .u8 p0),.sc (.s p1),.sc (.s p2)],[]=>some ((p0.length≤20000∧p1.size≤20000∧p2.size≤20000),⟨.sc (.sl 0 0 (dv p0 p1 p2) 1 none),[some (.ints .u8 (dv p0 p1 p2) (jO p0 p1 p2))]⟩)
 |_,_=>none
theorem Cm:Known Tryz.prog gD 31 ⟨0,1,vR⟩:=by
 refine Xw Tryz.f31 20 (Zv BV 64 2 <|Zc hF 208 [.io,.val] [] [192] <|Zc hF 240 [.io,.val] [] [208] <|Zc tr 192 [.io,.val] [] [144] <|Zv FA 128 2 <|Zn) mixed <|fun E args ks C r h hC hlen=>?_
 simp only at h
 unfold vR at h
 split at h
 rotate_left
 cases h
 rename_i p0 p1 p2
 cases h
 simp only [bI] at hlen
 have sz0:(⟨#[115,115,104,45,99,111,110,110,101,99,116,105,111,110]⟩:ByteArray).size=14:=rfl
 have sz1:(⟨#[112,117,98,108,105,99,107,101,121]⟩:ByteArray).size=9:=rfl
 have sz2:(⟨#[115,115,104,45,101,100,50,53,53,49,57]⟩:ByteArray).size=11:=rfl
 refine ⟨rfl,?_⟩
 refine Xs [] [] 32 (v1 pT) <|Xt [El 7 64 (4+(bytesOf p0).size)] [0] [Mi 64 (4+(bytesOf p0).size) (gq (bytesOf p0))] [] 96 (v2 (pu (pa pT (pl (show (bytesOf p0).size≤1000000000 from by (rw [cF];omega)))) (v1 pT))) ?_
 refine Tri.len 64 rfl <|fun hl1=>Xt [El 7 144 ((4+(bytesOf p0).size)+(bG p1 (⟨#[112,117,98,108,105,99,107,101,121]⟩:ByteArray)))] [7,1] [Mi 144 ((4+(bytesOf p0).size)+(bG p1 (⟨#[112,117,98,108,105,99,107,101,121]⟩:ByteArray))) ((gq (bytesOf p0))++(aH (ko p1) (bG p1 (⟨#[112,117,98,108,105,99,107,101,121]⟩:ByteArray)) 0 (bG p1 (⟨#[112,117,98,108,105,99,107,101,121]⟩:ByteArray))))] [64] 176 (v2 (pu (pa pT (lo (p1.size≤100000∧(⟨#[112,117,98,108,105,99,107,101,121]⟩:ByteArray).size≤100000))) (pu (pa (pa (pa (pa (Yw (bG p1 (⟨#[112,117,98,108,105,99,107,101,121]⟩:ByteArray))) (Yr 1)) (pa (Yl 0 1) (pa (pl (show ((4+(bytesOf p0).size)+(bG p1 (⟨#[112,117,98,108,105,99,107,101,121]⟩:ByteArray)))*1≤140737488355328 from by (simp only [cF];unfold bG;omega))) (pl (show (4+(bytesOf p0).size)+(bG p1 (⟨#[112,117,98,108,105,99,107,101,121]⟩:ByteArray))≤140737488355328 from by (simp only [cF];unfold bG;omega)))))) (lo ((bG p1 (⟨#[112,117,98,108,105,99,107,101,121]⟩:ByteArray))=(bG p1 (⟨#[112,117,98,108,105,99,107,101,121]⟩:ByteArray))*1))) (pa (Yr 1) (lo (0+(4+(bytesOf p0).size)*1=4+(bytesOf p0).size)))) (v1 pT)))) ?_
 refine Xt [El 6 240 (((((((4+(bytesOf p0).size)+(bG p1 (⟨#[112,117,98,108,105,99,107,101,121]⟩:ByteArray)))+1)+4)+(⟨#[115,115,104,45,101,100,50,53,53,49,57]⟩:ByteArray).size)+4)+p2.size)] [7,2] [Mi 240 (((((((4+(bytesOf p0).size)+(bG p1 (⟨#[112,117,98,108,105,99,107,101,121]⟩:ByteArray)))+1)+4)+(⟨#[115,115,104,45,101,100,50,53,53,49,57]⟩:ByteArray).size)+4)+p2.size) (kt p0 p1 p2)] [144] 272 (v1 (pu (pa pT (pa (Yr ((4+(bytesOf p0).size)+(bG p1 (⟨#[112,117,98,108,105,99,107,101,121]⟩:ByteArray)))) (pl (show ((4+(bytesOf p0).size)+(bG p1 (⟨#[112,117,98,108,105,99,107,101,121]⟩:ByteArray)))≤1000000000 from by (simp only [cF];unfold bG;omega))))) (pu (pa pT (pa (Yr (((4+(bytesOf p0).size)+(bG p1 (⟨#[112,117,98,108,105,99,107,101,121]⟩:ByteArray)))+1)) (pl (show (((4+(bytesOf p0).size)+(bG p1 (⟨#[112,117,98,108,105,99,107,101,121]⟩:ByteArray)))+1)≤1000000000∧(⟨#[115,115,104,45,101,100,50,53,53,49,57]⟩:ByteArray).size≤1000000000 from by (simp only [cF];unfold bG;omega))))) (v1 (pu (pa pT (pa (Yr (((((4+(bytesOf p0).size)+(bG p1 (⟨#[112,117,98,108,105,99,107,101,121]⟩:ByteArray)))+1)+4)+(⟨#[115,115,104,45,101,100,50,53,53,49,57]⟩:ByteArray).size)) (pl (show (((((4+(bytesOf p0).size)+(bG p1 (⟨#[112,117,98,108,105,99,107,101,121]⟩:ByteArray)))+1)+4)+(⟨#[115,115,104,45,101,100,50,53,53,49,57]⟩:ByteArray).size)≤1000000000∧p2.size≤1000000000 from by (simp only [cF];unfold bG;omega))))) (v1 pT)))))) ?_
 exact Xz [(240,0)] pz
theorem AW (p0:List Int) (p1 p2:ByteArray):dv p0 p1 p2≤p0.length+p1.size+p2.size+200:=by
 have sz0:(⟨#[115,115,104,45,99,111,110,110,101,99,116,105,111,110]⟩:ByteArray).size=14:=rfl;have sz1:(⟨#[112,117,98,108,105,99,107,101,121]⟩:ByteArray).size=9:=rfl;have sz2:(⟨#[115,115,104,45,101,100,50,53,53,49,57]⟩:ByteArray).size=11:=rfl
 unfold dv
 try unfold bG
 simp only [cF]
 omega
theorem rA (p0:List Int) (p1 p2:ByteArray):(jO p0 p1 p2).length=dv p0 p1 p2:=by
 unfold jO kt mo nI ko dv
 rw [jD,jD,tJ,List.length_append,xh,bJ (nv _ _),nv]
end Go.Vm
namespace Go.Vm
open Go Go.Proofs
def uF (p0:List Int) (p1:List Int) (k0:Nat) (z0:Int):Int :=
 (iOr .i64 z0 (IntKind.wrap .i64 (bM .u8 (p0.getD k0 0) (p1.getD k0 0))))
def FL (p0:List Int) (p1:List Int):Bool :=
 (((itr (uF p0 p1) (min p0.length p1.length) (bM .i64 ((p0.length:Nat):Int) ((p1.length:Nat):Int))):Int)==0)
def KB:List AV→List Blk→Option (Prop × Ret)
 |[.sc (.ro .u8 p0),.sc (.ro .u8 p1)],[]=>some ((p0.length≤100000),⟨.sc (.b (FL p0 p1)),[]⟩)
 |_,_=>none
theorem MI:Known Tryz.prog gD 79 ⟨0,0,KB⟩:=by
 refine Xw Tryz.f79 35 Zn mixed <|fun E args ks C r h hC hlen=>?_
 simp only at h
 unfold KB at h
 split at h
 rotate_left
 cases h
 rename_i p0 p1
 cases h
 simp only [bI] at hlen
 refine ⟨rfl,?_⟩
 refine Xs [] [] 32 (v1 pT) <|Xs [Ei 5 (bM .i64 ((p0.length:Nat):Int) ((p1.length:Nat):Int))] [] 128 (v6 pT) <|Tri.seq <|Xu [Ej 16 (min p0.length p1.length)] none [Ei 17 0,Ej 16 (min p0.length p1.length)] [] [] [] 224 (v4 (pv pT (pl (show (sF ((p0.length:Nat):Int) ((p1.length:Nat):Int))=((min p0.length p1.length:Nat):Int) from DM p0.length p1.length)) (v1 pT))) <|Tri.block <|Xc (min p0.length p1.length) (uF p0 p1) (bM .i64 ((p0.length:Nat):Int) ((p1.length:Nat):Int)) (fun k0 z0=>True) (fun k0 z0=>[Ej 17 k0,Ei 5 z0]) (fun k0 z0=>[]) trivial <|fun k0 z0 hk0 hz0 hJ0=>Xs [Eb 18 (decide ((((k0:Nat):Int):Int)<((min p0.length p1.length:Nat):Int)))] [] 240 (v1 pT) <|Tri.seq <|Xb (fun h1 h1'=>?_) (fun h1 h1'=>?_)
 exact Tri.skip <|Tri.seq <|Tri.block <|Xs [Ej 6 k0] [18] 272 (v2 pT) <|Wu [] (some [0,0,0,6,14,0,0,96,224,510,1022,2047,4095]) [Ei 5 (iOr .i64 z0 (IntKind.wrap .i64 (bM .u8 (p0.getD k0 0) (p1.getD k0 0))))] [6,5] [] [] 480 (v3 (pu (Yj k0 p0.length) (pu (Yl k0 p0.length) (v2 (pu (Yj k0 p1.length) (pu (Yl k0 p1.length) (v4 pT))))))) <|Wu [Ej 32 (k0+1)] none [Ej 17 (k0+1)] [17] [] [] 512 (pv pT (Yp k0 1) (v1 pT)) <|Xo [] trivial
 refine Tri.exit <|?_
 obtain rfl:k0=(min p0.length p1.length):=(by omega);subst hz0
 exact Xs [Eb 4 (((itr (uF p0 p1) (min p0.length p1.length) (bM .i64 ((p0.length:Nat):Int) ((p1.length:Nat):Int))):Int)==0)] [18,17,16,5,0,1] 288 (v3 pT) <|Xz [] pz
theorem rf (p:List Int) (b:Bool) (n:Int):(ct p b n).length+(dg p b n).length≤p.length:=by
 unfold ct dg
 cases b
 ·rw [aA,aA]
  cases decide ((n:Int)>((p.length:Nat):Int))
  ·rw [aA,aA,List.length_take,List.length_take,List.length_drop,List.length_drop];omega
  ·rw [aD,aD];exact Nat.zero_le _
 ·rw [aD,aD];exact Nat.zero_le _
theorem kD (p:List Int) (b:Bool):(aj p b).size+(au p b).length≤p.length:=by
 have h1:=rf p b 4
 have h2:=fun n=>rf (eZ p b) (fO p b) n
 have h3:(eZ p b).length≤p.length:=by unfold eZ;omega
 unfold aj au
 cases decide (((gK p b):Int)>16384)
 ·rw [aA,aA,cF];have:=h2 (IntKind.wrap .i64 (gK p b));omega
 ·rw [aD,aD];have:=h2 1073741824;show 0+_≤_;omega
theorem tK (p:List Int) (b:Bool):(bU p b).length≤p.length:=by
 unfold bU bO gc
 cases b
 ·rw [aA]
  cases decide ((1:Int)>((p.length:Nat):Int))
  ·rw [aA,List.length_take,List.length_drop];omega
  ·rw [aD];exact Nat.zero_le _
 ·rw [aD];exact Nat.zero_le _
def qJ (p5:List Int) (p6:Bool) (p7:ByteArray):Bool :=
 (FL (aH (aR (aj (bU p5 p6) (bf p5 p6))) ((aj (bU p5 p6) (bf p5 p6)).size) 0 ((aj (bU p5 p6) (bf p5 p6)).size)) (aH (aR (cb p7)) ((cb p7).size) 0 ((cb p7).size)))
def oI (p5:List Int) (p6:Bool):Bool :=
 (fj (au (bU p5 p6) (bf p5 p6)) (bA (bU p5 p6) (bf p5 p6)))
def bw (p5:List Int) (p6:Bool):ByteArray :=
 (aj (au (bU p5 p6) (bf p5 p6)) (bA (bU p5 p6) (bf p5 p6)))
def bK (p5:List Int) (p6:Bool):List Int :=
 (au (au (bU p5 p6) (bf p5 p6)) (bA (bU p5 p6) (bf p5 p6)))
def bL (p5:List Int) (p6:Bool):Bool :=
 (bA (au (bU p5 p6) (bf p5 p6)) (bA (bU p5 p6) (bf p5 p6)))
def iB (p5:List Int) (p6:Bool):Bool :=
 (fj (au (bK p5 p6) (bL p5 p6)) (bA (bK p5 p6) (bL p5 p6)))
def tp (p10:Nat) (p0:List Int) (p5:List Int) (p6:Bool) (p7:ByteArray):Bool :=
 (rm (aH (aR (bg (bw p5 p6))) ((bg (bw p5 p6)).size) 0 ((bg (bw p5 p6)).size)) (aH (jO (aH p0 p10 0 p10) p7 (bw p5 p6)) (dv (aH p0 p10 0 p10) p7 (bw p5 p6)) 0 (dv (aH p0 p10 0 p10) p7 (bw p5 p6))) (aH (dK (aj (bK p5 p6) (bL p5 p6))) ((bH (aj (bK p5 p6) (bL p5 p6))).size) 0 ((bH (aj (bK p5 p6) (bL p5 p6))).size)))
def gU (p10:Nat) (p0:List Int) (p5:List Int) (p6:Bool) (p7:ByteArray) (p8:ByteArray):Bool :=
 (sel (aC p8 (⟨#[110,111,110,101]⟩:ByteArray)) false (sel (aC p8 (⟨#[112,97,115,115,119,111,114,100]⟩:ByteArray)) (sel (!(aC (cb p7) (⟨#[]⟩:ByteArray))) (qJ p5 p6 p7) false) (sel (aC p8 (⟨#[112,117,98,108,105,99,107,101,121]⟩:ByteArray)) (sel (aC (aj (bU p5 p6) (bf p5 p6)) (⟨#[115,115,104,45,101,100,50,53,53,49,57]⟩:ByteArray)) (sel (!(aC (bg (bw p5 p6)) (⟨#[]⟩:ByteArray))) (sel (!(fv p5 p6)) false (sel (jw (aj (bK p5 p6) (bL p5 p6))) false (sel (aC (bg (bw p5 p6)) (cP p7)) (tp p10 p0 p5 p6 p7) false))) false) false) false)))
def dW (p5:List Int) (p6:Bool) (p7:ByteArray) (p8:ByteArray):ByteArray :=
 (sel (aC p8 (⟨#[110,111,110,101]⟩:ByteArray)) (⟨#[]⟩:ByteArray) (sel (aC p8 (⟨#[112,97,115,115,119,111,114,100]⟩:ByteArray)) (⟨#[]⟩:ByteArray) (sel (aC p8 (⟨#[112,117,98,108,105,99,107,101,121]⟩:ByteArray)) (sel (aC (aj (bU p5 p6) (bf p5 p6)) (⟨#[115,115,104,45,101,100,50,53,53,49,57]⟩:ByteArray)) (sel (!(aC (bg (bw p5 p6)) (⟨#[]⟩:ByteArray))) (sel (!(fv p5 p6)) (sel (aC (bg (bw p5 p6)) (cP p7)) (bw p5 p6) (⟨#[]⟩:ByteArray)) (⟨#[]⟩:ByteArray)) (⟨#[]⟩:ByteArray)) (⟨#[]⟩:ByteArray)) (⟨#[]⟩:ByteArray))))
def dV (p5:List Int) (p6:Bool) (p8:ByteArray):Bool :=
 (sel (aC p8 (⟨#[110,111,110,101]⟩:ByteArray)) (fj p5 p6) (sel (aC p8 (⟨#[112,97,115,115,119,111,114,100]⟩:ByteArray)) (sel (oI p5 p6) (!(fv p5 p6)) false) (sel (aC p8 (⟨#[112,117,98,108,105,99,107,101,121]⟩:ByteArray)) (sel (!(fv p5 p6)) (fj (bK p5 p6) (bL p5 p6)) (iB p5 p6)) (Bn p5 p6))))
def eS (p5:List Int) (p6:Bool) (p8:ByteArray):List Int :=
 (sel (aC p8 (⟨#[110,111,110,101]⟩:ByteArray)) p5 (sel (aC p8 (⟨#[112,97,115,115,119,111,114,100]⟩:ByteArray)) (au (bU p5 p6) (bf p5 p6)) (sel (aC p8 (⟨#[112,117,98,108,105,99,107,101,121]⟩:ByteArray)) (sel (!(fv p5 p6)) (bK p5 p6) (au (bK p5 p6) (bL p5 p6))) p5)))
def eO (p5:List Int) (p6:Bool) (p8:ByteArray):Bool :=
 (sel (aC p8 (⟨#[110,111,110,101]⟩:ByteArray)) p6 (sel (aC p8 (⟨#[112,97,115,115,119,111,114,100]⟩:ByteArray)) (bA (bU p5 p6) (bf p5 p6)) (sel (aC p8 (⟨#[112,117,98,108,105,99,107,101,121]⟩:ByteArray)) (sel (!(fv p5 p6)) (bL p5 p6) (bA (bK p5 p6) (bL p5 p6))) p6)))
theorem DJ (p5:List Int) (p6:Bool):(bw p5 p6).size≤p5.length:=by
 have h1:=tK p5 p6
 have h2:=kD (bU p5 p6) (bf p5 p6)
 have h3:=kD (au (bU p5 p6) (bf p5 p6)) (bA (bU p5 p6) (bf p5 p6))
 unfold bw
 omega
theorem rC {p0:List Int} {n:Nat} {a b:ByteArray} (h:p0.length=n):dv (aH p0 n 0 n) a b≤n+a.size+b.size+200:=by
 rw [bJ h]
 have:=AW p0 a b
 omega
theorem we {s:ByteArray} {n:Nat} (h:s.size≤n):(aH (aR s) s.size 0 s.size).length≤n:=by rw [bJ (ap s),ap];exact h
def Hf:List AV→List Blk→Option (Prop × Ret)
 |[.sc (.p 0 0),.sc (.p 3 0),.sc (.s p7),.sc (.s p8)],[.cells [.sl 1 0 4 4 none,.sl 2 0 p10 1 none,.i .i64 p1,.b p2,.s p3,.b p4],.cells p9,.ints .u8 p11 p0,.cells [.ro .u8 p5,.b p6]]=>some (((p10=p11)∧((UA=p9)∧(p5.length+p7.size≤6000∧p10≤1000))),⟨.tup [.sc (.b (gU p10 p0 p5 p6 p7 p8)),.sc (.s (dW p5 p6 p7 p8)),.sc (.b (dV p5 p6 p8))],[some (.cells [.sl 1 0 4 4 none,.sl 2 0 p10 1 none,.i .i64 p1,.b p2,.s p3,.b p4]),some (.cells UA),some (.ints .u8 p10 p0),some (.cells [.ro .u8 (eS p5 p6 p8),.b (eO p5 p6 p8)])]⟩)
 |_,_=>none
def LX:KL Tryz.prog gD:=Zc Cm 1408 [.ro .u8,.val,.val] [2] [] <|Zc gC 272 [.io] [] [3] <|Zc gC 304 [.io] [] [3] <|Zc gC 336 [.io] [] [3] <|Zc gC 704 [.io] [] [3] <|Zc gC 1136 [.io] [] [3] <|Zc gC 1568 [.io] [] [3] <|Zc gC 2000 [.io] [] [3] <|Zc lI 208 [.io] [] [3] <|Zc lI 512 [.io] [] [3] <|Zc lI 736 [.io] [] [3] <|Zc lI 768 [.io] [] [3] <|Zc lI 1056 [.io] [] [3] <|Zc lI 1488 [.io] [] [3] <|Zc lI 1920 [.io] [] [3] <|Zc lI 2352 [.io] [] [3] <|Zc LN 272 [.io] [] [3] <|Zc Iu 96 [.io,.val] [] [0,1,2] <|Zc EU 240 [.io] [] [3] <|Zc EU 272 [.io] [] [3] <|Zc MI 464 [.ro .u8,.ro .u8] [400,448] [] <|Zv yc 416 1 <|Zv wN 720 1 <|Zv lh 1152 1 <|Zv lh 1584 1 <|Zv lh 2016 1 <|Zc Lo 1440 [.ro .u8,.ro .u8,.ro .u8] [1296,1408,1152] [] <|Zn
theorem Jj:Known Tryz.prog gD 45 ⟨4,0,Hf⟩:=by
 refine Xw Tryz.f45 105 LX mixed <|fun E args ks C r h hC hlen=>?_
 simp only at h
 unfold Hf at h
 split at h
 rotate_left
 cases h
 rename_i p7 p8 p10 p1 p2 p3 p4 p9 p11 p0 p5 p6
 cases h
 simp only [bI] at hlen
 obtain ⟨hEp11,hC⟩:=hC
 obtain ⟨hEp9,hC⟩:=hC
 subst hEp11
 subst hEp9
 have hb:=DJ p5 p6
 refine ⟨rfl,?_⟩
 refine Xs [Es 9 (⟨#[]⟩:ByteArray)] [] 64 (v3 pT) <|Xt [Ep 11 112] [] [Mc 112 [.s (nG p7),.s (cb p7),.s (cP p7),.nils],Mi 2 p10 p0,Mc 1 UA] [1,2] 144 (v2 (pu (pa pT (pa (Yr p10) (pa (Yr UA) pT))) (v1 (pu (pa (Yw 4) (Yr 4)) pT)))) <|Tri.seq <|Xs [Es 23 p8] [3] 160 (v1 pT) <|Tri.block <|Xs [Eb 24 (aC p8 (⟨#[110,111,110,101]⟩:ByteArray))] [] 192 (v2 pT) <|Xa (fun h1=>?_) (fun h1=>?_)
 exact Xt [Eb 10 (fj p5 p6),Es 9 (⟨#[]⟩:ByteArray),Eb 8 false] [24,23,11,9,0,1,2] [Mc 3 [.ro .u8 p5,.b p6]] [112,3] 272 (v1 (pu pz (v3 pT))) <|Xy [(0,0),(1,1),(2,2),(3,3)] (pa pT (pa pT pz)) (by simp only [gU,dW,dV,eS,eO,h1,aD,aA] <;> rfl)
 refine Xs [Eb 28 (aC p8 (⟨#[112,97,115,115,119,111,114,100]⟩:ByteArray))] [24] 224 (v2 pT) <|Xa (fun h2=>?_) (fun h2=>?_)
 refine Xt [Es 13 (aj (bU p5 p6) (bf p5 p6)),Eb 12 (fv p5 p6)] [28,23,9,0,2] [Mc 3 [.ro .u8 (au (bU p5 p6) (bf p5 p6)),.b (bA (bU p5 p6) (bf p5 p6))]] [3] 320 (v1 (pu pz (v1 (pu pz (v2 pT))))) <|Tri.split (!(aC (cb p7) (⟨#[]⟩:ByteArray))) (fun h3=>?_) (fun h3=>?_)
 refine Tri.split (oI p5 p6) (fun h4=>?_) (fun h4=>?_)
 exact Tri.len 2 rfl <|fun hl5=>Xu [Eb 37 true,Eb 47 true] none [Eb 10 (!(fv p5 p6)),Es 9 (⟨#[]⟩:ByteArray),Eb 8 (qJ p5 p6 p7)] [13,12,11,1] [] [112] 640 (v1 (pu (Yl 1 4) (v1 (pg h3 (v3 (pu (Yl 1 4) (v1 (pu (pa (pa (Yw ((aj (bU p5 p6) (bf p5 p6)).size)) (pa (Yw ((cb p7).size)) pT)) (pl (show (aH (aR (aj (bU p5 p6) (bf p5 p6))) ((aj (bU p5 p6) (bf p5 p6)).size) 0 ((aj (bU p5 p6) (bf p5 p6)).size)).length≤100000 from we (Nat.le_trans (dJ _ _) (by decide))))) (v2 (pu pz (pg h4 (v6 pT)))))))))))) <|Xy [(0,0),(1,1),(2,2),(3,3)] (pa pT (pa pT pz)) (by simp only [gU,dW,dV,eS,eO,h1,h2,h3,h4,aD,aA] <;> rfl)
 exact Tri.len 2 rfl <|fun hl6=>Xu [Eb 37 true,Eb 47 false] none [Eb 10 false,Es 9 (⟨#[]⟩:ByteArray),Eb 8 (qJ p5 p6 p7)] [13,12,11,1] [] [112] 640 (v1 (pu (Yl 1 4) (v1 (pg h3 (v3 (pu (Yl 1 4) (v1 (pu (pa (pa (Yw ((aj (bU p5 p6) (bf p5 p6)).size)) (pa (Yw ((cb p7).size)) pT)) (pl (show (aH (aR (aj (bU p5 p6) (bf p5 p6))) ((aj (bU p5 p6) (bf p5 p6)).size) 0 ((aj (bU p5 p6) (bf p5 p6)).size)).length≤100000 from we (Nat.le_trans (dJ _ _) (by decide))))) (v2 (pu pz (pg h4 (v6 pT)))))))))))) <|Xy [(0,0),(1,1),(2,2),(3,3)] (pa pT (pa pT pz)) (by simp only [gU,dW,dV,eS,eO,h1,h2,h3,h4,aD,aA] <;> rfl)
 refine Tri.split (oI p5 p6) (fun h7=>?_) (fun h7=>?_)
 exact Xu [Eb 37 false,Eb 47 true] none [Eb 10 (!(fv p5 p6)),Es 9 (⟨#[]⟩:ByteArray),Eb 8 false] [13,12,11,1] [] [112] 640 (v1 (pu (Yl 1 4) (v1 (pg h3 (v8 (pu pz (pg h7 (v6 pT)))))))) <|Xy [(0,0),(1,1),(2,2),(3,3)] (pa pT (pa pT pz)) (by simp only [gU,dW,dV,eS,eO,h1,h2,h3,h7,aD,aA] <;> rfl)
 exact Xu [Eb 37 false,Eb 47 false] none [Eb 10 false,Es 9 (⟨#[]⟩:ByteArray),Eb 8 false] [13,12,11,1] [] [112] 640 (v1 (pu (Yl 1 4) (v1 (pg h3 (v8 (pu pz (pg h7 (v6 pT)))))))) <|Xy [(0,0),(1,1),(2,2),(3,3)] (pa pT (pa pT pz)) (by simp only [gU,dW,dV,eS,eO,h1,h2,h3,h7,aD,aA] <;> rfl)
 refine Xs [Eb 51 (aC p8 (⟨#[112,117,98,108,105,99,107,101,121]⟩:ByteArray))] [28,23] 256 (v2 pT) <|Xa (fun h8=>?_) (fun h8=>?_)
 refine Xt [Es 16 (bw p5 p6),Es 15 (aj (bU p5 p6) (bf p5 p6)),Eb 14 (fv p5 p6)] [51] [Mc 3 [.ro .u8 (bK p5 p6),.b (bL p5 p6)]] [3] 400 (v1 (pu pz (v1 (pu pz (v1 (pu pz (v3 pT))))))) <|Xs [Es 17 (bg (bw p5 p6))] [] 448 (v1 (pu (pa pT (Ye ((bw p5 p6).size) 1000000000)) (v1 pT))) <|Tri.split (aC (aj (bU p5 p6) (bf p5 p6)) (⟨#[115,115,104,45,101,100,50,53,53,49,57]⟩:ByteArray)) (fun h9=>?_) (fun h9=>?_)
 refine Tri.split (!(aC (bg (bw p5 p6)) (⟨#[]⟩:ByteArray))) (fun h10=>?_) (fun h10=>?_)
 refine Xu [Eb 63 true,Eb 67 true] none [Eb 18 (aC (bg (bw p5 p6)) (cP p7))] [15,11] [] [112] 656 (v2 (pg h9 (v3 (pg h10 (v2 (pu (Yl 2 4) (v3 pT))))))) <|Tri.seq <|Xs [Eb 74 (!(fv p5 p6))] [14] 688 (v2 pT) <|Xa (fun h11=>?_) (fun h11=>?_)
 refine Tri.seq <|Xs [Eb 75 (aC (bg (bw p5 p6)) (cP p7))] [74,18,17,0,2] 704 (v1 pT) <|Xj (x:=(aC (bg (bw p5 p6)) (cP p7))) (fun bb=>[Es 9 (sel bb (bw p5 p6) (⟨#[]⟩:ByteArray))]) [75,16,9] (fun bb=>[]) [] 736 (fun h12=>?_) (fun h12=>?_) ?_
 exact Ws [Es 9 (bw p5 p6)] [75,16,9] 736 (v2 pT) <|Xe [Es 9 (bw p5 p6)] []
 exact Tri.skip <|Xe [Es 9 (⟨#[]⟩:ByteArray)] []
 exact Xs [Eb 10 (fj (bK p5 p6) (bL p5 p6)),Es 9 (sel (aC (bg (bw p5 p6)) (cP p7)) (bw p5 p6) (⟨#[]⟩:ByteArray)),Eb 8 false] [9,1] 832 (v2 (pu pz (v3 pT))) <|Xy [(0,0),(1,1),(2,2),(3,3)] (pa pT (pa pT pz)) (by simp only [gU,dW,dV,eS,eO,h1,h2,h8,h9,h10,h11,aD,aA] <;> rfl)
 refine Tri.skip <|Tri.split (jw (aj (bK p5 p6) (bL p5 p6))) (fun h13=>?_) (fun h13=>?_)
 refine Xt [(19,.sc (.nils))] [74,9] [Mc 3 [.ro .u8 (au (bK p5 p6) (bL p5 p6)),.b (bA (bK p5 p6) (bL p5 p6))]] [3] 752 (v1 (pu pz (pu (pa pT (pa (pl h13) (pl (show (aj (bK p5 p6) (bL p5 p6)).size≤1000000000 from Nat.le_trans (dJ _ _) (by decide))))) (v1 pT)))) <|Tri.split (aC (bg (bw p5 p6)) (cP p7)) (fun h14=>?_) (fun h14=>?_)
 exact Xu [Eb 84 true] none [Eb 10 (iB p5 p6),Es 9 (⟨#[]⟩:ByteArray),Eb 8 false] [19,18,17,16,0,1,2] [] [] 1120 (v1 (pg h14 (v8 (v9 (pu pz (v3 pT)))))) <|Xy [(0,0),(1,1),(2,2),(3,3)] (pa pT (pa pT pz)) (by simp only [gU,dW,dV,eS,eO,h1,h2,h8,h9,h10,h11,h13,h14,aD,aA] <;> rfl)
 exact Xu [Eb 84 false] none [Eb 10 (iB p5 p6),Es 9 (⟨#[]⟩:ByteArray),Eb 8 false] [19,18,17,16,0,1,2] [] [] 1120 (v1 (pg h14 (v8 (v9 (pu pz (v3 pT)))))) <|Xy [(0,0),(1,1),(2,2),(3,3)] (pa pT (pa pT pz)) (by simp only [gU,dW,dV,eS,eO,h1,h2,h8,h9,h10,h11,h13,h14,aD,aA] <;> rfl)
 refine Tri.sub (Sub.up (U':=1120) (by decide)) <|Xt [El 19 1152 ((bH (aj (bK p5 p6) (bL p5 p6))).size)] [74,9] [Mi 1152 ((bH (aj (bK p5 p6) (bL p5 p6))).size) (dK (aj (bK p5 p6) (bL p5 p6))),Mc 3 [.ro .u8 (au (bK p5 p6) (bL p5 p6)),.b (bA (bK p5 p6) (bL p5 p6))]] [3] 1184 (v1 (pu pz (pu (pa pT (pa (pl h13) (pl (show (aj (bK p5 p6) (bL p5 p6)).size≤1000000000 from Nat.le_trans (dJ _ _) (by decide))))) (v1 pT)))) <|Tri.split (aC (bg (bw p5 p6)) (cP p7)) (fun h15=>?_) (fun h15=>?_)
 exact Tri.len 1152 rfl <|fun hl16=>Tri.len 2 rfl <|fun hl17=>Xu [Eb 84 true] none [Eb 10 (iB p5 p6),Es 9 (⟨#[]⟩:ByteArray),Eb 8 (tp p10 p0 p5 p6 p7)] [19,18,17,16,0,1,2] [] [1152] 1552 (v1 (pg h15 (v1 (pu (pl (show 0<(bH (aj (bK p5 p6) (bL p5 p6))).size from GE (by assumption))) (v7 (pu (Yl 1 6) (v2 (pu (pa (pa (Yw p10) pT) (pl (show (aH p0 p10 0 p10).length≤20000∧p7.size≤20000∧(bw p5 p6).size≤20000 from ⟨bV (by omega) (by omega),by omega,by omega⟩))) (v1 (pu (pa (pa (Yw ((bg (bw p5 p6)).size)) (pa (Yw (dv (aH p0 p10 0 p10) p7 (bw p5 p6))) (pa (Yw ((bH (aj (bK p5 p6) (bL p5 p6))).size)) pT))) (pl (show (aH (jO (aH p0 p10 0 p10) p7 (bw p5 p6)) (dv (aH p0 p10 0 p10) p7 (bw p5 p6)) 0 (dv (aH p0 p10 0 p10) p7 (bw p5 p6))).length≤10000 from bV (Nat.le_trans (rC (by assumption)) (by omega)) (by rw [rA];exact Nat.le_trans (rC (by assumption)) (by omega))))) (v2 (pu pz (v3 pT))))))))))))) <|Xy [(0,0),(1,1),(2,2),(3,3)] (pa pT (pa pT pz)) (by simp only [gU,dW,dV,eS,eO,h1,h2,h8,h9,h10,h11,h13,h15,aD,aA] <;> rfl)
 exact Xu [Eb 84 false] none [Eb 10 (iB p5 p6),Es 9 (⟨#[]⟩:ByteArray),Eb 8 false] [19,18,17,16,0,1,2] [] [1152] 1552 (v1 (pg h15 (v8 (v9 (pu pz (v3 pT)))))) <|Xy [(0,0),(1,1),(2,2),(3,3)] (pa pT (pa pT pz)) (by simp only [gU,dW,dV,eS,eO,h1,h2,h8,h9,h10,h11,h13,h15,aD,aA] <;> rfl)
 refine Xu [Eb 63 true,Eb 67 false] none [Eb 18 false] [15,11] [] [112] 656 (v2 (pg h9 (v3 (pg h10 (v6 pT))))) <|Tri.seq <|Xs [Eb 74 (!(fv p5 p6))] [14] 688 (v2 pT) <|Xa (fun h18=>?_) (fun h18=>?_)
 exact Tri.seq <|Xs [Eb 75 false] [74,18,17,0,2] 704 (v1 pT) <|Tri.cond_false (by kernel_rfl) <|Tri.skip <|Xs [Eb 10 (fj (bK p5 p6) (bL p5 p6)),Es 9 (⟨#[]⟩:ByteArray),Eb 8 false] [75,16,9,1] 800 (v2 (pu pz (v3 pT))) <|Xy [(0,0),(1,1),(2,2),(3,3)] (pa pT (pa pT pz)) (by simp only [gU,dW,dV,eS,eO,h1,h2,h8,h9,h10,h18,aD,aA] <;> rfl)
 refine Tri.skip <|Tri.split (jw (aj (bK p5 p6) (bL p5 p6))) (fun h19=>?_) (fun h19=>?_)
 exact Xt [(19,.sc (.nils))] [74,9] [Mc 3 [.ro .u8 (au (bK p5 p6) (bL p5 p6)),.b (bA (bK p5 p6) (bL p5 p6))]] [3] 752 (v1 (pu pz (pu (pa pT (pa (pl h19) (pl (show (aj (bK p5 p6) (bL p5 p6)).size≤1000000000 from Nat.le_trans (dJ _ _) (by decide))))) (v1 pT)))) <|Xs [Eb 10 (iB p5 p6),Es 9 (⟨#[]⟩:ByteArray),Eb 8 false] [19,18,17,16,0,1,2] 1120 (v1 (v9 (v9 (pu pz (v3 pT))))) <|Xy [(0,0),(1,1),(2,2),(3,3)] (pa pT (pa pT pz)) (by simp only [gU,dW,dV,eS,eO,h1,h2,h8,h9,h10,h18,h19,aD,aA] <;> rfl)
 exact Tri.sub (Sub.up (U':=1552) (by decide)) <|Xt [El 19 1584 ((bH (aj (bK p5 p6) (bL p5 p6))).size)] [74,9] [Mi 1584 ((bH (aj (bK p5 p6) (bL p5 p6))).size) (dK (aj (bK p5 p6) (bL p5 p6))),Mc 3 [.ro .u8 (au (bK p5 p6) (bL p5 p6)),.b (bA (bK p5 p6) (bL p5 p6))]] [3] 1616 (v1 (pu pz (pu (pa pT (pa (pl h19) (pl (show (aj (bK p5 p6) (bL p5 p6)).size≤1000000000 from Nat.le_trans (dJ _ _) (by decide))))) (v1 pT)))) <|Xt [Eb 10 (iB p5 p6),Es 9 (⟨#[]⟩:ByteArray),Eb 8 false] [19,18,17,16,0,1,2] [] [1584] 1984 (v1 (v9 (v9 (pu pz (v3 pT))))) <|Xy [(0,0),(1,1),(2,2),(3,3)] (pa pT (pa pT pz)) (by simp only [gU,dW,dV,eS,eO,h1,h2,h8,h9,h10,h18,h19,aD,aA] <;> rfl)
 refine Xu [Eb 63 false] none [Eb 18 false] [15,11] [] [112] 656 (v2 (pg h9 (v1 (v9 pT)))) <|Tri.seq <|Xs [Eb 74 (!(fv p5 p6))] [14] 688 (v2 pT) <|Xa (fun h20=>?_) (fun h20=>?_)
 exact Tri.seq <|Xs [Eb 75 false] [74,18,17,0,2] 704 (v1 pT) <|Tri.cond_false (by kernel_rfl) <|Tri.skip <|Xs [Eb 10 (fj (bK p5 p6) (bL p5 p6)),Es 9 (⟨#[]⟩:ByteArray),Eb 8 false] [75,16,9,1] 800 (v2 (pu pz (v3 pT))) <|Xy [(0,0),(1,1),(2,2),(3,3)] (pa pT (pa pT pz)) (by simp only [gU,dW,dV,eS,eO,h1,h2,h8,h9,h20,aD,aA] <;> rfl)
 refine Tri.skip <|Tri.split (jw (aj (bK p5 p6) (bL p5 p6))) (fun h21=>?_) (fun h21=>?_)
 exact Xt [(19,.sc (.nils))] [74,9] [Mc 3 [.ro .u8 (au (bK p5 p6) (bL p5 p6)),.b (bA (bK p5 p6) (bL p5 p6))]] [3] 752 (v1 (pu pz (pu (pa pT (pa (pl h21) (pl (show (aj (bK p5 p6) (bL p5 p6)).size≤1000000000 from Nat.le_trans (dJ _ _) (by decide))))) (v1 pT)))) <|Xs [Eb 10 (iB p5 p6),Es 9 (⟨#[]⟩:ByteArray),Eb 8 false] [19,18,17,16,0,1,2] 1120 (v1 (v9 (v9 (pu pz (v3 pT))))) <|Xy [(0,0),(1,1),(2,2),(3,3)] (pa pT (pa pT pz)) (by simp only [gU,dW,dV,eS,eO,h1,h2,h8,h9,h20,h21,aD,aA] <;> rfl)
 exact Tri.sub (Sub.up (U':=1984) (by decide)) <|Xt [El 19 2016 ((bH (aj (bK p5 p6) (bL p5 p6))).size)] [74,9] [Mi 2016 ((bH (aj (bK p5 p6) (bL p5 p6))).size) (dK (aj (bK p5 p6) (bL p5 p6))),Mc 3 [.ro .u8 (au (bK p5 p6) (bL p5 p6)),.b (bA (bK p5 p6) (bL p5 p6))]] [3] 2048 (v1 (pu pz (pu (pa pT (pa (pl h21) (pl (show (aj (bK p5 p6) (bL p5 p6)).size≤1000000000 from Nat.le_trans (dJ _ _) (by decide))))) (v1 pT)))) <|Xt [Eb 10 (iB p5 p6),Es 9 (⟨#[]⟩:ByteArray),Eb 8 false] [19,18,17,16,0,1,2] [] [2016] 2416 (v1 (v9 (v9 (pu pz (v3 pT))))) <|Xy [(0,0),(1,1),(2,2),(3,3)] (pa pT (pa pT pz)) (by simp only [gU,dW,dV,eS,eO,h1,h2,h8,h9,h20,h21,aD,aA] <;> rfl)
 exact Tri.skip <|Xt [Eb 10 (Bn p5 p6),Es 9 (⟨#[]⟩:ByteArray),Eb 8 false] [51,11,9,0,1,2] [Mc 3 [.ro .u8 p5,.b p6]] [112,3] 336 (v1 (pu pz (v3 pT))) <|Xy [(0,0),(1,1),(2,2),(3,3)] (pa pT (pa pT pz)) (by simp only [gU,dW,dV,eS,eO,h1,h2,h8,aD,aA] <;> rfl)
end Go.Vm
namespace Go.Vm
open Go Go.Proofs
def jZ (p5:List Int):Bool :=
 (fj (au (bO p5 false) (bR p5 false)) (bA (bO p5 false) (bR p5 false)))
def qt:List Int :=
 (rh (⟨#[115,115,104,45,117,115,101,114,97,117,116,104]⟩:ByteArray))
def gT (p5:List Int):ByteArray :=
 (aj (au (bO p5 false) (bR p5 false)) (bA (bO p5 false) (bR p5 false)))
def cN (p5:List Int):List Int :=
 (au (au (bO p5 false) (bR p5 false)) (bA (bO p5 false) (bR p5 false)))
def cQ (p5:List Int):Bool :=
 (bA (au (bO p5 false) (bR p5 false)) (bA (bO p5 false) (bR p5 false)))
def fD (p10:Nat) (p0:List Int) (p5:List Int):Bool :=
 (gU p10 p0 (au (cN p5) (cQ p5)) (bA (cN p5) (cQ p5)) (aj (bO p5 false) (bR p5 false)) (aj (cN p5) (cQ p5)))
def dY (p5:List Int):ByteArray :=
 (dW (au (cN p5) (cQ p5)) (bA (cN p5) (cQ p5)) (aj (bO p5 false) (bR p5 false)) (aj (cN p5) (cQ p5)))
def fw (p5:List Int):Bool :=
 (dV (au (cN p5) (cQ p5)) (bA (cN p5) (cQ p5)) (aj (cN p5) (cQ p5)))
def BF:List Int :=
 (df 1 [60] (⟨#[115,115,104,45,101,100,50,53,53,49,57]⟩:ByteArray))
def oU (p5:List Int):List Int :=
 (df ((1+4)+(⟨#[115,115,104,45,101,100,50,53,53,49,57]⟩:ByteArray).size) (BF) (dY p5))
def fB (p10:Nat) (p0:List Int) (p1:Int) (p2:Bool) (p4:Bool) (p5:List Int):Int :=
 (sel p4 8 (sel (((dZ p5 false):Int)==5) (sel (!(jZ p5)) 3 (sel (!(aC (aj (bO p5 false) (bR p5 false)) (⟨#[115,115,104,45,117,115,101,114,97,117,116,104]⟩:ByteArray))) 3 0)) (sel (((dZ p5 false):Int) != 50) 3 (sel (!p2) 3 (sel (!(fw p5)) 3 (sel (!(aC (gT p5) (⟨#[115,115,104,45,99,111,110,110,101,99,116,105,111,110]⟩:ByteArray))) 3 (sel (fD p10 p0 p5) 0 (sel (!(aC (dY p5) (⟨#[]⟩:ByteArray))) 0 (sel (!(aC (aj (cN p5) (cQ p5)) (⟨#[110,111,110,101]⟩:ByteArray))) (sel (((ag .i64 (kP p1 1) 1):Int)==0) 9 0) 0)))))))))
def bp (p10:Nat) (p0:List Int) (p1:Int) (p2:Bool) (p4:Bool) (p5:List Int):Int :=
 (sel p4 p1 (sel (((dZ p5 false):Int)==5) p1 (sel (((dZ p5 false):Int) != 50) p1 (sel (!p2) p1 (sel (!(fw p5)) p1 (sel (!(aC (gT p5) (⟨#[115,115,104,45,99,111,110,110,101,99,116,105,111,110]⟩:ByteArray))) p1 (sel (fD p10 p0 p5) p1 (sel (!(aC (dY p5) (⟨#[]⟩:ByteArray))) p1 (sel (!(aC (aj (cN p5) (cQ p5)) (⟨#[110,111,110,101]⟩:ByteArray))) (ag .i64 (kP p1 1) 1) p1)))))))))
def cm (p2:Bool) (p4:Bool) (p5:List Int):Bool :=
 (sel p4 p2 (sel (((dZ p5 false):Int)==5) (sel (!(jZ p5)) p2 (sel (!(aC (aj (bO p5 false) (bR p5 false)) (⟨#[115,115,104,45,117,115,101,114,97,117,116,104]⟩:ByteArray))) p2 true)) p2))
def cC (p10:Nat) (p0:List Int) (p2:Bool) (p3:ByteArray) (p4:Bool) (p5:List Int):ByteArray :=
 (sel p4 p3 (sel (((dZ p5 false):Int)==5) p3 (sel (((dZ p5 false):Int) != 50) p3 (sel (!p2) p3 (sel (!(fw p5)) p3 (sel (!(aC (gT p5) (⟨#[115,115,104,45,99,111,110,110,101,99,116,105,111,110]⟩:ByteArray))) p3 (sel (fD p10 p0 p5) (aj (bO p5 false) (bR p5 false)) p3)))))))
def cH (p10:Nat) (p0:List Int) (p2:Bool) (p4:Bool) (p5:List Int):Bool :=
 (sel p4 p4 (sel (((dZ p5 false):Int)==5) p4 (sel (((dZ p5 false):Int) != 50) p4 (sel (!p2) p4 (sel (!(fw p5)) p4 (sel (!(aC (gT p5) (⟨#[115,115,104,45,99,111,110,110,101,99,116,105,111,110]⟩:ByteArray))) p4 (sel (fD p10 p0 p5) true p4)))))))
def dy (p10:Nat) (p0:List Int) (p1:Int) (p2:Bool) (p4:Bool) (p5:List Int):List Int :=
 (sel p4 ([]:List Int) (sel (((dZ p5 false):Int)==5) (sel (!(jZ p5)) ([]:List Int) (sel (!(aC (aj (bO p5 false) (bR p5 false)) (⟨#[115,115,104,45,117,115,101,114,97,117,116,104]⟩:ByteArray))) ([]:List Int) (qt))) (sel (((dZ p5 false):Int) != 50) ([]:List Int) (sel (!p2) ([]:List Int) (sel (!(fw p5)) ([]:List Int) (sel (!(aC (gT p5) (⟨#[115,115,104,45,99,111,110,110,101,99,116,105,111,110]⟩:ByteArray))) ([]:List Int) (sel (fD p10 p0 p5) [52] (sel (!(aC (dY p5) (⟨#[]⟩:ByteArray))) (oU p5) (sel (!(aC (aj (cN p5) (cQ p5)) (⟨#[110,111,110,101]⟩:ByteArray))) (sel (((ag .i64 (kP p1 1) 1):Int)==0) ([]:List Int) (iL)) (iL))))))))))
def cD (p10:Nat) (p0:List Int) (p1:Int) (p2:Bool) (p4:Bool) (p5:List Int):Nat :=
 (sel p4 0 (sel (((dZ p5 false):Int)==5) (sel (!(jZ p5)) 0 (sel (!(aC (aj (bO p5 false) (bR p5 false)) (⟨#[115,115,104,45,117,115,101,114,97,117,116,104]⟩:ByteArray))) 0 ((1+4)+(⟨#[115,115,104,45,117,115,101,114,97,117,116,104]⟩:ByteArray).size))) (sel (((dZ p5 false):Int) != 50) 0 (sel (!p2) 0 (sel (!(fw p5)) 0 (sel (!(aC (gT p5) (⟨#[115,115,104,45,99,111,110,110,101,99,116,105,111,110]⟩:ByteArray))) 0 (sel (fD p10 p0 p5) 1 (sel (!(aC (dY p5) (⟨#[]⟩:ByteArray))) ((((1+4)+(⟨#[115,115,104,45,101,100,50,53,53,49,57]⟩:ByteArray).size)+4)+(dY p5).size) (sel (!(aC (aj (cN p5) (cQ p5)) (⟨#[110,111,110,101]⟩:ByteArray))) (sel (((ag .i64 (kP p1 1) 1):Int)==0) 0 (dM)) (dM))))))))))
theorem AM (p5:List Int):(au (cN p5) (cQ p5)).length+(aj (bO p5 false) (bR p5 false)).size≤p5.length:=by
 have h1:=tK p5 false
 have h2:=kD (bO p5 false) (bR p5 false)
 have h3:=kD (au (bO p5 false) (bR p5 false)) (bA (bO p5 false) (bR p5 false))
 have h4:=kD (cN p5) (cQ p5)
 unfold bU at h1
 unfold cN at h4 ⊢
 omega
theorem HF (p5:List Int):(dY p5).size≤16384:=by
 have h0:(⟨#[]⟩:ByteArray).size≤16384:=by decide
 have hs:∀ (b:Bool) (x y:ByteArray),x.size≤16384→y.size≤16384→(sel b x y).size≤16384:=fun b x y hx hy=>by cases b;exact hy;exact hx
 unfold dY dW
 repeat first|exact h0|exact dJ _ _|(unfold bw;exact dJ _ _)|refine hs _ _ _ ?_ ?_
def Bi:List AV→List Blk→Option (Prop × Ret)
 |[.sc (.p 0 0),.sc (.ro .u8 p5)],[.cells [.sl 1 0 4 4 none,.sl 2 0 p10 1 none,.i .i64 p1,.b p2,.s p3,.b p4],.cells p9,.ints .u8 p11 p0]=>some (((p10=p11)∧((UA=p9)∧(p5.length≤6000∧p10≤1000))),⟨.tup [.sc (.sl 3 0 (cD p10 p0 p1 p2 p4 p5) 1 none),.sc (.i .i64 (fB p10 p0 p1 p2 p4 p5))],[some (.cells [.sl 1 0 4 4 none,.sl 2 0 p10 1 none,.i .i64 (bp p10 p0 p1 p2 p4 p5),.b (cm p2 p4 p5),.s (cC p10 p0 p2 p3 p4 p5),.b (cH p10 p0 p2 p4 p5)]),some (.cells UA),some (.ints .u8 p10 p0),some (.ints .u8 (cD p10 p0 p1 p2 p4 p5) (dy p10 p0 p1 p2 p4 p5))]⟩)
 |_,_=>none
def JC:KL Tryz.prog gD:=Zv wx 544 1 <|Zc hF 1024 [.io,.val] [] [1008] <|Zc hF 1056 [.io,.val] [] [1024] <|Zc IP 192 [.ro .u8] [] [] <|Zc CP 240 [.io] [] [192] <|Zc gC 336 [.io] [] [192] <|Zc gC 496 [.io] [] [192] <|Zc gC 528 [.io] [] [192] <|Zc gC 560 [.io] [] [192] <|Zc lI 384 [.io] [] [192] <|Zc Jj 688 [.io,.io,.val,.val] [] [0,1,2,192] <|Zv sf 1040 0 <|Zv sf 1280 0 <|Zn
theorem yS:Known Tryz.prog gD 20 ⟨3,1,Bi⟩:=by
 refine Xw Tryz.f20 109 JC mixed <|fun E args ks C r h hC hlen=>?_
 simp only at h
 unfold Bi at h
 split at h
 rotate_left
 cases h
 rename_i p5 p10 p1 p2 p3 p4 p9 p11 p0
 cases h
 simp only [bI] at hlen
 obtain ⟨hEp11,hC⟩:=hC
 obtain ⟨hEp9,hC⟩:=hC
 subst hEp11
 subst hEp9
 have ht:=AM p5
 have hf:=HF p5
 have sz0:(⟨#[115,115,104,45,101,100,50,53,53,49,57]⟩:ByteArray).size=11:=rfl
 refine ⟨rfl,?_⟩
 refine Xs [] [] 48 (v2 pT) <|Tri.seq <|Xs [Eb 22 p4] [] 176 (v6 (pu (Yl 5 6) (v1 pT))) <|Xa (fun h1=>?_) (fun h1=>?_)
 exact Xs [Ei 5 8,(4,.sc (.nils))] [22,0,1] 208 (v2 pT) <|Tri.sub (Sub.openNil (U:=208) (U':=224) 4 208 1 .u8 none (.inl rfl) (by decide) (by decide) (by kernel_rfl) (by kernel_rfl)) <|Xy (r':=⟨.tup [.sc (.sl 3 0 0 1 none),.sc (.i .i64 8)],[some (.cells [.sl 1 0 4 4 none,.sl 2 0 p10 1 none,.i .i64 p1,.b p2,.s p3,.b p4]),some (.cells UA),some (.ints .u8 p10 p0),some (.ints .u8 0 ([]:List Int))]⟩) [(0,0),(1,1),(2,2),(208,3)] (pa pT pz) (by simp only [fB,bp,cm,cC,cH,dy,cD,h1,aD,aA])
 refine Tri.skip <|Xt [Ep 6 192] [22,1] [Mc 192 [.ro .u8 p5,.b false]] [] 224 (v1 (pu (pa pz pT) (v1 pT))) <|Tri.seq <|Xt [Ek 7 .u8 (dZ p5 false)] [] [Mc 192 [.ro .u8 (bO p5 false),.b (bR p5 false)]] [192] 272 (v1 (pu pz (v1 pT))) <|Tri.block <|Xs [Eb 27 (((dZ p5 false):Int)==5)] [] 320 (v3 pT) <|Xa (fun h2=>?_) (fun h2=>?_)
 have h2':=dA h2
 refine Tri.seq <|Xt [Es 8 (aj (bO p5 false) (bR p5 false))] [27,7] [Mc 192 [.ro .u8 (au (bO p5 false) (bR p5 false)),.b (bA (bO p5 false) (bR p5 false))]] [192] 368 (v1 (pu pz (v1 pT))) <|Tri.split (!(jZ p5)) (fun h3=>?_) (fun h3=>?_)
 exact Xu [Eb 35 true] none [Eb 38 true] [8,6] [] [192] 480 (v1 (pu pz (v1 (pg h3 (v3 pT))))) <|Tri.cond_true (by kernel_rfl) <|Xs [Ei 5 3,(4,.sc (.nils))] [38,0] 512 (v2 pT) <|Tri.sub (Sub.openNil (U:=512) (U':=528) 4 512 1 .u8 none (.inl rfl) (by decide) (by decide) (by kernel_rfl) (by kernel_rfl)) <|Xy (r':=⟨.tup [.sc (.sl 3 0 0 1 none),.sc (.i .i64 3)],[some (.cells [.sl 1 0 4 4 none,.sl 2 0 p10 1 none,.i .i64 p1,.b p2,.s p3,.b p4]),some (.cells UA),some (.ints .u8 p10 p0),some (.ints .u8 0 ([]:List Int))]⟩) [(0,0),(1,1),(2,2),(512,3)] (pa pT pz) (by simp only [fB,bp,cm,cC,cH,dy,cD,h1,h2,h3,aD,aA])
 refine Xu [Eb 35 false] none [Eb 38 (!(aC (aj (bO p5 false) (bR p5 false)) (⟨#[115,115,104,45,117,115,101,114,97,117,116,104]⟩:ByteArray)))] [8,6] [] [192] 480 (v1 (pu pz (v1 (pg h3 (v3 pT))))) <|Xa (fun h4=>?_) (fun h4=>?_)
 exact Xs [Ei 5 3,(4,.sc (.nils))] [38,0] 512 (v2 pT) <|Tri.sub (Sub.openNil (U:=512) (U':=528) 4 512 1 .u8 none (.inl rfl) (by decide) (by decide) (by kernel_rfl) (by kernel_rfl)) <|Xy (r':=⟨.tup [.sc (.sl 3 0 0 1 none),.sc (.i .i64 3)],[some (.cells [.sl 1 0 4 4 none,.sl 2 0 p10 1 none,.i .i64 p1,.b p2,.s p3,.b p4]),some (.cells UA),some (.ints .u8 p10 p0),some (.ints .u8 0 ([]:List Int))]⟩) [(0,0),(1,1),(2,2),(512,3)] (pa pT pz) (by simp only [fB,bp,cm,cC,cH,dy,cD,h1,h2,h3,h4,aD,aA])
 exact Tri.skip <|Xt [] [38,0] [Mc 0 [.sl 1 0 4 4 none,.sl 2 0 p10 1 none,.i .i64 p1,.b true,.s p3,.b p4]] [0] 544 (v3 (pu (Ys 3 6) pT)) <|Xt [Ei 5 0,El 4 544 ((1+4)+(⟨#[115,115,104,45,117,115,101,114,97,117,116,104]⟩:ByteArray).size)] [] [Mi 544 ((1+4)+(⟨#[115,115,104,45,117,115,101,114,97,117,116,104]⟩:ByteArray).size) (qt)] [] 592 (pu (pa pT (Ye ((⟨#[115,115,104,45,117,115,101,114,97,117,116,104]⟩:ByteArray).size) 100000)) (v2 pT)) <|Xy (r':=⟨.tup [.sc (.sl 3 0 ((1+4)+(⟨#[115,115,104,45,117,115,101,114,97,117,116,104]⟩:ByteArray).size) 1 none),.sc (.i .i64 0)],[some (.cells [.sl 1 0 4 4 none,.sl 2 0 p10 1 none,.i .i64 p1,.b true,.s p3,.b p4]),some (.cells UA),some (.ints .u8 p10 p0),some (.ints .u8 ((1+4)+(⟨#[115,115,104,45,117,115,101,114,97,117,116,104]⟩:ByteArray).size) (qt))]⟩) [(0,0),(1,1),(2,2),(544,3)] (pa pT pz) (by simp only [fB,bp,cm,cC,cH,dy,cD,h1,h2,h3,h4,aD,aA])
 have h2':=cZ h2
 refine Tri.split (((dZ p5 false):Int) != 50) (fun h5=>?_) (fun h5=>?_)
 have h5':=di h5
 exact Xu [Eb 46 true] none [Eb 43 true] [27,7] [] [] 480 (v2 (pg h5 (v7 pT))) <|Tri.cond_true (by kernel_rfl) <|Xt [Ei 5 3,(4,.sc (.nils))] [43,6,0] [] [192] 512 (v2 pT) <|Tri.sub (Sub.openNil (U:=512) (U':=528) 4 512 1 .u8 none (.inl rfl) (by decide) (by decide) (by kernel_rfl) (by kernel_rfl)) <|Xy (r':=⟨.tup [.sc (.sl 3 0 0 1 none),.sc (.i .i64 3)],[some (.cells [.sl 1 0 4 4 none,.sl 2 0 p10 1 none,.i .i64 p1,.b p2,.s p3,.b p4]),some (.cells UA),some (.ints .u8 p10 p0),some (.ints .u8 0 ([]:List Int))]⟩) [(0,0),(1,1),(2,2),(512,3)] (pa pT pz) (by simp only [fB,bp,cm,cC,cH,dy,cD,h1,h2,h5,aD,aA])
 have h5':=bz h5
 refine Xu [Eb 46 false] none [Eb 43 (!p2)] [27,7] [] [] 480 (v2 (pg h5 (v3 (pu (Yl 3 6) (v3 pT))))) <|Xa (fun h6=>?_) (fun h6=>?_)
 exact Xt [Ei 5 3,(4,.sc (.nils))] [43,6,0] [] [192] 512 (v2 pT) <|Tri.sub (Sub.openNil (U:=512) (U':=528) 4 512 1 .u8 none (.inl rfl) (by decide) (by decide) (by kernel_rfl) (by kernel_rfl)) <|Xy (r':=⟨.tup [.sc (.sl 3 0 0 1 none),.sc (.i .i64 3)],[some (.cells [.sl 1 0 4 4 none,.sl 2 0 p10 1 none,.i .i64 p1,.b p2,.s p3,.b p4]),some (.cells UA),some (.ints .u8 p10 p0),some (.ints .u8 0 ([]:List Int))]⟩) [(0,0),(1,1),(2,2),(512,3)] (pa pT pz) (by simp only [fB,bp,cm,cC,cH,dy,cD,h1,h2,h5,h6,aD,aA])
 refine Tri.skip <|Xt [Es 11 (aj (cN p5) (cQ p5)),Es 10 (gT p5),Es 9 (aj (bO p5 false) (bR p5 false))] [43] [Mc 192 [.ro .u8 (au (cN p5) (cQ p5)),.b (bA (cN p5) (cQ p5))]] [192] 624 (v1 (pu pz (v1 (pu pz (v1 (pu pz (v3 pT))))))) <|Xt [Eb 14 (fw p5),Es 13 (dY p5),Eb 12 (fD p10 p0 p5)] [6] [Mi 2 p10 p0,Mc 1 UA] [192,1,2] 816 (v4 (pu (pa pT (pa (Yr p10) (pa (Yr UA) (lo ((au (cN p5) (cQ p5)).length+(aj (bO p5 false) (bR p5 false)).size≤6000∧p10≤1000))))) (v7 pT))) <|Tri.seq <|Tri.block <|Tri.split (!(fw p5)) (fun h7=>?_) (fun h7=>?_)
 exact Xu [Eb 71 true] none [Eb 68 true] [14,10] [] [] 928 (v2 (pg h7 (v4 pT))) <|Tri.cond_true (by kernel_rfl) <|Xs [Ei 5 3,(4,.sc (.nils))] [68,13,12,11,9,0] 960 (v2 pT) <|Tri.sub (Sub.openNil (U:=960) (U':=976) 4 960 1 .u8 none (.inl rfl) (by decide) (by decide) (by kernel_rfl) (by kernel_rfl)) <|Xy (r':=⟨.tup [.sc (.sl 3 0 0 1 none),.sc (.i .i64 3)],[some (.cells [.sl 1 0 4 4 none,.sl 2 0 p10 1 none,.i .i64 p1,.b p2,.s p3,.b p4]),some (.cells UA),some (.ints .u8 p10 p0),some (.ints .u8 0 ([]:List Int))]⟩) [(0,0),(1,1),(2,2),(960,3)] (pa pT pz) (by simp only [fB,bp,cm,cC,cH,dy,cD,h1,h2,h5,h6,h7,aD,aA])
 refine Xu [Eb 71 false] none [Eb 68 (!(aC (gT p5) (⟨#[115,115,104,45,99,111,110,110,101,99,116,105,111,110]⟩:ByteArray)))] [14,10] [] [] 928 (v2 (pg h7 (v4 pT))) <|Xa (fun h8=>?_) (fun h8=>?_)
 exact Xs [Ei 5 3,(4,.sc (.nils))] [68,13,12,11,9,0] 960 (v2 pT) <|Tri.sub (Sub.openNil (U:=960) (U':=976) 4 960 1 .u8 none (.inl rfl) (by decide) (by decide) (by kernel_rfl) (by kernel_rfl)) <|Xy (r':=⟨.tup [.sc (.sl 3 0 0 1 none),.sc (.i .i64 3)],[some (.cells [.sl 1 0 4 4 none,.sl 2 0 p10 1 none,.i .i64 p1,.b p2,.s p3,.b p4]),some (.cells UA),some (.ints .u8 p10 p0),some (.ints .u8 0 ([]:List Int))]⟩) [(0,0),(1,1),(2,2),(960,3)] (pa pT pz) (by simp only [fB,bp,cm,cC,cH,dy,cD,h1,h2,h5,h6,h7,h8,aD,aA])
 refine Xs [Eb 75 (fD p10 p0 p5)] [68,12] 960 (v2 pT) <|Xa (fun h9=>?_) (fun h9=>?_)
 exact Xt [] [75,13,11,9,0] [Mc 0 [.sl 1 0 4 4 none,.sl 2 0 p10 1 none,.i .i64 p1,.b p2,.s (aj (bO p5 false) (bR p5 false)),.b true]] [0] 1104 (v5 (pu (Ys 5 6) (v2 (pu (Ys 4 6) pT)))) <|Xt [Ei 5 0,El 4 1104 1] [] [Mi 1104 1 [52]] [] 1152 (pu (Yf 1) (v2 pT)) <|Xy (r':=⟨.tup [.sc (.sl 3 0 1 1 none),.sc (.i .i64 0)],[some (.cells [.sl 1 0 4 4 none,.sl 2 0 p10 1 none,.i .i64 p1,.b p2,.s (aj (bO p5 false) (bR p5 false)),.b true]),some (.cells UA),some (.ints .u8 p10 p0),some (.ints .u8 1 [52])]⟩) [(0,0),(1,1),(2,2),(1104,3)] (pa pT pz) (by simp only [fB,bp,cm,cC,cH,dy,cD,h1,h2,h5,h6,h7,h8,h9,aD,aA])
 refine Xs [Eb 85 (!(aC (dY p5) (⟨#[]⟩:ByteArray)))] [75,9] 1008 (v3 pT) <|Xa (fun h10=>?_) (fun h10=>?_)
 exact Xt [Ei 5 0,El 4 1056 ((((1+4)+(⟨#[115,115,104,45,101,100,50,53,53,49,57]⟩:ByteArray).size)+4)+(dY p5).size)] [85,13,11,0] [Mi 1056 ((((1+4)+(⟨#[115,115,104,45,101,100,50,53,53,49,57]⟩:ByteArray).size)+4)+(dY p5).size) (oU p5)] [] 1104 (pu (Yf 1) (pu (pa pT (pa (Yr 1) (lo (1≤1000000000∧(⟨#[115,115,104,45,101,100,50,53,53,49,57]⟩:ByteArray).size≤1000000000)))) (v1 (pu (pa pT (pa (Yr ((1+4)+(⟨#[115,115,104,45,101,100,50,53,53,49,57]⟩:ByteArray).size)) (lo (((1+4)+(⟨#[115,115,104,45,101,100,50,53,53,49,57]⟩:ByteArray).size)≤1000000000∧(dY p5).size≤1000000000)))) (v2 pT))))) <|Xy (r':=⟨.tup [.sc (.sl 3 0 ((((1+4)+(⟨#[115,115,104,45,101,100,50,53,53,49,57]⟩:ByteArray).size)+4)+(dY p5).size) 1 none),.sc (.i .i64 0)],[some (.cells [.sl 1 0 4 4 none,.sl 2 0 p10 1 none,.i .i64 p1,.b p2,.s p3,.b p4]),some (.cells UA),some (.ints .u8 p10 p0),some (.ints .u8 ((((1+4)+(⟨#[115,115,104,45,101,100,50,53,53,49,57]⟩:ByteArray).size)+4)+(dY p5).size) (oU p5))]⟩) [(0,0),(1,1),(2,2),(1056,3)] (pa pT pz) (by simp only [fB,bp,cm,cC,cH,dy,cD,h1,h2,h5,h6,h7,h8,h9,h10,aD,aA])
 refine Tri.skip <|Tri.seq <|Xs [Eb 93 (!(aC (aj (cN p5) (cQ p5)) (⟨#[110,111,110,101]⟩:ByteArray)))] [85,13,11] 1040 (v2 pT) <|Xa (fun h11=>?_) (fun h11=>?_)
 refine Xt [] [93] [Mc 0 [.sl 1 0 4 4 none,.sl 2 0 p10 1 none,.i .i64 (ag .i64 (kP p1 1) 1),.b p2,.s p3,.b p4]] [0] 1200 (v4 (pu (Yl 2 6) (v4 (pu (Ys 2 6) pT)))) <|Xs [Eb 107 (((ag .i64 (kP p1 1) 1):Int)==0)] [0] 1280 (v3 (pu (Yl 2 6) (v1 pT))) <|Xa (fun h12=>?_) (fun h12=>?_)
 have h12':=dA h12
 exact Xs [Ei 5 9,(4,.sc (.nils))] [107] 1312 (v2 pT) <|Tri.sub (Sub.openNil (U:=1312) (U':=1328) 4 1312 1 .u8 none (.inl rfl) (by decide) (by decide) (by kernel_rfl) (by kernel_rfl)) <|Xy (r':=⟨.tup [.sc (.sl 3 0 0 1 none),.sc (.i .i64 9)],[some (.cells [.sl 1 0 4 4 none,.sl 2 0 p10 1 none,.i .i64 (ag .i64 (kP p1 1) 1),.b p2,.s p3,.b p4]),some (.cells UA),some (.ints .u8 p10 p0),some (.ints .u8 0 ([]:List Int))]⟩) [(0,0),(1,1),(2,2),(1312,3)] (pa pT pz) (by simp only [fB,bp,cm,cC,cH,dy,cD,h1,h2,h5,h6,h7,h8,h9,h10,h11,h12,aD,aA])
 have h12':=cZ h12
 exact Tri.skip <|Xt [Ei 5 0,El 4 1280 (dM)] [107] [Mi 1280 (dM) (iL)] [] 1328 (pu pz (v2 pT)) <|Xy (r':=⟨.tup [.sc (.sl 3 0 (dM) 1 none),.sc (.i .i64 0)],[some (.cells [.sl 1 0 4 4 none,.sl 2 0 p10 1 none,.i .i64 (ag .i64 (kP p1 1) 1),.b p2,.s p3,.b p4]),some (.cells UA),some (.ints .u8 p10 p0),some (.ints .u8 (dM) (iL))]⟩) [(0,0),(1,1),(2,2),(1280,3)] (pa pT pz) (by simp only [fB,bp,cm,cC,cH,dy,cD,h1,h2,h5,h6,h7,h8,h9,h10,h11,h12,aD,aA])
 exact Tri.skip <|Xt [Ei 5 0,El 4 1040 (dM)] [93,0] [Mi 1040 (dM) (iL)] [] 1088 (pu pz (v2 pT)) <|Xy (r':=⟨.tup [.sc (.sl 3 0 (dM) 1 none),.sc (.i .i64 0)],[some (.cells [.sl 1 0 4 4 none,.sl 2 0 p10 1 none,.i .i64 p1,.b p2,.s p3,.b p4]),some (.cells UA),some (.ints .u8 p10 p0),some (.ints .u8 (dM) (iL))]⟩) [(0,0),(1,1),(2,2),(1040,3)] (pa pT pz) (by simp only [fB,bp,cm,cC,cH,dy,cD,h1,h2,h5,h6,h7,h8,h9,h10,h11,aD,aA])
end Go.Vm
namespace Go.Vm
open Go Go.Proofs
def cl:List Int :=
 (mU (⟨#[115,115,104,45,117,115,101,114,97,117,116,104]⟩:ByteArray))
def fS:Bool :=
 (cm false false (aH (cl) ((1+4)+(⟨#[115,115,104,45,117,115,101,114,97,117,116,104]⟩:ByteArray).size) 0 ((1+4)+(⟨#[115,115,104,45,117,115,101,114,97,117,116,104]⟩:ByteArray).size)))
def zR:ByteArray :=
 (cC ((aH [115] 1 0 1).length) (aH [115] 1 0 1) false (⟨#[]⟩:ByteArray) false (aH (cl) ((1+4)+(⟨#[115,115,104,45,117,115,101,114,97,117,116,104]⟩:ByteArray).size) 0 ((1+4)+(⟨#[115,115,104,45,117,115,101,114,97,117,116,104]⟩:ByteArray).size)))
def fU:Bool :=
 (cH ((aH [115] 1 0 1).length) (aH [115] 1 0 1) false false (aH (cl) ((1+4)+(⟨#[115,115,104,45,117,115,101,114,97,117,116,104]⟩:ByteArray).size) 0 ((1+4)+(⟨#[115,115,104,45,117,115,101,114,97,117,116,104]⟩:ByteArray).size)))
def uP:List Int :=
 (dy ((aH [115] 1 0 1).length) (aH [115] 1 0 1) 3 false false (aH (cl) ((1+4)+(⟨#[115,115,104,45,117,115,101,114,97,117,116,104]⟩:ByteArray).size) 0 ((1+4)+(⟨#[115,115,104,45,117,115,101,114,97,117,116,104]⟩:ByteArray).size)))
def fM:List Int :=
 (ef (⟨#[97,110,110]⟩:ByteArray) (⟨#[115,101,99,114,101,116]⟩:ByteArray))
def Gk:Bool :=
 (cm (fS) (fU) (aH (fM) (aU (⟨#[97,110,110]⟩:ByteArray) (⟨#[115,101,99,114,101,116]⟩:ByteArray)) 0 (aU (⟨#[97,110,110]⟩:ByteArray) (⟨#[115,101,99,114,101,116]⟩:ByteArray))))
def uG:ByteArray :=
 (cC ((aH [115] 1 0 1).length) (aH [115] 1 0 1) (fS) (zR) (fU) (aH (fM) (aU (⟨#[97,110,110]⟩:ByteArray) (⟨#[115,101,99,114,101,116]⟩:ByteArray)) 0 (aU (⟨#[97,110,110]⟩:ByteArray) (⟨#[115,101,99,114,101,116]⟩:ByteArray))))
def uV:Bool :=
 (cH ((aH [115] 1 0 1).length) (aH [115] 1 0 1) (fS) (fU) (aH (fM) (aU (⟨#[97,110,110]⟩:ByteArray) (⟨#[115,101,99,114,101,116]⟩:ByteArray)) 0 (aU (⟨#[97,110,110]⟩:ByteArray) (⟨#[115,101,99,114,101,116]⟩:ByteArray))))
def uv:List Int :=
 (dy ((aH [115] 1 0 1).length) (aH [115] 1 0 1) (bp ((aH [115] 1 0 1).length) (aH [115] 1 0 1) 3 false false (aH (cl) ((1+4)+(⟨#[115,115,104,45,117,115,101,114,97,117,116,104]⟩:ByteArray).size) 0 ((1+4)+(⟨#[115,115,104,45,117,115,101,114,97,117,116,104]⟩:ByteArray).size))) (fS) (fU) (aH (fM) (aU (⟨#[97,110,110]⟩:ByteArray) (⟨#[115,101,99,114,101,116]⟩:ByteArray)) 0 (aU (⟨#[97,110,110]⟩:ByteArray) (⟨#[115,101,99,114,101,116]⟩:ByteArray))))
def vD:List Int :=
 (rh (⟨#[115,115,104,45,117,115,101,114,97,117,116,104]⟩:ByteArray))
def pm:Bool :=
 (sel (((aN .i64 (fB ((aH [115] 1 0 1).length) (aH [115] 1 0 1) 3 false false (aH (cl) ((1+4)+(⟨#[115,115,104,45,117,115,101,114,97,117,116,104]⟩:ByteArray).size) 0 ((1+4)+(⟨#[115,115,104,45,117,115,101,114,97,117,116,104]⟩:ByteArray).size))) (fB ((aH [115] 1 0 1).length) (aH [115] 1 0 1) (bp ((aH [115] 1 0 1).length) (aH [115] 1 0 1) 3 false false (aH (cl) ((1+4)+(⟨#[115,115,104,45,117,115,101,114,97,117,116,104]⟩:ByteArray).size) 0 ((1+4)+(⟨#[115,115,104,45,117,115,101,114,97,117,116,104]⟩:ByteArray).size))) (fS) (fU) (aH (fM) (aU (⟨#[97,110,110]⟩:ByteArray) (⟨#[115,101,99,114,101,116]⟩:ByteArray)) 0 (aU (⟨#[97,110,110]⟩:ByteArray) (⟨#[115,101,99,114,101,116]⟩:ByteArray))))):Int)==0) (sel (aC (bytesOf (((uP).drop 0).take (cD ((aH [115] 1 0 1).length) (aH [115] 1 0 1) 3 false false (aH (cl) ((1+4)+(⟨#[115,115,104,45,117,115,101,114,97,117,116,104]⟩:ByteArray).size) 0 ((1+4)+(⟨#[115,115,104,45,117,115,101,114,97,117,116,104]⟩:ByteArray).size))))) (bytesOf (((vD).drop 0).take ((1+4)+(⟨#[115,115,104,45,117,115,101,114,97,117,116,104]⟩:ByteArray).size)))) (sel (aC (bytesOf (((uv).drop 0).take (cD ((aH [115] 1 0 1).length) (aH [115] 1 0 1) (bp ((aH [115] 1 0 1).length) (aH [115] 1 0 1) 3 false false (aH (cl) ((1+4)+(⟨#[115,115,104,45,117,115,101,114,97,117,116,104]⟩:ByteArray).size) 0 ((1+4)+(⟨#[115,115,104,45,117,115,101,114,97,117,116,104]⟩:ByteArray).size))) (fS) (fU) (aH (fM) (aU (⟨#[97,110,110]⟩:ByteArray) (⟨#[115,101,99,114,101,116]⟩:ByteArray)) 0 (aU (⟨#[97,110,110]⟩:ByteArray) (⟨#[115,101,99,114,101,116]⟩:ByteArray)))))) (⟨#[52]⟩:ByteArray)) (aC (gS (uG) (uV)) (⟨#[97,110,110]⟩:ByteArray)) false) false) false)
def HZ:List AV→List Blk→Option (Prop × Ret)
 |[],[]=>some (True,⟨.sc (.b (pm)),[]⟩)
 |_,_=>none
theorem KS:Known Tryz.prog gD 8 ⟨0,0,HZ⟩:=by
 refine Xw Tryz.f8 43 (Zv nJ 256 2 <|Zc Hd 80 [.io,.ro .u8,.val] [48] [32] <|Zv ud 32 0 <|Zc yS 144 [.io,.ro .u8] [128] [80,32,81] <|Zc yS 272 [.io,.ro .u8] [256] [80,32,81] <|Zc Db 656 [.io] [] [80,32,81] <|Zv tQ 128 1 <|Zv wx 480 1 <|Zn) mixed <|fun E args ks C r h hC hlen=>?_
 simp only at h
 unfold HZ at h
 split at h
 rotate_left
 cases h
 cases h
 simp only [bI] at hlen
 refine ⟨rfl,?_⟩
 refine Xs [] [] 32 (v1 pT) <|Xt [Ep 1 80] [] [Mi 81 ((aH [115] 1 0 1).length) (aH [115] 1 0 1),Mc 80 [.sl 32 0 4 4 none,.sl 81 0 ((aH [115] 1 0 1).length) 1 none,.i .i64 3,.b false,.s (⟨#[]⟩:ByteArray),.b false],Mc 32 UA] [] 112 (pu pz (pu (Yf 1) (pu (pa (Yr 1) (pa (Yr 0) (Yl 0 1))) (pu (pa (pa (Yw 1) pT) (pa (Yr UA) (Ye ((aH [115] 1 0 1).length) 100000))) (v1 pT))))) <|Tri.len 81 rfl <|fun hl1=>Xt [Ei 3 (fB ((aH [115] 1 0 1).length) (aH [115] 1 0 1) 3 false false (aH (cl) ((1+4)+(⟨#[115,115,104,45,117,115,101,114,97,117,116,104]⟩:ByteArray).size) 0 ((1+4)+(⟨#[115,115,104,45,117,115,101,114,97,117,116,104]⟩:ByteArray).size))),El 2 144 (cD ((aH [115] 1 0 1).length) (aH [115] 1 0 1) 3 false false (aH (cl) ((1+4)+(⟨#[115,115,104,45,117,115,101,114,97,117,116,104]⟩:ByteArray).size) 0 ((1+4)+(⟨#[115,115,104,45,117,115,101,114,97,117,116,104]⟩:ByteArray).size)))] [] [Mi 144 (cD ((aH [115] 1 0 1).length) (aH [115] 1 0 1) 3 false false (aH (cl) ((1+4)+(⟨#[115,115,104,45,117,115,101,114,97,117,116,104]⟩:ByteArray).size) 0 ((1+4)+(⟨#[115,115,104,45,117,115,101,114,97,117,116,104]⟩:ByteArray).size))) (uP),Mi 81 ((aH [115] 1 0 1).length) (aH [115] 1 0 1),Mc 32 UA,Mc 80 [.sl 32 0 4 4 none,.sl 81 0 ((aH [115] 1 0 1).length) 1 none,.i .i64 (bp ((aH [115] 1 0 1).length) (aH [115] 1 0 1) 3 false false (aH (cl) ((1+4)+(⟨#[115,115,104,45,117,115,101,114,97,117,116,104]⟩:ByteArray).size) 0 ((1+4)+(⟨#[115,115,104,45,117,115,101,114,97,117,116,104]⟩:ByteArray).size))),.b (fS),.s (zR),.b (fU)]] [81,80,32] 240 (v1 (pu (pa pT (Ye ((⟨#[115,115,104,45,117,115,101,114,97,117,116,104]⟩:ByteArray).size) 100000)) (pu (pa (pa (Yw ((1+4)+(⟨#[115,115,104,45,117,115,101,114,97,117,116,104]⟩:ByteArray).size)) pT) (pa (Yr ((aH [115] 1 0 1).length)) (pa (Yr UA) (lo ((aH (cl) ((1+4)+(⟨#[115,115,104,45,117,115,101,114,97,117,116,104]⟩:ByteArray).size) 0 ((1+4)+(⟨#[115,115,104,45,117,115,101,114,97,117,116,104]⟩:ByteArray).size)).length≤6000∧((aH [115] 1 0 1).length)≤1000))))) (v5 pT)))) <|Tri.len 144 rfl <|fun hl2=>Tri.len 81 rfl <|fun hl3=>Xt [Ei 5 (fB ((aH [115] 1 0 1).length) (aH [115] 1 0 1) (bp ((aH [115] 1 0 1).length) (aH [115] 1 0 1) 3 false false (aH (cl) ((1+4)+(⟨#[115,115,104,45,117,115,101,114,97,117,116,104]⟩:ByteArray).size) 0 ((1+4)+(⟨#[115,115,104,45,117,115,101,114,97,117,116,104]⟩:ByteArray).size))) (fS) (fU) (aH (fM) (aU (⟨#[97,110,110]⟩:ByteArray) (⟨#[115,101,99,114,101,116]⟩:ByteArray)) 0 (aU (⟨#[97,110,110]⟩:ByteArray) (⟨#[115,101,99,114,101,116]⟩:ByteArray)))),El 4 272 (cD ((aH [115] 1 0 1).length) (aH [115] 1 0 1) (bp ((aH [115] 1 0 1).length) (aH [115] 1 0 1) 3 false false (aH (cl) ((1+4)+(⟨#[115,115,104,45,117,115,101,114,97,117,116,104]⟩:ByteArray).size) 0 ((1+4)+(⟨#[115,115,104,45,117,115,101,114,97,117,116,104]⟩:ByteArray).size))) (fS) (fU) (aH (fM) (aU (⟨#[97,110,110]⟩:ByteArray) (⟨#[115,101,99,114,101,116]⟩:ByteArray)) 0 (aU (⟨#[97,110,110]⟩:ByteArray) (⟨#[115,101,99,114,101,116]⟩:ByteArray))))] [] [Mi 272 (cD ((aH [115] 1 0 1).length) (aH [115] 1 0 1) (bp ((aH [115] 1 0 1).length) (aH [115] 1 0 1) 3 false false (aH (cl) ((1+4)+(⟨#[115,115,104,45,117,115,101,114,97,117,116,104]⟩:ByteArray).size) 0 ((1+4)+(⟨#[115,115,104,45,117,115,101,114,97,117,116,104]⟩:ByteArray).size))) (fS) (fU) (aH (fM) (aU (⟨#[97,110,110]⟩:ByteArray) (⟨#[115,101,99,114,101,116]⟩:ByteArray)) 0 (aU (⟨#[97,110,110]⟩:ByteArray) (⟨#[115,101,99,114,101,116]⟩:ByteArray)))) (uv),Mi 81 ((aH [115] 1 0 1).length) (aH [115] 1 0 1),Mc 32 UA,Mc 80 [.sl 32 0 4 4 none,.sl 81 0 ((aH [115] 1 0 1).length) 1 none,.i .i64 (bp ((aH [115] 1 0 1).length) (aH [115] 1 0 1) (bp ((aH [115] 1 0 1).length) (aH [115] 1 0 1) 3 false false (aH (cl) ((1+4)+(⟨#[115,115,104,45,117,115,101,114,97,117,116,104]⟩:ByteArray).size) 0 ((1+4)+(⟨#[115,115,104,45,117,115,101,114,97,117,116,104]⟩:ByteArray).size))) (fS) (fU) (aH (fM) (aU (⟨#[97,110,110]⟩:ByteArray) (⟨#[115,101,99,114,101,116]⟩:ByteArray)) 0 (aU (⟨#[97,110,110]⟩:ByteArray) (⟨#[115,101,99,114,101,116]⟩:ByteArray)))),.b (Gk),.s (uG),.b (uV)]] [81,32,80] 368 (v1 (pu (pa pT (lo ((⟨#[97,110,110]⟩:ByteArray).size≤100000∧(⟨#[115,101,99,114,101,116]⟩:ByteArray).size≤100000))) (pu (pa (pa (Yw (aU (⟨#[97,110,110]⟩:ByteArray) (⟨#[115,101,99,114,101,116]⟩:ByteArray))) pT) (pa (Yr ((aH [115] 1 0 1).length)) (pa (Yr UA) (lo ((aH (fM) (aU (⟨#[97,110,110]⟩:ByteArray) (⟨#[115,101,99,114,101,116]⟩:ByteArray)) 0 (aU (⟨#[97,110,110]⟩:ByteArray) (⟨#[115,101,99,114,101,116]⟩:ByteArray))).length≤6000∧((aH [115] 1 0 1).length)≤1000))))) (v5 pT)))) <|Tri.split (((aN .i64 (fB ((aH [115] 1 0 1).length) (aH [115] 1 0 1) 3 false false (aH (cl) ((1+4)+(⟨#[115,115,104,45,117,115,101,114,97,117,116,104]⟩:ByteArray).size) 0 ((1+4)+(⟨#[115,115,104,45,117,115,101,114,97,117,116,104]⟩:ByteArray).size))) (fB ((aH [115] 1 0 1).length) (aH [115] 1 0 1) (bp ((aH [115] 1 0 1).length) (aH [115] 1 0 1) 3 false false (aH (cl) ((1+4)+(⟨#[115,115,104,45,117,115,101,114,97,117,116,104]⟩:ByteArray).size) 0 ((1+4)+(⟨#[115,115,104,45,117,115,101,114,97,117,116,104]⟩:ByteArray).size))) (fS) (fU) (aH (fM) (aU (⟨#[97,110,110]⟩:ByteArray) (⟨#[115,101,99,114,101,116]⟩:ByteArray)) 0 (aU (⟨#[97,110,110]⟩:ByteArray) (⟨#[115,101,99,114,101,116]⟩:ByteArray))))):Int)==0) (fun h4=>?_) (fun h4=>?_)
 have h4':=dA h4
 refine Tri.split (aC (bytesOf (((uP).drop 0).take (cD ((aH [115] 1 0 1).length) (aH [115] 1 0 1) 3 false false (aH (cl) ((1+4)+(⟨#[115,115,104,45,117,115,101,114,97,117,116,104]⟩:ByteArray).size) 0 ((1+4)+(⟨#[115,115,104,45,117,115,101,114,97,117,116,104]⟩:ByteArray).size))))) (bytesOf (((vD).drop 0).take ((1+4)+(⟨#[115,115,104,45,117,115,101,114,97,117,116,104]⟩:ByteArray).size)))) (fun h5=>?_) (fun h5=>?_)
 refine Tri.split (aC (bytesOf (((uv).drop 0).take (cD ((aH [115] 1 0 1).length) (aH [115] 1 0 1) (bp ((aH [115] 1 0 1).length) (aH [115] 1 0 1) 3 false false (aH (cl) ((1+4)+(⟨#[115,115,104,45,117,115,101,114,97,117,116,104]⟩:ByteArray).size) 0 ((1+4)+(⟨#[115,115,104,45,117,115,101,114,97,117,116,104]⟩:ByteArray).size))) (fS) (fU) (aH (fM) (aU (⟨#[97,110,110]⟩:ByteArray) (⟨#[115,101,99,114,101,116]⟩:ByteArray)) 0 (aU (⟨#[97,110,110]⟩:ByteArray) (⟨#[115,101,99,114,101,116]⟩:ByteArray)))))) (⟨#[52]⟩:ByteArray)) (fun h6=>?_) (fun h6=>?_)
 exact Tri.len 272 rfl <|fun hl7=>Tri.len 81 rfl <|fun hl8=>Tri.len 144 rfl <|fun hl9=>Xu [Eb 26 true,Eb 33 true,Eb 38 true] (some [0,0,3,7,15,31,63,31,159,511,1023,2047,4095,8191,16383,32767,65535,131071,262143,524287,1048575,2097151]) [Eb 0 (aC (gS (uG) (uV)) (⟨#[97,110,110]⟩:ByteArray))] [5,4,3,2,1] [] [272,81,32,80,144] 720 (v4 (pg h4 (v1 (pu (Yw (cD ((aH [115] 1 0 1).length) (aH [115] 1 0 1) 3 false false (aH (cl) ((1+4)+(⟨#[115,115,104,45,117,115,101,114,97,117,116,104]⟩:ByteArray).size) 0 ((1+4)+(⟨#[115,115,104,45,117,115,101,114,97,117,116,104]⟩:ByteArray).size)))) (pu (pa pT (Ye ((⟨#[115,115,104,45,117,115,101,114,97,117,116,104]⟩:ByteArray).size) 100000)) (pu (Yw ((1+4)+(⟨#[115,115,104,45,117,115,101,114,97,117,116,104]⟩:ByteArray).size)) (v2 (pg h5 (v1 (pu (Yw (cD ((aH [115] 1 0 1).length) (aH [115] 1 0 1) (bp ((aH [115] 1 0 1).length) (aH [115] 1 0 1) 3 false false (aH (cl) ((1+4)+(⟨#[115,115,104,45,117,115,101,114,97,117,116,104]⟩:ByteArray).size) 0 ((1+4)+(⟨#[115,115,104,45,117,115,101,114,97,117,116,104]⟩:ByteArray).size))) (fS) (fU) (aH (fM) (aU (⟨#[97,110,110]⟩:ByteArray) (⟨#[115,101,99,114,101,116]⟩:ByteArray)) 0 (aU (⟨#[97,110,110]⟩:ByteArray) (⟨#[115,101,99,114,101,116]⟩:ByteArray))))) (v2 (pg h6 (v1 (pu (pa pT (pa (Yr ((aH [115] 1 0 1).length)) (pa (Yr UA) pT))) (v3 pT))))))))))))))) <|Xy [] pz (by simp only [pm,h4,h5,h6,aD,aA] <;> rfl)
 exact Tri.len 272 rfl <|fun hl10=>Tri.len 81 rfl <|fun hl11=>Tri.len 144 rfl <|fun hl12=>Xu [Eb 26 true,Eb 33 true,Eb 38 false] (some [0,0,3,7,15,31,63,31,159,511,1023,2047,4095,8191,16383,32767,65535,131071,262143,524287,1048575,2097151]) [Eb 0 false] [5,4,3,2,1] [] [272,81,32,80,144] 720 (v4 (pg h4 (v1 (pu (Yw (cD ((aH [115] 1 0 1).length) (aH [115] 1 0 1) 3 false false (aH (cl) ((1+4)+(⟨#[115,115,104,45,117,115,101,114,97,117,116,104]⟩:ByteArray).size) 0 ((1+4)+(⟨#[115,115,104,45,117,115,101,114,97,117,116,104]⟩:ByteArray).size)))) (pu (pa pT (Ye ((⟨#[115,115,104,45,117,115,101,114,97,117,116,104]⟩:ByteArray).size) 100000)) (pu (Yw ((1+4)+(⟨#[115,115,104,45,117,115,101,114,97,117,116,104]⟩:ByteArray).size)) (v2 (pg h5 (v1 (pu (Yw (cD ((aH [115] 1 0 1).length) (aH [115] 1 0 1) (bp ((aH [115] 1 0 1).length) (aH [115] 1 0 1) 3 false false (aH (cl) ((1+4)+(⟨#[115,115,104,45,117,115,101,114,97,117,116,104]⟩:ByteArray).size) 0 ((1+4)+(⟨#[115,115,104,45,117,115,101,114,97,117,116,104]⟩:ByteArray).size))) (fS) (fU) (aH (fM) (aU (⟨#[97,110,110]⟩:ByteArray) (⟨#[115,101,99,114,101,116]⟩:ByteArray)) 0 (aU (⟨#[97,110,110]⟩:ByteArray) (⟨#[115,101,99,114,101,116]⟩:ByteArray))))) (v2 (pg h6 (v5 pT))))))))))))) <|Xy [] pz (by simp only [pm,h4,h5,h6,aD,aA] <;> rfl)
 exact Tri.len 272 rfl <|fun hl13=>Tri.len 81 rfl <|fun hl14=>Tri.len 144 rfl <|fun hl15=>Xu [Eb 26 true,Eb 33 false] (some [0,0,3,7,15,31,63,31,159,511,1023,2047,4095,8191,16383,32767,65535,131071,262143,524287,1048575,2097151]) [Eb 0 false] [5,4,3,2,1] [] [272,81,32,80,144] 720 (v4 (pg h4 (v1 (pu (Yw (cD ((aH [115] 1 0 1).length) (aH [115] 1 0 1) 3 false false (aH (cl) ((1+4)+(⟨#[115,115,104,45,117,115,101,114,97,117,116,104]⟩:ByteArray).size) 0 ((1+4)+(⟨#[115,115,104,45,117,115,101,114,97,117,116,104]⟩:ByteArray).size)))) (pu (pa pT (Ye ((⟨#[115,115,104,45,117,115,101,114,97,117,116,104]⟩:ByteArray).size) 100000)) (pu (Yw ((1+4)+(⟨#[115,115,104,45,117,115,101,114,97,117,116,104]⟩:ByteArray).size)) (v2 (pg h5 (v1 (v9 pT)))))))))) <|Xy [] pz (by simp only [pm,h4,h5,aD,aA] <;> rfl)
 have h4':=cZ h4
 exact Xu [Eb 26 false] (some [0,0,3,7,15,31,63,31,159,511,1023,2047,4095,8191,16383,32767,65535,131071,262143,524287,1048575,2097151]) [Eb 0 false] [5,4,3,2,1] [] [272,81,32,80,144] 720 (v4 (pg h4 (v8 (v9 pT)))) <|Xy [] pz (by simp only [pm,h4,aD,aA] <;> rfl)
end Go.Vm
namespace Go.Vm
open Go Go.Proofs
def kW (p0:ByteArray):List Int :=
 (iz p0)
def Hb:List AV→List Blk→Option (Prop × Ret)
 |[.sc (.s p0)],[]=>some ((p0.size≤1000000),⟨.sc (.sl 0 0 (4+p0.size) 1 none),[some (.ints .u8 (4+p0.size) (kW p0))]⟩)
 |_,_=>none
theorem wR:Known Tryz.prog gD 39 ⟨0,1,Hb⟩:=by
 refine Xw Tryz.f39 5 (Zv zy 48 1 <|Zn) mixed <|fun E args ks C r h hC hlen=>?_
 simp only at h
 unfold Hb at h
 split at h
 rotate_left
 cases h
 rename_i p0
 cases h
 simp only [bI] at hlen
 refine ⟨rfl,?_⟩
 exact Xs [] [] 32 (v1 pT) <|Xt [El 2 48 (4+p0.size)] [0] [Mi 48 (4+p0.size) (iz p0)] [] 80 (v1 (pu (pa pT (Ye p0.size 1000000000)) (v1 pT))) <|Xz [(48,0)] pz
theorem tc (s:ByteArray):(kW s).length=4+s.size:=pZ s
def Cp (p0:List (List Int)):List Int :=
 (uK p0)
def He:List AV→List Blk→Option (Prop × Ret)
 |[.sc (.rob p0)],[]=>some ((p0.flatten.length≤1000000∧p0.length≤1000000),⟨.sc (.sl 0 0 (cS p0) 1 none),[some (.ints .u8 (cS p0) (Cp p0))]⟩)
 |_,_=>none
theorem BR:Known Tryz.prog gD 40 ⟨0,1,He⟩:=by
 refine Xw Tryz.f40 5 (Zc Gm 48 [.rob] [] [] <|Zn) mixed <|fun E args ks C r h hC hlen=>?_
 simp only at h
 unfold He at h
 split at h
 rotate_left
 cases h
 rename_i p0
 cases h
 simp only [bI] at hlen
 refine ⟨rfl,?_⟩
 exact Xs [] [] 32 (v1 pT) <|Xt [El 2 48 (cS p0)] [0] [Mi 48 (cS p0) (uK p0)] [] 80 (v1 (pu (pa pT (lo (p0.flatten.length≤1000000000∧p0.length≤1000000000))) (v1 pT))) <|Xz [(48,0)] pz
theorem qq {A B C:List Int} {a b c:Nat} (ha:A.length≤a) (hb:B.length≤b) (hc:C.length≤c) (h:a+b+c≤1000000):[A,B,C].flatten.length≤1000000∧[A,B,C].length≤1000000:=by
 refine ⟨?_,(show 3≤1000000 by decide)⟩
 simp only [List.flatten_cons,List.flatten_nil,List.length_append,List.length_nil]
 omega
theorem HS (s:ByteArray):(aH (kW s) (4+s.size) 0 (4+s.size)).length≤4+s.size:=bV (Nat.le_refl _) (by rw [tc];exact Nat.le_refl _)
theorem qL (x:Int):(aH [x] 1 0 1).length≤1:=bV (Nat.le_refl _) (Nat.le_refl _)
theorem Ba {xs:List Int} {n m:Nat} (h:n≤m∧xs.length≤m):(aH xs n 0 n).length≤m:=bV h.1 h.2
end Go.Vm
namespace Go.Vm
open Go
end Go.Vm
namespace Go.Vm
open Go
end Go.Vm
namespace Go.Vm
open Go
def Dg (xs:List Int):Prop:=∀ x∈xs,0≤x∧x<256
theorem qB {xs:List Int} (n:Nat) (h:Dg xs):Dg (xs.drop n):=fun x hx=>h x (List.mem_of_mem_drop hx)
theorem tw {xs:List Int} (n:Nat) (h:Dg xs):Dg (xs.take n):=fun x hx=>h x (List.mem_of_mem_take hx)
theorem Bm {xs ys:List Int} (h:Dg xs) (h':Dg ys):Dg (xs++ys):=fun x hx=>(List.mem_append.1 hx).elim (h x) (h' x)
theorem Fd {xs:List Int} (h:Dg xs) (j:Nat):0≤xs.getD j 0∧xs.getD j 0<256:=by
 rw [List.getD_eq_getElem?_getD]
 cases hj:xs[j]? with
 |none=>exact ⟨by decide,by decide⟩
 |some x=>exact h x (List.mem_of_getElem? hj)
theorem dg_row {xs:List Int} (h:∀ x∈xs,IntKind.min .u8≤x∧x≤IntKind.max .u8):Dg xs:=fun x hx=>⟨(h x hx).1,Int.lt_of_le_of_lt (h x hx).2 (by decide)⟩
theorem iH:∀ {xs:List Int},Dg xs→aR (bytesOf xs)=xs:=by
 intro xs h
 unfold aR bytesOf
 simp only [List.map_map]
 conv=>rhs;rw [← List.map_id xs]
 refine List.map_congr_left fun x hx=>?_
 have:=h x hx
 show ((UInt8.ofNat x.toNat).toNat:Int)=x
 rw [UInt8.toNat_ofNat']
 omega
theorem cJ (s:ByteArray):bytesOf (aR s)=s:=by
 unfold aR bytesOf
 obtain ⟨⟨l⟩⟩:=s
 have e:((fun n:Int=>UInt8.ofNat n.toNat) ∘ fun c:UInt8=>(c.toNat:Int))=id:=by
  funext c
  show UInt8.ofNat ((c.toNat:Int).toNat)=c
  rw [Int.toNat_natCast,UInt8.ofNat_toNat]
 simp only [List.map_map,e,List.map_id]
theorem gn (s:ByteArray):Dg (aR s):=by
 intro x hx
 unfold aR at hx
 obtain ⟨c,_,rfl⟩:=List.mem_map.1 hx
 have:=c.toNat_lt
 omega
theorem bN (s:ByteArray):aC s s=true:=by simp [aC]
def be4 (n:Nat):List Int:=[((n/16777216 % 256:Nat):Int),((n/65536 % 256:Nat):Int),((n/256 % 256:Nat):Int),((n % 256:Nat):Int)]
theorem Iq (n:Nat):Dg (be4 n):=by
 intro x hx
 simp only [be4,List.mem_cons,List.not_mem_nil,or_false] at hx
 omega
theorem CY (n:Nat) (h:n<4294967296):[(IntKind.wrap .u8 (aa .u32 (IntKind.wrap .u32 (n:Int)) 24)),(IntKind.wrap .u8 (aa .u32 (IntKind.wrap .u32 (n:Int)) 16)),(IntKind.wrap .u8 (aa .u32 (IntKind.wrap .u32 (n:Int)) 8)),(IntKind.wrap .u8 (IntKind.wrap .u32 (n:Int)))]=be4 n:=by
 have e1:=fi .u32 (IntKind.wrap .u32 (n:Int)) 24 (by decide)
 have e2:=fi .u32 (IntKind.wrap .u32 (n:Int)) 16 (by decide)
 have e3:=fi .u32 (IntKind.wrap .u32 (n:Int)) 8 (by decide)
 have w:IntKind.wrap .u32 (n:Int)=(n:Int):=by rw [lf];omega
 rw [w] at e1 e2 e3 ⊢
 rw [show (24:Int)=((24:Nat):Int) from rfl,show (16:Int)=((16:Nat):Int) from rfl,show (8:Int)=((8:Nat):Int) from rfl,e1,e2,e3]
 have p1:(2:Int) ^ 24=16777216:=rfl
 have p2:(2:Int) ^ 16=65536:=rfl
 have p3:(2:Int) ^ 8=256:=rfl
 rw [p1,p2,p3,et,et,et,et]
 have q1:(n:Int)/16777216 % 256=((n/16777216 % 256:Nat):Int):=by omega
 have q2:(n:Int)/65536 % 256=((n/65536 % 256:Nat):Int):=by omega
 have q3:(n:Int)/256 % 256=((n/256 % 256:Nat):Int):=by omega
 have q4:(n:Int) % 256=((n % 256:Nat):Int):=by omega
 rw [q1,q2,q3,q4]
 rfl
theorem or8 (z c:Nat) (hz:z<16777216) (hc:c<256):iOr .u32 (cu .u32 (z:Int) 8) (IntKind.wrap .u32 (c:Int))=((z*256+c:Nat):Int):=by
 have e1:cu .u32 (z:Int) 8=((z*256:Nat):Int):=by
  have:=lG .u32 (z:Int) 8 (by decide)
  rw [show (8:Int)=((8:Nat):Int) from rfl,this,lf,show (2:Int) ^ 8=256 from rfl]
  omega
 rw [e1,lf]
 have e2:((c:Int) % 4294967296)=(c:Int):=by omega
 rw [e2]
 unfold iOr
 rw [lf]
 have e3:(BitVec.ofInt (IntKind.bits .u32) ((z*256:Nat):Int) ||| BitVec.ofInt (IntKind.bits .u32) ((c:Nat):Int)).toNat=z*256+c:=by
  rw [BitVec.toNat_or,BitVec.ofInt_natCast,BitVec.ofInt_natCast,BitVec.toNat_ofNat,BitVec.toNat_ofNat]
  show (z*256 % 4294967296 ||| c % 4294967296)=z*256+c
  rw [Nat.mod_eq_of_lt (by omega),Nat.mod_eq_of_lt (by omega)]
  have:=Nat.two_pow_add_eq_or_of_lt (i:=8) (b:=c) (by omega) z
  rw [show 2 ^ 8*z=z*256 from by omega] at this
  exact this.symm
 rw [e3]
 omega
def lz:List Int→Nat
 |[]=>0
 |x :: r=>if x=0 then lz r+1 else 0
def Hj (p:List Int):List Int:=p.drop (lz p)
def pad (t:List Int):List Int:=sel (decide (t.getD 0 0 ≥ 128)) (0 :: t) t
def enc (p:List Int):List Int:=be4 (pad (Hj p)).length++pad (Hj p)
theorem Gi (n:Nat) (h:n<4294967296):nT (IntKind.wrap .u32 ((n:Nat):Int))=be4 n:=CY n h
theorem HA (k:Nat) (xs:List Int) (n:Nat) (h:n<4294967296):qo k xs (IntKind.wrap .u32 ((n:Nat):Int))=xs++be4 n:=congrArg (xs++·) (CY n h)
theorem wV (k:Nat) (xs:List Int) (s:ByteArray) (h:s.size<4294967296):df k xs s=xs++be4 s.size++aR s:=by
 unfold df
 rw [HA _ _ _ h]
theorem uE (s:ByteArray) (h:s.size<4294967296):gq s=be4 s.size++aR s:=by
 unfold gq
 rw [Gi _ h]
theorem GU (n:Nat) (h:n<4294967296):qP ((n:Nat):Int)=be4 n:=by
 unfold qP be4
 have q1:iu .i64 ((n:Nat):Int) 16777216=((n/16777216:Nat):Int):=dH (b:=16777216) (by omega)
 have q2:iu .i64 ((n:Nat):Int) 65536=((n/65536:Nat):Int):=dH (b:=65536) (by omega)
 have q3:iu .i64 ((n:Nat):Int) 256=((n/256:Nat):Int):=dH (b:=256) (by omega)
 rw [q1,q2,q3,et,et,et,et]
 refine List.ext_getElem rfl fun i h1 h2=>?_
 match i,h1 with
 |0,_=>show ((n/16777216:Nat):Int) % 256=((n/16777216 % 256:Nat):Int);omega
 |1,_=>show ((n/65536:Nat):Int) % 256=((n/65536 % 256:Nat):Int);omega
 |2,_=>show ((n/256:Nat):Int) % 256=((n/256 % 256:Nat):Int);omega
 |3,_=>show ((n:Nat):Int) % 256=((n % 256:Nat):Int);omega
theorem ER (s:ByteArray) (h:s.size<4294967296):iz s=be4 s.size++aR s:=by
 unfold iz
 rw [GU _ h]
abbrev Rd:=Option (List Int)
def tkO:Rd→Nat→List Int
 |some s,n=>if n≤s.length then s.take n else []
 |none,_=>[]
def nxO:Rd→Nat→Rd
 |some s,n=>if n≤s.length then some (s.drop n) else none
 |none,_=>none
theorem gW (s:List Int) (n:Nat):tkO (some s) n=if n≤s.length then s.take n else []:=rfl
theorem iA (s:List Int) (n:Nat):nxO (some s) n=if n≤s.length then some (s.drop n) else none:=rfl
def rb:Rd→List Int
 |some s=>s
 |none=>[]
def eT:Rd→Bool
 |some _=>false
 |none=>true
def gJ (st:Rd):Prop:=∀ s,st=some s→Dg s∧s.length≤1000000000
theorem gJ.nx {st:Rd} (h:gJ st) (n:Nat):gJ (nxO st n):=by
 intro s hs
 cases st with
 |none=>cases hs
 |some t =>
  rw [iA] at hs
  split at hs
  ·cases hs
   exact ⟨qB _ (h t rfl).1,by rw [List.length_drop];have:=(h t rfl).2;omega⟩
  ·cases hs
theorem gJ.tk {st:Rd} (h:gJ st) (n:Nat):Dg (tkO st n):=by
 cases st with
 |none=>intro x hx;cases hx
 |some t =>
  rw [gW]
  split
  ·exact tw _ (h t rfl).1
  ·intro x hx;cases hx
theorem EW (st:Rd) (n:Nat):(tkO st n).length=n∨tkO st n=[]:=by
 cases st with
 |none=>exact .inr rfl
 |some t =>
  rw [gW]
  split
  ·rw [List.length_take];exact .inl (by omega)
  ·exact .inr rfl
theorem LD (st:Rd) (n:Nat):(tkO st n).length≤n:=by
 rcases EW st n with h|h
 ·omega
 ·rw [h];exact Nat.zero_le _
theorem FK {st:Rd} (h:gJ st) {n:Nat} (hn:1000000000<n):nxO st n=none:=by
 cases st with
 |none=>rfl
 |some s =>
  have:=(h s rfl).2
  rw [iA,if_neg (by omega)]
def xt:List Int→Nat
 |[a,b,c,d]=>a.toNat*16777216+b.toNat*65536+c.toNat*256+d.toNat
 |_=>0
def iI (st:Rd):Nat:=xt (tkO st 4)
def fh (st:Rd):Int:=(tkO st 1).getD 0 0
def textV (st:Rd):List Int:=if iI st>16384 then [] else tkO (nxO st 4) (iI st)
def textN (st:Rd):Rd:=if iI st>16384 then none else nxO (nxO st 4) (iI st)
theorem GV {x:List Int} (h:Dg x):xt x<4294967296:=by
 unfold xt
 split
 ·rename_i a b c d
  have ha:=h a (by simp)
  have hb:=h b (by simp)
  have hc:=h c (by simp)
  have hd:=h d (by simp)
  omega
 ·decide
theorem Ga {st:Rd} (h:gJ st):iI st<4294967296:=GV (h.tk 4)
theorem gJ.textV {st:Rd} (h:gJ st):Dg (textV st)∧(textV st).length≤16384:=by
 unfold Vm.textV
 split
 ·exact ⟨fun x hx=>(by cases hx),Nat.zero_le _⟩
 ·exact ⟨(h.nx 4).tk _,Nat.le_trans (LD _ _) (by omega)⟩
theorem gJ.textN {st:Rd} (h:gJ st):gJ (textN st):=by
 unfold Vm.textN
 split
 ·intro s hs;cases hs
 ·exact (h.nx 4).nx _
theorem uf (st:Rd) (n:Int) (h:0≤n):ct (rb st) (eT st) n=tkO st n.toNat∧dg (rb st) (eT st) n=rb (nxO st n.toNat)∧eU (rb st) (eT st) n=eT (nxO st n.toNat):=by
 unfold ct dg eU
 cases st with
 |none=>exact ⟨rfl,rfl,rfl⟩
 |some s =>
  rw [gW,iA]
  show sel false _ _=_∧sel false _ _=_∧sel false _ _=_
  rw [aA,aA,aA]
  show sel (decide (n>(s.length:Int))) _ _=_∧sel (decide (n>(s.length:Int))) _ _=_∧sel (decide (n>(s.length:Int))) _ _=_
  by_cases hn:n.toNat≤s.length
  ·rw [decide_eq_false (show ¬ n>(s.length:Int) by omega),aA,aA,aA,if_pos hn,if_pos hn]
   refine ⟨rfl,?_,rfl⟩
   show (s.drop n.toNat).take (s.length-n.toNat)=_
   rw [List.take_of_length_le (by rw [List.length_drop];exact Nat.le_refl _)]
   rfl
  ·rw [decide_eq_true (show n>(s.length:Int) by omega),aD,aD,aD,if_neg hn,if_neg hn]
   exact ⟨rfl,rfl,rfl⟩
theorem sZ (s:List Int) (b:Bool) (n:Int):fH s b n=s.take n.toNat∧gc s b n=s.drop n.toNat:=by
 unfold fH gc
 refine ⟨rfl,?_⟩
 rw [List.take_of_length_le (by rw [List.length_drop];exact Nat.le_refl _)]
theorem vX (st:Rd):dZ (rb st) (eT st)=fh st∧bO (rb st) (eT st)=rb (nxO st 1)∧bR (rb st) (eT st)=eT (nxO st 1):=by
 unfold dZ bO bR fh
 cases st with
 |none=>exact ⟨rfl,rfl,rfl⟩
 |some s =>
  rw [gW,iA]
  show sel false _ _=_∧sel false _ _=_∧sel false _ _=_
  rw [aA,aA,aA]
  show sel (decide ((1:Int)>(s.length:Int))) _ _=_∧sel (decide ((1:Int)>(s.length:Int))) _ _=_∧sel (decide ((1:Int)>(s.length:Int))) _ _=_
  by_cases hn:1≤s.length
  ·rw [decide_eq_false (show ¬ (1:Int)>(s.length:Int) by omega),aA,aA,aA,if_pos hn,if_pos hn]
   exact ⟨by show (fH s false 1).getD 0 0=_;rw [(sZ s false 1).1];rfl,(sZ s false 1).2,rfl⟩
  ·rw [decide_eq_true (show (1:Int)>(s.length:Int) by omega),aD,aD,aD,if_neg hn,if_neg hn]
   exact ⟨rfl,rfl,rfl⟩
theorem FY (st:Rd):fv (rb st) (eT st)=(fh st != 0)∧bU (rb st) (eT st)=rb (nxO st 1)∧bf (rb st) (eT st)=eT (nxO st 1):=by
 obtain ⟨h1,h2,h3⟩:=vX st
 exact ⟨by unfold fv;rw [h1],h2,h3⟩
theorem GW (z:Nat) {x:Int} (hz:z<16777216) (hx:0≤x∧x<256):iOr .u32 (cu .u32 (z:Int) 8) (IntKind.wrap .u32 x)=((z*256+x.toNat:Nat):Int):=by
 have:=or8 z x.toNat hz (by omega)
 rw [show ((x.toNat:Nat):Int)=x by omega] at this
 exact this
theorem Iz {st:Rd} (h:gJ st):gK (rb st) (eT st)=(iI st:Int)∧eZ (rb st) (eT st)=rb (nxO st 4)∧fO (rb st) (eT st)=eT (nxO st 4):=by
 obtain ⟨h1,h2,h3⟩:=uf st 4 (by decide)
 refine ⟨?_,h2,h3⟩
 have hd:=h.tk 4
 have h1':ct (rb st) (eT st) 4=tkO st 4:=h1
 have f0:∀ k z,jo (rb st) (eT st) k z=iOr .u32 (cu .u32 z 8) (IntKind.wrap .u32 ((tkO st 4).getD k 0)):=fun k z=>by unfold jo;rw [h1']
 unfold gK iI
 rw [h1']
 rcases EW st 4 with hl|hl
 ·generalize tkO st 4=x at *
  match x,hl with
  |[a,b,c,d],_ =>
   have ha:=hd a (by simp)
   have hb:=hd b (by simp)
   have hc:=hd c (by simp)
   have hd':=hd d (by simp)
   show itr _ 4 0=_
   rw [aq,aq,aq,aq,bB,f0,f0,f0,f0]
   show iOr .u32 (cu .u32 (iOr .u32 (cu .u32 (iOr .u32 (cu .u32 (iOr .u32 (cu .u32 ((0:Nat):Int) 8) (IntKind.wrap .u32 a)) 8) (IntKind.wrap .u32 b)) 8) (IntKind.wrap .u32 c)) 8) (IntKind.wrap .u32 d)=_
   rw [GW _ (by omega) ha,GW _ (by omega) hb,GW _ (by omega) hc,GW _ (by omega) hd']
   show _=((a.toNat*16777216+b.toNat*65536+c.toNat*256+d.toNat:Nat):Int)
   omega
 ·rw [hl]
  show itr _ 0 0=_
  rw [bB]
  rfl
theorem iX {st:Rd} (h:gJ st):aj (rb st) (eT st)=bytesOf (textV st)∧au (rb st) (eT st)=rb (textN st)∧bA (rb st) (eT st)=eT (textN st):=by
 obtain ⟨h1,h2,h3⟩:=Iz h
 have hlt:=Ga h
 unfold aj au bA textV textN
 rw [h1,h2,h3]
 by_cases hu:iI st>16384
 ·rw [decide_eq_true (show ((iI st:Nat):Int)>16384 by omega),aD,aD,aD,if_pos hu,if_pos hu]
  obtain ⟨_,t2,t3⟩:=uf (nxO st 4) 1073741824 (by decide)
  have:=FK (h.nx 4) (n:=(1073741824:Int).toNat) (by decide)
  rw [this] at t2 t3
  exact ⟨rfl,t2,t3⟩
 ·rw [decide_eq_false (show ¬ ((iI st:Nat):Int)>16384 by omega),aA,aA,aA,if_neg hu,if_neg hu]
  have w:IntKind.wrap .i64 ((iI st:Nat):Int)=((iI st:Nat):Int):=bm (by omega) (by omega)
  rw [w]
  obtain ⟨t1,t2,t3⟩:=uf (nxO st 4) ((iI st:Nat):Int) (by omega)
  rw [Int.toNat_natCast] at t1 t2 t3
  exact ⟨by rw [t1],t2,t3⟩
theorem mT (st:Rd):fj (rb st) (eT st)=(st==some []):=by
 unfold fj
 cases st with
 |none=>rfl
 |some s=>cases s <;> rfl
def cst (p:List Int) (k:Int) (b:Bool):Rd:=bif b then none else some (p.drop k.toNat)
def iq (p:List Int) (k:Int):Prop:=p.length≤1000000000∧(0:Int)≤k∧k≤(p.length:Int)
theorem CL {p:List Int} {k:Int} (hd:Dg p) (h:iq p k) (b:Bool):gJ (cst p k b):=by
 intro s hs
 cases b with
 |true=>cases hs
 |false =>
  cases hs
  exact ⟨qB _ hd,by rw [List.length_drop];have:=h.1;omega⟩
theorem re {p:List Int} {k:Int} (b:Bool) (n:Int) (h:iq p k):be p k b n=(if n<0 then [] else tkO (cst p k b) n.toNat)∧cst p (cA p k b n) (bl p k b n)=(if n<0 then none else nxO (cst p k b) n.toNat):=by
 obtain ⟨h1,h2,h3⟩:=h
 rcases ic b n ⟨h1,h2,h3⟩ with ⟨rfl,e1,e2,e3,e4,e5⟩|⟨e0,e3,e4,e5⟩
 ·rw [if_neg (by omega),if_neg (by omega),e3,e4,e5]
  simp only [cst,cond_false,tkO,nxO]
  rw [if_pos (by rw [List.length_drop];omega),if_pos (by rw [List.length_drop];omega),List.drop_drop]
  refine ⟨rfl,?_⟩
  rw [show (k+n).toNat=k.toNat+n.toNat by omega]
 ·rw [e3,e4,e5]
  by_cases hn:n<0
  ·rw [if_pos hn,if_pos hn];exact ⟨rfl,rfl⟩
  ·rw [if_neg hn,if_neg hn]
   cases b with
   |true=>exact ⟨rfl,rfl⟩
   |false =>
    have:¬ n.toNat≤(p.drop k.toNat).length:=by
     rw [List.length_drop]
     intro hle
     exact e0 ⟨rfl,by omega,by omega⟩
    show []=tkO (some (p.drop k.toNat)) n.toNat∧none=nxO (some (p.drop k.toNat)) n.toNat
    rw [gW,iA,if_neg this,if_neg this]
    exact ⟨rfl,rfl⟩
theorem uk (p:List Int) (k:Int) (b:Bool):eT (cst p k b)=b:=by cases b <;> rfl
theorem Bj {p:List Int} {k:Int} (b:Bool) (hd:Dg p) (h:iq p k):eY p k b=fh (cst p k b)∧cst p (aL p k b) (aM p k b)=nxO (cst p k b) 1:=by
 obtain ⟨h1,h2⟩:=re b 1 h
 refine ⟨?_,h2⟩
 unfold eY fh
 have h2':cst p (cA p k b 1) (bl p k b 1)=nxO (cst p k b) 1:=h2
 have hb:bl p k b 1=eT (nxO (cst p k b) 1):=by rw [← h2',uk]
 have h1':be p k b 1=tkO (cst p k b) 1:=h1
 rw [hb,h1']
 have hx:=Fd ((CL hd h b).tk 1) 0
 have w:IntKind.wrap .i64 ((tkO (cst p k b) 1).getD 0 0)=(tkO (cst p k b) 1).getD 0 0:=bm (by omega) (by omega)
 rw [w]
 cases hs:cst p k b with
 |none=>rfl
 |some s =>
  simp only [tkO,nxO]
  split <;> rfl
theorem zx {p:List Int} {k:Int} (b:Bool) (hd:Dg p) (h:iq p k):co p k b=(iI (cst p k b):Int)∧cst p (cd p k b) (dG p k b)=nxO (cst p k b) 4:=by
 obtain ⟨h1,h2⟩:=re b 4 h
 refine ⟨?_,h2⟩
 unfold co iI
 have h2':cst p (cA p k b 4) (bl p k b 4)=nxO (cst p k b) 4:=h2
 have hb:bl p k b 4=eT (nxO (cst p k b) 4):=by rw [← h2',uk]
 have h1':be p k b 4=tkO (cst p k b) 4:=h1
 rw [hb,h1']
 have hx:=(CL hd h b).tk 4
 cases hs:cst p k b with
 |none=>rfl
 |some s =>
  rw [hs] at hx
  simp only [tkO,nxO] at hx ⊢
  by_cases hl:4≤s.length
  ·rw [if_pos hl] at hx ⊢
   rw [if_pos hl]
   show sel false _ _=_
   rw [aA]
   have hl4:(s.take 4).length=4:=by rw [List.length_take];omega
   generalize s.take 4=x at *
   match x,hl4 with
   |[a,b,c,d],_ =>
    have ha:=hx a (by simp)
    have hb:=hx b (by simp)
    have hc:=hx c (by simp)
    have hd:=hx d (by simp)
    show aN .i64 (aN .i64 (aN .i64 (bS .i64 (IntKind.wrap .i64 a) 16777216) (bS .i64 (IntKind.wrap .i64 b) 65536)) (bS .i64 (IntKind.wrap .i64 c) 256)) (IntKind.wrap .i64 d)=((a.toNat*16777216+b.toNat*65536+c.toNat*256+d.toNat:Nat):Int)
    rw [bm (x:=a) (by omega) (by omega),bm (x:=b) (by omega) (by omega),bm (x:=c) (by omega) (by omega),bm (x:=d) (by omega) (by omega)]
    rw [cR (x:=a) (by omega) (by omega),cR (x:=b) (by omega) (by omega),cR (x:=c) (by omega) (by omega),bq (x:=a*16777216) (by omega) (by omega),bq (x:=a*16777216+b*65536) (by omega) (by omega),bq (x:=a*16777216+b*65536+c*256) (by omega) (by omega)]
    omega
  ·rw [if_neg hl,if_neg hl]
   rfl
theorem qc {p:List Int} {k:Int} (b:Bool) (hd:Dg p) (h:iq p k):aE p k b=bytesOf (textV (cst p k b))∧cst p (ab p k b) (aS p k b)=textN (cst p k b):=by
 obtain ⟨h1,h2⟩:=zx b hd h
 have hc:=mJ b h
 unfold aE ab aS textV textN
 rw [h1]
 have hb:dG p k b=eT (nxO (cst p k b) 4):=by rw [← h2,uk]
 obtain ⟨t1,t2⟩:=re (sel (decide (((iI (cst p k b):Nat):Int)>16384)) true (dG p k b)) ((iI (cst p k b):Nat):Int) (show iq p (cd p k b) from ⟨h.1,hc.1,hc.2⟩)
 rw [if_neg (by omega),Int.toNat_natCast] at t1 t2
 rw [t1,t2]
 by_cases hu:iI (cst p k b)>16384
 ·rw [if_pos hu,if_pos hu,decide_eq_true (show ((iI (cst p k b):Nat):Int)>16384 by omega),aD]
  exact ⟨rfl,rfl⟩
 ·rw [if_neg hu,if_neg hu,decide_eq_false (show ¬ ((iI (cst p k b):Nat):Int)>16384 by omega),aA,h2]
  exact ⟨rfl,rfl⟩
theorem zb {p:List Int} {k:Int} (b:Bool) (h:iq p k):kA p k b=(cst p k b==some []):=by
 unfold kA
 cases b with
 |true=>rfl
 |false =>
  obtain ⟨_,h2,h3⟩:=h
  show sel true _ _=_
  rw [aD]
  show _=(some (p.drop k.toNat)==some [])
  by_cases he:k=(p.length:Int)
  ·have e1:(k==((p.length:Nat):Int))=true:=by simpa using he
   rw [e1,List.drop_of_length_le (by omega)]
   rfl
  ·have e1:(k==((p.length:Nat):Int))=false:=by simpa using he
   rw [e1]
   cases hd:p.drop k.toNat with
   |nil =>
    have:=congrArg List.length hd
    rw [List.length_drop] at this
    simp at this
    omega
   |cons a r=>rfl
theorem Bx {n:Nat} (h:n<4294967296):xt (be4 n)=n:=by
 show (((n/16777216 % 256:Nat):Int)).toNat*16777216+(((n/65536 % 256:Nat):Int)).toNat*65536+(((n/256 % 256:Nat):Int)).toNat*256+(((n % 256:Nat):Int)).toNat=n
 rw [Int.toNat_natCast,Int.toNat_natCast,Int.toNat_natCast,Int.toNat_natCast]
 omega
theorem vN (n:Nat) (h:n<4294967296) (r:List Int):iI (some (be4 n++r))=n∧nxO (some (be4 n++r)) 4=some r:=by
 have hl:4≤(be4 n++r).length:=by rw [List.length_append];show 4≤4+_;omega
 unfold iI
 have e1:(be4 n++r).take 4=be4 n:=List.take_left' rfl
 have e2:(be4 n++r).drop 4=r:=List.drop_left' rfl
 rw [gW,iA,if_pos hl,if_pos hl,e1,e2]
 exact ⟨Bx h,rfl⟩
theorem Ab (s r:List Int) (h:s.length≤16384):textV (some (be4 s.length++s++r))=s∧textN (some (be4 s.length++s++r))=some r:=by
 obtain ⟨h1,h2⟩:=vN s.length (by omega) (s++r)
 rw [List.append_assoc]
 unfold textV textN
 have hl:s.length≤(s++r).length:=by rw [List.length_append];omega
 rw [h1,h2,if_neg (by omega),if_neg (by omega),gW,iA,if_pos hl,if_pos hl,List.take_left' rfl,List.drop_left' rfl]
 exact ⟨rfl,rfl⟩
theorem Ds {a:List Int} {n:Nat} (h:n=a.length):(a.drop 0).take n=a:=by rw [List.drop_zero,h,List.take_length]
end Go.Vm
namespace Go.Vm
open Go
theorem yz {p:List Int} (hd:Dg p) (hl:p.length≤1000000000):gJ (some p):=fun s hs=>by cases hs;exact ⟨hd,hl⟩
theorem Bb (x:ByteArray) (h:x.size≤1000000000):gJ (some (aR x)):=yz (gn x) (by rw [ap];exact h)
def wq (x:ByteArray):Bool:=textN (textN (some (aR x)))==some []
theorem nf (x:ByteArray):aH (aR x) x.size 0 x.size=aR x:=bJ (ap x)
theorem wv (x:ByteArray) (h:x.size≤1000000000):bg x=sel (!(wq x)) (⟨#[]⟩:ByteArray) (sel (!(aC (bytesOf (textV (some (aR x)))) (⟨#[115,115,104,45,101,100,50,53,53,49,57]⟩:ByteArray))) (⟨#[]⟩:ByteArray) (sel (((((bytesOf (textV (textN (some (aR x))))).size:Nat):Int):Int) != 32) (⟨#[]⟩:ByteArray) (bytesOf (textV (textN (some (aR x))))))):=by
 have h0:=Bb x h
 have t1:=iX h0
 have t2:=iX h0.textN
 have e1:aj (aR x) false=bytesOf (textV (some (aR x))):=t1.1
 have e2:au (aR x) false=rb (textN (some (aR x))):=t1.2.1
 have e3:bA (aR x) false=eT (textN (some (aR x))):=t1.2.2
 unfold bg gF ir jA bW
 rw [nf,e1,e2,e3,t2.1,t2.2.1,t2.2.2,mT]
 rfl
theorem oe (x:ByteArray) (n:Int) (h:x.size≤1000000000):aJ x n=sel (!(wq x)) (⟨#[]⟩:ByteArray) (sel (!(aC (bytesOf (textV (some (aR x)))) (⟨#[115,115,104,45,101,100,50,53,53,49,57]⟩:ByteArray))) (⟨#[]⟩:ByteArray) (sel (((((bytesOf (textV (textN (some (aR x))))).size:Nat):Int):Int) != n) (⟨#[]⟩:ByteArray) (bytesOf (textV (textN (some (aR x))))))):=by
 have hd:=gn x
 have hl:(aR x).length≤1000000000:=by rw [ap];exact h
 have c0:iq (aR x) 0:=⟨hl,by omega,by omega⟩
 have t1:=qc false hd c0
 have c1:iq (aR x) (ab (aR x) 0 false):=⟨hl,nt false c0⟩
 have t2:=qc (aS (aR x) 0 false) hd c1
 have c2:iq (aR x) (ab (aR x) (ab (aR x) 0 false) (aS (aR x) 0 false)):=⟨hl,nt _ c1⟩
 have s0:cst (aR x) 0 false=some (aR x):=rfl
 unfold aJ mv iU nD
 rw [nf,t1.1,t2.1,zb _ c2,t2.2,t1.2,s0]
 rfl
theorem EB (t:ByteArray) (h:t.size≤1000000000):jw t=aC (aJ t 64) (⟨#[]⟩:ByteArray)∧(jw t=false→bytesOf (dK t)=aJ t 64):=by
 have h0:=Bb t h
 have t1:=iX h0
 have t2:=iX h0.textN
 have e1:aj (aR t) false=bytesOf (textV (some (aR t))):=t1.1
 have e2:au (aR t) false=rb (textN (some (aR t))):=t1.2.1
 have e3:bA (aR t) false=eT (textN (some (aR t))):=t1.2.2
 have v0:fK t=bytesOf (textV (textN (some (aR t)))):=by unfold fK bW;rw [nf,e2,e3,t2.1]
 have vE:fj (gk t) (gh t)=wq t:=by unfold gk gh bW;rw [nf,e2,e3,t2.2.1,t2.2.2,mT];rfl
 have vK:aj (bW t.size (aR t)) false=bytesOf (textV (some (aR t))):=by unfold bW;rw [nf,e1]
 have vo:bH t=fK t:=rfl
 rw [oe t 64 h]
 unfold jw dK
 rw [vo,vE,vK,v0]
 generalize wq t=a
 generalize aC (bytesOf (textV (some (aR t)))) (⟨#[115,115,104,45,101,100,50,53,53,49,57]⟩:ByteArray)=b
 generalize bytesOf (textV (textN (some (aR t))))=s
 cases a
 ·simp only [Bool.not_false,aD];exact ⟨(bN _).symm,fun h=>by cases h⟩
 ·cases b
  ·simp only [Bool.not_false,Bool.not_true,aD,aA];exact ⟨(bN _).symm,fun h=>by cases h⟩
  ·simp only [Bool.not_true,aA]
   cases hq:((((s.size:Nat):Int):Int) != 64)
   ·rw [aA]
    refine ⟨?_,fun _=>cJ s⟩
    have hs:=bz hq
    cases hz:aC s (⟨#[]⟩:ByteArray)
    ·rfl
    ·have:=ew hz
     subst this
     exact absurd hs (by decide)
   ·rw [aD];exact ⟨(bN _).symm,fun h=>by cases h⟩
theorem wk (t:ByteArray) (h:t.size≤1000000000):bg t=aJ t 32:=by rw [wv t h,oe t 32 h]
theorem sh {x y:List Int} (hx:Dg x) (hy:Dg y) (h:bytesOf x=bytesOf y):x=y:=by rw [← iH hx,← iH hy,h]
end Go.Vm
namespace Go.Vm
open Go
abbrev el:ByteArray:=⟨#[115,115,104,45,99,111,110,110,101,99,116,105,111,110]⟩
abbrev kn:ByteArray:=⟨#[115,115,104,45,117,115,101,114,97,117,116,104]⟩
abbrev sEd:ByteArray:=⟨#[115,115,104,45,101,100,50,53,53,49,57]⟩
abbrev sPk:ByteArray:=⟨#[112,117,98,108,105,99,107,101,121]⟩
abbrev sPw:ByteArray:=⟨#[112,97,115,115,119,111,114,100]⟩
abbrev sNo:ByteArray:=⟨#[110,111,110,101]⟩
abbrev ik:ByteArray:=⟨#[]⟩
def rq1 (p:List Int):Rd:=nxO (some p) 1
def rq2 (p:List Int):Rd:=textN (rq1 p)
def rq3 (p:List Int):Rd:=textN (rq2 p)
def rq4 (p:List Int):Rd:=textN (rq3 p)
theorem DD {p:List Int} (hd:Dg p) (hl:p.length≤1000000000):gJ (some p):=yz hd hl
theorem CU {p:List Int} (hd:Dg p) (hl:p.length≤1000000000):gJ (rq1 p)∧gJ (rq2 p)∧gJ (rq3 p)∧gJ (rq4 p):=by
 have h1:gJ (rq1 p):=(DD hd hl).nx 1
 exact ⟨h1,h1.textN,h1.textN.textN,h1.textN.textN.textN⟩
theorem xl {p:List Int} (hd:Dg p) (hl:p.length≤1000000000):dZ p false=fh (some p)∧aj (bO p false) (bR p false)=bytesOf (textV (rq1 p))∧jZ p=(rq2 p==some [])∧gT p=bytesOf (textV (rq2 p))∧aj (cN p) (cQ p)=bytesOf (textV (rq3 p))∧au (cN p) (cQ p)=rb (rq4 p)∧bA (cN p) (cQ p)=eT (rq4 p):=by
 obtain ⟨o1,o2,o3,o4⟩:=CU hd hl
 have b:=vX (some p)
 have b0:dZ p false=fh (some p):=b.1
 have b1:bO p false=rb (rq1 p):=b.2.1
 have b2:bR p false=eT (rq1 p):=b.2.2
 have t1:=iX o1
 have t2:=iX o2
 have t3:=iX o3
 have e3:cN p=rb (rq3 p):=by unfold cN;rw [b1,b2,t1.2.1,t1.2.2];exact t2.2.1
 have e4:cQ p=eT (rq3 p):=by unfold cQ;rw [b1,b2,t1.2.1,t1.2.2];exact t2.2.2
 refine ⟨b0,?_,?_,?_,?_,?_,?_⟩
 ·rw [b1,b2];exact t1.1
 ·unfold jZ;rw [b1,b2,t1.2.1,t1.2.2];exact mT _
 ·unfold gT;rw [b1,b2,t1.2.1,t1.2.2];exact t2.1
 ·rw [e3,e4];exact t3.1
 ·rw [e3,e4];exact t3.2.1
 ·rw [e3,e4];exact t3.2.2
theorem HU {st:Rd} (h:gJ st):fv (rb st) (eT st)=(fh st != 0)∧aj (bU (rb st) (eT st)) (bf (rb st) (eT st))=bytesOf (textV (nxO st 1))∧oI (rb st) (eT st)=(textN (nxO st 1)==some [])∧bw (rb st) (eT st)=bytesOf (textV (textN (nxO st 1)))∧aj (bK (rb st) (eT st)) (bL (rb st) (eT st))=bytesOf (textV (textN (textN (nxO st 1))))∧fj (bK (rb st) (eT st)) (bL (rb st) (eT st))=(textN (textN (nxO st 1))==some [])∧iB (rb st) (eT st)=(textN (textN (textN (nxO st 1)))==some []):=by
 have f:=FY st
 have t1:=iX (h.nx 1)
 have t2:=iX (h.nx 1).textN
 have t3:=iX (h.nx 1).textN.textN
 have e3:bK (rb st) (eT st)=rb (textN (textN (nxO st 1))):=by unfold bK;rw [f.2.1,f.2.2,t1.2.1,t1.2.2];exact t2.2.1
 have e4:bL (rb st) (eT st)=eT (textN (textN (nxO st 1))):=by unfold bL;rw [f.2.1,f.2.2,t1.2.1,t1.2.2];exact t2.2.2
 refine ⟨f.1,?_,?_,?_,?_,?_,?_⟩
 ·rw [f.2.1,f.2.2];exact t1.1
 ·unfold oI;rw [f.2.1,f.2.2,t1.2.1,t1.2.2];exact mT _
 ·unfold bw;rw [f.2.1,f.2.2,t1.2.1,t1.2.2];exact t2.1
 ·rw [e3,e4];exact t3.1
 ·rw [e3,e4];exact mT _
 ·unfold iB;rw [e3,e4,t3.2.1,t3.2.2];exact mT _
def tx (s:ByteArray) (r:List Int):List Int:=be4 (aR s).length++aR s++r
theorem jp (s:ByteArray) (r:List Int) (h:s.size≤16384):textV (some (tx s r))=aR s∧textN (some (tx s r))=some r:=Ab (aR s) r (by rw [ap];exact h)
theorem mz (s:ByteArray) (r q:List Int):tx s r++q=tx s (r++q):=by unfold tx;rw [List.append_assoc]
theorem gu {s:ByteArray} {r:List Int} (h:Dg r):Dg (tx s r):=Bm (Bm (Iq _) (gn _)) h
theorem lg {a:Int} {r:List Int} (ha:0≤a∧a<256) (h:Dg r):Dg (a :: r):=fun x hx=>by
 rcases List.mem_cons.1 hx with e|e
 ·rw [e];exact ha
 ·exact h x e
theorem od:Dg []:=fun x hx=>by cases hx
theorem ol (s:ByteArray) (r:List Int):(tx s r).length=4+s.size+r.length:=by unfold tx;rw [List.length_append,List.length_append,ap];rfl
theorem wt (k:Nat) (xs:List Int) (s:ByteArray) (h:s.size<4294967296):df k xs s=xs++tx s []:=by rw [wV k xs s h];unfold tx;rw [ap,List.append_nil,List.append_assoc]
theorem wf (k:Nat) (xs:List Int) (b:Bool):it k xs b=xs++[if b then 1 else 0]:=by cases b <;> rfl
theorem yh (u m:ByteArray) (hu:u.size≤100000) (hm:m.size≤100000):nA u m=50 :: tx u (tx el (tx m [])):=by
 unfold nA nO qk
 rw [wt _ _ _ (by omega),wt _ _ _ (by decide),wt _ _ _ (by omega)]
 simp only [mz,List.append_assoc,List.cons_append,List.nil_append]
end Go.Vm
end
