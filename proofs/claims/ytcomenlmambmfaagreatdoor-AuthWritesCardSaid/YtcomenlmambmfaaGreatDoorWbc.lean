/- A part of a proof (pack3): the small machine that walks the program, the walks of its functions, and what they compute in plain. -/
import Derived.Test.YtcomenlmambmfaaGreatDoorWbb
import Derived.Test.YtcomenlmambmfaaGreatDoorChecked
set_option maxHeartbeats 2000000
set_option maxRecDepth 4000
set_option linter.unusedVariables false
set_option linter.unusedSimpArgs false
noncomputable section
namespace Go.Vm
open Go Go.Proofs
def pj (p0:Int) (p1:Int):List Int :=
 (F20 (F30 p0) (F25 (F30 p1)))
def Jg:List AV→List Blk→Option (Prop × Ret)
 |[.sc (.i .u32 p0),.sc (.i .u32 p1)],[]=>some (True,⟨.ints .u64 5 (pj p0 p1),[]⟩)
 |_,_=>none
theorem JI:Known Tryz.prog gD 101 ⟨0,0,Jg⟩:=by
 refine Xw Tryz.f101 11 (Zv K30 48 1 <|Zv K30 80 1 <|Zv K25 96 1 <|Zv K20 112 2 <|Zn) mixed <|fun E args ks C r h hC hlen=>?_
 simp only at h
 unfold Jg at h
 split at h
 rotate_left
 cases h
 rename_i p0 p1
 cases h
 simp only [aj] at hlen
 refine ⟨rfl,?_⟩
 exact Xt [Ep 4 16] [] [Mk 16 .u64 5 [0,0,0,0,0]] [] 32 (v1 pT) <|Xt [] [0,1] [Mk 16 .u64 5 (F20 (F30 p0) (F25 (F30 p1)))] [16] 144 (v1 (pu pz (v1 (pu pz (pu pz (pu pz (pu (Yz 5) pT))))))) <|Xz [] pz
def bQ:List Int :=
 (F18 (F30 0) (pj 121665 121666))
def Hp:List AV→List Blk→Option (Prop × Ret)
 |[],[]=>some (True,⟨.ints .u64 5 (bQ),[]⟩)
 |_,_=>none
theorem Hm:Known Tryz.prog gD 104 ⟨0,0,Hp⟩:=by
 refine Xw Tryz.f104 4 (Zv JI 48 2 <|Zv K30 32 1 <|Zv K18 64 2 <|Zn) mixed <|fun E args ks C r h hC hlen=>?_
 simp only at h
 unfold Hp at h
 split at h
 rotate_left
 cases h
 cases h
 simp only [aj] at hlen
 refine ⟨rfl,?_⟩
 exact Xt [Ep 0 16] [] [Mk 16 .u64 5 [0,0,0,0,0]] [] 32 (v1 pT) <|Xt [] [] [Mk 16 .u64 5 (F18 (F30 0) (pj 121665 121666))] [16] 96 (pu pz (pu pz (pu pz (pu (Yz 5) pT)))) <|Xz [] pz
def gP (p0:List Int):List Int :=
 (sel (!(jL p0)) [0,0,0,0,0,0,0,0,0,0,0,0,0,0,0,0,0,0,0,0] (sel (((iOr .u8 ((F33 (F23 p0)).getD 31 0) (aM .u8 (p0.getD 31 0) 128)):Int) != p0.getD 31 0) [0,0,0,0,0,0,0,0,0,0,0,0,0,0,0,0,0,0,0,0] (sel (!(aQ (bytesOf (((F33 (F23 p0)).drop 0).take 31)) (bytesOf ((p0.drop 0).take 31)))) [0,0,0,0,0,0,0,0,0,0,0,0,0,0,0,0,0,0,0,0] (sel (!(pe (F20 (F18 (F20 (F23 p0) (F23 p0)) (F30 1)) (F25 (F16 (F20 (F20 (F23 p0) (F23 p0)) (bQ)) (F30 1)))))) [0,0,0,0,0,0,0,0,0,0,0,0,0,0,0,0,0,0,0,0] (sel (F29 (F34 (F20 (F18 (F20 (F23 p0) (F23 p0)) (F30 1)) (F25 (F16 (F20 (F20 (F23 p0) (F23 p0)) (bQ)) (F30 1))))) (F30 0)) (sel (decide ((p0.getD 31 0:Int) ≥ 128)) [0,0,0,0,0,0,0,0,0,0,0,0,0,0,0,0,0,0,0,0] (aL (aL (aL (aL [0,0,0,0,0,0,0,0,0,0,0,0,0,0,0,0,0,0,0,0] 0 (sel (!((F32 (F34 (F20 (F18 (F20 (F23 p0) (F23 p0)) (F30 1)) (F25 (F16 (F20 (F20 (F23 p0) (F23 p0)) (bQ)) (F30 1))))))==(decide ((p0.getD 31 0:Int) ≥ 128)))) (F18 (F30 0) (F34 (F20 (F18 (F20 (F23 p0) (F23 p0)) (F30 1)) (F25 (F16 (F20 (F20 (F23 p0) (F23 p0)) (bQ)) (F30 1)))))) (F34 (F20 (F18 (F20 (F23 p0) (F23 p0)) (F30 1)) (F25 (F16 (F20 (F20 (F23 p0) (F23 p0)) (bQ)) (F30 1))))))) 5 (F23 p0)) 10 (F30 1)) 15 (F20 (sel (!((F32 (F34 (F20 (F18 (F20 (F23 p0) (F23 p0)) (F30 1)) (F25 (F16 (F20 (F20 (F23 p0) (F23 p0)) (bQ)) (F30 1))))))==(decide ((p0.getD 31 0:Int) ≥ 128)))) (F18 (F30 0) (F34 (F20 (F18 (F20 (F23 p0) (F23 p0)) (F30 1)) (F25 (F16 (F20 (F20 (F23 p0) (F23 p0)) (bQ)) (F30 1)))))) (F34 (F20 (F18 (F20 (F23 p0) (F23 p0)) (F30 1)) (F25 (F16 (F20 (F20 (F23 p0) (F23 p0)) (bQ)) (F30 1)))))) (F23 p0)))) (aL (aL (aL (aL [0,0,0,0,0,0,0,0,0,0,0,0,0,0,0,0,0,0,0,0] 0 (sel (!((F32 (F34 (F20 (F18 (F20 (F23 p0) (F23 p0)) (F30 1)) (F25 (F16 (F20 (F20 (F23 p0) (F23 p0)) (bQ)) (F30 1))))))==(decide ((p0.getD 31 0:Int) ≥ 128)))) (F18 (F30 0) (F34 (F20 (F18 (F20 (F23 p0) (F23 p0)) (F30 1)) (F25 (F16 (F20 (F20 (F23 p0) (F23 p0)) (bQ)) (F30 1)))))) (F34 (F20 (F18 (F20 (F23 p0) (F23 p0)) (F30 1)) (F25 (F16 (F20 (F20 (F23 p0) (F23 p0)) (bQ)) (F30 1))))))) 5 (F23 p0)) 10 (F30 1)) 15 (F20 (sel (!((F32 (F34 (F20 (F18 (F20 (F23 p0) (F23 p0)) (F30 1)) (F25 (F16 (F20 (F20 (F23 p0) (F23 p0)) (bQ)) (F30 1))))))==(decide ((p0.getD 31 0:Int) ≥ 128)))) (F18 (F30 0) (F34 (F20 (F18 (F20 (F23 p0) (F23 p0)) (F30 1)) (F25 (F16 (F20 (F20 (F23 p0) (F23 p0)) (bQ)) (F30 1)))))) (F34 (F20 (F18 (F20 (F23 p0) (F23 p0)) (F30 1)) (F25 (F16 (F20 (F20 (F23 p0) (F23 p0)) (bQ)) (F30 1)))))) (F23 p0))))))))
def fL (p0:List Int):Bool :=
 (sel (!(jL p0)) false (sel (((iOr .u8 ((F33 (F23 p0)).getD 31 0) (aM .u8 (p0.getD 31 0) 128)):Int) != p0.getD 31 0) false (sel (!(aQ (bytesOf (((F33 (F23 p0)).drop 0).take 31)) (bytesOf ((p0.drop 0).take 31)))) false (sel (!(pe (F20 (F18 (F20 (F23 p0) (F23 p0)) (F30 1)) (F25 (F16 (F20 (F20 (F23 p0) (F23 p0)) (bQ)) (F30 1)))))) false (sel (F29 (F34 (F20 (F18 (F20 (F23 p0) (F23 p0)) (F30 1)) (F25 (F16 (F20 (F20 (F23 p0) (F23 p0)) (bQ)) (F30 1))))) (F30 0)) (sel (decide ((p0.getD 31 0:Int) ≥ 128)) false true) true)))))
def Iw:List AV→List Blk→Option (Prop × Ret)
 |[.sc (.ro .u8 p0)],[]=>some (True,⟨.tup [.ints .u64 20 (gP p0),.sc (.b (fL p0))],[]⟩)
 |_,_=>none
def KC:KL Tryz.prog gD:=Zv K33 224 1 <|Zv Hm 720 0 <|Zv K16 768 2 <|Zv K30 672 1 <|Zv K30 752 1 <|Zv K30 1072 1 <|Zv K30 1232 1 <|Zv K30 1328 1 <|Zv K25 784 1 <|Zv K20 608 2 <|Zv K20 736 2 <|Zv K20 800 2 <|Zv K20 1376 2 <|Zv K32 1184 1 <|Zv K18 688 2 <|Zv K18 1264 2 <|Zc K23 64 [.ro .u8] [] [] <|Zv K34 816 1 <|Zv K29 1088 2 <|Zn
theorem JJ:Known Tryz.prog gD 103 ⟨0,0,Iw⟩:=by
 refine Xw Tryz.f103 87 KC mixed <|fun E args ks C r h hC hlen=>?_
 simp only at h
 unfold Iw at h
 split at h
 rotate_left
 cases h
 rename_i p0
 cases h
 simp only [aj] at hlen
 refine ⟨rfl,?_⟩
 refine Xt [Ep 2 16] [] [Mk 16 .u64 20 [0,0,0,0,0,0,0,0,0,0,0,0,0,0,0,0,0,0,0,0]] [] 48 (v2 pT) <|Xt [Eb 5 (jL p0),Ep 4 128] [] [Mk 128 .u64 5 (F23 p0)] [] 176 (v1 (pu (pa pz pT) (v4 (pu (Yz 5) (v1 pT))))) <|Tri.seq <|Xs [Eb 17 (!(jL p0))] [5] 208 (v2 pT) <|Xa (fun h1=>?_) (fun h1=>?_)
 exact Xt [Eb 3 false] [17,4,0] [] [128] 256 (v1 (pu (Yz 20) (v1 pT))) <|Xy [] (pa pT pz) (by simp only [gP,fL,h1,aC,aB] <;> rfl)
 refine Tri.skip <|Xt [Ep 6 240] [17] [Mi 240 32 (F33 (F23 p0))] [] 272 (v1 (pu pz (v1 (pu (Yz 32) pT)))) <|Tri.seq <|Tri.split (((iOr .u8 ((F33 (F23 p0)).getD 31 0) (aM .u8 (p0.getD 31 0) 128)):Int) != p0.getD 31 0) (fun h2=>?_) (fun h2=>?_)
 have h2':=cT h2
 refine Xu [Eb 32 true] (some [0,1,0,4,12,28,63,0,128,384,1023,2047,4095,8191,4095,20479,53247,131071,262143]) [Eb 39 true] [6] [] [240] 576 (pu (Yi 31 32) (pu (Yl 31 32) (v1 (pu (pl (show (0:Int)≤31∧31<(p0.length:Int) from by (have hl:=gc (p0:=p0) (by assumption);omega))) (pu (pl (show 31<p0.length from by (have hl:=gc (p0:=p0) (by assumption);omega))) (v3 (pu (pl (show (0:Int)≤31∧31<(p0.length:Int) from by (have hl:=gc (p0:=p0) (by assumption);omega))) (pu (pl (show 31<p0.length from by (have hl:=gc (p0:=p0) (by assumption);omega))) (v1 (pg h2 (v7 pT))))))))))) ?_
 exact Tri.cond_true (by kernel_rfl) <|Xt [Eb 3 false] [39,4,0] [] [128] 624 (v1 (pu (Yz 20) (v1 pT))) <|Xy [] (pa pT pz) (by simp only [gP,fL,h1,h2,aC,aB] <;> rfl)
 have h2':=bU h2
 refine Xu [Eb 32 false] (some [0,1,0,4,12,28,63,0,128,384,1023,2047,4095,8191,4095,20479,53247,131071,262143]) [Eb 39 (!(aQ (bytesOf (((F33 (F23 p0)).drop 0).take 31)) (bytesOf ((p0.drop 0).take 31))))] [6] [] [240] 576 (pu (Yi 31 32) (pu (Yl 31 32) (v1 (pu (pl (show (0:Int)≤31∧31<(p0.length:Int) from by (have hl:=gc (p0:=p0) (by assumption);omega))) (pu (pl (show 31<p0.length from by (have hl:=gc (p0:=p0) (by assumption);omega))) (v3 (pu (pl (show (0:Int)≤31∧31<(p0.length:Int) from by (have hl:=gc (p0:=p0) (by assumption);omega))) (pu (pl (show 31<p0.length from by (have hl:=gc (p0:=p0) (by assumption);omega))) (v1 (pg h2 (pu (pa (lo ((0:Int)≤0∧(0:Int)≤31∧31≤((32:Nat):Int))) (Ye 32 32)) (pu (Ye (0+31) 32) (v1 (pu (pl (show (0:Int)≤0∧(0:Int)≤31∧31≤(p0.length:Int) from by (have hl:=gc (p0:=p0) (by assumption);omega))) (v3 pT))))))))))))))) ?_
 refine Xa (fun h3=>?_) (fun h3=>?_)
 exact Xt [Eb 3 false] [39,4,0] [] [128] 624 (v1 (pu (Yz 20) (v1 pT))) <|Xy [] (pa pT pz) (by simp only [gP,fL,h1,h2,h3,aC,aB] <;> rfl)
 refine Tri.skip <|Xt [Ep 7 624] [39] [Mk 624 .u64 5 (F20 (F23 p0) (F23 p0))] [] 656 (v2 (pu pz (v1 (pu (Yz 5) pT)))) <|Xu [] (some [0,0,3,0,7,31,63,127,255,511,1023,2047,4095,4095,0,24575,65535]) [Eb 9 (pe (F20 (F18 (F20 (F23 p0) (F23 p0)) (F30 1)) (F25 (F16 (F20 (F20 (F23 p0) (F23 p0)) (bQ)) (F30 1))))),Ep 8 880] [7] [Mk 880 .u64 5 (F34 (F20 (F18 (F20 (F23 p0) (F23 p0)) (F30 1)) (F25 (F16 (F20 (F20 (F23 p0) (F23 p0)) (bQ)) (F30 1)))))] [624] 928 (v1 (pu pz (pu pz (v1 (pu pz (pu pz (pu pz (pu pz (pu pz (pu pz (pu pz (v4 (pu (Yz 5) (v1 pT)))))))))))))) <|Xs [Eb 10 (decide ((p0.getD 31 0:Int) ≥ 128))] [0] 1008 (v1 (pu (pl (show (0:Int)≤31∧31<(p0.length:Int) from by (have hl:=gc (p0:=p0) (by assumption);omega))) (pu (pl (show 31<p0.length from by (have hl:=gc (p0:=p0) (by assumption);omega))) (v2 pT)))) ?_
 refine Tri.seq <|Tri.split (!(pe (F20 (F18 (F20 (F23 p0) (F23 p0)) (F30 1)) (F25 (F16 (F20 (F20 (F23 p0) (F23 p0)) (bQ)) (F30 1)))))) (fun h4=>?_) (fun h4=>?_)
 exact Xu [Eb 64 true] (some [0,1,3,7,7,31,63,127,255,511]) [Eb 71 true] [9] [] [] 1168 (v2 (pg h4 (v7 pT))) <|Tri.cond_true (by kernel_rfl) <|Xt [Eb 3 false] [71,10,8,4] [] [880,128] 1216 (v1 (pu (Yz 20) (v1 pT))) <|Xy [] (pa pT pz) (by simp only [gP,fL,h1,h2,h3,h4,aC,aB] <;> rfl)
 refine Tri.split (F29 (F34 (F20 (F18 (F20 (F23 p0) (F23 p0)) (F30 1)) (F25 (F16 (F20 (F20 (F23 p0) (F23 p0)) (bQ)) (F30 1))))) (F30 0)) (fun h5=>?_) (fun h5=>?_)
 refine Xu [Eb 64 false,Eb 68 true] (some [0,1,3,7,7,31,63,127,255,511]) [Eb 71 (decide ((p0.getD 31 0:Int) ≥ 128))] [9] [] [] 1168 (v2 (pg h4 (v1 (pu pz (pu pz (pg h5 (v3 pT))))))) <|Xb (fun h6 h6'=>?_) (fun h6 h6'=>?_)
 exact Xt [Eb 3 false] [71,10,8,4] [] [880,128] 1216 (v1 (pu (Yz 20) (v1 pT))) <|Xy [] (pa pT pz) (by simp only [gP,fL,h1,h2,h3,h4,h5,h6,aC,aB] <;> rfl)
 refine Tri.skip <|Tri.seq <|Xs [Eb 76 (!((F32 (F34 (F20 (F18 (F20 (F23 p0) (F23 p0)) (F30 1)) (F25 (F16 (F20 (F20 (F23 p0) (F23 p0)) (bQ)) (F30 1))))))==(decide ((p0.getD 31 0:Int) ≥ 128))))] [71,10] 1232 (v1 (pu pz (v2 pT))) <|Xj (x:=(!((F32 (F34 (F20 (F18 (F20 (F23 p0) (F23 p0)) (F30 1)) (F25 (F16 (F20 (F20 (F23 p0) (F23 p0)) (bQ)) (F30 1))))))==(decide ((p0.getD 31 0:Int) ≥ 128))))) (fun bb=>[]) [76] (fun bb=>[Mk 880 .u64 5 (sel bb (F18 (F30 0) (F34 (F20 (F18 (F20 (F23 p0) (F23 p0)) (F30 1)) (F25 (F16 (F20 (F20 (F23 p0) (F23 p0)) (bQ)) (F30 1)))))) (F34 (F20 (F18 (F20 (F23 p0) (F23 p0)) (F30 1)) (F25 (F16 (F20 (F20 (F23 p0) (F23 p0)) (bQ)) (F30 1))))))]) [880] 1296 (fun h7=>?_) (fun h7=>?_) ?_
 exact Wu [] (some [0,0,3,7]) [] [76] [Mk 880 .u64 5 (F18 (F30 0) (F34 (F20 (F18 (F20 (F23 p0) (F23 p0)) (F30 1)) (F25 (F16 (F20 (F20 (F23 p0) (F23 p0)) (bQ)) (F30 1))))))] [880] 1296 (pu pz (v1 (pu pz (pu (Yz 5) pT)))) <|Xe [] [Mk 880 .u64 5 (F18 (F30 0) (F34 (F20 (F18 (F20 (F23 p0) (F23 p0)) (F30 1)) (F25 (F16 (F20 (F20 (F23 p0) (F23 p0)) (bQ)) (F30 1))))))]
 exact Tri.skip <|Xe [] [Mk 880 .u64 5 (F34 (F20 (F18 (F20 (F23 p0) (F23 p0)) (F30 1)) (F25 (F16 (F20 (F20 (F23 p0) (F23 p0)) (bQ)) (F30 1)))))]
 exact Xu [] (some [0,0,0,0,0,28,63,127,255]) [Eb 3 true] [8,4] [Mk 16 .u64 20 (aL (aL (aL (aL [0,0,0,0,0,0,0,0,0,0,0,0,0,0,0,0,0,0,0,0] 0 (sel (!((F32 (F34 (F20 (F18 (F20 (F23 p0) (F23 p0)) (F30 1)) (F25 (F16 (F20 (F20 (F23 p0) (F23 p0)) (bQ)) (F30 1))))))==(decide ((p0.getD 31 0:Int) ≥ 128)))) (F18 (F30 0) (F34 (F20 (F18 (F20 (F23 p0) (F23 p0)) (F30 1)) (F25 (F16 (F20 (F20 (F23 p0) (F23 p0)) (bQ)) (F30 1)))))) (F34 (F20 (F18 (F20 (F23 p0) (F23 p0)) (F30 1)) (F25 (F16 (F20 (F20 (F23 p0) (F23 p0)) (bQ)) (F30 1))))))) 5 (F23 p0)) 10 (F30 1)) 15 (F20 (sel (!((F32 (F34 (F20 (F18 (F20 (F23 p0) (F23 p0)) (F30 1)) (F25 (F16 (F20 (F20 (F23 p0) (F23 p0)) (bQ)) (F30 1))))))==(decide ((p0.getD 31 0:Int) ≥ 128)))) (F18 (F30 0) (F34 (F20 (F18 (F20 (F23 p0) (F23 p0)) (F30 1)) (F25 (F16 (F20 (F20 (F23 p0) (F23 p0)) (bQ)) (F30 1)))))) (F34 (F20 (F18 (F20 (F23 p0) (F23 p0)) (F30 1)) (F25 (F16 (F20 (F20 (F23 p0) (F23 p0)) (bQ)) (F30 1)))))) (F23 p0)))] [880,128,16] 1440 (v2 (pu pz (v2 (pu pz (pu (pa (pa (Ye (0+5) 20) (Yr 5)) (pa (pa (Ye (5+5) 20) (Yr 5)) (pa (pa (Ye (10+5) 20) (Yr 5)) (pa (pa (Ye (15+5) 20) (Yr 5)) pT)))) (pu (Yz 20) (v1 pT))))))) <|Xy (r':=⟨.tup [.ints .u64 20 (aL (aL (aL (aL [0,0,0,0,0,0,0,0,0,0,0,0,0,0,0,0,0,0,0,0] 0 (sel (!((F32 (F34 (F20 (F18 (F20 (F23 p0) (F23 p0)) (F30 1)) (F25 (F16 (F20 (F20 (F23 p0) (F23 p0)) (bQ)) (F30 1))))))==(decide ((p0.getD 31 0:Int) ≥ 128)))) (F18 (F30 0) (F34 (F20 (F18 (F20 (F23 p0) (F23 p0)) (F30 1)) (F25 (F16 (F20 (F20 (F23 p0) (F23 p0)) (bQ)) (F30 1)))))) (F34 (F20 (F18 (F20 (F23 p0) (F23 p0)) (F30 1)) (F25 (F16 (F20 (F20 (F23 p0) (F23 p0)) (bQ)) (F30 1))))))) 5 (F23 p0)) 10 (F30 1)) 15 (F20 (sel (!((F32 (F34 (F20 (F18 (F20 (F23 p0) (F23 p0)) (F30 1)) (F25 (F16 (F20 (F20 (F23 p0) (F23 p0)) (bQ)) (F30 1))))))==(decide ((p0.getD 31 0:Int) ≥ 128)))) (F18 (F30 0) (F34 (F20 (F18 (F20 (F23 p0) (F23 p0)) (F30 1)) (F25 (F16 (F20 (F20 (F23 p0) (F23 p0)) (bQ)) (F30 1)))))) (F34 (F20 (F18 (F20 (F23 p0) (F23 p0)) (F30 1)) (F25 (F16 (F20 (F20 (F23 p0) (F23 p0)) (bQ)) (F30 1)))))) (F23 p0))),.sc (.b true)],[]⟩) [] (pa pT pz) (by simp only [gP,fL,h1,h2,h3,h4,h5,h6,aC,aB])
 refine Xu [Eb 64 false,Eb 68 false] (some [0,1,3,7,7,31,63,127,255,511]) [Eb 71 false] [9] [] [] 1168 (v2 (pg h4 (v1 (pu pz (pu pz (pg h5 (v3 pT))))))) <|Tri.cond_false (by kernel_rfl) <|Tri.skip <|Tri.seq <|Xs [Eb 76 (!((F32 (F34 (F20 (F18 (F20 (F23 p0) (F23 p0)) (F30 1)) (F25 (F16 (F20 (F20 (F23 p0) (F23 p0)) (bQ)) (F30 1))))))==(decide ((p0.getD 31 0:Int) ≥ 128))))] [71,10] 1232 (v1 (pu pz (v2 pT))) <|Xj (x:=(!((F32 (F34 (F20 (F18 (F20 (F23 p0) (F23 p0)) (F30 1)) (F25 (F16 (F20 (F20 (F23 p0) (F23 p0)) (bQ)) (F30 1))))))==(decide ((p0.getD 31 0:Int) ≥ 128))))) (fun bb=>[]) [76] (fun bb=>[Mk 880 .u64 5 (sel bb (F18 (F30 0) (F34 (F20 (F18 (F20 (F23 p0) (F23 p0)) (F30 1)) (F25 (F16 (F20 (F20 (F23 p0) (F23 p0)) (bQ)) (F30 1)))))) (F34 (F20 (F18 (F20 (F23 p0) (F23 p0)) (F30 1)) (F25 (F16 (F20 (F20 (F23 p0) (F23 p0)) (bQ)) (F30 1))))))]) [880] 1296 (fun h8=>?_) (fun h8=>?_) ?_
 exact Wu [] (some [0,0,3,7]) [] [76] [Mk 880 .u64 5 (F18 (F30 0) (F34 (F20 (F18 (F20 (F23 p0) (F23 p0)) (F30 1)) (F25 (F16 (F20 (F20 (F23 p0) (F23 p0)) (bQ)) (F30 1))))))] [880] 1296 (pu pz (v1 (pu pz (pu (Yz 5) pT)))) <|Xe [] [Mk 880 .u64 5 (F18 (F30 0) (F34 (F20 (F18 (F20 (F23 p0) (F23 p0)) (F30 1)) (F25 (F16 (F20 (F20 (F23 p0) (F23 p0)) (bQ)) (F30 1))))))]
 exact Tri.skip <|Xe [] [Mk 880 .u64 5 (F34 (F20 (F18 (F20 (F23 p0) (F23 p0)) (F30 1)) (F25 (F16 (F20 (F20 (F23 p0) (F23 p0)) (bQ)) (F30 1)))))]
 exact Xu [] (some [0,0,0,0,0,28,63,127,255]) [Eb 3 true] [8,4] [Mk 16 .u64 20 (aL (aL (aL (aL [0,0,0,0,0,0,0,0,0,0,0,0,0,0,0,0,0,0,0,0] 0 (sel (!((F32 (F34 (F20 (F18 (F20 (F23 p0) (F23 p0)) (F30 1)) (F25 (F16 (F20 (F20 (F23 p0) (F23 p0)) (bQ)) (F30 1))))))==(decide ((p0.getD 31 0:Int) ≥ 128)))) (F18 (F30 0) (F34 (F20 (F18 (F20 (F23 p0) (F23 p0)) (F30 1)) (F25 (F16 (F20 (F20 (F23 p0) (F23 p0)) (bQ)) (F30 1)))))) (F34 (F20 (F18 (F20 (F23 p0) (F23 p0)) (F30 1)) (F25 (F16 (F20 (F20 (F23 p0) (F23 p0)) (bQ)) (F30 1))))))) 5 (F23 p0)) 10 (F30 1)) 15 (F20 (sel (!((F32 (F34 (F20 (F18 (F20 (F23 p0) (F23 p0)) (F30 1)) (F25 (F16 (F20 (F20 (F23 p0) (F23 p0)) (bQ)) (F30 1))))))==(decide ((p0.getD 31 0:Int) ≥ 128)))) (F18 (F30 0) (F34 (F20 (F18 (F20 (F23 p0) (F23 p0)) (F30 1)) (F25 (F16 (F20 (F20 (F23 p0) (F23 p0)) (bQ)) (F30 1)))))) (F34 (F20 (F18 (F20 (F23 p0) (F23 p0)) (F30 1)) (F25 (F16 (F20 (F20 (F23 p0) (F23 p0)) (bQ)) (F30 1)))))) (F23 p0)))] [880,128,16] 1440 (v2 (pu pz (v2 (pu pz (pu (pa (pa (Ye (0+5) 20) (Yr 5)) (pa (pa (Ye (5+5) 20) (Yr 5)) (pa (pa (Ye (10+5) 20) (Yr 5)) (pa (pa (Ye (15+5) 20) (Yr 5)) pT)))) (pu (Yz 20) (v1 pT))))))) <|Xy [] (pa pT pz) (by simp only [gP,fL,h1,h2,h3,h4,h5,aC,aB] <;> rfl)
theorem np {p0:List Int} (h:(!(fL p0))=false):p0.length=32:=by
 unfold fL at h
 cases hb:(!(jL p0))
 ·exact gc hb
 ·rw [hb,aC] at h
  cases h
def gh (p0:List Int):List Int :=
 (sel (F32 (F20 ((p0.drop 0).take 5) (F25 ((p0.drop 10).take 5)))) ((F33 (F20 ((p0.drop 5).take 5) (F25 ((p0.drop 10).take 5)))).set 31 (iOr .u8 ((F33 (F20 ((p0.drop 5).take 5) (F25 ((p0.drop 10).take 5)))).getD 31 0) 128)) (F33 (F20 ((p0.drop 5).take 5) (F25 ((p0.drop 10).take 5)))))
def IJ:List AV→List Blk→Option (Prop × Ret)
 |[.ints .u64 20 p0],[]=>some (True,⟨.sc (.sl 0 0 32 1 (some 32)),[some (.ints .u8 32 (gh p0))]⟩)
 |_,_=>none
theorem Gs:Known Tryz.prog gD 63 ⟨0,1,IJ⟩:=by
 refine Xw Tryz.f63 23 (Zv K33 192 1 <|Zv K25 80 1 <|Zv K20 176 2 <|Zv K20 288 2 <|Zv K32 304 1 <|Zn) mixed <|fun E args ks C r h hC hlen=>?_
 simp only at h
 unfold IJ at h
 split at h
 rotate_left
 cases h
 rename_i p0
 cases h
 simp only [aj] at hlen
 refine ⟨rfl,?_⟩
 refine Xt [Ep 1 16] [0] [Mk 16 .u64 20 p0] [] 48 (v2 pT) <|Xt [Ep 3 96] [] [Mk 96 .u64 5 (F25 ((p0.drop 10).take 5))] [] 128 (v1 (pu (Ye (10+5) 20) (pu pz (v1 (pu (Yz 5) pT))))) <|Xt [Ep 4 208] [] [Mi 208 32 (F33 (F20 ((p0.drop 5).take 5) (F25 ((p0.drop 10).take 5))))] [] 240 (v1 (pu (Ye (5+5) 20) (v1 (pu pz (pu pz (v1 (pu (Yz 32) pT))))))) <|Tri.seq <|Xt [Eb 17 (F32 (F20 ((p0.drop 0).take 5) (F25 ((p0.drop 10).take 5))))] [3,1] [] [96,16] 320 (v1 (pu (Ye (0+5) 20) (v1 (pu pz (pu pz pT))))) <|Xj (x:=(F32 (F20 ((p0.drop 0).take 5) (F25 ((p0.drop 10).take 5))))) (fun bb=>[]) [17] (fun bb=>[Mi 208 32 (sel bb ((F33 (F20 ((p0.drop 5).take 5) (F25 ((p0.drop 10).take 5)))).set 31 (iOr .u8 ((F33 (F20 ((p0.drop 5).take 5) (F25 ((p0.drop 10).take 5)))).getD 31 0) 128)) (F33 (F20 ((p0.drop 5).take 5) (F25 ((p0.drop 10).take 5)))))]) [208] 400 (fun h1=>?_) (fun h1=>?_) ?_
 exact Wt [] [17] [Mi 208 32 ((F33 (F20 ((p0.drop 5).take 5) (F25 ((p0.drop 10).take 5)))).set 31 (iOr .u8 ((F33 (F20 ((p0.drop 5).take 5) (F25 ((p0.drop 10).take 5)))).getD 31 0) 128))] [208] 400 (pu (Yi 31 32) (pu (Yl 31 32) (v1 (pu (Yi 31 32) (pu (Ys 31 32) pT))))) <|Xe [] [Mi 208 32 ((F33 (F20 ((p0.drop 5).take 5) (F25 ((p0.drop 10).take 5)))).set 31 (iOr .u8 ((F33 (F20 ((p0.drop 5).take 5) (F25 ((p0.drop 10).take 5)))).getD 31 0) 128))]
 exact Tri.skip <|Xe [] [Mi 208 32 (F33 (F20 ((p0.drop 5).take 5) (F25 ((p0.drop 10).take 5))))]
 exact Xs [(2,.sc (.sl 208 0 32 1 (some 32)))] [4] 432 (pu (pa (lo ((0:Int)≤0∧(0:Int)≤32∧32≤((32:Nat):Int))) (Ye 32 32)) (v1 pT)) <|Xz [(208,0)] pz
def jw (p0:List Int) (p1:List Int) (p2:List Int):List Int :=
 aL (aL (aL (aL [0,0,0,0,0,0,0,0,0,0,0,0,0,0,0,0,0,0,0,0] 0 (F20 (F18 (F20 (F16 ((p0.drop 5).take 5) ((p0.drop 0).take 5)) (F16 ((p1.drop 5).take 5) ((p1.drop 0).take 5))) (F20 (F18 ((p0.drop 5).take 5) ((p0.drop 0).take 5)) (F18 ((p1.drop 5).take 5) ((p1.drop 0).take 5)))) (F18 (F16 (F20 ((p0.drop 10).take 5) ((p1.drop 10).take 5)) (F20 ((p0.drop 10).take 5) ((p1.drop 10).take 5))) (F20 (F20 ((p0.drop 15).take 5) ((p1.drop 15).take 5)) p2)))) 5 (F20 (F16 (F16 (F20 ((p0.drop 10).take 5) ((p1.drop 10).take 5)) (F20 ((p0.drop 10).take 5) ((p1.drop 10).take 5))) (F20 (F20 ((p0.drop 15).take 5) ((p1.drop 15).take 5)) p2)) (F16 (F20 (F16 ((p0.drop 5).take 5) ((p0.drop 0).take 5)) (F16 ((p1.drop 5).take 5) ((p1.drop 0).take 5))) (F20 (F18 ((p0.drop 5).take 5) ((p0.drop 0).take 5)) (F18 ((p1.drop 5).take 5) ((p1.drop 0).take 5)))))) 10 (F20 (F18 (F16 (F20 ((p0.drop 10).take 5) ((p1.drop 10).take 5)) (F20 ((p0.drop 10).take 5) ((p1.drop 10).take 5))) (F20 (F20 ((p0.drop 15).take 5) ((p1.drop 15).take 5)) p2)) (F16 (F16 (F20 ((p0.drop 10).take 5) ((p1.drop 10).take 5)) (F20 ((p0.drop 10).take 5) ((p1.drop 10).take 5))) (F20 (F20 ((p0.drop 15).take 5) ((p1.drop 15).take 5)) p2)))) 15 (F20 (F18 (F20 (F16 ((p0.drop 5).take 5) ((p0.drop 0).take 5)) (F16 ((p1.drop 5).take 5) ((p1.drop 0).take 5))) (F20 (F18 ((p0.drop 5).take 5) ((p0.drop 0).take 5)) (F18 ((p1.drop 5).take 5) ((p1.drop 0).take 5)))) (F16 (F20 (F16 ((p0.drop 5).take 5) ((p0.drop 0).take 5)) (F16 ((p1.drop 5).take 5) ((p1.drop 0).take 5))) (F20 (F18 ((p0.drop 5).take 5) ((p0.drop 0).take 5)) (F18 ((p1.drop 5).take 5) ((p1.drop 0).take 5)))))
def Iu:List AV→List Blk→Option (Prop × Ret)
 |[.ints .u64 20 p0,.ints .u64 20 p1,.ints .u64 5 p2],[]=>some (True,⟨.ints .u64 20 (jw p0 p1 p2),[]⟩)
 |_,_=>none
def KW:KL Tryz.prog gD:=Zv K16 320 2 <|Zv K16 400 2 <|Zv K16 784 2 <|Zv K16 944 2 <|Zv K16 992 2 <|Zv K20 240 2 <|Zv K20 416 2 <|Zv K20 560 2 <|Zv K20 592 2 <|Zv K20 672 2 <|Zv K20 1168 2 <|Zv K20 1216 2 <|Zv K20 1264 2 <|Zv K20 1312 2 <|Zv K18 144 2 <|Zv K18 224 2 <|Zv K18 848 2 <|Zv K18 896 2 <|Zn
theorem He:Known Tryz.prog gD 107 ⟨0,0,Iu⟩:=by
 refine Xw Tryz.f107 77 KW mixed <|fun E args ks C r h hC hlen=>?_
 simp only at h
 unfold Iu at h
 split at h
 rotate_left
 cases h
 rename_i p0 p1 p2
 cases h
 simp only [aj] at hlen
 refine ⟨rfl,?_⟩
 exact Xt [Ep 6 64,Ep 5 48,Ep 4 32,Ep 3 16] [0,1,2] [Mk 64 .u64 20 [0,0,0,0,0,0,0,0,0,0,0,0,0,0,0,0,0,0,0,0],Mk 48 .u64 5 p2,Mk 32 .u64 20 p1,Mk 16 .u64 20 p0] [] 80 (v4 pT) <|Xu [] (some [0,1,0,4,15,0,32,0,128,511,1023,0,2048,0,8192,32767,0,65536,0,262144,1048575,2097151,0,0,16777215,33554431]) [Ep 8 448,Ep 7 432] [] [Mk 448 .u64 5 (F20 (F16 ((p0.drop 5).take 5) ((p0.drop 0).take 5)) (F16 ((p1.drop 5).take 5) ((p1.drop 0).take 5))),Mk 432 .u64 5 (F20 (F18 ((p0.drop 5).take 5) ((p0.drop 0).take 5)) (F18 ((p1.drop 5).take 5) ((p1.drop 0).take 5)))] [] 496 (v1 (pu (Ye (5+5) 20) (v1 (pu (Ye (0+5) 20) (pu pz (v1 (pu (Ye (5+5) 20) (v1 (pu (Ye (0+5) 20) (pu pz (pu pz (v1 (pu (Ye (5+5) 20) (v1 (pu (Ye (0+5) 20) (pu pz (v1 (pu (Ye (5+5) 20) (v1 (pu (Ye (0+5) 20) (pu pz (pu pz (v2 (pu (Yz 5) (pu (Yz 5) pT))))))))))))))))))))))))) <|Xu [] (some [0,1,0,4,15,0,63,0,128,0,512,2047,0,0,16383,32767]) [Ep 10 704,Ep 9 688] [5,4,3] [Mk 704 .u64 5 (F20 ((p0.drop 10).take 5) ((p1.drop 10).take 5)),Mk 688 .u64 5 (F20 (F20 ((p0.drop 15).take 5) ((p1.drop 15).take 5)) p2)] [48,32,16] 752 (v1 (pu (Ye (15+5) 20) (v1 (pu (Ye (15+5) 20) (pu pz (v1 (pu pz (v1 (pu (Ye (10+5) 20) (v1 (pu (Ye (10+5) 20) (pu pz (v2 (pu (Yz 5) (pu (Yz 5) pT))))))))))))))) <|Xt [] [] [Mk 704 .u64 5 (F16 (F20 ((p0.drop 10).take 5) ((p1.drop 10).take 5)) (F20 ((p0.drop 10).take 5) ((p1.drop 10).take 5)))] [704] 816 (v2 (pu pz (pu (Yz 5) pT))) <|Xu [] (some [0,0,3,0,0,31,0,0,255,0,0,2047,0,0,0,0,65535,131071,262143,524287]) [Ep 14 1056,Ep 13 1040,Ep 12 1024,Ep 11 1008] [10,9,8,7] [Mk 1056 .u64 5 (F16 (F20 (F16 ((p0.drop 5).take 5) ((p0.drop 0).take 5)) (F16 ((p1.drop 5).take 5) ((p1.drop 0).take 5))) (F20 (F18 ((p0.drop 5).take 5) ((p0.drop 0).take 5)) (F18 ((p1.drop 5).take 5) ((p1.drop 0).take 5)))),Mk 1040 .u64 5 (F16 (F16 (F20 ((p0.drop 10).take 5) ((p1.drop 10).take 5)) (F20 ((p0.drop 10).take 5) ((p1.drop 10).take 5))) (F20 (F20 ((p0.drop 15).take 5) ((p1.drop 15).take 5)) p2)),Mk 1024 .u64 5 (F18 (F16 (F20 ((p0.drop 10).take 5) ((p1.drop 10).take 5)) (F20 ((p0.drop 10).take 5) ((p1.drop 10).take 5))) (F20 (F20 ((p0.drop 15).take 5) ((p1.drop 15).take 5)) p2)),Mk 1008 .u64 5 (F18 (F20 (F16 ((p0.drop 5).take 5) ((p0.drop 0).take 5)) (F16 ((p1.drop 5).take 5) ((p1.drop 0).take 5))) (F20 (F18 ((p0.drop 5).take 5) ((p0.drop 0).take 5)) (F18 ((p1.drop 5).take 5) ((p1.drop 0).take 5))))] [704,688,448,432] 1136 (v2 (pu pz (v2 (pu pz (v2 (pu pz (v2 (pu pz (v4 (pu (Yz 5) (pu (Yz 5) (pu (Yz 5) (pu (Yz 5) pT))))))))))))) <|Xu [] (some [0,0,3,0,0,31,0,0,255,0,0,2047,4095,8191]) [] [14,13,12,11] [Mk 64 .u64 20 (aL (aL (aL (aL [0,0,0,0,0,0,0,0,0,0,0,0,0,0,0,0,0,0,0,0] 0 (F20 (F18 (F20 (F16 ((p0.drop 5).take 5) ((p0.drop 0).take 5)) (F16 ((p1.drop 5).take 5) ((p1.drop 0).take 5))) (F20 (F18 ((p0.drop 5).take 5) ((p0.drop 0).take 5)) (F18 ((p1.drop 5).take 5) ((p1.drop 0).take 5)))) (F18 (F16 (F20 ((p0.drop 10).take 5) ((p1.drop 10).take 5)) (F20 ((p0.drop 10).take 5) ((p1.drop 10).take 5))) (F20 (F20 ((p0.drop 15).take 5) ((p1.drop 15).take 5)) p2)))) 5 (F20 (F16 (F16 (F20 ((p0.drop 10).take 5) ((p1.drop 10).take 5)) (F20 ((p0.drop 10).take 5) ((p1.drop 10).take 5))) (F20 (F20 ((p0.drop 15).take 5) ((p1.drop 15).take 5)) p2)) (F16 (F20 (F16 ((p0.drop 5).take 5) ((p0.drop 0).take 5)) (F16 ((p1.drop 5).take 5) ((p1.drop 0).take 5))) (F20 (F18 ((p0.drop 5).take 5) ((p0.drop 0).take 5)) (F18 ((p1.drop 5).take 5) ((p1.drop 0).take 5)))))) 10 (F20 (F18 (F16 (F20 ((p0.drop 10).take 5) ((p1.drop 10).take 5)) (F20 ((p0.drop 10).take 5) ((p1.drop 10).take 5))) (F20 (F20 ((p0.drop 15).take 5) ((p1.drop 15).take 5)) p2)) (F16 (F16 (F20 ((p0.drop 10).take 5) ((p1.drop 10).take 5)) (F20 ((p0.drop 10).take 5) ((p1.drop 10).take 5))) (F20 (F20 ((p0.drop 15).take 5) ((p1.drop 15).take 5)) p2)))) 15 (F20 (F18 (F20 (F16 ((p0.drop 5).take 5) ((p0.drop 0).take 5)) (F16 ((p1.drop 5).take 5) ((p1.drop 0).take 5))) (F20 (F18 ((p0.drop 5).take 5) ((p0.drop 0).take 5)) (F18 ((p1.drop 5).take 5) ((p1.drop 0).take 5)))) (F16 (F20 (F16 ((p0.drop 5).take 5) ((p0.drop 0).take 5)) (F16 ((p1.drop 5).take 5) ((p1.drop 0).take 5))) (F20 (F18 ((p0.drop 5).take 5) ((p0.drop 0).take 5)) (F18 ((p1.drop 5).take 5) ((p1.drop 0).take 5))))))] [1056,1040,1024,1008,64] 1360 (v2 (pu pz (v2 (pu pz (v2 (pu pz (v2 (pu pz (pu (pa (pa (Ye (0+5) 20) (Yr 5)) (pa (pa (Ye (5+5) 20) (Yr 5)) (pa (pa (Ye (10+5) 20) (Yr 5)) (pa (pa (Ye (15+5) 20) (Yr 5)) pT)))) (pu (Yz 20) pT)))))))))) <|Xz [] pz
def nG (p0:List Int) (p1:List Int) (k0:Nat) (z0:List Int):List Int :=
 (sel (((aM .u8 (aJ .u8 (p1.getD (((8*p1.length)-1-k0)/8) 0) ((((8*p1.length)-1-k0) % 8:Nat):Int)) 1):Int)==1) (jw (jw z0 z0 (F16 (bQ) (bQ))) p0 (F16 (bQ) (bQ))) (jw z0 z0 (F16 (bQ) (bQ))))
def pA (p0:List Int) (p1:List Int):List Int :=
 (itr (nG p0 p1) (8*p1.length) (aL (aL [0,0,0,0,0,0,0,0,0,0,0,0,0,0,0,0,0,0,0,0] 5 (F30 1)) 10 (F30 1)))
def Hv:List AV→List Blk→Option (Prop × Ret)
 |[.ints .u64 20 p0,.sc (.ro .u8 p1)],[]=>some ((p1.length≤1000000),⟨.ints .u64 20 (pA p0 p1),[]⟩)
 |_,_=>none
theorem Ea:Known Tryz.prog gD 62 ⟨0,0,Hv⟩:=by
 refine Xw Tryz.f62 42 (Zv Hm 48 0 <|Zv K16 128 2 <|Zv K30 160 1 <|Zv K30 176 1 <|Zv He 400 3 <|Zv He 640 3 <|Zn) mixed <|fun E args ks C r h hC hlen=>?_
 simp only at h
 unfold Hv at h
 split at h
 rotate_left
 cases h
 rename_i p0 p1
 cases h
 simp only [aj] at hlen
 refine ⟨rfl,?_⟩
 refine Xt [Ep 4 32,Ep 2 16] [0] [Mk 32 .u64 20 [0,0,0,0,0,0,0,0,0,0,0,0,0,0,0,0,0,0,0,0],Mk 16 .u64 20 p0] [] 48 (v2 pT) <|Xt [Ep 5 64] [] [Mk 64 .u64 5 (bQ)] [] 96 (pu pz (v1 (pu (Yz 5) pT))) <|Xt [] [] [Mk 64 .u64 5 (F16 (bQ) (bQ))] [64] 160 (v2 (pu pz (pu (Yz 5) pT))) <|Xt [Ep 6 208] [] [Mk 208 .u64 20 (aL (aL [0,0,0,0,0,0,0,0,0,0,0,0,0,0,0,0,0,0,0,0] 5 (F30 1)) 10 (F30 1))] [] 240 (pu pz (pu pz (pu (pa (pa (Ye (5+5) 20) (Yr 5)) (pa (pa (Ye (10+5) 20) (Yr 5)) pT)) (v1 (pu (Yz 20) pT))))) <|Tri.seq <|Xu [Ej 17 (8*p1.length),Ei 18 (((8*p1.length:Nat):Int)-1-((0:Nat):Int))] none [Ei 7 (((8*p1.length:Nat):Int)-1-((0:Nat):Int))] [] [] [] 320 (v2 (pv pT (Yt 8 p1.length) (pv pT (pl (show (aT .i64 ((8*p1.length:Nat):Int) 1)=(((8*p1.length:Nat):Int)-1-((0:Nat):Int)) from kW (by omega))) (v1 pT)))) <|Tri.block <|Xc (8*p1.length) (nG p0 p1) (aL (aL [0,0,0,0,0,0,0,0,0,0,0,0,0,0,0,0,0,0,0,0] 5 (F30 1)) 10 (F30 1)) (fun k0 z0=>True) (fun k0 z0=>[Ei 7 (((8*p1.length:Nat):Int)-1-((k0:Nat):Int))]) (fun k0 z0=>[Mk 208 .u64 20 z0]) trivial <|fun k0 z0 hk0 hz0 hJ0=>Tri.seq <|Xs [Eb 20 (decide (((((8*p1.length:Nat):Int)-1-((k0:Nat):Int)):Int) ≥ 0))] [] 352 (v2 pT) <|Xb (fun h1 h1'=>?_) (fun h1 h1'=>?_)
 refine Tri.skip <|Tri.seq <|Tri.block <|Xt [] [20] [Mk 208 .u64 20 (jw z0 z0 (F16 (bQ) (bQ)))] [208] 432 (v3 (pu pz (pu (Yz 20) pT))) <|Xu [Ej 29 (((8*p1.length)-1-k0)/8),Ej 33 (((8*p1.length)-1-k0) % 8)] none [Eb 36 (((aM .u8 (aJ .u8 (p1.getD (((8*p1.length)-1-k0)/8) 0) ((((8*p1.length)-1-k0) % 8:Nat):Int)) 1):Int)==1)] [] [] [] 592 (v2 (pv (Yn 8) (pl (show (fc .i64 (((8*p1.length:Nat):Int)-1-((k0:Nat):Int)) 8)=((((8*p1.length)-1-k0)/8:Nat):Int) from by rw [iw (by omega)];exact cQ (b:=8) (by omega))) (pu (Yj (((8*p1.length)-1-k0)/8) p1.length) (pu (Yl (((8*p1.length)-1-k0)/8) p1.length) (v1 (pv (Yn 8) (pl (show (bL (((8*p1.length:Nat):Int)-1-((k0:Nat):Int)) 8)=((((8*p1.length)-1-k0) % 8:Nat):Int) from by rw [iw (by omega)];exact ct (b:=8))) (pu (Y0 ((((8*p1.length)-1-k0) % 8:Nat):Int)) (v2 pT)))))))) ?_
 refine Xj (x:=(((aM .u8 (aJ .u8 (p1.getD (((8*p1.length)-1-k0)/8) 0) ((((8*p1.length)-1-k0) % 8:Nat):Int)) 1):Int)==1)) (fun bb=>[]) [36] (fun bb=>[Mk 208 .u64 20 (sel bb (jw (jw z0 z0 (F16 (bQ) (bQ))) p0 (F16 (bQ) (bQ))) (jw z0 z0 (F16 (bQ) (bQ))))]) [208] 672 (fun h2=>?_) (fun h2=>?_) ?_
 have h2':=eX h2
 exact Wt [] [36] [Mk 208 .u64 20 (jw (jw z0 z0 (F16 (bQ) (bQ))) p0 (F16 (bQ) (bQ)))] [208] 672 (v3 (pu pz (pu (Yz 20) pT))) <|Xe [] [Mk 208 .u64 20 (jw (jw z0 z0 (F16 (bQ) (bQ))) p0 (F16 (bQ) (bQ)))]
 have h2':=dg h2
 exact Tri.skip <|Xe [] [Mk 208 .u64 20 (jw z0 z0 (F16 (bQ) (bQ)))]
 exact Wu [Ei 22 (((8*p1.length:Nat):Int)-1-((k0+1:Nat):Int))] none [Ei 7 (((8*p1.length:Nat):Int)-1-((k0+1:Nat):Int))] [7] [] [] 720 (v1 (pv pT (pl (show (aT .i64 (((8*p1.length:Nat):Int)-1-((k0:Nat):Int)) 1)=(((8*p1.length:Nat):Int)-1-((k0+1:Nat):Int)) from im (by omega) (by omega))) (v1 pT))) <|Xo [] trivial
 refine Tri.exit <|?_
 obtain rfl:k0=(8*p1.length):=(by omega);subst hz0
 exact Xt [] [20,7,6,5,2,1] [Mk 32 .u64 20 (itr (nG p0 p1) (8*p1.length) (aL (aL [0,0,0,0,0,0,0,0,0,0,0,0,0,0,0,0,0,0,0,0] 5 (F30 1)) 10 (F30 1)))] [208,64,32,16] 384 (v1 (pu (Yz 20) pT)) <|Xz [] pz
def rO:List Int :=
 (gP (aA (F33 (pj 4 5)) 32 0 32))
def Im:List AV→List Blk→Option (Prop × Ret)
 |[],[]=>some (True,⟨.ints .u64 20 (rO),[]⟩)
 |_,_=>none
theorem Hc:Known Tryz.prog gD 61 ⟨0,0,Im⟩:=by
 refine Xw Tryz.f61 12 (Zv JI 32 2 <|Zv K33 48 1 <|Zc JJ 112 [.ro .u8] [64] [] <|Zn) mixed <|fun E args ks C r h hC hlen=>?_
 simp only at h
 unfold Im at h
 split at h
 rotate_left
 cases h
 cases h
 simp only [aj] at hlen
 refine ⟨rfl,?_⟩
 exact Xt [Ep 0 16] [] [Mk 16 .u64 20 [0,0,0,0,0,0,0,0,0,0,0,0,0,0,0,0,0,0,0,0]] [] 32 (v1 pT) <|Xt [Ep 1 64] [] [Mi 64 32 (F33 (pj 4 5))] [] 96 (pu pz (pu pz (v1 (pu (Yz 32) pT)))) <|Tri.len 64 rfl <|fun hl1=>Xt [Ep 2 176] [1] [Mk 176 .u64 20 (gP (aA (F33 (pj 4 5)) 32 0 32))] [64] 224 (pu (pa (lo ((0:Int)≤0∧(0:Int)≤32∧32≤((32:Nat):Int))) (Ye 32 32)) (pu (pa (pa (Yw 32) pT) pT) (v4 (pu (Yz 20) (v1 pT))))) <|Tri.len 176 rfl <|fun hl2=>Xt [] [2] [Mk 16 .u64 20 (gP (aA (F33 (pj 4 5)) 32 0 32))] [176,16] 256 (v1 (pu (Yz 20) pT)) <|Xz [] pz
theorem eT (x y c:Int):0≤cJ x y c∧cJ x y c≤1:=by unfold cJ;split <;> omega
theorem eW (x y c:Int):0≤fH x y c∧fH x y c<18446744073709551616:=Am _
theorem jM {x y c:Int} (hx:0≤x∧x<18446744073709551616) (hy:0≤y∧y<18446744073709551616) (hc:0≤c∧c≤1):0≤bp x y c∧bp x y c≤1:=by unfold bp;omega
theorem rz:rng wK:=fV (by decide)
theorem qi:rng ((wK.drop 0).take 4):=rz
def xJ (p0:List Int) (p1:List Int) (k0:Nat) (z0:Int):Int :=
 (cJ (p0.getD k0 0) (p1.getD k0 0) z0)
def rM (p0:List Int) (p1:List Int):Bool :=
 (((itr (xJ p0 p1) 4 0):Int)==1)
def Ib:List AV→List Blk→Option (Prop × Ret)
 |[.ints .u64 4 p0,.ints .u64 4 p1],[]=>some ((rng p0∧rng p1),⟨.sc (.b (rM p0 p1)),[]⟩)
 |_,_=>none
theorem Jq:Known Tryz.prog gD 114 ⟨0,0,Ib⟩:=by
 refine Xw Tryz.f114 24 (Zv Hx 256 3 <|Zn) mixed <|fun E args ks C r h hC hlen=>?_
 simp only at h
 unfold Ib at h
 split at h
 rotate_left
 cases h
 rename_i p0 p1
 cases h
 simp only [aj] at hlen
 have hf1:=hC.1
 have hf2:=hC.2
 refine ⟨rfl,?_⟩
 refine Xt [Ep 3 32,Ep 2 16] [0,1] [Mk 32 .u64 4 p1,Mk 16 .u64 4 p0] [] 64 (v3 pT) <|Xs [Ek 5 .u64 0] [] 80 (v1 pT) <|Tri.seq <|Xs [Ei 7 0] [] 96 (v1 pT) <|Tri.block <|Xc 4 (xJ p0 p1) 0 (fun k0 z0=>0≤z0∧z0≤1) (fun k0 z0=>[Ej 7 k0,Ek 5 .u64 z0]) (fun k0 z0=>[]) (by omega) <|fun k0 z0 hk0 hz0 hJ0=>Xs [Eb 8 (decide ((((k0:Nat):Int):Int)<4))] [] 112 (v1 pT) <|Tri.seq <|Xb (fun h1 h1'=>?_) (fun h1 h1'=>?_)
 exact Tri.skip <|Tri.seq <|Tri.block <|Xs [Ej 6 k0] [8] 144 (v2 pT) <|Wu [] (some [0,1,3,0,8,24,0,127,255,511,511,2047]) [Ek 5 .u64 (cJ (p0.getD k0 0) (p1.getD k0 0) z0)] [6,5] [] [] 336 (v1 (pu (Yj k0 4) (pu (Yl k0 4) (v1 (pu (Yj k0 4) (pu (Yl k0 4) (v1 (pu (pa pT (pl (show ((0:Int)≤(p0.getD k0 0)∧((p0.getD k0 0):Int)<18446744073709551616)∧((0:Int)≤(p1.getD k0 0)∧((p1.getD k0 0):Int)<18446744073709551616)∧(0:Int)≤z0∧(z0:Int)≤1 from ⟨hf1 k0,hf2 k0,hJ0.1,hJ0.2⟩))) (v4 pT))))))))) <|Wu [Ej 21 (k0+1)] none [Ej 7 (k0+1)] [7] [] [] 368 (pv pT (Yp k0 1) (v1 pT)) <|Xo [] (eT _ _ _)
 refine Tri.exit <|?_
 obtain rfl:k0=4:=(by omega);subst hz0
 exact Xt [Eb 4 (((itr (xJ p0 p1) 4 0):Int)==1)] [8,7,5,3,2] [] [32,16] 160 (v3 pT) <|Xz [] pz
def ea (k0:Nat) (z0:Int × List Int):Int × List Int :=
 ((aJ .u64 (z0.2.getD k0 0) 63),z0.2.set k0 (iOr .u64 (cd .u64 (z0.2.getD k0 0) 1) z0.1))
def ll (k1:Nat) (z1:Int × List Int):Int × List Int :=
 ((cJ (z1.2.getD k1 0) (wK.getD (0+k1) 0) z1.1),z1.2.set k1 (fH (z1.2.getD k1 0) (wK.getD (0+k1) 0) z1.1))
def lJ (p0:List Int) (p1:Int):List Int :=
 (sel (!(rM ((itr (ea) 4 (p1,p0)).2) ((wK.drop 0).take 4))) ((itr (ll) 4 (0,(itr (ea) 4 (p1,p0)).2)).2) ((itr (ea) 4 (p1,p0)).2))
def JQ:List AV→List Blk→Option (Prop × Ret)
 |[.ints .u64 4 p0,.sc (.i .u64 p1)],[]=>some ((rng p0),⟨.ints .u64 4 (lJ p0 p1),[]⟩)
 |_,_=>none
theorem Jc:Known Tryz.prog gD 111 ⟨0,0,JQ⟩:=by
 refine Xw Tryz.f111 46 (Zv Jq 112 2 <|Zv Hx 352 3 <|Zn) mixed <|fun E args ks C r h hC hlen=>?_
 simp only at h
 unfold JQ at h
 split at h
 rotate_left
 cases h
 rename_i p0 p1
 cases h
 simp only [aj] at hlen
 have hg:wK.length=4:=rfl
 refine ⟨rfl,?_⟩
 refine Xt [Ep 4 32,Ep 2 16] [0] [Mk 32 .u64 4 [0,0,0,0],Mk 16 .u64 4 p0] [] 48 (v2 pT) <|Tri.seq <|Xs [Ei 8 0] [] 64 (v1 pT) <|Tri.block <|Xc 4 (ea) (p1,p0) (fun k0 z0=>rng z0.2) (fun k0 z0=>[Ej 8 k0,Ek 1 .u64 z0.1]) (fun k0 z0=>[Mk 16 .u64 4 z0.2]) hC <|fun k0 z0 hk0 hz0 hJ0=>Xs [Eb 9 (decide ((((k0:Nat):Int):Int)<4))] [] 80 (v1 pT) <|Tri.seq <|Xb (fun h1 h1'=>?_) (fun h1 h1'=>?_)
 exact Tri.skip <|Tri.seq <|Tri.block <|Xs [Ej 5 k0] [9] 112 (v2 pT) <|Wu [] (some [0,0,2,6,14,0,62,0,128,384,896,1023,3071,8191]) [Ek 1 .u64 (aJ .u64 (z0.2.getD k0 0) 63)] [5,1] [Mk 16 .u64 4 (z0.2.set k0 (iOr .u64 (cd .u64 (z0.2.getD k0 0) 1) z0.1))] [16] 336 (v2 (pu (Yj k0 4) (pu (Yl k0 4) (pu (Y0 1) (v3 (pu (Yj k0 4) (pu (Yl k0 4) (pu (Y0 63) (pu (Yj k0 4) (pu (Ys k0 4) (v1 pT))))))))))) <|Wu [Ej 23 (k0+1)] none [Ej 8 (k0+1)] [8] [] [] 368 (pv pT (Yp k0 1) (v1 pT)) <|Xo [] (show rng (List.set _ _ _) from iW hJ0 (fT _))
 refine Tri.exit <|?_
 obtain rfl:k0=4:=(by omega);subst hz0
 refine Tri.seq <|Xs [Eb 27 (!(rM ((itr (ea) 4 (p1,p0)).2) ((wK.drop 0).take 4)))] [9,8,1] 144 (v1 (pu (Ye (0+4) wK.length) (pu (pa pT (pl (show rng ((itr (ea) 4 (p1,p0)).2)∧rng ((wK.drop 0).take 4) from ⟨hJ0,qi⟩))) (v1 pT)))) <|Xj (x:=(!(rM ((itr (ea) 4 (p1,p0)).2) ((wK.drop 0).take 4)))) (fun bb=>[]) [27] (fun bb=>[Mk 32 .u64 4 [0,0,0,0],Mk 16 .u64 4 (sel bb ((itr (ll) 4 (0,(itr (ea) 4 (p1,p0)).2)).2) ((itr (ea) 4 (p1,p0)).2))]) [32,16] 192 (fun h2=>?_) (fun h2=>?_) ?_
 refine Xs [Ek 6 .u64 0] [27] 160 (v1 pT) <|Xs [Ei 28 0] [] 176 (v1 pT) <|Tri.block <|Xc 4 (ll) (0,(itr (ea) 4 (p1,p0)).2) (fun k1 z1=>rng z1.2∧0≤z1.1∧z1.1≤1) (fun k1 z1=>[Ej 28 k1,Ek 6 .u64 z1.1]) (fun k1 z1=>[Mk 16 .u64 4 z1.2]) (⟨hJ0,Int.le_refl 0,(show (0:Int)≤1 by decide)⟩) <|fun k1 z1 hk1 hz1 hJ1=>Xs [Eb 29 (decide ((((k1:Nat):Int):Int)<4))] [] 192 (v1 pT) <|Tri.seq <|Xb (fun h3 h3'=>?_) (fun h3 h3'=>?_)
 exact Tri.skip <|Tri.seq <|Tri.block <|Xs [Ej 7 k1] [29] 224 (v2 pT) <|Wu [] (some [0,0,2,6,0,16,48,0,254,510,1022,1022,2047,6143,16383]) [Ek 6 .u64 (cJ (z1.2.getD k1 0) (wK.getD (0+k1) 0) z1.1)] [7,6] [Mk 16 .u64 4 (z1.2.set k1 (fH (z1.2.getD k1 0) (wK.getD (0+k1) 0) z1.1))] [16] 464 (v2 (pu (Yj k1 4) (pu (Yl k1 4) (v1 (pu (Yj k1 4) (pu (Yl (0+k1) wK.length) (v1 (pu (pa pT (pl (show ((0:Int)≤(z1.2.getD k1 0)∧((z1.2.getD k1 0):Int)<18446744073709551616)∧((0:Int)≤(wK.getD (0+k1) 0)∧((wK.getD (0+k1) 0):Int)<18446744073709551616)∧(0:Int)≤z1.1∧(z1.1:Int)≤1 from ⟨hJ1.1 _,rz _,hJ1.2⟩))) (v3 (pu (Yj k1 4) (pu (Ys k1 4) (v1 pT)))))))))))) <|Wu [Ej 44 (k1+1)] none [Ej 28 (k1+1)] [28] [] [] 496 (pv pT (Yp k1 1) (v1 pT)) <|Xo [] (show rng (List.set _ _ _)∧_∧_ from ⟨iW hJ1.1 (eW _ _ _),eT _ _ _⟩)
 refine Tri.exit <|?_
 obtain rfl:k1=4:=(by omega);subst hz1
 exact Xe [] [Mk 32 .u64 4 [0,0,0,0],Mk 16 .u64 4 ((itr (ll) 4 (0,(itr (ea) 4 (p1,p0)).2)).2)]
 exact Tri.skip <|Xe [] [Mk 32 .u64 4 [0,0,0,0],Mk 16 .u64 4 ((itr (ea) 4 (p1,p0)).2)]
 exact Xt [] [2] [Mk 32 .u64 4 (sel (!(rM ((itr (ea) 4 (p1,p0)).2) ((wK.drop 0).take 4))) ((itr (ll) 4 (0,(itr (ea) 4 (p1,p0)).2)).2) ((itr (ea) 4 (p1,p0)).2))] [32,16] 224 (v1 (pu (Yz 4) pT)) <|Xz [] pz
theorem uu {p0:List Int} (h:rng p0) (p1:Int):rng (lJ p0 p1):=by
 have h0:∀ n z,rng z.2→rng (itr ea n z).2:=by
  intro n z hz
  induction n with
  |zero=>rw [aX];exact hz
  |succ n ih=>rw [aP];exact iW ih (fT _)
 have h1:∀ n z,rng z.2→rng (itr ll n z).2:=by
  intro n z hz
  induction n with
  |zero=>rw [aX];exact hz
  |succ n ih=>rw [aP];exact iW ih (eW _ _ _)
 unfold lJ
 cases (!(rM ((itr (ea) 4 (p1,p0)).2) ((wK.drop 0).take 4)))
 ·exact h0 4 _ h
 ·exact h1 4 _ (h0 4 _ h)
theorem ki:rng [0,0,0,0]:=fV (by decide)
def lj (p0:List Int) (k0:Nat) (z0:List Int):List Int :=
 (lJ z0 (IntKind.wrap .u64 (aM .u8 (aJ .u8 (p0.getD (((8*p0.length)-1-k0)/8) 0) ((((8*p0.length)-1-k0) % 8:Nat):Int)) 1)))
def jv (p0:List Int):List Int :=
 (itr (lj p0) (8*p0.length) [0,0,0,0])
def JV:List AV→List Blk→Option (Prop × Ret)
 |[.sc (.ro .u8 p0)],[]=>some ((p0.length≤1000000),⟨.ints .u64 4 (jv p0),[]⟩)
 |_,_=>none
theorem AX:Known Tryz.prog gD 65 ⟨0,0,JV⟩:=by
 refine Xw Tryz.f65 26 (Zv Jc 336 2 <|Zn) mixed <|fun E args ks C r h hC hlen=>?_
 simp only at h
 unfold JV at h
 split at h
 rotate_left
 cases h
 rename_i p0
 cases h
 simp only [aj] at hlen
 refine ⟨rfl,?_⟩
 refine Xt [Ep 2 16] [] [Mk 16 .u64 4 [0,0,0,0]] [] 32 (v1 pT) <|Xt [Ep 3 32] [] [Mk 32 .u64 4 [0,0,0,0]] [] 48 (v1 pT) <|Tri.seq <|Xu [Ej 7 (8*p0.length),Ei 8 (((8*p0.length:Nat):Int)-1-((0:Nat):Int))] none [Ei 4 (((8*p0.length:Nat):Int)-1-((0:Nat):Int))] [] [] [] 128 (v2 (pv pT (Yt 8 p0.length) (pv pT (pl (show (aT .i64 ((8*p0.length:Nat):Int) 1)=(((8*p0.length:Nat):Int)-1-((0:Nat):Int)) from kW (by omega))) (v1 pT)))) <|Tri.block <|Xc (8*p0.length) (lj p0) [0,0,0,0] (fun k0 z0=>rng z0) (fun k0 z0=>[Ei 4 (((8*p0.length:Nat):Int)-1-((k0:Nat):Int))]) (fun k0 z0=>[Mk 32 .u64 4 z0]) ki <|fun k0 z0 hk0 hz0 hJ0=>Tri.seq <|Xs [Eb 10 (decide (((((8*p0.length:Nat):Int)-1-((k0:Nat):Int)):Int) ≥ 0))] [] 160 (v2 pT) <|Xb (fun h1 h1'=>?_) (fun h1 h1'=>?_)
 refine Tri.skip <|Tri.seq <|Tri.block <|Wu [Ej 16 (((8*p0.length)-1-k0)/8),Ej 20 (((8*p0.length)-1-k0) % 8)] (some [0,0,0,4,14,30,0,64,254,510,1022,2047,4095]) [] [10] [Mk 32 .u64 4 (lJ z0 (IntKind.wrap .u64 (aM .u8 (aJ .u8 (p0.getD (((8*p0.length)-1-k0)/8) 0) ((((8*p0.length)-1-k0) % 8:Nat):Int)) 1)))] [32] 368 (v3 (pv (Yn 8) (pl (show (fc .i64 (((8*p0.length:Nat):Int)-1-((k0:Nat):Int)) 8)=((((8*p0.length)-1-k0)/8:Nat):Int) from by rw [iw (by omega)];exact cQ (b:=8) (by omega))) (pu (Yj (((8*p0.length)-1-k0)/8) p0.length) (pu (Yl (((8*p0.length)-1-k0)/8) p0.length) (v1 (pv (Yn 8) (pl (show (bL (((8*p0.length:Nat):Int)-1-((k0:Nat):Int)) 8)=((((8*p0.length)-1-k0) % 8:Nat):Int) from by rw [iw (by omega)];exact ct (b:=8))) (pu (Y0 ((((8*p0.length)-1-k0) % 8:Nat):Int)) (v2 (pu (pa pT (pl hJ0)) (pu (Yz 4) pT)))))))))) ?_
 exact Wu [Ei 12 (((8*p0.length:Nat):Int)-1-((k0+1:Nat):Int))] none [Ei 4 (((8*p0.length:Nat):Int)-1-((k0+1:Nat):Int))] [4] [] [] 416 (v1 (pv pT (pl (show (aT .i64 (((8*p0.length:Nat):Int)-1-((k0:Nat):Int)) 1)=(((8*p0.length:Nat):Int)-1-((k0+1:Nat):Int)) from im (by omega) (by omega))) (v1 pT))) <|Xo [] (uu hJ0 _)
 refine Tri.exit <|?_
 obtain rfl:k0=(8*p0.length):=(by omega);subst hz0
 exact Xt [] [10,4,3,0] [Mk 16 .u64 4 (itr (lj p0) (8*p0.length) [0,0,0,0])] [32,16] 192 (v1 (pu (Yz 4) pT)) <|Xz [] pz
theorem xu (p0:List Int):rng (jv p0):=by
 have h:∀ n,rng (itr (lj p0) n [0,0,0,0]):=by
  intro n
  induction n with
  |zero=>rw [aX];exact ki
  |succ n ih=>rw [aP];exact uu ih _
 exact h _
def fK (p0:List Int) (k0:Nat) (k1:Nat) (z1:Nat × List Int):Nat × List Int :=
 (z1.1+1,z1.2++[(IntKind.wrap .u8 (aJ .u64 (p0.getD k0 0) ((8*k1:Nat):Int)))])
def fv (p0:List Int) (k0:Nat) (z0:Nat × List Int):Nat × List Int :=
 ((itr (fK p0 k0) 8 (z0.1,z0.2)).1,(itr (fK p0 k0) 8 (z0.1,z0.2)).2)
def iu (p0:List Int):List Int :=
 (itr (fv p0) 4 (0,([]:List Int))).2
theorem KJ (p0:List Int):(itr (fv p0) 4 (0,[])).1=32:=by
 have h1:∀ (j k:Nat) (z:Nat × List Int),(itr (fK p0 j) k z).1=z.1+k:=by
  intro j k z
  induction k with
  |zero=>rw [aX];rfl
  |succ k ih=>rw [aP];show (itr (fK p0 j) k z).1+1=_;rw [ih];omega
 have h0:∀ (k:Nat),(itr (fv p0) k (0,[])).1=8*k:=by
  intro k
  induction k with
  |zero=>rw [aX]
  |succ k ih=>rw [aP];show (itr (fK p0 k) 8 ((itr (fv p0) k (0,[])).1,(itr (fv p0) k (0,[])).2)).1=_;rw [h1,ih];show 8*k+8=_;omega
 rw [h0]
def IV:List AV→List Blk→Option (Prop × Ret)
 |[.ints .u64 4 p0],[]=>some (True,⟨.sc (.sl 0 0 32 1 none),[some (.ints .u8 32 (iu p0))]⟩)
 |_,_=>none
theorem Bg:Known Tryz.prog gD 66 ⟨0,1,IV⟩:=by
 refine Xw Tryz.f66 25 Zn mixed <|fun E args ks C r h hC hlen=>?_
 simp only at h
 unfold IV at h
 split at h
 rotate_left
 cases h
 rename_i p0
 cases h
 simp only [aj] at hlen
 refine ⟨rfl,?_⟩
 refine Xt [Ep 1 16] [0] [Mk 16 .u64 4 p0] [] 48 (v2 pT) <|Xs [(3,.sc (.nils))] [] 64 (v1 pT) <|Tri.seq <|Xt [Ei 8 0,(7,.ints .u64 4 p0)] [1] [] [16] 96 (v2 pT) <|Tri.block <|Tri.sub (Sub.openNil (U:=96) (U':=112) 3 96 1 .u8 none (.inl rfl) (by decide) (by decide) (by kernel_rfl) (by kernel_rfl)) <|Xc 4 (fv p0) (0,([]:List Int)) (fun k0 z0=>z0.1=8*k0) (fun k0 z0=>[El 3 96 z0.1,Ej 8 k0]) (fun k0 z0=>[Mi 96 z0.1 z0.2]) rfl <|fun k0 z0 hk0 hz0 hJ0=>Xs [Eb 9 (decide ((((k0:Nat):Int):Int)<4))] [] 128 (v1 pT) <|Tri.seq <|Xb (fun h1 h1'=>?_) (fun h1 h1'=>?_)
 refine Tri.skip <|Tri.seq <|Tri.block <|Xs [Ek 5 .u64 (p0.getD k0 0)] [9] 160 (pu (pa (Yj k0 4) (Yl k0 4)) (v1 pT)) <|Xs [Ei 11 0] [] 176 (v1 pT) <|Tri.block <|Xc 8 (fK p0 k0) (z0.1,z0.2) (fun k1 z1=>z1.1=z0.1+1*k1∧z1.1=8*k0+k1) (fun k1 z1=>[Ej 11 k1,El 3 96 z1.1]) (fun k1 z1=>[Mi 96 z1.1 z1.2]) (⟨(by simp),hJ0⟩) <|fun k1 z1 hk1 hz1 hJ1=>Xs [Eb 12 (decide ((((k1:Nat):Int):Int)<8))] [] 192 (v1 pT) <|Tri.seq <|Xb (fun h2 h2'=>?_) (fun h2 h2'=>?_)
 exact Tri.skip <|Tri.seq <|Tri.block <|Xs [Ej 6 k1] [12] 224 (v2 pT) <|Wu [Ej 17 (8*k1)] none [El 3 336 (z1.1+1)] [6,3] [Mi 336 (z1.1+1) (z1.2++[(IntKind.wrap .u8 (aJ .u64 (p0.getD k0 0) ((8*k1:Nat):Int)))])] [96] 368 (v3 (pv pT (Yt 8 k1) (pu (Y0 ((8*k1:Nat):Int)) (v1 (pu (Yf 1) (pu (Ya (Yw 1) 1 (z1.1+1) 1 1 z1.1 z1.1) (v1 pT))))))) <|Wu [Ej 22 (k1+1)] none [Ej 11 (k1+1)] [11] [] [] 400 (pv pT (Yp k1 1) (v1 pT)) <|Xo [(96,336)] (⟨(show z1.1+1=z0.1+1*(k1+1) by omega),(show z1.1+1=8*k0+(k1+1) by omega)⟩)
 refine Tri.exit <|?_
 obtain rfl:k1=8:=(by omega);subst hz1
 exact Wu [Ej 23 (k0+1)] none [Ej 8 (k0+1)] [12,11,5,8] [] [] 224 (pv pT (Yp k0 1) (v1 pT)) <|Xo [] (show (itr (fK p0 k0) 8 (z0.1,z0.2)).1=8*(k0+1) by omega)
 refine Tri.exit <|?_
 obtain rfl:k0=4:=(by omega);subst hz0
 exact Xs [El 2 96 ((itr (fv p0) 4 (0,([]:List Int))).1)] [9,3,8,7] 160 (v2 pT) <|Xy (r':=⟨.sc (.sl 0 0 ((itr (fv p0) 4 (0,([]:List Int))).1) 1 none),[some (.ints .u8 ((itr (fv p0) 4 (0,([]:List Int))).1) ((itr (fv p0) 4 (0,([]:List Int))).2))]⟩) [(96,0)] pz (by simp only [iu,KJ,aC,aB])
theorem uF (p0:List Int):(iu p0).length=32:=by
 have h1:∀ (j k:Nat) (z:Nat × List Int),(itr (fK p0 j) k z).2.length=z.2.length+k:=by
  intro j k z
  induction k with
  |zero=>rw [aX];rfl
  |succ k ih=>rw [aP];show ((itr (fK p0 j) k z).2++[_]).length=_;rw [List.length_append,ih];rfl
 have h0:∀ (k:Nat),(itr (fv p0) k (0,[])).2.length=8*k:=by
  intro k
  induction k with
  |zero=>rw [aX];rfl
  |succ k ih=>rw [aP];show (itr (fK p0 k) 8 ((itr (fv p0) k (0,[])).1,(itr (fv p0) k (0,[])).2)).2.length=_;rw [h1];show (itr (fv p0) k (0,[])).2.length+8=_;rw [ih];omega
 exact h0 4
def nq (p1:List Int) (k0:Nat) (z0:Int × List Int):Int × List Int :=
 ((bp (z0.2.getD k0 0) (p1.getD k0 0) z0.1),z0.2.set k0 (cN (z0.2.getD k0 0) (p1.getD k0 0) z0.1))
def pd (p0:List Int) (p1:List Int):List Int :=
 (jv (aA (iu ((itr (nq p1) 4 (0,p0)).2)) 32 0 32))
def Hz:List AV→List Blk→Option (Prop × Ret)
 |[.ints .u64 4 p0,.ints .u64 4 p1],[]=>some ((rng p0∧rng p1),⟨.ints .u64 4 (pd p0 p1),[]⟩)
 |_,_=>none
theorem If:Known Tryz.prog gD 68 ⟨0,0,Hz⟩:=by
 refine Xw Tryz.f68 27 (Zc AX 144 [.ro .u8] [128] [] <|Zv Bg 128 1 <|Zv K48 272 3 <|Zn) mixed <|fun E args ks C r h hC hlen=>?_
 simp only at h
 unfold Hz at h
 split at h
 rotate_left
 cases h
 rename_i p0 p1
 cases h
 simp only [aj] at hlen
 have hf1:=hC.1
 have hf2:=hC.2
 refine ⟨rfl,?_⟩
 refine Xt [Ep 4 48,Ep 3 32,Ep 2 16] [0,1] [Mk 48 .u64 4 [0,0,0,0],Mk 32 .u64 4 p1,Mk 16 .u64 4 p0] [] 64 (v3 pT) <|Xs [Ek 5 .u64 0] [] 80 (v1 pT) <|Tri.seq <|Xs [Ei 7 0] [] 96 (v1 pT) <|Tri.block <|Xc 4 (nq p1) (0,p0) (fun k0 z0=>rng z0.2∧0≤z0.1∧z0.1≤1) (fun k0 z0=>[Ej 7 k0,Ek 5 .u64 z0.1]) (fun k0 z0=>[Mk 16 .u64 4 z0.2]) (⟨hf1,Int.le_refl 0,(show (0:Int)≤1 by decide)⟩) <|fun k0 z0 hk0 hz0 hJ0=>Xs [Eb 8 (decide ((((k0:Nat):Int):Int)<4))] [] 112 (v1 pT) <|Tri.seq <|Xb (fun h1 h1'=>?_) (fun h1 h1'=>?_)
 exact Tri.skip <|Tri.seq <|Tri.block <|Xs [Ej 6 k0] [8] 144 (v2 pT) <|Wu [] (some [0,0,2,6,0,16,48,0,254,510,1022,1022,2047,6143,16383]) [Ek 5 .u64 (bp (z0.2.getD k0 0) (p1.getD k0 0) z0.1)] [6,5] [Mk 16 .u64 4 (z0.2.set k0 (cN (z0.2.getD k0 0) (p1.getD k0 0) z0.1))] [16] 384 (v2 (pu (Yj k0 4) (pu (Yl k0 4) (v1 (pu (Yj k0 4) (pu (Yl k0 4) (v1 (pu (pa pT (pl (show (0:Int)≤(z0.2.getD k0 0)∧(0:Int)≤(p1.getD k0 0)∧(0:Int)≤z0.1∧(z0.1:Int)≤1 from ⟨(hJ0.1 _).1,(hf2 _).1,hJ0.2⟩))) (v3 (pu (Yj k0 4) (pu (Ys k0 4) (v1 pT)))))))))))) <|Wu [Ej 23 (k0+1)] none [Ej 7 (k0+1)] [7] [] [] 416 (pv pT (Yp k0 1) (v1 pT)) <|Xo [] (show rng (List.set _ _ _)∧_∧_ from ⟨iW hJ0.1 (gF _ _ _),jM (hJ0.1 _) (hf2 _) hJ0.2⟩)
 refine Tri.exit <|?_
 obtain rfl:k0=4:=(by omega);subst hz0
 refine Tri.len 32 rfl <|fun hl2=>Tri.len 16 rfl <|fun hl3=>Xt [] [8,7,5,3,2] [Mk 48 .u64 4 (jv (aA (iu ((itr (nq p1) 4 (0,p0)).2)) 32 0 32))] [48,32,16] 176 (v1 (pu pz (pu (pa (pa (Yw 32) pT) (pl (show (aA (iu ((itr (nq p1) 4 (0,p0)).2)) 32 0 32).length≤1000000 from by exact aK (by decide) (by rw [uF];decide)))) (pu (Yz 4) pT)))) ?_
 exact Xz [] pz
theorem Fc (p0 p1:List Int):rng (pd p0 p1):=by unfold pd;exact xu _
theorem yy {x y:List Int} (b:Bool) (h:rng x) (h':rng y):rng (sel b x y):=by cases b;exact h';exact h
def ln (p0:List Int) (p1:List Int) (k0:Nat) (z0:List Int):List Int :=
 (sel (((aM .u64 (aJ .u64 (p1.getD ((256-1-k0)/64) 0) (((256-1-k0) % 64:Nat):Int)) 1):Int)==1) (pd (lJ z0 0) p0) (lJ z0 0))
def Bb (p0:List Int) (p1:List Int):List Int :=
 (itr (ln p0 p1) 256 [0,0,0,0])
def Jd:List AV→List Blk→Option (Prop × Ret)
 |[.ints .u64 4 p0,.ints .u64 4 p1],[]=>some ((rng p0∧rng p1),⟨.ints .u64 4 (Bb p0 p1),[]⟩)
 |_,_=>none
theorem KG:Known Tryz.prog gD 67 ⟨0,0,Jd⟩:=by
 refine Xw Tryz.f67 26 (Zv If 352 2 <|Zv Jc 144 2 <|Zn) mixed <|fun E args ks C r h hC hlen=>?_
 simp only at h
 unfold Jd at h
 split at h
 rotate_left
 cases h
 rename_i p0 p1
 cases h
 simp only [aj] at hlen
 have hf1:=hC.1
 have hf2:=hC.2
 refine ⟨rfl,?_⟩
 refine Xt [Ep 4 48,Ep 3 32,Ep 2 16] [0,1] [Mk 48 .u64 4 [0,0,0,0],Mk 32 .u64 4 p1,Mk 16 .u64 4 p0] [] 64 (v3 pT) <|Xt [Ep 5 64] [] [Mk 64 .u64 4 [0,0,0,0]] [] 80 (v1 pT) <|Tri.seq <|Xs [Ei 6 255] [] 96 (v1 pT) <|Tri.block <|Xc 256 (ln p0 p1) [0,0,0,0] (fun k0 z0=>rng z0) (fun k0 z0=>[Ei 6 (((256:Nat):Int)-1-((k0:Nat):Int))]) (fun k0 z0=>[Mk 64 .u64 4 z0]) ki <|fun k0 z0 hk0 hz0 hJ0=>Tri.seq <|Xs [Eb 8 (decide (((((256:Nat):Int)-1-((k0:Nat):Int)):Int) ≥ 0))] [] 128 (v2 pT) <|Xb (fun h1 h1'=>?_) (fun h1 h1'=>?_)
 refine Tri.skip <|Tri.seq <|Tri.block <|Xt [] [8] [Mk 64 .u64 4 (lJ z0 0)] [64] 176 (v1 (pu (pa pT (pl hJ0)) (pu (Yz 4) pT))) <|Xu [Ej 14 ((256-1-k0)/64),Ej 18 ((256-1-k0) % 64)] none [Eb 21 (((aM .u64 (aJ .u64 (p1.getD ((256-1-k0)/64) 0) (((256-1-k0) % 64:Nat):Int)) 1):Int)==1)] [] [] [] 320 (v1 (pv (Yn 64) (pl (show (fc .i64 (((256:Nat):Int)-1-((k0:Nat):Int)) 64)=(((256-1-k0)/64:Nat):Int) from by rw [iw (by omega)];exact cQ (b:=64) (by omega))) (pu (Yj ((256-1-k0)/64) 4) (pu (Yl ((256-1-k0)/64) 4) (v1 (pv (Yn 64) (pl (show (bL (((256:Nat):Int)-1-((k0:Nat):Int)) 64)=(((256-1-k0) % 64:Nat):Int) from by rw [iw (by omega)];exact ct (b:=64))) (pu (Y0 (((256-1-k0) % 64:Nat):Int)) (v2 pT)))))))) ?_
 refine Xj (x:=(((aM .u64 (aJ .u64 (p1.getD ((256-1-k0)/64) 0) (((256-1-k0) % 64:Nat):Int)) 1):Int)==1)) (fun bb=>[]) [21] (fun bb=>[Mk 64 .u64 4 (sel bb (pd (lJ z0 0) p0) (lJ z0 0))]) [64] 384 (fun h2=>?_) (fun h2=>?_) ?_
 have h2':=eX h2
 exact Wt [] [21] [Mk 64 .u64 4 (pd (lJ z0 0) p0)] [64] 384 (v2 (pu (pa pT (pl (show rng (lJ z0 0)∧rng p0 from ⟨uu hJ0 _,hf1⟩))) (pu (Yz 4) pT))) <|Xe [] [Mk 64 .u64 4 (pd (lJ z0 0) p0)]
 have h2':=dg h2
 exact Tri.skip <|Xe [] [Mk 64 .u64 4 (lJ z0 0)]
 exact Wu [Ei 10 (((256:Nat):Int)-1-((k0+1:Nat):Int))] none [Ei 6 (((256:Nat):Int)-1-((k0+1:Nat):Int))] [6] [] [] 432 (v1 (pv pT (pl (show (aT .i64 (((256:Nat):Int)-1-((k0:Nat):Int)) 1)=(((256:Nat):Int)-1-((k0+1:Nat):Int)) from im (by omega) (by omega))) (v1 pT))) <|Xo [] (show rng (sel _ _ _) from yy _ (Fc _ _) (uu hJ0 _))
 refine Tri.exit <|?_
 obtain rfl:k0=256:=(by omega);subst hz0
 exact Xt [] [8,6,5,3,2] [Mk 48 .u64 4 (itr (ln p0 p1) 256 [0,0,0,0])] [64,48,32,16] 160 (v1 (pu (Yz 4) pT)) <|Xz [] pz
theorem JZ (p0 p1:List Int):rng (Bb p0 p1):=by
 have h:∀ n,rng (itr (ln p0 p1) n [0,0,0,0]):=by
  intro n
  induction n with
  |zero=>rw [aX];exact ki
  |succ n ih=>rw [aP];show rng (sel _ _ _);exact yy _ (Fc _ _) (uu ih _)
 exact h _
def bA (p:List (List Int)):Nat→Nat
 |0=>0
 |k+1=>bA p k+(p.getD k []).length
theorem zp (p:List (List Int)) {k n:Nat} (h:k≤n):bA p k≤bA p n:=by
 induction n with
 |zero=>rw [Nat.le_zero.1 h];exact Nat.le_refl _
 |succ n ih =>
  by_cases e:k=n+1
  ·rw [e];exact Nat.le_refl _
  ·exact Nat.le_trans (ih (by omega)) (Nat.le_add_right _ _)
theorem xo {p:List (List Int)} {k z c:Nat} (hz:z=c+bA p k) (hk:k<p.length):z+(p.getD k []).length≤c+bA p p.length:=by
 have h:bA p k+(p.getD k []).length≤bA p p.length:=zp p (show k+1≤p.length from hk)
 omega
def gC (p0:List (List Int)) (k0:Nat) (z0:Nat × List Int):Nat × List Int :=
 (z0.1+((p0.getD k0 []).length),z0.2++(p0.getD k0 []))
def ju (p0:List (List Int)):List Int :=
 (itr (gC p0) p0.length (0,([]:List Int))).2
theorem Jt (p0:List (List Int)):(itr (gC p0) p0.length (0,[])).1=bA p0 p0.length:=by
 have h0:∀ k,(itr (gC p0) k (0,[])).1=bA p0 k:=by
  intro k
  induction k with
  |zero=>rw [aX];rfl
  |succ k ih=>rw [aP];show (itr (gC p0) k (0,[])).1+(p0.getD k []).length=bA p0 k+(p0.getD k []).length;rw [ih]
 exact h0 _
def Hw:List AV→List Blk→Option (Prop × Ret)
 |[.sc (.rob p0)],[]=>some ((bA p0 p0.length≤100000∧p0.length≤100000),⟨.sc (.sl 0 0 (bA p0 p0.length) 1 none),[some (.ints .u8 (bA p0 p0.length) (ju p0))]⟩)
 |_,_=>none
theorem Gm:Known Tryz.prog gD 64 ⟨0,1,Hw⟩:=by
 refine Xw Tryz.f64 17 Zn mixed <|fun E args ks C r h hC hlen=>?_
 simp only at h
 unfold Hw at h
 split at h
 rotate_left
 cases h
 rename_i p0
 cases h
 simp only [aj] at hlen
 refine ⟨rfl,?_⟩
 refine Xs [] [] 32 (v1 pT) <|Xs [(3,.sc (.nils))] [] 48 (v1 pT) <|Tri.seq <|Xs [Ei 8 0,Ej 7 p0.length,(6,.sc (.rob p0))] [0] 96 (v3 pT) <|Tri.block <|Tri.sub (Sub.openNil (U:=96) (U':=112) 3 96 1 .u8 none (.inl rfl) (by decide) (by decide) (by kernel_rfl) (by kernel_rfl)) <|Xc p0.length (gC p0) (0,([]:List Int)) (fun k0 z0=>z0.1=0+bA p0 k0) (fun k0 z0=>[El 3 96 z0.1,Ej 8 k0]) (fun k0 z0=>[Mi 96 z0.1 z0.2]) rfl <|fun k0 z0 hk0 hz0 hJ0=>Xs [Eb 9 (decide ((((k0:Nat):Int):Int)<((p0.length:Nat):Int)))] [] 128 (v1 pT) <|Tri.seq <|Xb (fun h1 h1'=>?_) (fun h1 h1'=>?_)
 refine Tri.skip <|Tri.seq <|Tri.block <|Xs [Er 5 (p0.getD k0 [])] [9] 176 (pu (Yj k0 p0.length) (v2 pT)) <|Wt [El 3 208 (z0.1+((p0.getD k0 []).length))] [5,3] [Mi 208 (z0.1+((p0.getD k0 []).length)) (z0.2++(p0.getD k0 []))] [96] 240 (v2 (pu (pa (pa (pa (Yz 1) (pa (Yl 0 1) (pa (pl (show (z0.1+((p0.getD k0 []).length))*1≤140737488355328 from by (have hq:=xo hJ0 (by omega);omega))) (pl (show z0.1+((p0.getD k0 []).length)≤140737488355328 from by (have hq:=xo hJ0 (by omega);omega)))))) (lo ((p0.getD k0 []).length=((p0.getD k0 []).length)*1))) (pa (Yr 1) (lo (0+z0.1*1=z0.1)))) (v1 pT))) ?_
 exact Wu [Ej 15 (k0+1)] none [Ej 8 (k0+1)] [8] [] [] 272 (pv pT (Yp k0 1) (v1 pT)) <|Xo [(96,208)] (show z0.1+(p0.getD k0 []).length=0+(bA p0 k0+(p0.getD k0 []).length) by omega)
 refine Tri.exit <|?_
 obtain rfl:k0=p0.length:=(by omega);subst hz0
 exact Xs [El 2 96 ((itr (gC p0) p0.length (0,([]:List Int))).1)] [9,3,8,7,6] 160 (v2 pT) <|Xy (r':=⟨.sc (.sl 0 0 ((itr (gC p0) p0.length (0,([]:List Int))).1) 1 none),[some (.ints .u8 ((itr (gC p0) p0.length (0,([]:List Int))).1) ((itr (gC p0) p0.length (0,([]:List Int))).2))]⟩) [(96,0)] pz (by simp only [ju,Jt,aC,aB])
theorem wc (p0:List (List Int)):(ju p0).length=bA p0 p0.length:=by
 have h0:∀ k,(itr (gC p0) k (0,[])).2.length=bA p0 k:=by
  intro k
  induction k with
  |zero=>rw [aX];rfl
  |succ k ih=>rw [aP];show ((itr (gC p0) k (0,[])).2++p0.getD k []).length=bA p0 k+(p0.getD k []).length;rw [List.length_append,ih]
 exact h0 _
end Go.Vm
namespace Go.Vm
open Go Go.Proofs
def FT9 (p0:List Int):Int :=
 (sel ((((p0.length:Nat):Int):Int) != 32) 2 0)
def ee (p0:List Int):List Int :=
 (sel ((((p0.length:Nat):Int):Int) != 32) ([]:List Int) (gh (pA (rO) (aA (F43 (((eP p0).drop 0).take 32)) 32 0 32))))
def bq (p0:List Int):Nat :=
 (sel ((((p0.length:Nat):Int):Int) != 32) 0 32)
def ST9:List AV→List Blk→Option (Prop × Ret)
 |[.sc (.ro .u8 p0)],[]=>some (True,⟨.tup [.sc (.sl 0 0 (bq p0) 1 (some (bq p0))),.sc (.i .i64 (FT9 p0))],[some (.ints .u8 (bq p0) (ee p0))]⟩)
 |_,_=>none
theorem KT9:Known Tryz.prog gD 28 ⟨0,1,ST9⟩:=by
 refine Xw Tryz.f28 19 (Zc Ax 112 [.ro .u8] [] [] <|Zv K43 208 1 <|Zv Hc 256 0 <|Zc Ea 288 [.val,.ro .u8] [224] [] <|Zv Gs 304 1 <|Zn) mixed <|fun E args ks C r h hC hlen=>?_
 simp only at h
 unfold ST9 at h
 split at h
 rotate_left
 cases h
 rename_i p0
 cases h
 simp only [aj] at hlen
 refine ⟨rfl,?_⟩
 refine Xs [] [] 48 (v2 pT) <|Tri.seq <|Xs [Eb 8 ((((p0.length:Nat):Int):Int) != 32)] [] 96 (v3 pT) <|Xa (fun h1=>?_) (fun h1=>?_)
 have h1':=cT h1
 exact Xs [Ei 3 2,(2,.sc (.nils))] [8,0] 128 (v2 pT) <|Tri.sub (Sub.openNil (U:=128) (U':=144) 2 128 1 .u8 (some 0) (.inr rfl) (by decide) (by decide) (by kernel_rfl) (by kernel_rfl)) <|Xy [(128,0)] (pa pT pz) (by simp only [FT9,ee,bq,h1,aC,aB] <;> rfl)
 have h1':=bU h1
 exact Tri.skip <|Xt [Ep 4 128] [8,0] [Mi 128 64 (eP p0)] [] 160 (v1 (pu (pa pz (Ye p0.length 100000000)) (v1 (pu (Yz 64) pT)))) <|Xt [Ep 5 224] [4] [Mi 224 32 (F43 (((eP p0).drop 0).take 32))] [128] 256 (pu (pa (lo ((0:Int)≤0∧(0:Int)≤32∧32≤((64:Nat):Int))) (Ye 64 64)) (pu (lo (0<32∧32≤32)) (pu (Ye (0+32) 64) (pu pz (v1 (pu (Yz 32) pT)))))) <|Tri.len 224 rfl <|fun hl2=>Xu [] (some [0,0,3,7,15,31]) [Ei 3 0,(2,.sc (.sl 304 0 32 1 (some 32)))] [5] [Mi 304 32 (gh (pA (rO) (aA (F43 (((eP p0).drop 0).take 32)) 32 0 32)))] [224] 352 (pu pz (pu (pa (lo ((0:Int)≤0∧(0:Int)≤32∧32≤((32:Nat):Int))) (Ye 32 32)) (pu (pa (pa (Yw 32) pT) (Ye ((aA (F43 (((eP p0).drop 0).take 32)) 32 0 32).length) 1000000)) (pu pz (v2 pT))))) <|Xy [(304,0)] (pa pT pz) (by simp only [FT9,ee,bq,h1,aC,aB] <;> rfl)
theorem AD {p0:List Int} (h:(((FT9 p0):Int) != 0)=false):p0.length=32:=by
 unfold FT9 at h
 cases hb:((((p0.length:Nat):Int):Int) != 32)
 ·have:=bU hb
  omega
 ·rw [hb,aC] at h
  cases h
theorem GF (p0:List Int):bq p0≤32:=by
 unfold bq
 cases ((((p0.length:Nat):Int):Int) != 32) <;> decide
theorem kU {a b:List Int} (h:a.length≤20000) (h':b.length≤20000):bA [a,b] [a,b].length≤100000∧[a,b].length≤100000:=⟨(show 0+a.length+b.length≤100000 by omega),(show 2≤100000 by omega)⟩
theorem fU {a b c:List Int} (h:a.length≤20000) (h':b.length≤20000) (h'':c.length≤20000):bA [a,b,c] [a,b,c].length≤100000∧[a,b,c].length≤100000:=⟨(show 0+a.length+b.length+c.length≤100000 by omega),(show 3≤100000 by omega)⟩
theorem jm {X:List (List Int)} (h:bA X X.length≤100000):(aA (ju X) (bA X X.length) 0 (bA X X.length)).length≤100000000:=aK (Nat.le_trans h (by decide)) (by rw [wc];exact Nat.le_trans h (by decide))
theorem Hg {p0:List Int} (h:((((p0.length:Nat):Int):Int) != 32)=false):bq p0=32:=by
 unfold bq
 rw [h,aB]
def lq (p0:List Int) (p1:List Int):List Int :=
 (eP (aA (ju [aA (eP p0) 64 32 32,p1]) (bA [aA (eP p0) 64 32 32,p1] [aA (eP p0) 64 32 32,p1].length) 0 (bA [aA (eP p0) 64 32 32,p1] [aA (eP p0) 64 32 32,p1].length)))
def xO (p0:List Int) (p1:List Int):List Int :=
 (iu (jv (aA (lq p0 p1) 64 0 64)))
def eZ (p0:List Int) (p1:List Int):List Int :=
 (pA (rO) (aA (xO p0 p1) 32 0 32))
def xN (p0:List Int) (p1:List Int):List Int :=
 (ju [aA (gh (eZ p0 p1)) 32 0 32,aA (ee p0) (bq p0) 0 (bq p0),p1])
def pS (p0:List Int) (p1:List Int):List Int :=
 (eP (aA (xN p0 p1) (bA [aA (gh (eZ p0 p1)) 32 0 32,aA (ee p0) (bq p0) 0 (bq p0),p1] [aA (gh (eZ p0 p1)) 32 0 32,aA (ee p0) (bq p0) 0 (bq p0),p1].length) 0 (bA [aA (gh (eZ p0 p1)) 32 0 32,aA (ee p0) (bq p0) 0 (bq p0),p1] [aA (gh (eZ p0 p1)) 32 0 32,aA (ee p0) (bq p0) 0 (bq p0),p1].length)))
def wm (p0:List Int):List Int :=
 (jv (aA (F43 (((eP p0).drop 0).take 32)) 32 0 32))
def xV (p0:List Int) (p1:List Int):List Int :=
 (Bb (jv (aA (pS p0 p1) 64 0 64)) (wm p0))
def we (p0:List Int) (p1:List Int):List Int :=
 (pd (xV p0 p1) (jv (aA (lq p0 p1) 64 0 64)))
def GC (p0:List Int) (p1:List Int):Int :=
 (sel (((FT9 p0):Int) != 0) (FT9 p0) 0)
def nt (p0:List Int) (p1:List Int):List Int :=
 (sel (((FT9 p0):Int) != 0) ([]:List Int) ((gh (eZ p0 p1))++(iu (we p0 p1))))
def Ii:List AV→List Blk→Option (Prop × Ret)
 |[.sc (.ro .u8 p0),.sc (.ro .u8 p1)],[]=>some ((p1.length≤10000),⟨.tup [.sc (.sl 0 0 (sel (((FT9 p0):Int) != 0) 0 64) 1 none),.sc (.i .i64 (GC p0 p1))],[some (.ints .u8 (sel (((FT9 p0):Int) != 0) 0 64) (nt p0 p1))]⟩)
 |_,_=>none
def KH:KL Tryz.prog gD:=Zc KT9 64 [.ro .u8] [] [] <|Zc Ax 208 [.ro .u8] [] [] <|Zc Ax 416 [.ro .u8] [400] [] <|Zc Ax 704 [.ro .u8] [688] [] <|Zv K43 304 1 <|Zv Hc 528 0 <|Zc Ea 576 [.val,.ro .u8] [560] [] <|Zv Gs 592 1 <|Zc Gm 400 [.rob] [384,224] [] <|Zc Gm 688 [.rob] [672,592,64] [] <|Zc AX 480 [.ro .u8] [432] [] <|Zc AX 784 [.ro .u8] [720] [] <|Zc AX 816 [.ro .u8] [320] [] <|Zv Bg 560 1 <|Zv Bg 880 1 <|Zv KG 832 2 <|Zv If 864 2 <|Zn
theorem Kc:Known Tryz.prog gD 30 ⟨0,1,Ii⟩:=by
 refine Xw Tryz.f30 56 KH mixed <|fun E args ks C r h hC hlen=>?_
 simp only at h
 unfold Ii at h
 split at h
 rotate_left
 cases h
 rename_i p0 p1
 cases h
 simp only [aj] at hlen
 have hn9:=GF p0
 refine ⟨rfl,?_⟩
 refine Xs [] [] 48 (v2 pT) <|Xt [Ei 7 (FT9 p0),(6,.sc (.sl 64 0 (bq p0) 1 (some (bq p0))))] [] [Mi 64 (bq p0) (ee p0)] [] 160 (v1 (pu (pa pz pT) (v5 pT))) <|Tri.seq <|Xs [Eb 20 (((FT9 p0):Int) != 0)] [] 192 (v2 pT) <|Xa (fun h1=>?_) (fun h1=>?_)
 have h1':=cT h1
 exact Xt [Ei 5 (FT9 p0),(4,.sc (.nils))] [20,7,6,0,1] [] [64] 240 (v3 pT) <|Tri.sub (Sub.openNil (U:=240) (U':=256) 4 240 1 .u8 none (.inl rfl) (by decide) (by decide) (by kernel_rfl) (by kernel_rfl)) <|Xy [(240,0)] (pa pT pz) (by simp only [GC,nt,h1,aC,aB] <;> rfl)
 have h1':=bU h1
 refine Tri.skip <|Tri.len 64 rfl <|fun hl2=>Xt [Ep 8 224] [20,7,0] [Mi 224 64 (eP p0)] [] 256 (v1 (pu (pa pz (pl (show p0.length≤100000000 from by first|omega|(have hl:=AD (p0:=p0) (by assumption);omega)|exact jm (kU (by first|omega|exact aK (by omega) (by omega)|(rw [List.length_take];omega)) (by first|omega|exact aK (by omega) (by omega)|(rw [List.length_take];omega))).1|exact jm (fU (by first|omega|exact aK (by omega) (by omega)|(rw [List.length_take];omega)) (by first|omega|exact aK (by omega) (by omega)|(rw [List.length_take];omega)) (by first|omega|exact aK (by omega) (by omega)|(rw [List.length_take];omega))).1))) (v1 (pu (Yz 64) pT)))) ?_
 refine Xt [Ep 9 320] [] [Mi 320 32 (F43 (((eP p0).drop 0).take 32))] [] 352 (pu (pa (lo ((0:Int)≤0∧(0:Int)≤32∧32≤((64:Nat):Int))) (Ye 64 64)) (pu (lo (0<32∧32≤32)) (pu (Ye (0+32) 64) (pu pz (v1 (pu (Yz 32) pT)))))) <|Tri.len 320 rfl <|fun hl3=>Tri.len 224 rfl <|fun hl4=>Tri.len 64 rfl <|fun hl5=>Xt [Ep 10 432] [8] [Mi 432 64 (lq p0 p1)] [224] 464 (pu (pa (lo ((0:Int)≤32∧(32:Int)≤64∧64≤((64:Nat):Int))) (Ye 64 64)) (v1 (pu (Yf 2) (pu (pa (pa (pa (ld (0+2≤2)) (pa (Ye (32+32) 64) pz)) pT) (pl (show bA [aA (eP p0) 64 32 32,p1] [aA (eP p0) 64 32 32,p1].length≤100000∧[aA (eP p0) 64 32 32,p1].length≤100000 from by first|exact kU (by first|omega|exact aK (by omega) (by omega)|(rw [List.length_take];omega)) (by first|omega|exact aK (by omega) (by omega)|(rw [List.length_take];omega))|exact fU (by first|omega|exact aK (by omega) (by omega)|(rw [List.length_take];omega)) (by first|omega|exact aK (by omega) (by omega)|(rw [List.length_take];omega)) (by first|omega|exact aK (by omega) (by omega)|(rw [List.length_take];omega))))) (pu (pa (pa (Yw (bA [aA (eP p0) 64 32 32,p1] [aA (eP p0) 64 32 32,p1].length)) pT) (pl (show (aA (ju [aA (eP p0) 64 32 32,p1]) (bA [aA (eP p0) 64 32 32,p1] [aA (eP p0) 64 32 32,p1].length) 0 (bA [aA (eP p0) 64 32 32,p1] [aA (eP p0) 64 32 32,p1].length)).length≤100000000 from by first|omega|(have hl:=AD (p0:=p0) (by assumption);omega)|exact jm (kU (by first|omega|exact aK (by omega) (by omega)|(rw [List.length_take];omega)) (by first|omega|exact aK (by omega) (by omega)|(rw [List.length_take];omega))).1|exact jm (fU (by first|omega|exact aK (by omega) (by omega)|(rw [List.length_take];omega)) (by first|omega|exact aK (by omega) (by omega)|(rw [List.length_take];omega)) (by first|omega|exact aK (by omega) (by omega)|(rw [List.length_take];omega))).1))) (v1 (pu (Yz 64) pT))))))) ?_
 refine Tri.len 432 rfl <|fun hl6=>Tri.len 320 rfl <|fun hl7=>Tri.len 64 rfl <|fun hl8=>Xt [Ep 11 496] [10] [Mk 496 .u64 4 (jv (aA (lq p0 p1) 64 0 64))] [432] 528 (pu (pa (lo ((0:Int)≤0∧(0:Int)≤64∧64≤((64:Nat):Int))) (Ye 64 64)) (pu (pa (pa (Yw 64) pT) (Ye ((aA (lq p0 p1) 64 0 64).length) 1000000)) (v1 (pu (Yz 4) pT)))) <|Tri.len 496 rfl <|fun hl9=>Tri.len 320 rfl <|fun hl10=>Tri.len 64 rfl <|fun hl11=>Xu [] (some [0,0,3,7,15,31]) [(12,.sc (.sl 592 0 32 1 (some 32)))] [] [Mi 592 32 (gh (eZ p0 p1))] [] 624 (pu pz (v1 (pu pz (pu (pa (pa (Yw 32) pT) (pl (show (aA (xO p0 p1) 32 0 32).length≤1000000 from by exact aK (by decide) (Nat.le_trans (Nat.le_of_eq (uF _)) (by decide))))) (pu pz (v1 pT)))))) ?_
 refine Tri.len 592 rfl <|fun hl12=>Tri.len 496 rfl <|fun hl13=>Tri.len 320 rfl <|fun hl14=>Tri.len 64 rfl <|fun hl15=>Xt [Ep 13 720] [6,1] [Mi 720 64 (pS p0 p1)] [64] 752 (v3 (pu (Yf 3) (pu (pa (pa (pa (ld (0+3≤3)) (pa (Yw 32) (pa (Yw (bq p0)) pz))) pT) (pl (show bA [aA (gh (eZ p0 p1)) 32 0 32,aA (ee p0) (bq p0) 0 (bq p0),p1] [aA (gh (eZ p0 p1)) 32 0 32,aA (ee p0) (bq p0) 0 (bq p0),p1].length≤100000∧[aA (gh (eZ p0 p1)) 32 0 32,aA (ee p0) (bq p0) 0 (bq p0),p1].length≤100000 from by first|exact kU (by first|omega|exact aK (by omega) (by omega)|(rw [List.length_take];omega)) (by first|omega|exact aK (by omega) (by omega)|(rw [List.length_take];omega))|exact fU (by first|omega|exact aK (by omega) (by omega)|(rw [List.length_take];omega)) (by first|omega|exact aK (by omega) (by omega)|(rw [List.length_take];omega)) (by first|omega|exact aK (by omega) (by omega)|(rw [List.length_take];omega))))) (pu (pa (pa (Yw (bA [aA (gh (eZ p0 p1)) 32 0 32,aA (ee p0) (bq p0) 0 (bq p0),p1] [aA (gh (eZ p0 p1)) 32 0 32,aA (ee p0) (bq p0) 0 (bq p0),p1].length)) pT) (pl (show (aA (xN p0 p1) (bA [aA (gh (eZ p0 p1)) 32 0 32,aA (ee p0) (bq p0) 0 (bq p0),p1] [aA (gh (eZ p0 p1)) 32 0 32,aA (ee p0) (bq p0) 0 (bq p0),p1].length) 0 (bA [aA (gh (eZ p0 p1)) 32 0 32,aA (ee p0) (bq p0) 0 (bq p0),p1] [aA (gh (eZ p0 p1)) 32 0 32,aA (ee p0) (bq p0) 0 (bq p0),p1].length)).length≤100000000 from by first|omega|(have hl:=AD (p0:=p0) (by assumption);omega)|exact jm (kU (by first|omega|exact aK (by omega) (by omega)|(rw [List.length_take];omega)) (by first|omega|exact aK (by omega) (by omega)|(rw [List.length_take];omega))).1|exact jm (fU (by first|omega|exact aK (by omega) (by omega)|(rw [List.length_take];omega)) (by first|omega|exact aK (by omega) (by omega)|(rw [List.length_take];omega)) (by first|omega|exact aK (by omega) (by omega)|(rw [List.length_take];omega))).1))) (v1 (pu (Yz 64) pT)))))) ?_
 exact Tri.len 720 rfl <|fun hl16=>Tri.len 592 rfl <|fun hl17=>Tri.len 496 rfl <|fun hl18=>Tri.len 320 rfl <|fun hl19=>Xu [] (some [0,0,2,0,14,30,0,126,254,511,1023,2047]) [Ei 5 0,El 4 896 64] [13,12,11,9] [Mi 896 64 ((gh (eZ p0 p1))++(iu (we p0 p1)))] [720,592,496,320] 944 (v1 (pu (pa (lo ((0:Int)≤0∧(0:Int)≤64∧64≤((64:Nat):Int))) (Ye 64 64)) (pu (pa (pa (Yw 64) pT) (Ye ((aA (pS p0 p1) 64 0 64).length) 1000000)) (pu (pa (lo ((0:Int)≤0∧(0:Int)≤32∧32≤((32:Nat):Int))) (Ye 32 32)) (pu (pa (pa (Yw 32) pT) (Ye ((aA (F43 (((eP p0).drop 0).take 32)) 32 0 32).length) 1000000)) (pu (pa pT (pl (show rng (jv (aA (pS p0 p1) 64 0 64))∧rng (wm p0) from ⟨xu _,xu _⟩))) (v1 (pu (pa pT (pl (show rng (xV p0 p1)∧rng (jv (aA (lq p0 p1) 64 0 64)) from ⟨JZ _ _,xu _⟩))) (pu pz (pu (pa (YN (pa (Yw 32) pT) 1 64 32 32) (pa (Yr 1) (pa (lo (32=32)) (Yl 0 32)))) (v2 pT))))))))))) <|Xy [(896,0)] (pa pT pz) (by simp only [GC,nt,h1,aC,aB] <;> rfl)
theorem Bx (b:Bool):sel b 0 64≤64:=by cases b <;> decide
theorem tF {p0:List Int} (h:p0.length=32):FT9 p0=0∧bq p0=32:=by
 have e:((((p0.length:Nat):Int):Int) != 32)=false:=by rw [h];rfl
 exact ⟨by unfold FT9;rw [e,aB],Hg e⟩
def kP (p2:List Int) (k0:Nat) (z0:List Int):List Int :=
 z0.set (k0/8) (iOr .u64 (z0.getD (k0/8) 0) (cd .u64 (IntKind.wrap .u64 (p2.getD (32+k0) 0)) ((8*(k0 % 8):Nat):Int)))
def yz (p0:List Int) (p1:List Int) (p2:List Int):Bool :=
 (sel ((((p2.length:Nat):Int):Int) != 64) false (sel (!(fL p0)) false (sel (!(rM (itr (kP p2) 32 [0,0,0,0]) ((wK.drop 0).take 4))) false (aQ (bytesOf (((gh (jw (pA (rO) (aA (iu (itr (kP p2) 32 [0,0,0,0])) 32 0 32)) (pA (aL (aL (gP p0) 0 (F18 (F30 0) (((gP p0).drop 0).take 5))) 15 (F18 (F30 0) (((gP p0).drop 15).take 5))) (aA (iu (jv (aA (eP (aA (ju [(p2.drop 0).take 32,p0,p1]) (bA [(p2.drop 0).take 32,p0,p1] [(p2.drop 0).take 32,p0,p1].length) 0 (bA [(p2.drop 0).take 32,p0,p1] [(p2.drop 0).take 32,p0,p1].length))) 64 0 64))) 32 0 32)) (F16 (bQ) (bQ)))).drop 0).take 32)) (bytesOf ((p2.drop 0).take 32))))))
def Ji:List AV→List Blk→Option (Prop × Ret)
 |[.sc (.ro .u8 p0),.sc (.ro .u8 p1),.sc (.ro .u8 p2)],[]=>some ((p1.length≤10000),⟨.sc (.b (yz p0 p1 p2)),[]⟩)
 |_,_=>none
def KR:KL Tryz.prog gD:=Zc Ax 480 [.ro .u8] [464] [] <|Zv Hc 768 0 <|Zc Ea 816 [.val,.ro .u8] [800] [] <|Zc Ea 896 [.val,.ro .u8] [880] [] <|Zv Gs 1024 1 <|Zc Gm 464 [.rob] [448] [] <|Zc AX 864 [.ro .u8] [496] [] <|Zv Bg 800 1 <|Zv Bg 880 1 <|Zc JJ 96 [.ro .u8] [] [] <|Zv Hm 720 0 <|Zv K16 944 2 <|Zv K30 528 1 <|Zv K30 592 1 <|Zv He 960 3 <|Zv Jq 336 2 <|Zv K18 576 2 <|Zv K18 640 2 <|Zn
theorem KN:Known Tryz.prog gD 82 ⟨0,0,Ji⟩:=by
 refine Xw Tryz.f82 88 KR mixed <|fun E args ks C r h hC hlen=>?_
 simp only at h
 unfold Ji at h
 split at h
 rotate_left
 cases h
 rename_i p0 p1 p2
 cases h
 simp only [aj] at hlen
 refine ⟨rfl,?_⟩
 refine Xs [] [] 32 (v1 pT) <|Tri.seq <|Xs [Eb 16 ((((p2.length:Nat):Int):Int) != 64)] [] 80 (v3 pT) <|Xa (fun h1=>?_) (fun h1=>?_)
 have h1':=cT h1
 exact Xs [Eb 6 false] [16,0,1,2] 96 (v1 pT) <|Xy [] pz (by simp only [yz,h1,aC,aB] <;> rfl)
 have h1':=bU h1
 refine Tri.skip <|Xt [Eb 8 (fL p0),Ep 7 160] [16] [Mk 160 .u64 20 (gP p0)] [] 208 (v1 (pu (pa pz pT) (v4 (pu (Yz 20) (v1 pT))))) <|Xt [Ep 9 208] [] [Mk 208 .u64 4 [0,0,0,0]] [] 224 (v1 pT) <|Tri.seq <|Xs [Ei 22 0] [] 240 (v1 pT) <|Tri.block <|Xc 32 (kP p2) [0,0,0,0] (fun k0 z0=>rng z0) (fun k0 z0=>[Ej 22 k0]) (fun k0 z0=>[Mk 208 .u64 4 z0]) ki <|fun k0 z0 hk0 hz0 hJ0=>Xs [Eb 23 (decide ((((k0:Nat):Int):Int)<32))] [] 256 (v1 pT) <|Tri.seq <|Xb (fun h2 h2'=>?_) (fun h2 h2'=>?_)
 exact Tri.skip <|Tri.seq <|Tri.block <|Xs [Ej 10 k0] [23] 288 (v2 pT) <|Wu [Ej 26 (k0/8),Ej 31 (32+k0),Ej 36 (k0 % 8),Ej 37 (8*(k0 % 8))] (some [0,1,3,7,0,0,32,112,240,496,0,1024,3072,8176,16383,32767,65535]) [] [10] [Mk 208 .u64 4 (z0.set (k0/8) (iOr .u64 (z0.getD (k0/8) 0) (cd .u64 (IntKind.wrap .u64 (p2.getD (32+k0) 0)) ((8*(k0 % 8):Nat):Int))))] [208] 560 (v1 (pv (Yn 8) (pl (cQ (a:=k0) (b:=8) (by omega))) (pu (Yj (k0/8) 4) (pu (Yl (k0/8) 4) (v2 (pv pT (Yp 32 k0) (pu (Yj (32+k0) p2.length) (pu (Yl (32+k0) p2.length) (v2 (pv (Yn 8) (pl (ct (a:=k0) (b:=8))) (pv pT (Yt 8 (k0 % 8)) (pu (Y0 ((8*(k0 % 8):Nat):Int)) (v1 (pu (Yj (k0/8) 4) (pu (Ys (k0/8) 4) pT))))))))))))))) <|Wu [Ej 41 (k0+1)] none [Ej 22 (k0+1)] [22] [] [] 592 (pv pT (Yp k0 1) (v1 pT)) <|Xo [] (show rng (List.set _ _ _) from iW hJ0 (fT _))
 refine Tri.exit <|?_
 obtain rfl:k0=32:=(by omega);subst hz0
 refine Tri.seq <|Tri.split (!(fL p0)) (fun h3=>?_) (fun h3=>?_)
 exact Xu [Eb 44 true] none [Eb 49 true] [23,22,8] [] [] 384 (v2 (pg h3 (v5 pT))) <|Tri.cond_true (by kernel_rfl) <|Xt [Eb 6 false] [49,9,7,0,1,2] [] [208,160] 400 (v1 pT) <|Xy [] pz (by simp only [yz,h1,h3,aC,aB] <;> rfl)
 refine Xu [Eb 44 false] none [Eb 49 (!(rM (itr (kP p2) 32 [0,0,0,0]) ((wK.drop 0).take 4)))] [23,22,8] [] [] 384 (v2 (pg h3 (v1 (pu (Ye (0+4) wK.length) (pu (pa pT (pl (show rng (itr (kP p2) 32 [0,0,0,0])∧rng ((wK.drop 0).take 4) from ⟨hJ0,qi⟩))) (v2 pT)))))) <|Xa (fun h4=>?_) (fun h4=>?_)
 exact Xt [Eb 6 false] [49,9,7,0,1,2] [] [208,160] 400 (v1 pT) <|Xy [] pz (by simp only [yz,h1,h3,h4,aC,aB] <;> rfl)
 refine Tri.skip <|Tri.len 208 rfl <|fun hl5=>Tri.len 160 rfl <|fun hl6=>Xt [Ep 11 496] [49,0,1] [Mi 496 64 (eP (aA (ju [(p2.drop 0).take 32,p0,p1]) (bA [(p2.drop 0).take 32,p0,p1] [(p2.drop 0).take 32,p0,p1].length) 0 (bA [(p2.drop 0).take 32,p0,p1] [(p2.drop 0).take 32,p0,p1].length)))] [] 528 (v1 (pu (lo ((0:Int)≤0∧(0:Int)≤32∧32≤(p2.length:Int))) (v2 (pu (Yf 3) (pu (pa (pa (pa (ld (0+3≤3)) (pa pT (pa pT pz))) pT) (pl (show bA [(p2.drop 0).take 32,p0,p1] [(p2.drop 0).take 32,p0,p1].length≤100000∧[(p2.drop 0).take 32,p0,p1].length≤100000 from by exact fU (by first|omega|(have hl:=np (p0:=p0) (by assumption);omega)|exact aK (by omega) (by omega)|(rw [List.length_take];omega)) (by first|omega|(have hl:=np (p0:=p0) (by assumption);omega)|exact aK (by omega) (by omega)|(rw [List.length_take];omega)) (by first|omega|(have hl:=np (p0:=p0) (by assumption);omega)|exact aK (by omega) (by omega)|(rw [List.length_take];omega))))) (pu (pa (pa (Yw (bA [(p2.drop 0).take 32,p0,p1] [(p2.drop 0).take 32,p0,p1].length)) pT) (pl (show (aA (ju [(p2.drop 0).take 32,p0,p1]) (bA [(p2.drop 0).take 32,p0,p1] [(p2.drop 0).take 32,p0,p1].length) 0 (bA [(p2.drop 0).take 32,p0,p1] [(p2.drop 0).take 32,p0,p1].length)).length≤100000000 from by exact jm (fU (by first|omega|(have hl:=np (p0:=p0) (by assumption);omega)|exact aK (by omega) (by omega)|(rw [List.length_take];omega)) (by first|omega|(have hl:=np (p0:=p0) (by assumption);omega)|exact aK (by omega) (by omega)|(rw [List.length_take];omega)) (by first|omega|(have hl:=np (p0:=p0) (by assumption);omega)|exact aK (by omega) (by omega)|(rw [List.length_take];omega))).1))) (v1 (pu (Yz 64) pT)))))))) ?_
 refine Xu [] (some [0,0,2,7,15,0,32,127,111,511,1023,2047]) [] [] [Mk 160 .u64 20 (aL (aL (gP p0) 0 (F18 (F30 0) (((gP p0).drop 0).take 5))) 15 (F18 (F30 0) (((gP p0).drop 15).take 5)))] [160] 720 (pu pz (v1 (pu (Ye (0+5) 20) (pu pz (pu pz (v1 (pu (Ye (15+5) 20) (pu pz (v1 (pu (pa (Ye (0+5) 20) (Yr 5)) (v1 (pu (pa (Ye (15+5) 20) (Yr 5)) pT)))))))))))) <|Xt [Ep 12 736] [] [Mk 736 .u64 5 (bQ)] [] 768 (pu pz (v1 (pu (Yz 5) pT))) <|Tri.len 736 rfl <|fun hl7=>Tri.len 160 rfl <|fun hl8=>Tri.len 496 rfl <|fun hl9=>Tri.len 208 rfl <|fun hl10=>Xu [] (some [0,0,3,7,0,0,47,111,255,0,0,2047,4095,0,16383]) [Ep 13 976] [12,11,9,7] [Mk 976 .u64 20 (jw (pA (rO) (aA (iu (itr (kP p2) 32 [0,0,0,0])) 32 0 32)) (pA (aL (aL (gP p0) 0 (F18 (F30 0) (((gP p0).drop 0).take 5))) 15 (F18 (F30 0) (((gP p0).drop 15).take 5))) (aA (iu (jv (aA (eP (aA (ju [(p2.drop 0).take 32,p0,p1]) (bA [(p2.drop 0).take 32,p0,p1] [(p2.drop 0).take 32,p0,p1].length) 0 (bA [(p2.drop 0).take 32,p0,p1] [(p2.drop 0).take 32,p0,p1].length))) 64 0 64))) 32 0 32)) (F16 (bQ) (bQ)))] [736,160,496,208] 1008 (pu pz (v1 (pu pz (pu (pa (pa (Yw 32) pT) (pl (show (aA (iu (itr (kP p2) 32 [0,0,0,0])) 32 0 32).length≤1000000 from by exact aK (by decide) (by rw [uF];decide)))) (v1 (pu (pa (lo ((0:Int)≤0∧(0:Int)≤64∧64≤((64:Nat):Int))) (Ye 64 64)) (pu (pa (pa (Yw 64) pT) (Ye ((aA (eP (aA (ju [(p2.drop 0).take 32,p0,p1]) (bA [(p2.drop 0).take 32,p0,p1] [(p2.drop 0).take 32,p0,p1].length) 0 (bA [(p2.drop 0).take 32,p0,p1] [(p2.drop 0).take 32,p0,p1].length))) 64 0 64).length) 1000000)) (pu pz (pu (pa (pa (Yw 32) pT) (pl (show (aA (iu (jv (aA (eP (aA (ju [(p2.drop 0).take 32,p0,p1]) (bA [(p2.drop 0).take 32,p0,p1] [(p2.drop 0).take 32,p0,p1].length) 0 (bA [(p2.drop 0).take 32,p0,p1] [(p2.drop 0).take 32,p0,p1].length))) 64 0 64))) 32 0 32).length≤1000000 from by exact aK (by decide) (by rw [uF];decide)))) (v2 (pu pz (pu pz (v1 (pu (Yz 20) pT)))))))))))))) ?_
 exact Tri.len 976 rfl <|fun hl11=>Xu [] (some [0,1,3,0,8,24,63,127]) [Eb 6 (aQ (bytesOf (((gh (jw (pA (rO) (aA (iu (itr (kP p2) 32 [0,0,0,0])) 32 0 32)) (pA (aL (aL (gP p0) 0 (F18 (F30 0) (((gP p0).drop 0).take 5))) 15 (F18 (F30 0) (((gP p0).drop 15).take 5))) (aA (iu (jv (aA (eP (aA (ju [(p2.drop 0).take 32,p0,p1]) (bA [(p2.drop 0).take 32,p0,p1] [(p2.drop 0).take 32,p0,p1].length) 0 (bA [(p2.drop 0).take 32,p0,p1] [(p2.drop 0).take 32,p0,p1].length))) 64 0 64))) 32 0 32)) (F16 (bQ) (bQ)))).drop 0).take 32)) (bytesOf ((p2.drop 0).take 32)))] [13,2] [] [976] 1136 (v1 (pu pz (pu (Yw 32) (v1 (pu (lo ((0:Int)≤0∧(0:Int)≤32∧32≤(p2.length:Int))) (v3 pT)))))) <|Xy [] pz (by simp only [yz,h1,h3,h4,aC,aB] <;> rfl)
end Go.Vm
namespace Go.Vm
open Go Go.Proofs
theorem Cu {α:Type} (b:Bool) (x:α):sel b x x=x:=by cases b <;> rfl
theorem wA {a b c:Nat} (h:a≤20000) (h':b≤20000) (h'':c≤20000):a+b+c≤1000000:=by omega
theorem kH (p:List Int) (o:Nat) (h:o+32≤64):(aA (bH p) 64 o 32).length=32:=by
 rw [fi (hI p),List.length_take,List.length_drop,hI]
 omega
def cG (p0:List Int) (p1:List Int):List Int :=
 (F19 p0 p1)
def Jp:List AV→List Blk→Option (Prop × Ret)
 |[.ints .i64 16 p0,.ints .i64 16 p1],[]=>some (True,⟨.ints .i64 16 (cG p0 p1),[]⟩)
 |_,_=>none
theorem ED:Known Tryz.prog gD 89 ⟨0,0,Jp⟩:=by
 refine Xw Tryz.f89 8 (Zv K19 96 2 <|Zn) mixed <|fun E args ks C r h hC hlen=>?_
 simp only at h
 unfold Jp at h
 split at h
 rotate_left
 cases h
 rename_i p0 p1
 cases h
 simp only [aj] at hlen
 refine ⟨rfl,?_⟩
 exact Xt [Ep 4 48,Ep 3 32,Ep 2 16] [0,1] [Mk 48 .i64 16 [0,0,0,0,0,0,0,0,0,0,0,0,0,0,0,0],Mk 32 .i64 16 p1,Mk 16 .i64 16 p0] [] 64 (v3 pT) <|Xt [] [3,2] [Mk 48 .i64 16 (F19 p0 p1)] [48,32,16] 128 (v2 (pu pz (pu (Yz 16) pT))) <|Xz [] pz
def ab (p0:Int):List Int :=
 (F31 p0)
def JB:List AV→List Blk→Option (Prop × Ret)
 |[.sc (.i .i64 p0)],[]=>some (True,⟨.ints .i64 16 (ab p0),[]⟩)
 |_,_=>none
theorem oz:Known Tryz.prog gD 90 ⟨0,0,JB⟩:=by
 refine Xw Tryz.f90 5 (Zv K31 48 1 <|Zn) mixed <|fun E args ks C r h hC hlen=>?_
 simp only at h
 unfold JB at h
 split at h
 rotate_left
 cases h
 rename_i p0
 cases h
 simp only [aj] at hlen
 refine ⟨rfl,?_⟩
 exact Xt [Ep 2 16] [] [Mk 16 .i64 16 [0,0,0,0,0,0,0,0,0,0,0,0,0,0,0,0]] [] 32 (v1 pT) <|Xt [] [0] [Mk 16 .i64 16 (F31 p0)] [16] 80 (v1 (pu pz (pu (Yz 16) pT))) <|Xz [] pz
def aE (p0:List Int) (p1:List Int):List Int :=
 (F21 p0 p1)
def IT:List AV→List Blk→Option (Prop × Ret)
 |[.ints .i64 16 p0,.ints .i64 16 p1],[]=>some (True,⟨.ints .i64 16 (aE p0 p1),[]⟩)
 |_,_=>none
theorem jN:Known Tryz.prog gD 95 ⟨0,0,IT⟩:=by
 refine Xw Tryz.f95 8 (Zv K21 96 2 <|Zn) mixed <|fun E args ks C r h hC hlen=>?_
 simp only at h
 unfold IT at h
 split at h
 rotate_left
 cases h
 rename_i p0 p1
 cases h
 simp only [aj] at hlen
 refine ⟨rfl,?_⟩
 exact Xt [Ep 4 48,Ep 3 32,Ep 2 16] [0,1] [Mk 48 .i64 16 [0,0,0,0,0,0,0,0,0,0,0,0,0,0,0,0],Mk 32 .i64 16 p1,Mk 16 .i64 16 p0] [] 64 (v3 pT) <|Xt [] [3,2] [Mk 48 .i64 16 (F21 p0 p1)] [48,32,16] 128 (v2 (pu pz (pu (Yz 16) pT))) <|Xz [] pz
def ca (p0:List Int) (p1:List Int):List Int :=
 (F17 p0 p1)
def JP:List AV→List Blk→Option (Prop × Ret)
 |[.ints .i64 16 p0,.ints .i64 16 p1],[]=>some (True,⟨.ints .i64 16 (ca p0 p1),[]⟩)
 |_,_=>none
theorem FL:Known Tryz.prog gD 119 ⟨0,0,JP⟩:=by
 refine Xw Tryz.f119 8 (Zv K17 96 2 <|Zn) mixed <|fun E args ks C r h hC hlen=>?_
 simp only at h
 unfold JP at h
 split at h
 rotate_left
 cases h
 rename_i p0 p1
 cases h
 simp only [aj] at hlen
 refine ⟨rfl,?_⟩
 exact Xt [Ep 4 48,Ep 3 32,Ep 2 16] [0,1] [Mk 48 .i64 16 [0,0,0,0,0,0,0,0,0,0,0,0,0,0,0,0],Mk 32 .i64 16 p1,Mk 16 .i64 16 p0] [] 64 (v3 pT) <|Xt [] [3,2] [Mk 48 .i64 16 (F17 p0 p1)] [48,32,16] 128 (v2 (pu pz (pu (Yz 16) pT))) <|Xz [] pz
def cb:List Int :=
 (cG (ab 0) (aE (ab 121665) (F28 (ab 121666))))
def IP:List AV→List Blk→Option (Prop × Ret)
 |[],[]=>some (True,⟨.ints .i64 16 (cb),[]⟩)
 |_,_=>none
theorem JL:Known Tryz.prog gD 92 ⟨0,0,IP⟩:=by
 refine Xw Tryz.f92 7 (Zv ED 112 2 <|Zv oz 32 1 <|Zv oz 48 1 <|Zv oz 64 1 <|Zv K28 80 1 <|Zv jN 96 2 <|Zn) mixed <|fun E args ks C r h hC hlen=>?_
 simp only at h
 unfold IP at h
 split at h
 rotate_left
 cases h
 cases h
 simp only [aj] at hlen
 refine ⟨rfl,?_⟩
 exact Xt [Ep 0 16] [] [Mk 16 .i64 16 [0,0,0,0,0,0,0,0,0,0,0,0,0,0,0,0]] [] 32 (v1 pT) <|Xt [] [] [Mk 16 .i64 16 (cG (ab 0) (aE (ab 121665) (F28 (ab 121666))))] [16] 144 (pu pz (pu pz (pu pz (pu pz (pu pz (pu pz (pu (Yz 16) pT))))))) <|Xz [] pz
def rL (p0:List Int) (p1:List Int) (p2:List Int):List Int :=
 aL (aL (aL [0,0,0,0,0,0,0,0,0,0,0,0,0,0,0,0,0,0,0,0,0,0,0,0,0,0,0,0,0,0,0,0,0,0,0,0,0,0,0,0,0,0,0,0,0,0,0,0] 0 (aE (aE (ca (aE ((p0.drop 0).take 16) ((p1.drop 16).take 16)) (aE ((p1.drop 0).take 16) ((p0.drop 16).take 16))) (aE ((p0.drop 32).take 16) ((p1.drop 32).take 16))) (cG (aE (aE ((p0.drop 32).take 16) ((p1.drop 32).take 16)) (aE ((p0.drop 32).take 16) ((p1.drop 32).take 16))) (aE p2 (aE (aE ((p0.drop 0).take 16) ((p1.drop 0).take 16)) (aE ((p0.drop 16).take 16) ((p1.drop 16).take 16))))))) 16 (aE (aE (ca (aE ((p0.drop 16).take 16) ((p1.drop 16).take 16)) (aE ((p0.drop 0).take 16) ((p1.drop 0).take 16))) (aE ((p0.drop 32).take 16) ((p1.drop 32).take 16))) (ca (aE (aE ((p0.drop 32).take 16) ((p1.drop 32).take 16)) (aE ((p0.drop 32).take 16) ((p1.drop 32).take 16))) (aE p2 (aE (aE ((p0.drop 0).take 16) ((p1.drop 0).take 16)) (aE ((p0.drop 16).take 16) ((p1.drop 16).take 16))))))) 32 (aE (ca (aE (aE ((p0.drop 32).take 16) ((p1.drop 32).take 16)) (aE ((p0.drop 32).take 16) ((p1.drop 32).take 16))) (aE p2 (aE (aE ((p0.drop 0).take 16) ((p1.drop 0).take 16)) (aE ((p0.drop 16).take 16) ((p1.drop 16).take 16))))) (cG (aE (aE ((p0.drop 32).take 16) ((p1.drop 32).take 16)) (aE ((p0.drop 32).take 16) ((p1.drop 32).take 16))) (aE p2 (aE (aE ((p0.drop 0).take 16) ((p1.drop 0).take 16)) (aE ((p0.drop 16).take 16) ((p1.drop 16).take 16))))))
def Iv:List AV→List Blk→Option (Prop × Ret)
 |[.ints .i64 48 p0,.ints .i64 48 p1,.ints .i64 16 p2],[]=>some (True,⟨.ints .i64 48 (rL p0 p1 p2),[]⟩)
 |_,_=>none
def Js:KL Tryz.prog gD:=Zv ED 896 2 <|Zv jN 144 2 <|Zv jN 224 2 <|Zv jN 304 2 <|Zv jN 480 2 <|Zv jN 560 2 <|Zv jN 672 2 <|Zv jN 688 2 <|Zv jN 768 2 <|Zv jN 1008 2 <|Zv jN 1040 2 <|Zv jN 1120 2 <|Zv jN 1152 2 <|Zv jN 1200 2 <|Zv FL 576 2 <|Zv FL 848 2 <|Zv FL 1088 2 <|Zn
theorem Jf:Known Tryz.prog gD 91 ⟨0,0,Iv⟩:=by
 refine Xw Tryz.f91 71 Js mixed <|fun E args ks C r h hC hlen=>?_
 simp only at h
 unfold Iv at h
 split at h
 rotate_left
 cases h
 rename_i p0 p1 p2
 cases h
 simp only [aj] at hlen
 refine ⟨rfl,?_⟩
 exact Xt [Ep 6 64,Ep 5 48,Ep 4 32,Ep 3 16] [0,1,2] [Mk 64 .i64 48 [0,0,0,0,0,0,0,0,0,0,0,0,0,0,0,0,0,0,0,0,0,0,0,0,0,0,0,0,0,0,0,0,0,0,0,0,0,0,0,0,0,0,0,0,0,0,0,0],Mk 48 .i64 16 p2,Mk 32 .i64 48 p1,Mk 16 .i64 48 p0] [] 80 (v4 pT) <|Xu [] (some [0,1,0,4,15,0,32,0,128,511,0,1024,0,4096,16383,0,0,0,262143,524287,1048575]) [Ep 9 352,Ep 8 336,Ep 7 320] [] [Mk 352 .i64 16 (aE ((p0.drop 32).take 16) ((p1.drop 32).take 16)),Mk 336 .i64 16 (aE ((p0.drop 16).take 16) ((p1.drop 16).take 16)),Mk 320 .i64 16 (aE ((p0.drop 0).take 16) ((p1.drop 0).take 16))] [] 416 (v1 (pu (Ye (0+16) 48) (v1 (pu (Ye (0+16) 48) (pu pz (v1 (pu (Ye (16+16) 48) (v1 (pu (Ye (16+16) 48) (pu pz (v1 (pu (Ye (32+16) 48) (v1 (pu (Ye (32+16) 48) (pu pz (v3 (pu (Yz 16) (pu (Yz 16) (pu (Yz 16) pT))))))))))))))))))) <|Xu [] (some [0,1,0,4,15,0,32,0,128,511,1023,0,4095]) [Ep 10 592] [4,3] [Mk 592 .i64 16 (ca (aE ((p0.drop 0).take 16) ((p1.drop 16).take 16)) (aE ((p1.drop 0).take 16) ((p0.drop 16).take 16)))] [32,16] 624 (v1 (pu (Ye (0+16) 48) (v1 (pu (Ye (16+16) 48) (pu pz (v1 (pu (Ye (0+16) 48) (v1 (pu (Ye (16+16) 48) (pu pz (pu pz (v1 (pu (Yz 16) pT))))))))))))) <|Xu [] (some [0,0,0,6,15,0,63]) [Ep 11 704] [5] [Mk 704 .i64 16 (aE p2 (aE (aE ((p0.drop 0).take 16) ((p1.drop 0).take 16)) (aE ((p0.drop 16).take 16) ((p1.drop 16).take 16))))] [48] 736 (v3 (pu pz (pu pz (v1 (pu (Yz 16) pT))))) <|Xt [Ep 12 784] [] [Mk 784 .i64 16 (aE (aE ((p0.drop 32).take 16) ((p1.drop 32).take 16)) (aE ((p0.drop 32).take 16) ((p1.drop 32).take 16)))] [] 816 (v2 (pu pz (v1 (pu (Yz 16) pT)))) <|Xu [] (some [0,0,3,0,0,31,0,0,255,511]) [Ep 14 928,Ep 13 912] [12,11] [Mk 928 .i64 16 (cG (aE (aE ((p0.drop 32).take 16) ((p1.drop 32).take 16)) (aE ((p0.drop 32).take 16) ((p1.drop 32).take 16))) (aE p2 (aE (aE ((p0.drop 0).take 16) ((p1.drop 0).take 16)) (aE ((p0.drop 16).take 16) ((p1.drop 16).take 16))))),Mk 912 .i64 16 (ca (aE (aE ((p0.drop 32).take 16) ((p1.drop 32).take 16)) (aE ((p0.drop 32).take 16) ((p1.drop 32).take 16))) (aE p2 (aE (aE ((p0.drop 0).take 16) ((p1.drop 0).take 16)) (aE ((p0.drop 16).take 16) ((p1.drop 16).take 16)))))] [784,704] 976 (v2 (pu pz (v2 (pu pz (v2 (pu (Yz 16) (pu (Yz 16) pT))))))) <|Xu [] (some [0,0,3,0,15,0,0,127,0,511,0,2047,0,0,16383,32767,65535]) [] [14,13,10,9,8,7] [Mk 64 .i64 48 (aL (aL (aL [0,0,0,0,0,0,0,0,0,0,0,0,0,0,0,0,0,0,0,0,0,0,0,0,0,0,0,0,0,0,0,0,0,0,0,0,0,0,0,0,0,0,0,0,0,0,0,0] 0 (aE (aE (ca (aE ((p0.drop 0).take 16) ((p1.drop 16).take 16)) (aE ((p1.drop 0).take 16) ((p0.drop 16).take 16))) (aE ((p0.drop 32).take 16) ((p1.drop 32).take 16))) (cG (aE (aE ((p0.drop 32).take 16) ((p1.drop 32).take 16)) (aE ((p0.drop 32).take 16) ((p1.drop 32).take 16))) (aE p2 (aE (aE ((p0.drop 0).take 16) ((p1.drop 0).take 16)) (aE ((p0.drop 16).take 16) ((p1.drop 16).take 16))))))) 16 (aE (aE (ca (aE ((p0.drop 16).take 16) ((p1.drop 16).take 16)) (aE ((p0.drop 0).take 16) ((p1.drop 0).take 16))) (aE ((p0.drop 32).take 16) ((p1.drop 32).take 16))) (ca (aE (aE ((p0.drop 32).take 16) ((p1.drop 32).take 16)) (aE ((p0.drop 32).take 16) ((p1.drop 32).take 16))) (aE p2 (aE (aE ((p0.drop 0).take 16) ((p1.drop 0).take 16)) (aE ((p0.drop 16).take 16) ((p1.drop 16).take 16))))))) 32 (aE (ca (aE (aE ((p0.drop 32).take 16) ((p1.drop 32).take 16)) (aE ((p0.drop 32).take 16) ((p1.drop 32).take 16))) (aE p2 (aE (aE ((p0.drop 0).take 16) ((p1.drop 0).take 16)) (aE ((p0.drop 16).take 16) ((p1.drop 16).take 16))))) (cG (aE (aE ((p0.drop 32).take 16) ((p1.drop 32).take 16)) (aE ((p0.drop 32).take 16) ((p1.drop 32).take 16))) (aE p2 (aE (aE ((p0.drop 0).take 16) ((p1.drop 0).take 16)) (aE ((p0.drop 16).take 16) ((p1.drop 16).take 16)))))))] [928,912,592,352,336,320,64] 1248 (v2 (pu pz (v1 (pu pz (v2 (pu pz (v1 (pu pz (v1 (pu pz (v2 (pu pz (pu (pa (pa (Ye (0+16) 48) (Yr 16)) (pa (pa (Ye (16+16) 48) (Yr 16)) (pa (pa (Ye (32+16) 48) (Yr 16)) pT))) (pu (Yz 48) pT)))))))))))))) <|Xz [] pz
def mA (p0:List Int) (k0:Nat) (z0:List Int × List Int):List Int × List Int :=
 ((sel (((bL (aJ .u8 (p0.getD (k0/8) 0) ((k0 % 8:Nat):Int)) 2):Int)==1) (rL z0.1 z0.2 (cb)) z0.1),(rL z0.2 z0.2 (cb)))
def vF (p0:List Int) (p1:List Int):List Int :=
 (itr (mA p0) (8*p0.length) (aL (aL [0,0,0,0,0,0,0,0,0,0,0,0,0,0,0,0,0,0,0,0,0,0,0,0,0,0,0,0,0,0,0,0,0,0,0,0,0,0,0,0,0,0,0,0,0,0,0,0] 16 (ab 1)) 32 (ab 1),p1)).1
def JM:List AV→List Blk→Option (Prop × Ret)
 |[.sc (.ro .u8 p0),.ints .i64 48 p1],[]=>some ((p0.length≤1000000),⟨.ints .i64 48 (vF p0 p1),[]⟩)
 |_,_=>none
theorem Hy:Known Tryz.prog gD 55 ⟨0,0,JM⟩:=by
 refine Xw Tryz.f55 38 (Zv oz 96 1 <|Zv oz 112 1 <|Zv Jf 480 3 <|Zv Jf 560 3 <|Zv JL 48 0 <|Zn) mixed <|fun E args ks C r h hC hlen=>?_
 simp only at h
 unfold JM at h
 split at h
 rotate_left
 cases h
 rename_i p0 p1
 cases h
 simp only [aj] at hlen
 refine ⟨rfl,?_⟩
 refine Xt [Ep 4 32,Ep 3 16] [1] [Mk 32 .i64 48 [0,0,0,0,0,0,0,0,0,0,0,0,0,0,0,0,0,0,0,0,0,0,0,0,0,0,0,0,0,0,0,0,0,0,0,0,0,0,0,0,0,0,0,0,0,0,0,0],Mk 16 .i64 48 p1] [] 48 (v2 pT) <|Xt [Ep 5 64] [] [Mk 64 .i64 16 (cb)] [] 96 (pu pz (v1 (pu (Yz 16) pT))) <|Xt [Ep 6 144] [] [Mk 144 .i64 48 (aL (aL [0,0,0,0,0,0,0,0,0,0,0,0,0,0,0,0,0,0,0,0,0,0,0,0,0,0,0,0,0,0,0,0,0,0,0,0,0,0,0,0,0,0,0,0,0,0,0,0] 16 (ab 1)) 32 (ab 1))] [] 176 (pu pz (pu pz (pu (pa (pa (Ye (16+16) 48) (Yr 16)) (pa (pa (Ye (32+16) 48) (Yr 16)) pT)) (v1 (pu (Yz 48) pT))))) <|Tri.seq <|Xs [Ei 7 0] [] 192 (v1 pT) <|Tri.block <|Xc (8*p0.length) (mA p0) (aL (aL [0,0,0,0,0,0,0,0,0,0,0,0,0,0,0,0,0,0,0,0,0,0,0,0,0,0,0,0,0,0,0,0,0,0,0,0,0,0,0,0,0,0,0,0,0,0,0,0] 16 (ab 1)) 32 (ab 1),p1) (fun k0 z0=>True) (fun k0 z0=>[Ej 7 k0]) (fun k0 z0=>[Mk 144 .i64 48 z0.1,Mk 16 .i64 48 z0.2]) trivial <|fun k0 z0 hk0 hz0 hJ0=>Tri.seq <|Xu [Ej 15 (8*p0.length)] none [Eb 16 (decide ((((k0:Nat):Int):Int)<((8*p0.length:Nat):Int)))] [] [] [] 272 (v3 (pv pT (Yt 8 p0.length) (v1 pT))) <|Xb (fun h1 h1'=>?_) (fun h1 h1'=>?_)
 refine Tri.skip <|Tri.seq <|Tri.block <|Tri.seq <|Xu [Ej 21 (k0/8),Ej 25 (k0 % 8)] none [Eb 28 (((bL (aJ .u8 (p0.getD (k0/8) 0) ((k0 % 8:Nat):Int)) 2):Int)==1)] [16] [] [] 432 (v2 (pv (Yn 8) (pl (cQ (a:=k0) (b:=8) (by omega))) (pu (Yj (k0/8) p0.length) (pu (Yl (k0/8) p0.length) (v1 (pv (Yn 8) (pl (ct (a:=k0) (b:=8))) (pu (Y0 ((k0 % 8:Nat):Int)) (pu (Yn 2) (v1 pT))))))))) <|Xj (x:=(((bL (aJ .u8 (p0.getD (k0/8) 0) ((k0 % 8:Nat):Int)) 2):Int)==1)) (fun bb=>[]) [28] (fun bb=>[Mk 144 .i64 48 (sel bb (rL z0.1 z0.2 (cb)) z0.1)]) [144] 512 (fun h2=>?_) (fun h2=>?_) ?_
 have h2':=eX h2
 exact Wt [] [28] [Mk 144 .i64 48 (rL z0.1 z0.2 (cb))] [144] 512 (v3 (pu pz (pu (Yz 48) pT))) <|Xe [] [Mk 144 .i64 48 (rL z0.1 z0.2 (cb))]
 have h2':=dg h2
 exact Tri.skip <|Xe [] [Mk 144 .i64 48 z0.1]
 exact Wt [] [] [Mk 16 .i64 48 (rL z0.2 z0.2 (cb))] [16] 592 (v3 (pu pz (pu (Yz 48) pT))) <|Wu [Ej 18 (k0+1)] none [Ej 7 (k0+1)] [7] [] [] 640 (v1 (pv pT (Yp k0 1) (v1 pT))) <|Xo [] trivial
 refine Tri.exit <|?_
 obtain rfl:k0=(8*p0.length):=(by omega);subst hz0
 exact Xt [] [16,7,6,5,3,0] [Mk 32 .i64 48 ((itr (mA p0) (8*p0.length) (aL (aL [0,0,0,0,0,0,0,0,0,0,0,0,0,0,0,0,0,0,0,0,0,0,0,0,0,0,0,0,0,0,0,0,0,0,0,0,0,0,0,0,0,0,0,0,0,0,0,0] 16 (ab 1)) 32 (ab 1),p1)).1)] [144,64,32,16] 304 (v1 (pu (Yz 48) pT)) <|Xz [] pz
def lr (p0:List Int):List Int :=
 (sel (((bL ((aE ((p0.drop 0).take 16) (F28 ((p0.drop 32).take 16))).getD 0 0) 2):Int)==1) ((F49 (aE ((p0.drop 16).take 16) (F28 ((p0.drop 32).take 16)))).set 31 (aD .u8 ((F49 (aE ((p0.drop 16).take 16) (F28 ((p0.drop 32).take 16)))).getD 31 0) 128)) (F49 (aE ((p0.drop 16).take 16) (F28 ((p0.drop 32).take 16)))))
def IB:List AV→List Blk→Option (Prop × Ret)
 |[.ints .i64 48 p0],[]=>some (True,⟨.sc (.sl 0 0 32 1 none),[some (.ints .u8 32 (lr p0))]⟩)
 |_,_=>none
theorem JR:Known Tryz.prog gD 54 ⟨0,1,IB⟩:=by
 refine Xw Tryz.f54 26 (Zv K28 80 1 <|Zv K49 192 1 <|Zv jN 176 2 <|Zv jN 272 2 <|Zn) mixed <|fun E args ks C r h hC hlen=>?_
 simp only at h
 unfold IB at h
 split at h
 rotate_left
 cases h
 rename_i p0
 cases h
 simp only [aj] at hlen
 refine ⟨rfl,?_⟩
 refine Xt [Ep 1 16] [0] [Mk 16 .i64 48 p0] [] 48 (v2 pT) <|Xt [Ep 3 96] [] [Mk 96 .i64 16 (F28 ((p0.drop 32).take 16))] [] 128 (v1 (pu (Ye (32+16) 48) (pu pz (v1 (pu (Yz 16) pT))))) <|Xt [El 4 192 32] [] [Mi 192 32 (F49 (aE ((p0.drop 16).take 16) (F28 ((p0.drop 32).take 16))))] [] 224 (v1 (pu (Ye (16+16) 48) (v1 (pu pz (pu pz (v1 pT)))))) <|Tri.seq <|Xt [Eb 19 (((bL ((aE ((p0.drop 0).take 16) (F28 ((p0.drop 32).take 16))).getD 0 0) 2):Int)==1)] [3,1] [] [96,16] 336 (v1 (pu (Ye (0+16) 48) (v1 (pu pz (pu (pa (Yi 0 16) (Yl 0 16)) (pu (Yn 2) (v1 pT))))))) <|Xj (x:=(((bL ((aE ((p0.drop 0).take 16) (F28 ((p0.drop 32).take 16))).getD 0 0) 2):Int)==1)) (fun bb=>[]) [19] (fun bb=>[Mi 192 32 (sel bb ((F49 (aE ((p0.drop 16).take 16) (F28 ((p0.drop 32).take 16)))).set 31 (aD .u8 ((F49 (aE ((p0.drop 16).take 16) (F28 ((p0.drop 32).take 16)))).getD 31 0) 128)) (F49 (aE ((p0.drop 16).take 16) (F28 ((p0.drop 32).take 16)))))]) [192] 432 (fun h1=>?_) (fun h1=>?_) ?_
 have h1':=eX h1
 exact Wt [] [19] [Mi 192 32 ((F49 (aE ((p0.drop 16).take 16) (F28 ((p0.drop 32).take 16)))).set 31 (aD .u8 ((F49 (aE ((p0.drop 16).take 16) (F28 ((p0.drop 32).take 16)))).getD 31 0) 128))] [192] 432 (v1 (pu (Yi 31 32) (pu (Yl 31 32) (v1 (pu (Yi 31 32) (pu (Ys 31 32) pT)))))) <|Xe [] [Mi 192 32 ((F49 (aE ((p0.drop 16).take 16) (F28 ((p0.drop 32).take 16)))).set 31 (aD .u8 ((F49 (aE ((p0.drop 16).take 16) (F28 ((p0.drop 32).take 16)))).getD 31 0) 128))]
 have h1':=dg h1
 exact Tri.skip <|Xe [] [Mi 192 32 (F49 (aE ((p0.drop 16).take 16) (F28 ((p0.drop 32).take 16))))]
 exact Xs [El 2 192 32] [4] 464 (v2 pT) <|Xz [(192,0)] pz
theorem lf (p0:List Int):(lr p0).length=32:=by
 unfold lr
 cases (((bL ((aE ((p0.drop 0).take 16) (F28 ((p0.drop 32).take 16))).getD 0 0) 2):Int)==1)
 ·rw [aB,DD]
 ·rw [aC,List.length_set,DD]
def ov (p0:List Int):List Int :=
 (sel ((((p0.length:Nat):Int):Int) != 32) [0,0,0,0,0,0,0,0,0,0,0,0,0,0,0,0,0,0,0,0,0,0,0,0,0,0,0,0,0,0,0,0,0,0,0,0,0,0,0,0,0,0,0,0,0,0,0,0] (sel (!(aQ (bytesOf (((sel (decide ((p0.getD 31 0:Int) ≥ 128)) ((F49 (F24 p0)).set 31 (aD .u8 ((F49 (F24 p0)).getD 31 0) 128)) (F49 (F24 p0))).drop 0).take 32)) (bytesOf p0))) [0,0,0,0,0,0,0,0,0,0,0,0,0,0,0,0,0,0,0,0,0,0,0,0,0,0,0,0,0,0,0,0,0,0,0,0,0,0,0,0,0,0,0,0,0,0,0,0] (sel (!(qd (aE (cG (aE (F24 p0) (F24 p0)) (ab 1)) (F28 (ca (aE (cb) (aE (F24 p0) (F24 p0))) (ab 1)))))) [0,0,0,0,0,0,0,0,0,0,0,0,0,0,0,0,0,0,0,0,0,0,0,0,0,0,0,0,0,0,0,0,0,0,0,0,0,0,0,0,0,0,0,0,0,0,0,0] (sel (((F35 (aE (cG (aE (F24 p0) (F24 p0)) (ab 1)) (F28 (ca (aE (cb) (aE (F24 p0) (F24 p0))) (ab 1))))):List Int)==(ab 0)) (sel (decide ((p0.getD 31 0:Int) ≥ 128)) [0,0,0,0,0,0,0,0,0,0,0,0,0,0,0,0,0,0,0,0,0,0,0,0,0,0,0,0,0,0,0,0,0,0,0,0,0,0,0,0,0,0,0,0,0,0,0,0] (aL (aL (aL [0,0,0,0,0,0,0,0,0,0,0,0,0,0,0,0,0,0,0,0,0,0,0,0,0,0,0,0,0,0,0,0,0,0,0,0,0,0,0,0,0,0,0,0,0,0,0,0] 0 (sel (!((((bL ((F35 (aE (cG (aE (F24 p0) (F24 p0)) (ab 1)) (F28 (ca (aE (cb) (aE (F24 p0) (F24 p0))) (ab 1))))).getD 0 0) 2):Int)==1)==(decide ((p0.getD 31 0:Int) ≥ 128)))) (cG (ab 0) (F35 (aE (cG (aE (F24 p0) (F24 p0)) (ab 1)) (F28 (ca (aE (cb) (aE (F24 p0) (F24 p0))) (ab 1)))))) (F35 (aE (cG (aE (F24 p0) (F24 p0)) (ab 1)) (F28 (ca (aE (cb) (aE (F24 p0) (F24 p0))) (ab 1))))))) 16 (F24 p0)) 32 (ab 1))) (aL (aL (aL [0,0,0,0,0,0,0,0,0,0,0,0,0,0,0,0,0,0,0,0,0,0,0,0,0,0,0,0,0,0,0,0,0,0,0,0,0,0,0,0,0,0,0,0,0,0,0,0] 0 (sel (!((((bL ((F35 (aE (cG (aE (F24 p0) (F24 p0)) (ab 1)) (F28 (ca (aE (cb) (aE (F24 p0) (F24 p0))) (ab 1))))).getD 0 0) 2):Int)==1)==(decide ((p0.getD 31 0:Int) ≥ 128)))) (cG (ab 0) (F35 (aE (cG (aE (F24 p0) (F24 p0)) (ab 1)) (F28 (ca (aE (cb) (aE (F24 p0) (F24 p0))) (ab 1)))))) (F35 (aE (cG (aE (F24 p0) (F24 p0)) (ab 1)) (F28 (ca (aE (cb) (aE (F24 p0) (F24 p0))) (ab 1))))))) 16 (F24 p0)) 32 (ab 1))))))
def gf (p0:List Int):Bool :=
 (sel ((((p0.length:Nat):Int):Int) != 32) false (sel (!(aQ (bytesOf (((sel (decide ((p0.getD 31 0:Int) ≥ 128)) ((F49 (F24 p0)).set 31 (aD .u8 ((F49 (F24 p0)).getD 31 0) 128)) (F49 (F24 p0))).drop 0).take 32)) (bytesOf p0))) false (sel (!(qd (aE (cG (aE (F24 p0) (F24 p0)) (ab 1)) (F28 (ca (aE (cb) (aE (F24 p0) (F24 p0))) (ab 1)))))) false (sel (((F35 (aE (cG (aE (F24 p0) (F24 p0)) (ab 1)) (F28 (ca (aE (cb) (aE (F24 p0) (F24 p0))) (ab 1))))):List Int)==(ab 0)) (sel (decide ((p0.getD 31 0:Int) ≥ 128)) false true) true))))
def Hu:List AV→List Blk→Option (Prop × Ret)
 |[.sc (.ro .u8 p0)],[]=>some (True,⟨.tup [.ints .i64 48 (ov p0),.sc (.b (gf p0))],[]⟩)
 |_,_=>none
def Kb:KL Tryz.prog gD:=Zv ED 592 2 <|Zv ED 1120 2 <|Zv oz 576 1 <|Zv oz 656 1 <|Zv oz 896 1 <|Zv oz 1088 1 <|Zv oz 1184 1 <|Zv JL 608 0 <|Zv K28 688 1 <|Zv K49 176 1 <|Zv jN 512 2 <|Zv jN 640 2 <|Zv jN 704 2 <|Zc K24 112 [.ro .u8] [] [] <|Zv K35 720 1 <|Zv FL 672 2 <|Zn
theorem KS:Known Tryz.prog gD 86 ⟨0,0,Hu⟩:=by
 refine Xw Tryz.f86 75 Kb mixed <|fun E args ks C r h hC hlen=>?_
 simp only at h
 unfold Hu at h
 split at h
 rotate_left
 cases h
 rename_i p0
 cases h
 simp only [aj] at hlen
 refine ⟨rfl,?_⟩
 refine Xt [Ep 2 16] [] [Mk 16 .i64 48 [0,0,0,0,0,0,0,0,0,0,0,0,0,0,0,0,0,0,0,0,0,0,0,0,0,0,0,0,0,0,0,0,0,0,0,0,0,0,0,0,0,0,0,0,0,0,0,0]] [] 48 (v2 pT) <|Tri.seq <|Xs [Eb 12 ((((p0.length:Nat):Int):Int) != 32)] [] 96 (v3 pT) <|Xa (fun h1=>?_) (fun h1=>?_)
 have h1':=cT h1
 exact Xs [Eb 3 false] [12,0] 144 (v1 (pu (Yz 48) (v1 pT))) <|Tri.ret <|rt <|nQ.conv (r':=⟨.tup [.ints .i64 48 [0,0,0,0,0,0,0,0,0,0,0,0,0,0,0,0,0,0,0,0,0,0,0,0,0,0,0,0,0,0,0,0,0,0,0,0,0,0,0,0,0,0,0,0,0,0,0,0],.sc (.b false)],[]⟩) (by simp only [ov,gf];try simp only [h1,aC,aB]) <|er [] (pa pT pz)
 have h1':=bU h1
 refine Tri.skip <|Xt [Ep 4 128] [12] [Mk 128 .i64 16 (F24 p0)] [] 160 (v1 (pu (pa pz (lo (p0.length=32))) (v1 (pu (Yz 16) pT)))) <|Xt [El 5 176 32] [] [Mi 176 32 (F49 (F24 p0))] [] 208 (v1 (pu pz (v1 pT))) <|Xs [Eb 6 (decide ((p0.getD 31 0:Int) ≥ 128))] [] 288 (v1 (pu (Yi 31 p0.length) (pu (Yl 31 p0.length) (v2 pT)))) <|Tri.seq <|Xs [Eb 22 (decide ((p0.getD 31 0:Int) ≥ 128))] [] 304 (v1 pT) <|Xj (x:=(decide ((p0.getD 31 0:Int) ≥ 128))) (fun bb=>[]) [22] (fun bb=>[Mi 176 32 (sel bb ((F49 (F24 p0)).set 31 (aD .u8 ((F49 (F24 p0)).getD 31 0) 128)) (F49 (F24 p0)))]) [176] 400 (fun h2=>?_) (fun h2=>?_) ?_
 have h2':=of_decide_eq_true h2
 exact Wt [] [22] [Mi 176 32 ((F49 (F24 p0)).set 31 (aD .u8 ((F49 (F24 p0)).getD 31 0) 128))] [176] 400 (v1 (pu (Yi 31 32) (pu (Yl 31 32) (v1 (pu (Yi 31 32) (pu (Ys 31 32) pT)))))) <|Xe [] [Mi 176 32 ((F49 (F24 p0)).set 31 (aD .u8 ((F49 (F24 p0)).getD 31 0) 128))]
 have h2':=of_decide_eq_false h2
 exact Tri.skip <|Xe [] [Mi 176 32 (F49 (F24 p0))]
 refine Tri.seq <|Xt [Eb 32 (!(aQ (bytesOf (((sel (decide ((p0.getD 31 0:Int) ≥ 128)) ((F49 (F24 p0)).set 31 (aD .u8 ((F49 (F24 p0)).getD 31 0) 128)) (F49 (F24 p0))).drop 0).take 32)) (bytesOf p0)))] [5,0] [] [176] 480 (v1 (pu (Yw 32) (v3 pT))) <|Xa (fun h3=>?_) (fun h3=>?_)
 exact Xt [Eb 3 false] [32,6,4] [] [128] 528 (v1 (pu (Yz 48) (v1 pT))) <|Tri.ret <|rt <|nQ.conv (r':=⟨.tup [.ints .i64 48 [0,0,0,0,0,0,0,0,0,0,0,0,0,0,0,0,0,0,0,0,0,0,0,0,0,0,0,0,0,0,0,0,0,0,0,0,0,0,0,0,0,0,0,0,0,0,0,0],.sc (.b false)],[]⟩) (by simp only [ov,gf];try simp only [h1,aC,aB];try simp only [h3,aC,aB]) <|er [] (pa pT pz)
 refine Tri.skip <|Xt [Ep 7 528] [32] [Mk 528 .i64 16 (aE (F24 p0) (F24 p0))] [] 560 (v2 (pu pz (v1 (pu (Yz 16) pT)))) <|Xu [] (some [0,0,3,7,0,31,63,127,255,511,1023,2047,4095,4095,0,24575,65535]) [Eb 9 (qd (aE (cG (aE (F24 p0) (F24 p0)) (ab 1)) (F28 (ca (aE (cb) (aE (F24 p0) (F24 p0))) (ab 1))))),Ep 8 784] [7] [Mk 784 .i64 16 (F35 (aE (cG (aE (F24 p0) (F24 p0)) (ab 1)) (F28 (ca (aE (cb) (aE (F24 p0) (F24 p0))) (ab 1)))))] [528] 832 (v1 (pu pz (pu pz (pu pz (v1 (pu pz (pu pz (pu pz (pu pz (pu pz (pu pz (v4 (pu (Yz 16) (v1 pT)))))))))))))) <|Tri.seq <|Tri.split (!(qd (aE (cG (aE (F24 p0) (F24 p0)) (ab 1)) (F28 (ca (aE (cb) (aE (F24 p0) (F24 p0))) (ab 1)))))) (fun h4=>?_) (fun h4=>?_)
 exact Xu [Eb 53 true] (some [0,1,3,7,7,31,63,127,255,511]) [Eb 60 true] [9] [] [] 992 (v2 (pg h4 (v7 pT))) <|Tri.cond_true (by kernel_rfl) <|Xt [Eb 3 false] [60,8,6,4] [] [784,128] 1040 (v1 (pu (Yz 48) (v1 pT))) <|Tri.ret <|rt <|nQ.conv (r':=⟨.tup [.ints .i64 48 [0,0,0,0,0,0,0,0,0,0,0,0,0,0,0,0,0,0,0,0,0,0,0,0,0,0,0,0,0,0,0,0,0,0,0,0,0,0,0,0,0,0,0,0,0,0,0,0],.sc (.b false)],[]⟩) (by simp only [ov,gf];try simp only [h1,aC,aB];try simp only [h3,aC,aB];try simp only [h4,aC,aB]) <|er [] (pa pT pz)
 refine Tri.split (((F35 (aE (cG (aE (F24 p0) (F24 p0)) (ab 1)) (F28 (ca (aE (cb) (aE (F24 p0) (F24 p0))) (ab 1))))):List Int)==(ab 0)) (fun h5=>?_) (fun h5=>?_)
 refine Xu [Eb 53 false,Eb 57 true] (some [0,1,3,7,7,31,63,127,255,511]) [Eb 60 (decide ((p0.getD 31 0:Int) ≥ 128))] [9] [] [] 992 (v2 (pg h4 (v1 (pu pz (v1 (pg h5 (v3 pT))))))) <|Xb (fun h6 h6'=>?_) (fun h6 h6'=>?_)
 exact Xt [Eb 3 false] [60,8,6,4] [] [784,128] 1040 (v1 (pu (Yz 48) (v1 pT))) <|Tri.ret <|rt <|nQ.conv (r':=⟨.tup [.ints .i64 48 [0,0,0,0,0,0,0,0,0,0,0,0,0,0,0,0,0,0,0,0,0,0,0,0,0,0,0,0,0,0,0,0,0,0,0,0,0,0,0,0,0,0,0,0,0,0,0,0],.sc (.b false)],[]⟩) (by simp only [ov,gf];try simp only [h1,aC,aB];try simp only [h3,aC,aB];try simp only [h4,aC,aB];try simp only [h5,aC,aB];try simp only [h6,aC,aB]) <|er [] (pa pT pz)
 refine Tri.skip <|Tri.seq <|Xs [Eb 67 (!((((bL ((F35 (aE (cG (aE (F24 p0) (F24 p0)) (ab 1)) (F28 (ca (aE (cb) (aE (F24 p0) (F24 p0))) (ab 1))))).getD 0 0) 2):Int)==1)==(decide ((p0.getD 31 0:Int) ≥ 128))))] [60,6] 1088 (pu (Yi 0 16) (pu (Yl 0 16) (pu (Yn 2) (v3 pT)))) <|Xj (x:=(!((((bL ((F35 (aE (cG (aE (F24 p0) (F24 p0)) (ab 1)) (F28 (ca (aE (cb) (aE (F24 p0) (F24 p0))) (ab 1))))).getD 0 0) 2):Int)==1)==(decide ((p0.getD 31 0:Int) ≥ 128))))) (fun bb=>[]) [67] (fun bb=>[Mk 784 .i64 16 (sel bb (cG (ab 0) (F35 (aE (cG (aE (F24 p0) (F24 p0)) (ab 1)) (F28 (ca (aE (cb) (aE (F24 p0) (F24 p0))) (ab 1)))))) (F35 (aE (cG (aE (F24 p0) (F24 p0)) (ab 1)) (F28 (ca (aE (cb) (aE (F24 p0) (F24 p0))) (ab 1))))))]) [784] 1152 (fun h7=>?_) (fun h7=>?_) ?_
 exact Wu [] (some [0,0,3,7]) [] [67] [Mk 784 .i64 16 (cG (ab 0) (F35 (aE (cG (aE (F24 p0) (F24 p0)) (ab 1)) (F28 (ca (aE (cb) (aE (F24 p0) (F24 p0))) (ab 1))))))] [784] 1152 (pu pz (v1 (pu pz (pu (Yz 16) pT)))) <|Xe [] [Mk 784 .i64 16 (cG (ab 0) (F35 (aE (cG (aE (F24 p0) (F24 p0)) (ab 1)) (F28 (ca (aE (cb) (aE (F24 p0) (F24 p0))) (ab 1))))))]
 exact Tri.skip <|Xe [] [Mk 784 .i64 16 (F35 (aE (cG (aE (F24 p0) (F24 p0)) (ab 1)) (F28 (ca (aE (cb) (aE (F24 p0) (F24 p0))) (ab 1)))))]
 exact Xu [] (some [0,0,0,7,15,31]) [Eb 3 true] [8,4] [Mk 16 .i64 48 (aL (aL (aL [0,0,0,0,0,0,0,0,0,0,0,0,0,0,0,0,0,0,0,0,0,0,0,0,0,0,0,0,0,0,0,0,0,0,0,0,0,0,0,0,0,0,0,0,0,0,0,0] 0 (sel (!((((bL ((F35 (aE (cG (aE (F24 p0) (F24 p0)) (ab 1)) (F28 (ca (aE (cb) (aE (F24 p0) (F24 p0))) (ab 1))))).getD 0 0) 2):Int)==1)==(decide ((p0.getD 31 0:Int) ≥ 128)))) (cG (ab 0) (F35 (aE (cG (aE (F24 p0) (F24 p0)) (ab 1)) (F28 (ca (aE (cb) (aE (F24 p0) (F24 p0))) (ab 1)))))) (F35 (aE (cG (aE (F24 p0) (F24 p0)) (ab 1)) (F28 (ca (aE (cb) (aE (F24 p0) (F24 p0))) (ab 1))))))) 16 (F24 p0)) 32 (ab 1))] [784,128,16] 1248 (v2 (pu pz (pu (pa (pa (Ye (0+16) 48) (Yr 16)) (pa (pa (Ye (16+16) 48) (Yr 16)) (pa (pa (Ye (32+16) 48) (Yr 16)) pT))) (pu (Yz 48) (v1 pT))))) <|Tri.ret <|rt <|nQ.conv (r':=⟨.tup [.ints .i64 48 (aL (aL (aL [0,0,0,0,0,0,0,0,0,0,0,0,0,0,0,0,0,0,0,0,0,0,0,0,0,0,0,0,0,0,0,0,0,0,0,0,0,0,0,0,0,0,0,0,0,0,0,0] 0 (sel (!((((bL ((F35 (aE (cG (aE (F24 p0) (F24 p0)) (ab 1)) (F28 (ca (aE (cb) (aE (F24 p0) (F24 p0))) (ab 1))))).getD 0 0) 2):Int)==1)==(decide ((p0.getD 31 0:Int) ≥ 128)))) (cG (ab 0) (F35 (aE (cG (aE (F24 p0) (F24 p0)) (ab 1)) (F28 (ca (aE (cb) (aE (F24 p0) (F24 p0))) (ab 1)))))) (F35 (aE (cG (aE (F24 p0) (F24 p0)) (ab 1)) (F28 (ca (aE (cb) (aE (F24 p0) (F24 p0))) (ab 1))))))) 16 (F24 p0)) 32 (ab 1)),.sc (.b true)],[]⟩) (by simp only [ov,gf];try simp only [h1,aC,aB];try simp only [h3,aC,aB];try simp only [h4,aC,aB];try simp only [h5,aC,aB];try simp only [h6,aC,aB]) <|er [] (pa pT pz)
 refine Xu [Eb 53 false,Eb 57 false] (some [0,1,3,7,7,31,63,127,255,511]) [Eb 60 false] [9] [] [] 992 (v2 (pg h4 (v1 (pu pz (v1 (pg h5 (v3 pT))))))) <|Tri.cond_false (by kernel_rfl) <|Tri.skip <|Tri.seq <|Xs [Eb 67 (!((((bL ((F35 (aE (cG (aE (F24 p0) (F24 p0)) (ab 1)) (F28 (ca (aE (cb) (aE (F24 p0) (F24 p0))) (ab 1))))).getD 0 0) 2):Int)==1)==(decide ((p0.getD 31 0:Int) ≥ 128))))] [60,6] 1088 (pu (Yi 0 16) (pu (Yl 0 16) (pu (Yn 2) (v3 pT)))) <|Xj (x:=(!((((bL ((F35 (aE (cG (aE (F24 p0) (F24 p0)) (ab 1)) (F28 (ca (aE (cb) (aE (F24 p0) (F24 p0))) (ab 1))))).getD 0 0) 2):Int)==1)==(decide ((p0.getD 31 0:Int) ≥ 128))))) (fun bb=>[]) [67] (fun bb=>[Mk 784 .i64 16 (sel bb (cG (ab 0) (F35 (aE (cG (aE (F24 p0) (F24 p0)) (ab 1)) (F28 (ca (aE (cb) (aE (F24 p0) (F24 p0))) (ab 1)))))) (F35 (aE (cG (aE (F24 p0) (F24 p0)) (ab 1)) (F28 (ca (aE (cb) (aE (F24 p0) (F24 p0))) (ab 1))))))]) [784] 1152 (fun h8=>?_) (fun h8=>?_) ?_
 exact Wu [] (some [0,0,3,7]) [] [67] [Mk 784 .i64 16 (cG (ab 0) (F35 (aE (cG (aE (F24 p0) (F24 p0)) (ab 1)) (F28 (ca (aE (cb) (aE (F24 p0) (F24 p0))) (ab 1))))))] [784] 1152 (pu pz (v1 (pu pz (pu (Yz 16) pT)))) <|Xe [] [Mk 784 .i64 16 (cG (ab 0) (F35 (aE (cG (aE (F24 p0) (F24 p0)) (ab 1)) (F28 (ca (aE (cb) (aE (F24 p0) (F24 p0))) (ab 1))))))]
 exact Tri.skip <|Xe [] [Mk 784 .i64 16 (F35 (aE (cG (aE (F24 p0) (F24 p0)) (ab 1)) (F28 (ca (aE (cb) (aE (F24 p0) (F24 p0))) (ab 1)))))]
 exact Xu [] (some [0,0,0,7,15,31]) [Eb 3 true] [8,4] [Mk 16 .i64 48 (aL (aL (aL [0,0,0,0,0,0,0,0,0,0,0,0,0,0,0,0,0,0,0,0,0,0,0,0,0,0,0,0,0,0,0,0,0,0,0,0,0,0,0,0,0,0,0,0,0,0,0,0] 0 (sel (!((((bL ((F35 (aE (cG (aE (F24 p0) (F24 p0)) (ab 1)) (F28 (ca (aE (cb) (aE (F24 p0) (F24 p0))) (ab 1))))).getD 0 0) 2):Int)==1)==(decide ((p0.getD 31 0:Int) ≥ 128)))) (cG (ab 0) (F35 (aE (cG (aE (F24 p0) (F24 p0)) (ab 1)) (F28 (ca (aE (cb) (aE (F24 p0) (F24 p0))) (ab 1)))))) (F35 (aE (cG (aE (F24 p0) (F24 p0)) (ab 1)) (F28 (ca (aE (cb) (aE (F24 p0) (F24 p0))) (ab 1))))))) 16 (F24 p0)) 32 (ab 1))] [784,128,16] 1248 (v2 (pu pz (pu (pa (pa (Ye (0+16) 48) (Yr 16)) (pa (pa (Ye (16+16) 48) (Yr 16)) (pa (pa (Ye (32+16) 48) (Yr 16)) pT))) (pu (Yz 48) (v1 pT))))) <|Tri.ret <|rt <|nQ.conv (r':=⟨.tup [.ints .i64 48 (aL (aL (aL [0,0,0,0,0,0,0,0,0,0,0,0,0,0,0,0,0,0,0,0,0,0,0,0,0,0,0,0,0,0,0,0,0,0,0,0,0,0,0,0,0,0,0,0,0,0,0,0] 0 (sel (!((((bL ((F35 (aE (cG (aE (F24 p0) (F24 p0)) (ab 1)) (F28 (ca (aE (cb) (aE (F24 p0) (F24 p0))) (ab 1))))).getD 0 0) 2):Int)==1)==(decide ((p0.getD 31 0:Int) ≥ 128)))) (cG (ab 0) (F35 (aE (cG (aE (F24 p0) (F24 p0)) (ab 1)) (F28 (ca (aE (cb) (aE (F24 p0) (F24 p0))) (ab 1)))))) (F35 (aE (cG (aE (F24 p0) (F24 p0)) (ab 1)) (F28 (ca (aE (cb) (aE (F24 p0) (F24 p0))) (ab 1))))))) 16 (F24 p0)) 32 (ab 1)),.sc (.b true)],[]⟩) (by simp only [ov,gf];try simp only [h1,aC,aB];try simp only [h3,aC,aB];try simp only [h4,aC,aB];try simp only [h5,aC,aB]) <|er [] (pa pT pz)
theorem nc {p0:List Int} (h:(!(gf p0))=false):p0.length=32:=by
 unfold gf at h
 cases hb:((((p0.length:Nat):Int):Int) != 32)
 ·have:=bU hb
  omega
 ·rw [hb,aC] at h
  cases h
def tE:List Int :=
 (ov (aA (F49 (aE (ab 4) (F28 (ab 5)))) 32 0 32))
def IZ:List AV→List Blk→Option (Prop × Ret)
 |[],[]=>some (True,⟨.ints .i64 48 (tE),[]⟩)
 |_,_=>none
theorem Iq:Known Tryz.prog gD 58 ⟨0,0,IZ⟩:=by
 refine Xw Tryz.f58 13 (Zc KS 112 [.ro .u8] [96] [] <|Zv oz 32 1 <|Zv oz 48 1 <|Zv K28 64 1 <|Zv K49 96 1 <|Zv jN 80 2 <|Zn) mixed <|fun E args ks C r h hC hlen=>?_
 simp only at h
 unfold IZ at h
 split at h
 rotate_left
 cases h
 cases h
 simp only [aj] at hlen
 refine ⟨rfl,?_⟩
 exact Xt [Ep 0 16] [] [Mk 16 .i64 48 [0,0,0,0,0,0,0,0,0,0,0,0,0,0,0,0,0,0,0,0,0,0,0,0,0,0,0,0,0,0,0,0,0,0,0,0,0,0,0,0,0,0,0,0,0,0,0,0]] [] 32 (v1 pT) <|Xt [Ep 1 176] [] [Mk 176 .i64 48 (ov (aA (F49 (aE (ab 4) (F28 (ab 5)))) 32 0 32))] [] 224 (pu pz (pu pz (pu pz (pu pz (pu pz (pu (pa (pa (Yw 32) pT) pT) (v4 (pu (Yz 48) (v1 pT))))))))) <|Tri.len 176 rfl <|fun hl1=>Xt [] [1] [Mk 16 .i64 48 (ov (aA (F49 (aE (ab 4) (F28 (ab 5)))) 32 0 32))] [176,16] 256 (v1 (pu (Yz 48) pT)) <|Xz [] pz
def JN:List AV→List Blk→Option (Prop × Ret)
 |[],[]=>some (True,⟨.sc (.sl 0 0 32 1 none),[some (.ints .u8 32 [237,211,245,92,26,99,18,88,214,156,247,162,222,249,222,20,0,0,0,0,0,0,0,0,0,0,0,0,0,0,0,16])]⟩)
 |_,_=>none
theorem KF:Known Tryz.prog gD 88 ⟨0,1,JN⟩:=by
 refine Xw Tryz.f88 2 Zn mixed <|fun E args ks C r h hC hlen=>?_
 simp only at h
 unfold JN at h
 split at h
 rotate_left
 cases h
 cases h
 simp only [aj] at hlen
 refine ⟨rfl,?_⟩
 exact Xs [] [] 32 (v1 pT) <|Xt [El 0 32 32] [] [Mi 32 32 [237,211,245,92,26,99,18,88,214,156,247,162,222,249,222,20,0,0,0,0,0,0,0,0,0,0,0,0,0,0,0,16]] [] 64 (pu (Yf 32) (v1 pT)) <|Xz [(32,0)] pz
end Go.Vm
namespace Go.Vm
open Go Go.Proofs
def bf (k2:Nat) (z2:Int × List Int):Int × List Int :=
 ((fc .i64 (aD .i64 (bJ .i64 2 (z2.2.getD k2 0)) z2.1) 256),z2.2.set k2 (bL (aD .i64 (bJ .i64 2 (z2.2.getD k2 0)) z2.1) 256))
def mH (p0:List Int) (k0:Nat) (k1:Nat) (z1:Nat × List Int) (k3:Nat) (z3:Int × List Int):Int × List Int :=
 ((sel (decide (((sel (decide ((((k3:Nat):Int):Int)<32)) (aT .i64 (aT .i64 (((itr (bf) 33 ((bL (aJ .i64 (IntKind.wrap .i64 (p0.getD (p0.length-1-k0) 0)) (((8:Nat):Int)-1-((k1:Nat):Int))) 2),z1.2)).2).getD k3 0) z3.1) (IntKind.wrap .i64 ([237,211,245,92,26,99,18,88,214,156,247,162,222,249,222,20,0,0,0,0,0,0,0,0,0,0,0,0,0,0,0,16].getD k3 0))) (aT .i64 (((itr (bf) 33 ((bL (aJ .i64 (IntKind.wrap .i64 (p0.getD (p0.length-1-k0) 0)) (((8:Nat):Int)-1-((k1:Nat):Int))) 2),z1.2)).2).getD k3 0) z3.1)):Int)<0)) 1 0),z3.2.set k3 (sel (decide (((sel (decide ((((k3:Nat):Int):Int)<32)) (aT .i64 (aT .i64 (((itr (bf) 33 ((bL (aJ .i64 (IntKind.wrap .i64 (p0.getD (p0.length-1-k0) 0)) (((8:Nat):Int)-1-((k1:Nat):Int))) 2),z1.2)).2).getD k3 0) z3.1) (IntKind.wrap .i64 ([237,211,245,92,26,99,18,88,214,156,247,162,222,249,222,20,0,0,0,0,0,0,0,0,0,0,0,0,0,0,0,16].getD k3 0))) (aT .i64 (((itr (bf) 33 ((bL (aJ .i64 (IntKind.wrap .i64 (p0.getD (p0.length-1-k0) 0)) (((8:Nat):Int)-1-((k1:Nat):Int))) 2),z1.2)).2).getD k3 0) z3.1)):Int)<0)) (aD .i64 (sel (decide ((((k3:Nat):Int):Int)<32)) (aT .i64 (aT .i64 (((itr (bf) 33 ((bL (aJ .i64 (IntKind.wrap .i64 (p0.getD (p0.length-1-k0) 0)) (((8:Nat):Int)-1-((k1:Nat):Int))) 2),z1.2)).2).getD k3 0) z3.1) (IntKind.wrap .i64 ([237,211,245,92,26,99,18,88,214,156,247,162,222,249,222,20,0,0,0,0,0,0,0,0,0,0,0,0,0,0,0,16].getD k3 0))) (aT .i64 (((itr (bf) 33 ((bL (aJ .i64 (IntKind.wrap .i64 (p0.getD (p0.length-1-k0) 0)) (((8:Nat):Int)-1-((k1:Nat):Int))) 2),z1.2)).2).getD k3 0) z3.1)) 256) (sel (decide ((((k3:Nat):Int):Int)<32)) (aT .i64 (aT .i64 (((itr (bf) 33 ((bL (aJ .i64 (IntKind.wrap .i64 (p0.getD (p0.length-1-k0) 0)) (((8:Nat):Int)-1-((k1:Nat):Int))) 2),z1.2)).2).getD k3 0) z3.1) (IntKind.wrap .i64 ([237,211,245,92,26,99,18,88,214,156,247,162,222,249,222,20,0,0,0,0,0,0,0,0,0,0,0,0,0,0,0,16].getD k3 0))) (aT .i64 (((itr (bf) 33 ((bL (aJ .i64 (IntKind.wrap .i64 (p0.getD (p0.length-1-k0) 0)) (((8:Nat):Int)-1-((k1:Nat):Int))) 2),z1.2)).2).getD k3 0) z3.1))))
def iL (p0:List Int) (k0:Nat) (k1:Nat) (z1:Nat × List Int):Nat × List Int :=
 ((sel (((itr (mH p0 k0 k1 z1) 33 (0,List.replicate 33 0)).1:Int)==0) 33 z1.1),(sel (((itr (mH p0 k0 k1 z1) 33 (0,List.replicate 33 0)).1:Int)==0) ((itr (mH p0 k0 k1 z1) 33 (0,List.replicate 33 0)).2) ((itr (bf) 33 ((bL (aJ .i64 (IntKind.wrap .i64 (p0.getD (p0.length-1-k0) 0)) (((8:Nat):Int)-1-((k1:Nat):Int))) 2),z1.2)).2)))
def ke (p0:List Int) (k0:Nat) (z0:Nat × List Int):Nat × List Int :=
 ((itr (iL p0 k0) 8 (z0.1,z0.2)).1,(itr (iL p0 k0) 8 (z0.1,z0.2)).2)
def nL (p0:List Int) (k4:Nat) (z4:List Int):List Int :=
 z4.set k4 (IntKind.wrap .u8 (((itr (ke p0) p0.length (33,List.replicate 33 0)).2).getD k4 0))
def uf (p0:List Int):List Int :=
 (itr (nL p0) 32 (List.replicate 32 0))
def Ir:List AV→List Blk→Option (Prop × Ret)
 |[.sc (.ro .u8 p0)],[]=>some ((p0.length≤1000),⟨.sc (.sl 0 0 32 1 none),[some (.ints .u8 32 (uf p0))]⟩)
 |_,_=>none
theorem In:Known Tryz.prog gD 72 ⟨0,1,Ir⟩:=by
 refine Xw Tryz.f72 100 (Zv KF 64 0 <|Zn) mixed <|fun E args ks C r h hC hlen=>?_
 simp only at h
 unfold Ir at h
 split at h
 rotate_left
 cases h
 rename_i p0
 cases h
 simp only [aj] at hlen
 refine ⟨rfl,?_⟩
 refine Xs [] [] 32 (v1 pT) <|Xt [El 3 32 33] [] [Mk 32 .i64 33 (List.replicate 33 0)] [] 64 (pu (pa (lo ((0:Int)≤33∧(33:Int)=33)) (pa (lo (33≤(140737488355328:Int))) (lo (((8:Nat):Int)*33≤281474976710656)))) (v1 pT)) <|Xt [El 4 64 32] [] [Mi 64 32 [237,211,245,92,26,99,18,88,214,156,247,162,222,249,222,20,0,0,0,0,0,0,0,0,0,0,0,0,0,0,0,16]] [] 96 (pu pz (v1 pT)) <|Tri.seq <|Xu [Ei 20 (((p0.length:Nat):Int)-1-((0:Nat):Int))] none [Ei 5 (((p0.length:Nat):Int)-1-((0:Nat):Int))] [] [] [] 160 (v2 (pv pT (pl (show (aT .i64 ((p0.length:Nat):Int) 1)=(((p0.length:Nat):Int)-1-((0:Nat):Int)) from kW (by omega))) (v1 pT))) <|Tri.block <|Xc p0.length (ke p0) (33,List.replicate 33 0) (fun k0 z0=>z0.1=33) (fun k0 z0=>[Ei 5 (((p0.length:Nat):Int)-1-((k0:Nat):Int)),El 3 32 z0.1]) (fun k0 z0=>[Mk 32 .i64 z0.1 z0.2]) rfl <|fun k0 z0 hk0 hz0 hJ0=>Tri.seq <|Xs [Eb 22 (decide (((((p0.length:Nat):Int)-1-((k0:Nat):Int)):Int) ≥ 0))] [] 192 (v2 pT) <|Xb (fun h1 h1'=>?_) (fun h1 h1'=>?_)
 refine Tri.skip <|Tri.seq <|Tri.block <|Xs [Ei 6 7] [22] 208 (v1 pT) <|Tri.block <|Xc 8 (iL p0 k0) (z0.1,z0.2) (fun k1 z1=>z1.1=33) (fun k1 z1=>[Ei 6 (((8:Nat):Int)-1-((k1:Nat):Int)),El 3 32 z1.1]) (fun k1 z1=>[Mk 32 .i64 z1.1 z1.2]) hJ0 <|fun k1 z1 hk1 hz1 hJ1=>Tri.seq <|Xs [Eb 26 (decide (((((8:Nat):Int)-1-((k1:Nat):Int)):Int) ≥ 0))] [] 240 (v2 pT) <|Xb (fun h2 h2'=>?_) (fun h2 h2'=>?_)
 refine Tri.skip <|Tri.seq <|Tri.block <|Xu [Ej 30 (p0.length-1-k0)] none [Ei 7 (bL (aJ .i64 (IntKind.wrap .i64 (p0.getD (p0.length-1-k0) 0)) (((8:Nat):Int)-1-((k1:Nat):Int))) 2)] [26] [] [] 384 (v1 (pv pT (pl (show (((p0.length:Nat):Int)-1-((k0:Nat):Int))=((p0.length-1-k0:Nat):Int) from iw (by omega))) (pu (Yj (p0.length-1-k0) p0.length) (pu (Yl (p0.length-1-k0) p0.length) (v2 (pu (Y0 (((8:Nat):Int)-1-((k1:Nat):Int))) (pu (Yn 2) (v1 pT)))))))) <|Tri.seq <|Xs [Ei 8 0] [] 400 (v1 pT) <|Tri.block <|Xc 33 (bf) ((bL (aJ .i64 (IntKind.wrap .i64 (p0.getD (p0.length-1-k0) 0)) (((8:Nat):Int)-1-((k1:Nat):Int))) 2),z1.2) (fun k2 z2=>True) (fun k2 z2=>[Ej 8 k2,Ei 7 z2.1]) (fun k2 z2=>[Mk 32 .i64 z1.1 z2.2]) trivial <|fun k2 z2 hk2 hz2 hJ2=>Tri.seq <|Xs [Eb 38 (decide ((((k2:Nat):Int):Int)<33))] [] 432 (v2 pT) <|Xb (fun h3 h3'=>?_) (fun h3 h3'=>?_)
 exact Tri.skip <|Tri.seq <|Tri.block <|Xs [Ei 9 (aD .i64 (bJ .i64 2 (z2.2.getD k2 0)) z2.1)] [38,7] 560 (v2 (pu (Yj k2 z1.1) (pu (Yl k2 z1.1) (v4 pT)))) <|Xt [] [] [Mk 32 .i64 z1.1 (z2.2.set k2 (bL (aD .i64 (bJ .i64 2 (z2.2.getD k2 0)) z2.1) 256))] [32] 656 (v3 (pu (Yn 256) (pu (Yj k2 z1.1) (pu (Ys k2 z1.1) pT)))) <|Ws [Ei 7 (fc .i64 (aD .i64 (bJ .i64 2 (z2.2.getD k2 0)) z2.1) 256)] [9] 704 (v1 (pu (Yn 256) (v1 pT))) <|Wu [Ej 40 (k2+1)] none [Ej 8 (k2+1)] [8] [] [] 752 (v1 (pv pT (Yp k2 1) (v1 pT))) <|Xo [] trivial
 refine Tri.exit <|?_
 obtain rfl:k2=33:=(by omega);subst hz2
 refine Xt [El 10 432 33] [38,8,7] [Mk 432 .i64 33 (List.replicate 33 0)] [] 464 (pu (pa (lo ((0:Int)≤33∧(33:Int)=33)) (pa (lo (33≤(140737488355328:Int))) (lo (((8:Nat):Int)*33≤281474976710656)))) (v1 pT)) <|Xs [Ei 11 0] [] 480 (v1 pT) <|Tri.seq <|Xs [Ei 12 0] [] 496 (v1 pT) <|Tri.block <|Xc 33 (mH p0 k0 k1 z1) (0,List.replicate 33 0) (fun k3 z3=>True) (fun k3 z3=>[Ej 12 k3,Ei 11 z3.1]) (fun k3 z3=>[Mk 432 .i64 33 z3.2]) trivial <|fun k3 z3 hk3 hz3 hJ3=>Tri.seq <|Xs [Eb 57 (decide ((((k3:Nat):Int):Int)<33))] [] 528 (v2 pT) <|Xb (fun h4 h4'=>?_) (fun h4 h4'=>?_)
 refine Tri.skip <|Tri.seq <|Tri.block <|Xs [Ei 13 (aT .i64 (((itr (bf) 33 ((bL (aJ .i64 (IntKind.wrap .i64 (p0.getD (p0.length-1-k0) 0)) (((8:Nat):Int)-1-((k1:Nat):Int))) 2),z1.2)).2).getD k3 0) z3.1)] [57,11] 640 (v2 (pu (Yj k3 z1.1) (pu (Yl k3 z1.1) (v3 pT)))) <|Tri.seq <|Xs [Eb 67 (decide ((((k3:Nat):Int):Int)<32))] [] 672 (v2 pT) <|Xj (x:=(decide ((((k3:Nat):Int):Int)<32))) (fun bb=>[Ei 13 (sel bb (aT .i64 (aT .i64 (((itr (bf) 33 ((bL (aJ .i64 (IntKind.wrap .i64 (p0.getD (p0.length-1-k0) 0)) (((8:Nat):Int)-1-((k1:Nat):Int))) 2),z1.2)).2).getD k3 0) z3.1) (IntKind.wrap .i64 ([237,211,245,92,26,99,18,88,214,156,247,162,222,249,222,20,0,0,0,0,0,0,0,0,0,0,0,0,0,0,0,16].getD k3 0))) (aT .i64 (((itr (bf) 33 ((bL (aJ .i64 (IntKind.wrap .i64 (p0.getD (p0.length-1-k0) 0)) (((8:Nat):Int)-1-((k1:Nat):Int))) 2),z1.2)).2).getD k3 0) z3.1))]) [67,13] (fun bb=>[]) [] 800 (fun h5=>?_) (fun h5=>?_) ?_
 have h5':=of_decide_eq_true h5
 exact Ws [Ei 13 (aT .i64 (aT .i64 (((itr (bf) 33 ((bL (aJ .i64 (IntKind.wrap .i64 (p0.getD (p0.length-1-k0) 0)) (((8:Nat):Int)-1-((k1:Nat):Int))) 2),z1.2)).2).getD k3 0) z3.1) (IntKind.wrap .i64 ([237,211,245,92,26,99,18,88,214,156,247,162,222,249,222,20,0,0,0,0,0,0,0,0,0,0,0,0,0,0,0,16].getD k3 0)))] [67,13] 800 (v3 (pu (Yj k3 32) (pu (Yl k3 32) (v3 pT)))) <|Xe [Ei 13 (aT .i64 (aT .i64 (((itr (bf) 33 ((bL (aJ .i64 (IntKind.wrap .i64 (p0.getD (p0.length-1-k0) 0)) (((8:Nat):Int)-1-((k1:Nat):Int))) 2),z1.2)).2).getD k3 0) z3.1) (IntKind.wrap .i64 ([237,211,245,92,26,99,18,88,214,156,247,162,222,249,222,20,0,0,0,0,0,0,0,0,0,0,0,0,0,0,0,16].getD k3 0)))] []
 have h5':=of_decide_eq_false h5
 exact Tri.skip <|Xe [Ei 13 (aT .i64 (((itr (bf) 33 ((bL (aJ .i64 (IntKind.wrap .i64 (p0.getD (p0.length-1-k0) 0)) (((8:Nat):Int)-1-((k1:Nat):Int))) 2),z1.2)).2).getD k3 0) z3.1)] []
 refine Xs [Ei 11 0] [] 816 (v1 pT) <|Tri.seq <|Xs [Eb 76 (decide (((sel (decide ((((k3:Nat):Int):Int)<32)) (aT .i64 (aT .i64 (((itr (bf) 33 ((bL (aJ .i64 (IntKind.wrap .i64 (p0.getD (p0.length-1-k0) 0)) (((8:Nat):Int)-1-((k1:Nat):Int))) 2),z1.2)).2).getD k3 0) z3.1) (IntKind.wrap .i64 ([237,211,245,92,26,99,18,88,214,156,247,162,222,249,222,20,0,0,0,0,0,0,0,0,0,0,0,0,0,0,0,16].getD k3 0))) (aT .i64 (((itr (bf) 33 ((bL (aJ .i64 (IntKind.wrap .i64 (p0.getD (p0.length-1-k0) 0)) (((8:Nat):Int)-1-((k1:Nat):Int))) 2),z1.2)).2).getD k3 0) z3.1)):Int)<0))] [] 848 (v2 pT) <|Xj (x:=(decide (((sel (decide ((((k3:Nat):Int):Int)<32)) (aT .i64 (aT .i64 (((itr (bf) 33 ((bL (aJ .i64 (IntKind.wrap .i64 (p0.getD (p0.length-1-k0) 0)) (((8:Nat):Int)-1-((k1:Nat):Int))) 2),z1.2)).2).getD k3 0) z3.1) (IntKind.wrap .i64 ([237,211,245,92,26,99,18,88,214,156,247,162,222,249,222,20,0,0,0,0,0,0,0,0,0,0,0,0,0,0,0,16].getD k3 0))) (aT .i64 (((itr (bf) 33 ((bL (aJ .i64 (IntKind.wrap .i64 (p0.getD (p0.length-1-k0) 0)) (((8:Nat):Int)-1-((k1:Nat):Int))) 2),z1.2)).2).getD k3 0) z3.1)):Int)<0))) (fun bb=>[Ei 11 (sel bb 1 0),Ei 13 (sel bb (aD .i64 (sel (decide ((((k3:Nat):Int):Int)<32)) (aT .i64 (aT .i64 (((itr (bf) 33 ((bL (aJ .i64 (IntKind.wrap .i64 (p0.getD (p0.length-1-k0) 0)) (((8:Nat):Int)-1-((k1:Nat):Int))) 2),z1.2)).2).getD k3 0) z3.1) (IntKind.wrap .i64 ([237,211,245,92,26,99,18,88,214,156,247,162,222,249,222,20,0,0,0,0,0,0,0,0,0,0,0,0,0,0,0,16].getD k3 0))) (aT .i64 (((itr (bf) 33 ((bL (aJ .i64 (IntKind.wrap .i64 (p0.getD (p0.length-1-k0) 0)) (((8:Nat):Int)-1-((k1:Nat):Int))) 2),z1.2)).2).getD k3 0) z3.1)) 256) (sel (decide ((((k3:Nat):Int):Int)<32)) (aT .i64 (aT .i64 (((itr (bf) 33 ((bL (aJ .i64 (IntKind.wrap .i64 (p0.getD (p0.length-1-k0) 0)) (((8:Nat):Int)-1-((k1:Nat):Int))) 2),z1.2)).2).getD k3 0) z3.1) (IntKind.wrap .i64 ([237,211,245,92,26,99,18,88,214,156,247,162,222,249,222,20,0,0,0,0,0,0,0,0,0,0,0,0,0,0,0,16].getD k3 0))) (aT .i64 (((itr (bf) 33 ((bL (aJ .i64 (IntKind.wrap .i64 (p0.getD (p0.length-1-k0) 0)) (((8:Nat):Int)-1-((k1:Nat):Int))) 2),z1.2)).2).getD k3 0) z3.1)))]) [76,11,13] (fun bb=>[]) [] 912 (fun h6=>?_) (fun h6=>?_) ?_
 have h6':=of_decide_eq_true h6
 exact Xs [Ei 13 (aD .i64 (sel (decide ((((k3:Nat):Int):Int)<32)) (aT .i64 (aT .i64 (((itr (bf) 33 ((bL (aJ .i64 (IntKind.wrap .i64 (p0.getD (p0.length-1-k0) 0)) (((8:Nat):Int)-1-((k1:Nat):Int))) 2),z1.2)).2).getD k3 0) z3.1) (IntKind.wrap .i64 ([237,211,245,92,26,99,18,88,214,156,247,162,222,249,222,20,0,0,0,0,0,0,0,0,0,0,0,0,0,0,0,16].getD k3 0))) (aT .i64 (((itr (bf) 33 ((bL (aJ .i64 (IntKind.wrap .i64 (p0.getD (p0.length-1-k0) 0)) (((8:Nat):Int)-1-((k1:Nat):Int))) 2),z1.2)).2).getD k3 0) z3.1)) 256)] [76,11,13] 896 (v3 pT) <|Ws [Ei 11 1] [] 912 (v1 pT) <|Xe [Ei 11 1,Ei 13 (aD .i64 (sel (decide ((((k3:Nat):Int):Int)<32)) (aT .i64 (aT .i64 (((itr (bf) 33 ((bL (aJ .i64 (IntKind.wrap .i64 (p0.getD (p0.length-1-k0) 0)) (((8:Nat):Int)-1-((k1:Nat):Int))) 2),z1.2)).2).getD k3 0) z3.1) (IntKind.wrap .i64 ([237,211,245,92,26,99,18,88,214,156,247,162,222,249,222,20,0,0,0,0,0,0,0,0,0,0,0,0,0,0,0,16].getD k3 0))) (aT .i64 (((itr (bf) 33 ((bL (aJ .i64 (IntKind.wrap .i64 (p0.getD (p0.length-1-k0) 0)) (((8:Nat):Int)-1-((k1:Nat):Int))) 2),z1.2)).2).getD k3 0) z3.1)) 256)] []
 have h6':=of_decide_eq_false h6
 exact Tri.skip <|Xe [Ei 11 0,Ei 13 (sel (decide ((((k3:Nat):Int):Int)<32)) (aT .i64 (aT .i64 (((itr (bf) 33 ((bL (aJ .i64 (IntKind.wrap .i64 (p0.getD (p0.length-1-k0) 0)) (((8:Nat):Int)-1-((k1:Nat):Int))) 2),z1.2)).2).getD k3 0) z3.1) (IntKind.wrap .i64 ([237,211,245,92,26,99,18,88,214,156,247,162,222,249,222,20,0,0,0,0,0,0,0,0,0,0,0,0,0,0,0,16].getD k3 0))) (aT .i64 (((itr (bf) 33 ((bL (aJ .i64 (IntKind.wrap .i64 (p0.getD (p0.length-1-k0) 0)) (((8:Nat):Int)-1-((k1:Nat):Int))) 2),z1.2)).2).getD k3 0) z3.1))] []
 exact Wt [] [13] [Mk 432 .i64 33 (z3.2.set k3 (sel (decide (((sel (decide ((((k3:Nat):Int):Int)<32)) (aT .i64 (aT .i64 (((itr (bf) 33 ((bL (aJ .i64 (IntKind.wrap .i64 (p0.getD (p0.length-1-k0) 0)) (((8:Nat):Int)-1-((k1:Nat):Int))) 2),z1.2)).2).getD k3 0) z3.1) (IntKind.wrap .i64 ([237,211,245,92,26,99,18,88,214,156,247,162,222,249,222,20,0,0,0,0,0,0,0,0,0,0,0,0,0,0,0,16].getD k3 0))) (aT .i64 (((itr (bf) 33 ((bL (aJ .i64 (IntKind.wrap .i64 (p0.getD (p0.length-1-k0) 0)) (((8:Nat):Int)-1-((k1:Nat):Int))) 2),z1.2)).2).getD k3 0) z3.1)):Int)<0)) (aD .i64 (sel (decide ((((k3:Nat):Int):Int)<32)) (aT .i64 (aT .i64 (((itr (bf) 33 ((bL (aJ .i64 (IntKind.wrap .i64 (p0.getD (p0.length-1-k0) 0)) (((8:Nat):Int)-1-((k1:Nat):Int))) 2),z1.2)).2).getD k3 0) z3.1) (IntKind.wrap .i64 ([237,211,245,92,26,99,18,88,214,156,247,162,222,249,222,20,0,0,0,0,0,0,0,0,0,0,0,0,0,0,0,16].getD k3 0))) (aT .i64 (((itr (bf) 33 ((bL (aJ .i64 (IntKind.wrap .i64 (p0.getD (p0.length-1-k0) 0)) (((8:Nat):Int)-1-((k1:Nat):Int))) 2),z1.2)).2).getD k3 0) z3.1)) 256) (sel (decide ((((k3:Nat):Int):Int)<32)) (aT .i64 (aT .i64 (((itr (bf) 33 ((bL (aJ .i64 (IntKind.wrap .i64 (p0.getD (p0.length-1-k0) 0)) (((8:Nat):Int)-1-((k1:Nat):Int))) 2),z1.2)).2).getD k3 0) z3.1) (IntKind.wrap .i64 ([237,211,245,92,26,99,18,88,214,156,247,162,222,249,222,20,0,0,0,0,0,0,0,0,0,0,0,0,0,0,0,16].getD k3 0))) (aT .i64 (((itr (bf) 33 ((bL (aJ .i64 (IntKind.wrap .i64 (p0.getD (p0.length-1-k0) 0)) (((8:Nat):Int)-1-((k1:Nat):Int))) 2),z1.2)).2).getD k3 0) z3.1))))] [432] 992 (v3 (pu (Yj k3 33) (pu (Ys k3 33) pT))) <|Wu [Ej 59 (k3+1)] none [Ej 12 (k3+1)] [12] [] [] 1040 (v1 (pv pT (Yp k3 1) (v1 pT))) <|Xo [] trivial
 refine Tri.exit <|?_
 obtain rfl:k3=33:=(by omega);subst hz3
 refine Xs [Eb 84 (((itr (mH p0 k0 k1 z1) 33 (0,List.replicate 33 0)).1:Int)==0)] [57,12,11] 560 (v2 pT) <|Xa (fun h7=>?_) (fun h7=>?_)
 have h7':=eX h7
 exact Wt [El 3 432 33] [84,10,3] [] [32] 592 (v2 pT) <|Wu [Ei 28 (((8:Nat):Int)-1-((k1+1:Nat):Int))] none [Ei 6 (((8:Nat):Int)-1-((k1+1:Nat):Int))] [6] [] [] 640 (v1 (pv pT (pl (show (aT .i64 (((8:Nat):Int)-1-((k1:Nat):Int)) 1)=(((8:Nat):Int)-1-((k1+1:Nat):Int)) from im (by omega) (by omega))) (v1 pT))) <|Xp (show sel _ 33 z1.1=33 by rw [hJ1];exact Cu _ _) [(32,432)] [Ei 6 (((8:Nat):Int)-1-((k1+1:Nat):Int)),El 3 32 33] [Mk 32 .i64 33 ((itr (mH p0 k0 k1 z1) 33 (0,List.replicate 33 0)).2)] (by simp only [iL,h1,h2,h7,aC,aB]) (by simp only [iL,h1,h2,h7,aC,aB])
 have h7':=dg h7
 exact Tri.skip <|Wu [Ei 28 (((8:Nat):Int)-1-((k1+1:Nat):Int))] none [Ei 6 (((8:Nat):Int)-1-((k1+1:Nat):Int))] [84,10,6] [] [432] 608 (v1 (pv pT (pl (show (aT .i64 (((8:Nat):Int)-1-((k1:Nat):Int)) 1)=(((8:Nat):Int)-1-((k1+1:Nat):Int)) from im (by omega) (by omega))) (v1 pT))) <|Xp (show sel _ 33 z1.1=33 by rw [hJ1];exact Cu _ _) [] [Ei 6 (((8:Nat):Int)-1-((k1+1:Nat):Int)),El 3 32 z1.1] [Mk 32 .i64 z1.1 ((itr (bf) 33 ((bL (aJ .i64 (IntKind.wrap .i64 (p0.getD (p0.length-1-k0) 0)) (((8:Nat):Int)-1-((k1:Nat):Int))) 2),z1.2)).2)] (by simp only [iL,h1,h2,h7,aC,aB]) (by simp only [iL,h1,h2,h7,aC,aB])
 refine Tri.exit <|?_
 obtain rfl:k1=8:=(by omega);subst hz1
 exact Wu [Ei 24 (((p0.length:Nat):Int)-1-((k0+1:Nat):Int))] none [Ei 5 (((p0.length:Nat):Int)-1-((k0+1:Nat):Int))] [26,6,5] [] [] 288 (v1 (pv pT (pl (show (aT .i64 (((p0.length:Nat):Int)-1-((k0:Nat):Int)) 1)=(((p0.length:Nat):Int)-1-((k0+1:Nat):Int)) from im (by omega) (by omega))) (v1 pT))) <|Xo [] (show (itr (iL p0 k0) 8 (z0.1,z0.2)).1=33 from hJ1)
 refine Tri.exit <|?_
 obtain rfl:k0=p0.length:=(by omega);subst hz0
 refine Xt [El 14 192 32] [22,5,4,0] [Mi 192 32 (List.replicate 32 0)] [64] 224 (pu (pa (lo ((0:Int)≤32∧(32:Int)=32)) (pa (lo (32≤(140737488355328:Int))) (lo (((1:Nat):Int)*32≤281474976710656)))) (v1 pT)) <|Tri.seq <|Xs [Ei 15 0] [] 240 (v1 pT) <|Tri.block <|Xc 32 (nL p0) (List.replicate 32 0) (fun k4 z4=>True) (fun k4 z4=>[Ej 15 k4]) (fun k4 z4=>[Mi 192 32 z4]) trivial <|fun k4 z4 hk4 hz4 hJ4=>Tri.seq <|Xs [Eb 88 (decide ((((k4:Nat):Int):Int)<32))] [] 272 (v2 pT) <|Xb (fun h8 h8'=>?_) (fun h8 h8'=>?_)
 exact Tri.skip <|Tri.seq <|Tri.block <|Wt [] [88] [Mi 192 32 (z4.set k4 (IntKind.wrap .u8 (((itr (ke p0) p0.length (33,List.replicate 33 0)).2).getD k4 0)))] [192] 416 (v4 (pu (Yj k4 ((itr (ke p0) p0.length (33,List.replicate 33 0)).1)) (pu (Yl k4 ((itr (ke p0) p0.length (33,List.replicate 33 0)).1)) (v1 (pu (Yj k4 32) (pu (Ys k4 32) pT)))))) <|Wu [Ej 90 (k4+1)] none [Ej 15 (k4+1)] [15] [] [] 464 (v1 (pv pT (Yp k4 1) (v1 pT))) <|Xo [] trivial
 refine Tri.exit <|?_
 obtain rfl:k4=32:=(by omega);subst hz4
 exact Xt [El 2 192 32] [88,15,14,3] [] [32] 304 (v2 pT) <|Xz [(192,0)] pz
theorem Gb (p0:List Int):(uf p0).length=32:=by
 have h:∀ n,(itr (nL p0) n (List.replicate 32 0)).length=32:=by
  intro n
  induction n with
  |zero=>rw [aX];rfl
  |succ n ih=>rw [aP];show (List.set _ _ _).length=32;rw [List.length_set];exact ih
 exact h _
def rJ (p0:List Int) (p1:List Int) (p2:List Int):List Int :=
 (uf (aA (bH (aA ((p0++p1)++p2) ((p0.length+p1.length)+p2.length) 0 ((p0.length+p1.length)+p2.length))) 64 0 64))
def Jm:List AV→List Blk→Option (Prop × Ret)
 |[.sc (.ro .u8 p0),.sc (.ro .u8 p1),.sc (.ro .u8 p2)],[]=>some ((p0.length+p1.length+p2.length≤1000000),⟨.sc (.sl 0 0 32 1 none),[some (.ints .u8 32 (rJ p0 p1 p2))]⟩)
 |_,_=>none
theorem Ih:Known Tryz.prog gD 71 ⟨0,1,Jm⟩:=by
 refine Xw Tryz.f71 15 (Zc tT 128 [.ro .u8,.val] [112] [] <|Zc In 144 [.ro .u8] [128] [] <|Zn) mixed <|fun E args ks C r h hC hlen=>?_
 simp only at h
 unfold Jm at h
 split at h
 rotate_left
 cases h
 rename_i p0 p1 p2
 cases h
 simp only [aj] at hlen
 refine ⟨rfl,?_⟩
 refine Xs [] [] 32 (v1 pT) <|Xt [El 6 144 32] [0,1,2] [Mi 144 32 (uf (aA (bH (aA ((p0++p1)++p2) ((p0.length+p1.length)+p2.length) 0 ((p0.length+p1.length)+p2.length))) 64 0 64))] [] 176 (v1 (pu (YN pT 1 p0.length p0.length p0.length) (v1 (pu (Ya pT 1 (p0.length+p1.length) p1.length p1.length p0.length p0.length) (v1 (pu (Ya pT 1 ((p0.length+p1.length)+p2.length) p2.length p2.length (p0.length+p1.length) (p0.length+p1.length)) (pu (pa (pa (Yw ((p0.length+p1.length)+p2.length)) pT) (pa (Yr (64:Int)) (Ye ((aA ((p0++p1)++p2) ((p0.length+p1.length)+p2.length) 0 ((p0.length+p1.length)+p2.length)).length) 100000000))) (pu (pa (pa (Yw 64) pT) (pl (show (aA (bH (aA ((p0++p1)++p2) ((p0.length+p1.length)+p2.length) 0 ((p0.length+p1.length)+p2.length))) 64 0 64).length≤1000 from by exact aK (by decide) (by rw [hI];decide)))) (v1 pT))))))))) ?_
 exact Xz [(144,0)] pz
theorem GG (p0 p1 p2:List Int):(rJ p0 p1 p2).length=32:=Gb _
def qS (p0:List Int):List Int :=
 (lr (vF (aA (F44 (aA (bH p0) 64 0 32)) ((aA (bH p0) 64 0 32).length) 0 ((aA (bH p0) 64 0 32).length)) (tE)))
def II:List AV→List Blk→Option (Prop × Ret)
 |[.sc (.ro .u8 p0)],[]=>some ((p0.length=32),⟨.sc (.sl 0 0 32 1 none),[some (.ints .u8 32 (qS p0))]⟩)
 |_,_=>none
theorem FD:Known Tryz.prog gD 24 ⟨0,1,II⟩:=by
 refine Xw Tryz.f24 10 (Zv JR 128 1 <|Zc Hy 112 [.ro .u8,.val] [80] [] <|Zc K44 80 [.ro .u8] [48] [] <|Zc tT 48 [.ro .u8,.val] [] [] <|Zv Iq 96 0 <|Zn) mixed <|fun E args ks C r h hC hlen=>?_
 simp only at h
 unfold II at h
 split at h
 rotate_left
 cases h
 rename_i p0
 cases h
 simp only [aj] at hlen
 have hh:=kH p0 0 (by decide)
 have hh2:=kH p0 32 (by decide)
 refine ⟨rfl,?_⟩
 refine Xs [] [] 32 (v1 pT) <|Xt [El 2 128 32] [0] [Mi 128 32 (lr (vF (aA (F44 (aA (bH p0) 64 0 32)) ((aA (bH p0) 64 0 32).length) 0 ((aA (bH p0) 64 0 32).length)) (tE)))] [] 160 (v1 (pu (pa pz (pa (Yr (64:Int)) (Ye p0.length 100000000))) (pu (lo ((0:Int)≤0∧(0:Int)≤32∧32≤((64:Nat):Int))) (pu (pa (pa (Ye (0+32) 64) pT) (pl (show (aA (bH p0) 64 0 32).length=32 from hh))) (pu pz (pu (pa (pa (Yw ((aA (bH p0) 64 0 32).length)) pT) (pl (show (aA (F44 (aA (bH p0) 64 0 32)) ((aA (bH p0) 64 0 32).length) 0 ((aA (bH p0) 64 0 32).length)).length≤1000000 from by exact aK (by omega) (by rw [IY];omega)))) (pu pz (v1 pT)))))))) ?_
 exact Xz [(128,0)] pz
theorem nY (p0:List Int):(qS p0).length=32:=lf _
def jj (p0:List Int) (p1:List Int):List Int :=
 (rJ (aA (bH p0) 64 32 32) p1 ([]:List Int))
def mE (p0:List Int) (p1:List Int):List Int :=
 (vF (aA (jj p0 p1) 32 0 32) (tE))
def tc (p0:List Int) (p1:List Int):List Int :=
 (rJ (aA (lr (mE p0 p1)) 32 0 32) (aA (qS p0) 32 0 32) p1)
def uJ (p0:List Int) (p1:List Int) (k0:Nat) (k1:Nat) (z1:List Int):List Int :=
 z1.set (k0+k1) (aD .i64 (z1.getD (k0+k1) 0) (bJ .i64 (IntKind.wrap .i64 ((tc p0 p1).getD k0 0)) (IntKind.wrap .i64 ((F44 (aA (bH p0) 64 0 32)).getD k1 0))))
def wq (p0:List Int) (p1:List Int) (k0:Nat) (z0:List Int):List Int :=
 (itr (uJ p0 p1 k0) 32 (z0.set k0 (aD .i64 (z0.getD k0 0) (IntKind.wrap .i64 ((jj p0 p1).getD k0 0)))))
def tH (p0:List Int) (p1:List Int) (k0:Nat) (z0:List Int):List Int :=
 (wq p0 p1 k0 z0)
def mD (p0:List Int) (p1:List Int):List Int :=
 (itr (tH p0 p1) 32 (List.replicate 66 0))
def sp (p0:List Int) (p1:List Int) (k2:Nat) (z2:Int × List Int):Int × List Int :=
 ((fc .i64 (aD .i64 z2.1 ((mD p0 p1).getD k2 0)) 256),z2.2.set k2 (IntKind.wrap .u8 (bL (aD .i64 z2.1 ((mD p0 p1).getD k2 0)) 256)))
def tJ (p0:List Int) (p1:List Int):Int × List Int :=
 (itr (sp p0 p1) 66 (0,List.replicate 66 0))
def xU (p0:List Int) (p1:List Int):List Int :=
 (uf (aA ((tJ p0 p1).2) 66 0 66))
def Eo (p0:List Int) (p1:List Int):List Int :=
 (lr (mE p0 p1))++(xU p0 p1)
def IQ:List AV→List Blk→Option (Prop × Ret)
 |[.sc (.ro .u8 p0),.sc (.ro .u8 p1)],[]=>some ((p0.length=32∧p1.length≤10000),⟨.sc (.sl 0 0 64 1 none),[some (.ints .u8 64 (Eo p0 p1))]⟩)
 |_,_=>none
theorem KD:Known Tryz.prog gD 38 ⟨0,1,IQ⟩:=by
 refine Xw Tryz.f38 96 (Zc FD 272 [.ro .u8] [] [] <|Zv JR 208 1 <|Zc Hy 192 [.ro .u8,.val] [128] [] <|Zc K44 368 [.ro .u8] [48] [] <|Zc tT 48 [.ro .u8,.val] [] [] <|Zv Iq 176 0 <|Zc Ih 128 [.ro .u8,.ro .u8,.ro .u8] [48] [] <|Zc Ih 304 [.ro .u8,.ro .u8,.ro .u8] [208,272] [] <|Zc In 608 [.ro .u8] [480] [] <|Zn) mixed <|fun E args ks C r h hC hlen=>?_
 simp only at h
 unfold IQ at h
 split at h
 rotate_left
 cases h
 rename_i p0 p1
 cases h
 simp only [aj] at hlen
 have hh:=kH p0 0 (by decide)
 have hh2:=kH p0 32 (by decide)
 refine ⟨rfl,?_⟩
 refine Xs [] [] 32 (v1 pT) <|Xt [El 5 48 64] [] [Mi 48 64 (bH p0)] [] 80 (v1 (pu (pa pz (pa (Yr (64:Int)) (Ye p0.length 100000000))) (v1 pT))) <|Tri.len 48 rfl <|fun hl1=>Xt [El 6 128 32] [] [Mi 128 32 (jj p0 p1)] [] 160 (v1 (pu (lo ((0:Int)≤32∧(32:Int)≤64∧64≤((64:Nat):Int))) (v1 (pu (pa (pa (Ye (32+32) 64) (pa pT pz)) (pl (show (aA (bH p0) 64 32 32).length+p1.length+([]:List Int).length≤1000000 from by first|exact (show _+_+0≤1000000 by omega)|exact wA (by first|omega|(rw [List.length_take];omega)|(have hl:=nc (p0:=p0) (by assumption);omega)|exact aK (by decide) (Nat.le_trans (Nat.le_of_eq (lf _)) (by decide))|exact aK (by decide) (Nat.le_trans (Nat.le_of_eq (nY _)) (by decide))) (by first|omega|(rw [List.length_take];omega)|(have hl:=nc (p0:=p0) (by assumption);omega)|exact aK (by decide) (Nat.le_trans (Nat.le_of_eq (lf _)) (by decide))|exact aK (by decide) (Nat.le_trans (Nat.le_of_eq (nY _)) (by decide))) (by first|omega|(rw [List.length_take];omega)|(have hl:=nc (p0:=p0) (by assumption);omega)|exact aK (by decide) (Nat.le_trans (Nat.le_of_eq (lf _)) (by decide))|exact aK (by decide) (Nat.le_trans (Nat.le_of_eq (nY _)) (by decide)))))) (v1 pT))))) ?_
 refine Tri.len 128 rfl <|fun hl2=>Tri.len 48 rfl <|fun hl3=>Xt [El 7 208 32] [] [Mi 208 32 (lr (mE p0 p1))] [] 240 (v1 (pu pz (pu (pa (pa (Yw 32) pT) (pl (show (aA (jj p0 p1) 32 0 32).length≤1000000 from by exact aK (by decide) (Nat.le_trans (Nat.le_of_eq (GG _ _ _)) (by decide))))) (pu pz (v1 pT))))) ?_
 refine Tri.len 208 rfl <|fun hl4=>Tri.len 128 rfl <|fun hl5=>Tri.len 48 rfl <|fun hl6=>Xt [El 8 304 32] [0,1] [Mi 304 32 (tc p0 p1)] [] 336 (v2 (pu (pa pz (lo (p0.length=32))) (v1 (pu (pa (pa (Yw 32) (pa (Yw 32) pz)) (pl (show (aA (lr (mE p0 p1)) 32 0 32).length+(aA (qS p0) 32 0 32).length+p1.length≤1000000 from by first|exact (show _+_+0≤1000000 by omega)|exact wA (by first|omega|(rw [List.length_take];omega)|(have hl:=nc (p0:=p0) (by assumption);omega)|exact aK (by decide) (Nat.le_trans (Nat.le_of_eq (lf _)) (by decide))|exact aK (by decide) (Nat.le_trans (Nat.le_of_eq (nY _)) (by decide))) (by first|omega|(rw [List.length_take];omega)|(have hl:=nc (p0:=p0) (by assumption);omega)|exact aK (by decide) (Nat.le_trans (Nat.le_of_eq (lf _)) (by decide))|exact aK (by decide) (Nat.le_trans (Nat.le_of_eq (nY _)) (by decide))) (by first|omega|(rw [List.length_take];omega)|(have hl:=nc (p0:=p0) (by assumption);omega)|exact aK (by decide) (Nat.le_trans (Nat.le_of_eq (lf _)) (by decide))|exact aK (by decide) (Nat.le_trans (Nat.le_of_eq (nY _)) (by decide)))))) (v1 pT))))) ?_
 refine Tri.len 304 rfl <|fun hl7=>Tri.len 208 rfl <|fun hl8=>Tri.len 128 rfl <|fun hl9=>Tri.len 48 rfl <|fun hl10=>Xt [El 9 368 ((aA (bH p0) 64 0 32).length)] [5] [Mi 368 ((aA (bH p0) 64 0 32).length) (F44 (aA (bH p0) 64 0 32))] [48] 400 (v1 (pu (lo ((0:Int)≤0∧(0:Int)≤32∧32≤((64:Nat):Int))) (pu (pa (pa (Ye (0+32) 64) pT) (pl (show (aA (bH p0) 64 0 32).length=32 from hh))) (v1 pT)))) <|Xt [El 10 400 66] [] [Mk 400 .i64 66 (List.replicate 66 0)] [] 432 (pu (pa (lo ((0:Int)≤66∧(66:Int)=66)) (pa (lo (66≤(140737488355328:Int))) (lo (((8:Nat):Int)*66≤281474976710656)))) (v1 pT)) <|Tri.seq <|Xs [Ei 11 0] [] 448 (v1 pT) <|Tri.block <|Xc 32 (tH p0 p1) (List.replicate 66 0) (fun k0 z0=>True) (fun k0 z0=>[Ej 11 k0]) (fun k0 z0=>[Mk 400 .i64 66 z0]) trivial <|fun k0 z0 hk0 hz0 hJ0=>?_
 refine Tri.seq <|Xs [Eb 36 (decide ((((k0:Nat):Int):Int)<32))] [] 480 (v2 pT) <|Xb (fun h11 h11'=>?_) (fun h11 h11'=>?_)
 refine Tri.skip <|Tri.seq <|Tri.block <|Xu [] (some [0,0,3,7,0,0,48,112,240,511,1023,2047]) [] [36] [Mk 400 .i64 66 (z0.set k0 (aD .i64 (z0.getD k0 0) (IntKind.wrap .i64 ((jj p0 p1).getD k0 0))))] [400] 672 (v2 (pu (Yj k0 66) (pu (Yl k0 66) (v2 (pu (Yj k0 32) (pu (Yl k0 32) (v2 (pu (Yj k0 66) (pu (Ys k0 66) pT))))))))) <|Xs [Ei 12 0] [] 688 (v1 pT) <|Tri.block <|Xc 32 (uJ p0 p1 k0) (z0.set k0 (aD .i64 (z0.getD k0 0) (IntKind.wrap .i64 ((jj p0 p1).getD k0 0)))) (fun k1 z1=>True) (fun k1 z1=>[Ej 12 k1]) (fun k1 z1=>[Mk 400 .i64 66 z1]) trivial <|fun k1 z1 hk1 hz1 hJ1=>Tri.seq <|Xs [Eb 51 (decide ((((k1:Nat):Int):Int)<32))] [] 720 (v2 pT) <|Xb (fun h12 h12'=>?_) (fun h12 h12'=>?_)
 refine Tri.skip <|Tri.seq <|Tri.block <|Tri.len 400 rfl <|fun hl13=>Tri.len 368 rfl <|fun hl14=>Tri.len 304 rfl <|fun hl15=>Tri.len 208 rfl <|fun hl16=>Tri.len 128 rfl <|fun hl17=>Wu [Ej 57 (k0+k1)] (some [0,0,0,6,15,31,0,0,192,448,960,0,0,6144,14336,30720,65472,131071,262143,524287]) [] [51] [Mk 400 .i64 66 (z1.set (k0+k1) (aD .i64 (z1.getD (k0+k1) 0) (bJ .i64 (IntKind.wrap .i64 ((tc p0 p1).getD k0 0)) (IntKind.wrap .i64 ((F44 (aA (bH p0) 64 0 32)).getD k1 0)))))] [400] 1040 (v3 (pv pT (Yp k0 k1) (pu (Yj (k0+k1) 66) (pu (Yl (k0+k1) 66) (v2 (pu (Yj k0 32) (pu (Yl k0 32) (v3 (pu (Yj k1 ((aA (bH p0) 64 0 32).length)) (pu (Yl k1 ((aA (bH p0) 64 0 32).length)) (v3 (pu (Yj (k0+k1) 66) (pu (Ys (k0+k1) 66) pT))))))))))))) <|Wu [Ej 53 (k1+1)] none [Ej 12 (k1+1)] [12] [] [] 1088 (v1 (pv pT (Yp k1 1) (v1 pT))) <|?_
 exact Xo [] trivial
 refine Tri.exit <|?_
 obtain rfl:k1=32:=(by omega);obtain rfl:z1=(wq p0 p1 k0 z0):=hz1
 exact Wu [Ej 38 (k0+1)] none [Ej 11 (k0+1)] [51,12,11] [] [] 768 (v1 (pv pT (Yp k0 1) (v1 pT))) <|Xo [] trivial
 refine Tri.exit <|?_
 obtain rfl:k0=32:=(by omega);obtain rfl:z0=(mD p0 p1):=hz0
 refine Xt [El 13 480 66] [36,11,9,8,6] [Mi 480 66 (List.replicate 66 0)] [368,304,128] 512 (pu (pa (lo ((0:Int)≤66∧(66:Int)=66)) (pa (lo (66≤(140737488355328:Int))) (lo (((1:Nat):Int)*66≤281474976710656)))) (v1 pT)) <|Xs [Ei 14 0] [] 528 (v1 pT) <|Tri.seq <|Xs [Ei 15 0] [] 544 (v1 pT) <|Tri.block <|Xc 66 (sp p0 p1) (0,List.replicate 66 0) (fun k2 z2=>True) (fun k2 z2=>[Ej 15 k2,Ei 14 z2.1]) (fun k2 z2=>[Mi 480 66 z2.2]) trivial <|fun k2 z2 hk2 hz2 hJ2=>Tri.seq <|Xs [Eb 75 (decide ((((k2:Nat):Int):Int)<66))] [] 576 (v2 pT) <|Xb (fun h18 h18'=>?_) (fun h18 h18'=>?_)
 exact Tri.skip <|Tri.seq <|Tri.block <|Xs [Ei 14 (aD .i64 z2.1 ((mD p0 p1).getD k2 0))] [75,14] 688 (v3 (pu (Yj k2 66) (pu (Yl k2 66) (v2 pT)))) <|Xt [] [] [Mi 480 66 (z2.2.set k2 (IntKind.wrap .u8 (bL (aD .i64 z2.1 ((mD p0 p1).getD k2 0)) 256)))] [480] 800 (v3 (pu (Yn 256) (v1 (pu (Yj k2 66) (pu (Ys k2 66) pT))))) <|Ws [Ei 14 (fc .i64 (aD .i64 z2.1 ((mD p0 p1).getD k2 0)) 256)] [14] 848 (v1 (pu (Yn 256) (v1 pT))) <|Wu [Ej 77 (k2+1)] none [Ej 15 (k2+1)] [15] [] [] 896 (v1 (pv pT (Yp k2 1) (v1 pT))) <|Xo [] trivial
 refine Tri.exit <|?_
 obtain rfl:k2=66:=(by omega);obtain rfl:z2=(tJ p0 p1):=hz2
 exact Tri.len 480 rfl <|fun hl19=>Tri.len 400 rfl <|fun hl20=>Tri.len 208 rfl <|fun hl21=>Xt [El 4 624 64] [75,15,14,13,10,7] [Mi 624 64 ((lr (mE p0 p1))++(xU p0 p1))] [480,400,208] 656 (v2 (pu (pa (pa (Yw 66) pT) (Ye ((aA ((tJ p0 p1).2) 66 0 66).length) 1000)) (pu (Ya (Yw 32) 1 64 32 32 32 32) (v1 pT)))) <|Xz [(624,0)] pz
end Go.Vm
namespace Go.Vm
open Go Go.Proofs
def Ck:List AV→List Blk→Option (Prop × Ret)
 |[.sc (.ro .u8 p0)],[]=>some (True,⟨.sc (.p 0 0),[some (.cells [.ro .u8 p0,.b false])]⟩)
 |_,_=>none
theorem GD:Known Tryz.prog gD 41 ⟨0,1,Ck⟩:=by
 refine Xw Tryz.f41 6 Zn mixed <|fun E args ks C r h hC hlen=>?_
 simp only at h
 unfold Ck at h
 split at h
 rotate_left
 cases h
 rename_i p0
 cases h
 simp only [aj] at hlen
 refine ⟨rfl,?_⟩
 exact Xs [] [] 32 (v1 pT) <|Xt [Ep 2 64] [0] [Mc 64 [.ro .u8 p0,.b false]] [] 96 (v1 (pu (pa (Ys 0 2) pT) (v2 pT))) <|Xz [(64,0)] pz
def fP (p0:List Int) (p1:Bool) (p2:Int):List Int :=
 (p0.drop 0).take (((p2).toNat)-0)
def iI (p0:List Int) (p1:Bool) (p2:Int):List Int :=
 (p0.drop ((p2).toNat)).take (p0.length-((p2).toNat))
def vc:List AV→List Blk→Option (Prop × Ret)
 |[.sc (.p 0 0),.sc (.i .i64 p2)],[.cells [.ro .u8 p0,.b p1]]=>some (((p1=false)∧(((decide ((p2:Int)>((p0.length:Nat):Int)))=false)∧((0:Int)≤p2))),⟨.sc (.ro .u8 (fP p0 p1 p2)),[some (.cells [.ro .u8 (iI p0 p1 p2),.b p1])]⟩)
 |_,_=>none
theorem Al:Known Tryz.prog gD 74 ⟨1,0,vc⟩:=by
 refine Xw Tryz.f74 48 Zn mixed <|fun E args ks C r h hC hlen=>?_
 simp only at h
 unfold vc at h
 split at h
 rotate_left
 cases h
 rename_i p2 p0 p1
 cases h
 simp only [aj] at hlen
 have hG0:=hC.1
 have hG1:=hC.2.1
 have hG1':=of_decide_eq_false hG1
 have hC:=hC.2.2
 refine ⟨rfl,?_⟩
 refine Xs [] [] 32 (v1 pT) <|Tri.seq <|Xu [Eb 14 false] none [Eb 22 (decide ((p2:Int)>((p0.length:Nat):Int)))] [] [] [] 304 (v6 (pu (Yl 1 2) (v1 (pg hG0 (v4 (pu (Yl 0 2) (v3 pT))))))) <|Tri.cond (x:=(decide ((p2:Int)>((p0.length:Nat):Int)))) (by kernel_rfl) (fun h=>absurd (h.symm.trans hG1) (by decide)) (fun h=>?_)
 exact Tri.skip <|Xs [Er 5 ((p0.drop 0).take (((p2).toNat)-0))] [22] 432 (v3 (pu (Yl 0 2) (v2 (pu (lo ((0:Int)≤0∧(0:Int)≤p2∧(p2:Int)≤p2∧(p2:Int)≤(p0.length:Int))) (v1 pT))))) <|Xt [] [0,1] [Mc 0 [.ro .u8 ((p0.drop ((p2).toNat)).take (p0.length-((p2).toNat))),.b p1]] [0] 592 (v4 (pu (Yl 0 2) (v1 (pu (lo ((0:Int)≤p2∧(p2:Int)≤((p0.length:Nat):Int)∧((p0.length:Nat):Int)≤(p0.length:Int))) (v2 (pu (Ys 0 2) pT)))))) <|Xs [Er 4 ((p0.drop 0).take (((p2).toNat)-0))] [5] 624 (v2 pT) <|Xz [(0,0)] pz
theorem jW {p0:List Int} {p1:Bool} {p2:Int} (h:(decide ((p2:Int)>((p0.length:Nat):Int)))=false) (h0:0≤p2):((fP p0 p1 p2).length:Int)=p2:=by
 have:=of_decide_eq_false h
 unfold fP
 simp only [List.length_take,List.length_drop]
 omega
def vp:List AV→List Blk→Option (Prop × Ret)
 |[.sc (.p 0 0),.sc (.i .i64 p2)],[.cells [.ro .u8 p0,.b p1]]=>some (((p1=false)∧(((decide ((p2:Int)>((p0.length:Nat):Int)))=true)∧True)),⟨.sc (.nils),[some (.cells [.ro .u8 ([]:List Int),.b true])]⟩)
 |_,_=>none
theorem BZ:Known Tryz.prog gD 74 ⟨1,0,vp⟩:=by
 refine Xw Tryz.f74 48 Zn mixed <|fun E args ks C r h hC hlen=>?_
 simp only at h
 unfold vp at h
 split at h
 rotate_left
 cases h
 rename_i p2 p0 p1
 cases h
 simp only [aj] at hlen
 have hG0:=hC.1
 have hG1:=hC.2.1
 have hG1':=of_decide_eq_true hG1
 have hC:=hC.2.2
 refine ⟨rfl,?_⟩
 refine Xs [] [] 32 (v1 pT) <|Tri.seq <|Xu [Eb 14 false] none [Eb 22 (decide ((p2:Int)>((p0.length:Nat):Int)))] [] [] [] 304 (v6 (pu (Yl 1 2) (v1 (pg hG0 (v4 (pu (Yl 0 2) (v3 pT))))))) <|Tri.cond (x:=(decide ((p2:Int)>((p0.length:Nat):Int)))) (by kernel_rfl) (fun h=>?_) (fun h=>absurd (h.symm.trans hG1) (by decide))
 exact Tri.seq <|Xs [Eb 24 true] [22,1] 336 (v2 pT) <|Tri.cond_true (by kernel_rfl) <|Wt [] [24,0] [Mc 0 [.nils,.b true]] [0] 464 (v4 (pu (Ys 1 2) (v2 (pu (Ys 0 2) pT)))) <|Xs [(4,.sc (.nils))] [] 480 (v1 pT) <|Tri.sub (Sub.nilCell (l:=[.nils,.b true]) 0 0 .u8 (by kernel_rfl) (by kernel_rfl)) <|Xz [(0,0)] pz
def sP:List AV→List Blk→Option (Prop × Ret)
 |[.sc (.p 0 0),.sc (.i .i64 p2)],[.cells [.ro .u8 p0,.b p1]]=>some (((p1=true)∧True),⟨.sc (.nils),[some (.cells [.ro .u8 ([]:List Int),.b true])]⟩)
 |_,_=>none
theorem zm:Known Tryz.prog gD 74 ⟨1,0,sP⟩:=by
 refine Xw Tryz.f74 48 Zn mixed <|fun E args ks C r h hC hlen=>?_
 simp only at h
 unfold sP at h
 split at h
 rotate_left
 cases h
 rename_i p2 p0 p1
 cases h
 simp only [aj] at hlen
 have hG0:=hC.1
 have hC:=hC.2
 refine ⟨rfl,?_⟩
 exact Xs [] [] 32 (v1 pT) <|Tri.seq <|Xu [Eb 14 true] none [Eb 22 true] [] [] [] 304 (v6 (pu (Yl 1 2) (v1 (pg hG0 (v8 pT))))) <|Tri.cond_true (by kernel_rfl) <|Tri.seq <|Xs [Eb 24 true] [22,1] 336 (v2 pT) <|Tri.cond_true (by kernel_rfl) <|Wt [] [24,0] [Mc 0 [.nils,.b true]] [0] 464 (v4 (pu (Ys 1 2) (v2 (pu (Ys 0 2) pT)))) <|Xs [(4,.sc (.nils))] [] 480 (v1 pT) <|Tri.sub (Sub.nilCell (l:=[.nils,.b true]) 0 0 .u8 (by kernel_rfl) (by kernel_rfl)) <|Xz [(0,0)] pz
def cP (p0:List Int) (p1:Bool) (p2:Int):List Int :=
 (sel p1 ([]:List Int) (sel (decide ((p2:Int)>((p0.length:Nat):Int))) ([]:List Int) ((p0.drop 0).take (((p2).toNat)-0))))
def dW (p0:List Int) (p1:Bool) (p2:Int):List Int :=
 (sel p1 ([]:List Int) (sel (decide ((p2:Int)>((p0.length:Nat):Int))) ([]:List Int) ((p0.drop ((p2).toNat)).take (p0.length-((p2).toNat)))))
def eV (p0:List Int) (p1:Bool) (p2:Int):Bool :=
 (sel p1 true (sel (decide ((p2:Int)>((p0.length:Nat):Int))) true p1))
def yc:List AV→List Blk→Option (Prop × Ret)
 |[.sc (.p 0 0),.sc (.i .i64 p2)],[.cells [.ro .u8 p0,.b p1]]=>some (((0:Int)≤p2),⟨.sc (.ro .u8 (cP p0 p1 p2)),[some (.cells [.ro .u8 (dW p0 p1 p2),.b (eV p0 p1 p2)])]⟩)
 |_,_=>none
theorem uA:Known Tryz.prog gD 74 ⟨1,0,yc⟩:=by
 refine Xw Tryz.f74 48 Zn mixed <|fun E args ks C r h hC hlen=>?_
 simp only at h
 unfold yc at h
 split at h
 rotate_left
 cases h
 rename_i p2 p0 p1
 cases h
 simp only [aj] at hlen
 refine ⟨rfl,?_⟩
 refine Xs [] [] 32 (v1 pT) <|Tri.seq <|Tri.split p1 (fun h1=>?_) (fun h1=>?_)
 exact Xu [Eb 14 true] none [Eb 22 true] [] [] [] 304 (v6 (pu (Yl 1 2) (v1 (pg h1 (v8 pT))))) <|Tri.cond_true (by kernel_rfl) <|Tri.seq <|Xs [Eb 24 true] [22,1] 336 (v2 pT) <|Tri.cond_true (by kernel_rfl) <|Wt [] [24,0] [Mc 0 [.nils,.b true]] [0] 464 (v4 (pu (Ys 1 2) (v2 (pu (Ys 0 2) pT)))) <|Xs [(4,.sc (.nils))] [] 480 (v1 pT) <|Tri.sub (Sub.nilRo 4 .u8 (by kernel_rfl)) <|Tri.sub (Sub.nilCell (l:=[.nils,.b true]) 0 0 .u8 (by kernel_rfl) (by kernel_rfl)) <|Xy [(0,0)] pz (by simp only [cP,dW,eV,h1,aC,aB] <;> rfl)
 refine Xu [Eb 14 false] none [Eb 22 (decide ((p2:Int)>((p0.length:Nat):Int)))] [] [] [] 304 (v6 (pu (Yl 1 2) (v1 (pg h1 (v4 (pu (Yl 0 2) (v3 pT))))))) <|Xb (fun h2 h2'=>?_) (fun h2 h2'=>?_)
 exact Tri.seq <|Xs [Eb 24 true] [22,1] 336 (v2 pT) <|Tri.cond_true (by kernel_rfl) <|Wt [] [24,0] [Mc 0 [.nils,.b true]] [0] 464 (v4 (pu (Ys 1 2) (v2 (pu (Ys 0 2) pT)))) <|Xs [(4,.sc (.nils))] [] 480 (v1 pT) <|Tri.sub (Sub.nilRo 4 .u8 (by kernel_rfl)) <|Tri.sub (Sub.nilCell (l:=[.nils,.b true]) 0 0 .u8 (by kernel_rfl) (by kernel_rfl)) <|Xy [(0,0)] pz (by simp only [cP,dW,eV,h1,h2,aC,aB] <;> rfl)
 exact Tri.skip <|Xs [Er 5 ((p0.drop 0).take (((p2).toNat)-0))] [22] 432 (v3 (pu (Yl 0 2) (v2 (pu (lo ((0:Int)≤0∧(0:Int)≤p2∧(p2:Int)≤p2∧(p2:Int)≤(p0.length:Int))) (v1 pT))))) <|Xt [] [0,1] [Mc 0 [.ro .u8 ((p0.drop ((p2).toNat)).take (p0.length-((p2).toNat))),.b p1]] [0] 592 (v4 (pu (Yl 0 2) (v1 (pu (lo ((0:Int)≤p2∧(p2:Int)≤((p0.length:Nat):Int)∧((p0.length:Nat):Int)≤(p0.length:Int))) (v2 (pu (Ys 0 2) pT)))))) <|Xs [Er 4 ((p0.drop 0).take (((p2).toNat)-0))] [5] 624 (v2 pT) <|Xy (r':=⟨.sc (.ro .u8 ((p0.drop 0).take (((p2).toNat)-0))),[some (.cells [.ro .u8 ((p0.drop ((p2).toNat)).take (p0.length-((p2).toNat))),.b p1])]⟩) [(0,0)] pz (by simp only [cP,dW,eV,h1,h2,aC,aB])
theorem pm (p0:List Int) (p1:Bool) (p2:Int):(cP p0 p1 p2).length≤p2.toNat:=by
 unfold cP
 cases p1
 ·simp only [aB]
  cases (decide ((p2:Int)>((p0.length:Nat):Int)))
  ·simp only [aB,List.length_take,List.length_drop];omega
  ·simp only [aC,List.length_nil];omega
 ·simp only [aC,List.length_nil];omega
def dV (p0:List Int) (p1:Bool):Int :=
 (sel p1 0 (sel (decide ((1:Int)>((p0.length:Nat):Int))) 0 ((fP p0 p1 1).getD 0 0)))
def bG (p0:List Int) (p1:Bool):List Int :=
 (sel p1 ([]:List Int) (sel (decide ((1:Int)>((p0.length:Nat):Int))) ([]:List Int) (iI p0 p1 1)))
def bI (p0:List Int) (p1:Bool):Bool :=
 (sel p1 true (sel (decide ((1:Int)>((p0.length:Nat):Int))) true p1))
def CB:List AV→List Blk→Option (Prop × Ret)
 |[.sc (.p 0 0)],[.cells [.ro .u8 p0,.b p1]]=>some (True,⟨.sc (.i .u8 (dV p0 p1)),[some (.cells [.ro .u8 (bG p0 p1),.b (bI p0 p1)])]⟩)
 |_,_=>none
theorem Bf:Known Tryz.prog gD 42 ⟨1,0,CB⟩:=by
 refine Xw Tryz.f42 11 (Zc zm 48 [.io,.val] [] [0] <|Zc BZ 144 [.io,.val] [] [0] <|Zc Al 240 [.io,.val] [] [0] <|Zn) mixed <|fun E args ks C r h hC hlen=>?_
 simp only at h
 unfold CB at h
 split at h
 rotate_left
 cases h
 rename_i p0 p1
 cases h
 simp only [aj] at hlen
 refine ⟨rfl,?_⟩
 refine Xs [] [] 32 (v1 pT) <|Tri.seq <|Tri.split p1 (fun h1=>?_) (fun h1=>?_)
 exact Xt [(3,.sc (.nils))] [0] [Mc 0 [.ro .u8 ([]:List Int),.b true]] [0] 80 (v1 (pu (pa pT (pa (pl h1) pT)) (v1 pT))) <|Xs [Eb 7 false] [] 112 (v2 pT) <|Tri.cond_false (by kernel_rfl) <|Tri.skip <|Xs [Ek 2 .u8 0] [7,3] 128 (v1 pT) <|Xy [(0,0)] pz (by simp only [dV,bG,bI,h1,aC,aB] <;> rfl)
 refine Tri.sub (Sub.up (U':=128) (by decide)) <|Tri.split (decide ((1:Int)>((p0.length:Nat):Int))) (fun h2=>?_) (fun h2=>?_)
 have h2':=of_decide_eq_true h2
 exact Xt [(3,.sc (.nils))] [0] [Mc 0 [.ro .u8 ([]:List Int),.b true]] [0] 176 (v1 (pu (pa pT (pa (pl h1) (pa (pl h2) pT))) (v1 pT))) <|Xs [Eb 7 false] [] 208 (v2 pT) <|Tri.cond_false (by kernel_rfl) <|Tri.skip <|Xs [Ek 2 .u8 0] [7,3] 224 (v1 pT) <|Xy [(0,0)] pz (by simp only [dV,bG,bI,h1,h2,aC,aB] <;> rfl)
 have h2':=of_decide_eq_false h2
 refine Tri.sub (Sub.up (U':=224) (by decide)) <|Xt [Er 3 (fP p0 p1 1)] [0] [Mc 0 [.ro .u8 (iI p0 p1 1),.b p1]] [0] 272 (v1 (pu (pa pT (pa (pl h1) (pa (pl h2) (Y0 1)))) (v1 pT))) <|Xs [Eb 7 true] [] 304 (v1 (pu (pl (show 0<(fP p0 p1 1).length from by (have hq:=jW (p0:=p0) (p1:=p1) (p2:=1) (by assumption) (by decide);omega))) pT)) ?_
 refine Tri.cond_true (by kernel_rfl) <|Xs [Ek 2 .u8 ((fP p0 p1 1).getD 0 0)] [7,3] 368 (v1 (pu (pl (show (0:Int)≤0∧0<((fP p0 p1 1).length:Int) from by (have hq:=jW (p0:=p0) (p1:=p1) (p2:=1) (by assumption) (by decide);omega))) (pu (pl (show 0<(fP p0 p1 1).length from by (have hq:=jW (p0:=p0) (p1:=p1) (p2:=1) (by assumption) (by decide);omega))) (v1 pT)))) ?_
 exact Xy (r':=⟨.sc (.i .u8 ((fP p0 p1 1).getD 0 0)),[some (.cells [.ro .u8 (iI p0 p1 1),.b p1])]⟩) [(0,0)] pz (by simp only [dV,bG,bI,h1,h2,aC,aB])
def fe (p0:List Int) (p1:Bool):Bool :=
 (((dV p0 p1):Int) != 0)
def bD (p0:List Int) (p1:Bool):List Int :=
 (bG p0 p1)
def bN (p0:List Int) (p1:Bool):Bool :=
 (bI p0 p1)
def Bi:List AV→List Blk→Option (Prop × Ret)
 |[.sc (.p 0 0)],[.cells [.ro .u8 p0,.b p1]]=>some (True,⟨.sc (.b (fe p0 p1)),[some (.cells [.ro .u8 (bD p0 p1),.b (bN p0 p1)])]⟩)
 |_,_=>none
theorem CW:Known Tryz.prog gD 78 ⟨1,0,Bi⟩:=by
 refine Xw Tryz.f78 6 (Zc Bf 48 [.io] [] [0] <|Zn) mixed <|fun E args ks C r h hC hlen=>?_
 simp only at h
 unfold Bi at h
 split at h
 rotate_left
 cases h
 rename_i p0 p1
 cases h
 simp only [aj] at hlen
 refine ⟨rfl,?_⟩
 exact Xs [] [] 32 (v1 pT) <|Xt [Eb 2 (((dV p0 p1):Int) != 0)] [0] [Mc 0 [.ro .u8 (bG p0 p1),.b (bI p0 p1)]] [0] 96 (v1 (pu pz (v2 pT))) <|Xz [(0,0)] pz
def AL (p0:List Int) (p1:Bool):Bool :=
 (!p1)
def Id:List AV→List Blk→Option (Prop × Ret)
 |[.sc (.p 0 0)],[.cells [.ro .u8 p0,.b p1]]=>some (True,⟨.sc (.b (AL p0 p1)),[some (.cells [.ro .u8 p0,.b p1])]⟩)
 |_,_=>none
theorem JD:Known Tryz.prog gD 76 ⟨1,0,Id⟩:=by
 refine Xw Tryz.f76 12 Zn mixed <|fun E args ks C r h hC hlen=>?_
 simp only at h
 unfold Id at h
 split at h
 rotate_left
 cases h
 rename_i p0 p1
 cases h
 simp only [aj] at hlen
 refine ⟨rfl,?_⟩
 exact Xs [] [] 32 (v1 pT) <|Xs [Eb 2 (!p1)] [0] 192 (v6 (pu (Yl 1 2) (v3 pT))) <|Xz [(0,0)] pz
def fW (p0:List Int) (p1:Bool):Bool :=
 (sel (AL p0 p1) ((((p0.length:Nat):Int):Int)==0) false)
def Fl:List AV→List Blk→Option (Prop × Ret)
 |[.sc (.p 0 0)],[.cells [.ro .u8 p0,.b p1]]=>some (True,⟨.sc (.b (fW p0 p1)),[some (.cells [.ro .u8 p0,.b p1])]⟩)
 |_,_=>none
theorem jq:Known Tryz.prog gD 44 ⟨1,0,Fl⟩:=by
 refine Xw Tryz.f44 13 (Zc JD 48 [.io] [] [0] <|Zn) mixed <|fun E args ks C r h hC hlen=>?_
 simp only at h
 unfold Fl at h
 split at h
 rotate_left
 cases h
 rename_i p0 p1
 cases h
 simp only [aj] at hlen
 refine ⟨rfl,?_⟩
 refine Xs [] [] 32 (v1 pT) <|Tri.split (AL p0 p1) (fun h1=>?_) (fun h1=>?_)
 exact Xu [Eb 5 true] none [Eb 2 ((((p0.length:Nat):Int):Int)==0)] [0] [] [] 208 (v1 (pu pz (pg h1 (v3 (pu (Yl 0 2) (v4 pT)))))) <|Xy [(0,0)] pz (by simp only [fW,h1,aC,aB] <;> rfl)
 exact Xu [Eb 5 false] none [Eb 2 false] [0] [] [] 208 (v1 (pu pz (pg h1 (v8 pT)))) <|Xy [(0,0)] pz (by simp only [fW,h1,aC,aB] <;> rfl)
def ko (p0:List Int) (p1:Bool) (k0:Nat) (z0:Int):Int :=
 (iOr .u32 (cd .u32 z0 8) (IntKind.wrap .u32 ((cP p0 p1 4).getD k0 0)))
def fa (p0:List Int) (p1:Bool):Int :=
 (itr (ko p0 p1) ((cP p0 p1 4).length) 0)
def dq (p0:List Int) (p1:Bool):List Int :=
 (dW p0 p1 4)
def ed (p0:List Int) (p1:Bool):Bool :=
 (eV p0 p1 4)
def Fa:List AV→List Blk→Option (Prop × Ret)
 |[.sc (.p 0 0)],[.cells [.ro .u8 p0,.b p1]]=>some (True,⟨.sc (.i .u32 (fa p0 p1)),[some (.cells [.ro .u8 (dq p0 p1),.b (ed p0 p1)])]⟩)
 |_,_=>none
theorem IC:Known Tryz.prog gD 75 ⟨1,0,Fa⟩:=by
 refine Xw Tryz.f75 20 (Zc uA 64 [.io,.val] [] [0] <|Zn) mixed <|fun E args ks C r h hC hlen=>?_
 simp only at h
 unfold Fa at h
 split at h
 rotate_left
 cases h
 rename_i p0 p1
 cases h
 simp only [aj] at hlen
 have hf0:(cP p0 p1 4).length≤4:=pm p0 p1 4
 refine ⟨rfl,?_⟩
 refine Xs [] [] 32 (v1 pT) <|Xs [Ek 3 .u32 0] [] 48 (v1 pT) <|Tri.seq <|Xt [Ei 9 0,Ej 8 ((cP p0 p1 4).length),Er 7 (cP p0 p1 4)] [0] [Mc 0 [.ro .u8 (dW p0 p1 4),.b (eV p0 p1 4)]] [0] 112 (v1 (pu (pa pT (Y0 4)) (v2 pT))) <|Tri.block <|Xc ((cP p0 p1 4).length) (ko p0 p1) 0 (fun k0 z0=>True) (fun k0 z0=>[Ej 9 k0,Ek 3 .u32 z0]) (fun k0 z0=>[]) trivial <|fun k0 z0 hk0 hz0 hJ0=>Xs [Eb 10 (decide ((((k0:Nat):Int):Int)<(((cP p0 p1 4).length:Nat):Int)))] [] 128 (v1 pT) <|Tri.seq <|Xb (fun h1 h1'=>?_) (fun h1 h1'=>?_)
 exact Tri.skip <|Tri.seq <|Tri.block <|Xs [Ek 5 .u8 ((cP p0 p1 4).getD k0 0)] [10] 176 (pu (Yj k0 ((cP p0 p1 4).length)) (pu (Yl k0 ((cP p0 p1 4).length)) (v1 pT))) <|Ws [Ek 3 .u32 (iOr .u32 (cd .u32 z0 8) (IntKind.wrap .u32 ((cP p0 p1 4).getD k0 0)))] [5,3] 272 (v1 (pu (Y0 8) (v4 pT))) <|Wu [Ej 18 (k0+1)] none [Ej 9 (k0+1)] [9] [] [] 304 (pv pT (Yp k0 1) (v1 pT)) <|Xo [] trivial
 refine Tri.exit <|?_
 obtain rfl:k0=((cP p0 p1 4).length):=(by omega);subst hz0
 exact Xs [Ek 2 .u32 (itr (ko p0 p1) ((cP p0 p1 4).length) 0)] [10,9,8,7,3] 160 (v2 pT) <|Xz [(0,0)] pz
theorem uO (p0:List Int) (p1:Bool):0≤fa p0 p1∧fa p0 p1<4294967296:=by
 have h0:∀ n,0≤itr (ko p0 p1) n 0∧itr (ko p0 p1) n 0<4294967296:=by
  intro n
  cases n with
  |zero=>rw [aX];decide
  |succ k=>rw [aP];unfold ko iOr;rw [uY];omega
 exact h0 _
theorem Cf (p0:List Int) (p1:Bool):0≤IntKind.wrap .i64 (fa p0 p1):=by
 have:=uO p0 p1
 rw [bn (by omega) (by omega)]
 exact this.1
def aR (p0:List Int) (p1:Bool):ByteArray :=
 (sel (decide (((fa p0 p1):Int)>16384)) (⟨#[]⟩:ByteArray) (bytesOf (cP (dq p0 p1) (ed p0 p1) (IntKind.wrap .i64 (fa p0 p1)))))
def aW (p0:List Int) (p1:Bool):List Int :=
 (sel (decide (((fa p0 p1):Int)>16384)) (dW (dq p0 p1) (ed p0 p1) 1073741824) (dW (dq p0 p1) (ed p0 p1) (IntKind.wrap .i64 (fa p0 p1))))
def af (p0:List Int) (p1:Bool):Bool :=
 (sel (decide (((fa p0 p1):Int)>16384)) (eV (dq p0 p1) (ed p0 p1) 1073741824) (eV (dq p0 p1) (ed p0 p1) (IntKind.wrap .i64 (fa p0 p1))))
def CC:List AV→List Blk→Option (Prop × Ret)
 |[.sc (.p 0 0)],[.cells [.ro .u8 p0,.b p1]]=>some (True,⟨.sc (.s (aR p0 p1)),[some (.cells [.ro .u8 (aW p0 p1),.b (af p0 p1)])]⟩)
 |_,_=>none
theorem eg:Known Tryz.prog gD 43 ⟨1,0,CC⟩:=by
 refine Xw Tryz.f43 15 (Zc uA 128 [.io,.val] [] [0] <|Zc uA 160 [.io,.val] [] [0] <|Zc IC 48 [.io] [] [0] <|Zn) mixed <|fun E args ks C r h hC hlen=>?_
 simp only at h
 unfold CC at h
 split at h
 rotate_left
 cases h
 rename_i p0 p1
 cases h
 simp only [aj] at hlen
 refine ⟨rfl,?_⟩
 refine Xs [] [] 32 (v1 pT) <|Xt [Ek 3 .u32 (fa p0 p1)] [] [Mc 0 [.ro .u8 (dq p0 p1),.b (ed p0 p1)]] [0] 80 (v1 (pu pz (v1 pT))) <|Tri.seq <|Xs [Eb 7 (decide (((fa p0 p1):Int)>16384))] [] 112 (v2 pT) <|Xb (fun h1 h1'=>?_) (fun h1 h1'=>?_)
 exact Xt [] [7,3,0] [Mc 0 [.ro .u8 (dW (dq p0 p1) (ed p0 p1) 1073741824),.b (eV (dq p0 p1) (ed p0 p1) 1073741824)]] [0] 144 (v1 (pu (pa pT (Y0 1073741824)) pT)) <|Xs [Es 2 (⟨#[]⟩:ByteArray)] [] 160 (v1 pT) <|Xy [(0,0)] pz (by simp only [aR,aW,af,h1,aC,aB] <;> rfl)
 exact Tri.skip <|Xt [Es 2 (bytesOf (cP (dq p0 p1) (ed p0 p1) (IntKind.wrap .i64 (fa p0 p1))))] [7,3,0] [Mc 0 [.ro .u8 (dW (dq p0 p1) (ed p0 p1) (IntKind.wrap .i64 (fa p0 p1))),.b (eV (dq p0 p1) (ed p0 p1) (IntKind.wrap .i64 (fa p0 p1)))]] [0] 208 (v3 (pu (pa pT (pl (show (0:Int)≤(IntKind.wrap .i64 (fa p0 p1)) from Cf _ _))) (v2 pT))) <|Xy [(0,0)] pz (by simp only [aR,aW,af,h1,aC,aB] <;> rfl)
theorem dG (p0:List Int) (p1:Bool):(aR p0 p1).size≤16384:=by
 unfold aR
 cases h:(decide (((fa p0 p1):Int)>16384))
 ·have h0:=of_decide_eq_false h
  have h1:=uO p0 p1
  have h2:=pm (dq p0 p1) (ed p0 p1) (IntKind.wrap .i64 (fa p0 p1))
  rw [bn (by omega) (by omega)] at h2 ⊢
  rw [aB]
  have h3:∀ xs:List Int,(bytesOf xs).size=xs.length:=fun xs=>by simp [bytesOf,ByteArray.size]
  rw [h3]
  omega
 ·rw [aC];decide
end Go.Vm
namespace Go.Vm
open Go Go.Proofs
def qM (p0:Int):List Int :=
 [(IntKind.wrap .u8 (fc .i64 p0 16777216)),(IntKind.wrap .u8 (fc .i64 p0 65536)),(IntKind.wrap .u8 (fc .i64 p0 256)),(IntKind.wrap .u8 p0)]
def BQ:List AV→List Blk→Option (Prop × Ret)
 |[.sc (.i .i64 p0)],[]=>some (True,⟨.sc (.sl 0 0 4 1 none),[some (.ints .u8 4 (qM p0))]⟩)
 |_,_=>none
theorem GR:Known Tryz.prog gD 113 ⟨0,1,BQ⟩:=by
 refine Xw Tryz.f113 15 Zn mixed <|fun E args ks C r h hC hlen=>?_
 simp only at h
 unfold BQ at h
 split at h
 rotate_left
 cases h
 rename_i p0
 cases h
 simp only [aj] at hlen
 refine ⟨rfl,?_⟩
 exact Xs [] [] 32 (v1 pT) <|Xt [El 2 208 4] [0] [Mi 208 4 [(IntKind.wrap .u8 (fc .i64 p0 16777216)),(IntKind.wrap .u8 (fc .i64 p0 65536)),(IntKind.wrap .u8 (fc .i64 p0 256)),(IntKind.wrap .u8 p0)]] [] 240 (v1 (pu (Yn 16777216) (v2 (pu (Yn 65536) (v2 (pu (Yn 256) (v3 (pu (Yf 4) (v1 pT))))))))) <|Xz [(208,0)] pz
def gK (p0:ByteArray):List Int :=
 (qM ((p0.size:Nat):Int))++(aF p0)
def xz:List AV→List Blk→Option (Prop × Ret)
 |[.sc (.s p0)],[]=>some ((p0.size≤1000000000),⟨.sc (.sl 0 0 (4+p0.size) 1 none),[some (.ints .u8 (4+p0.size) (gK p0))]⟩)
 |_,_=>none
theorem tz:Known Tryz.prog gD 70 ⟨0,1,xz⟩:=by
 refine Xw Tryz.f70 8 (Zv GR 64 1 <|Zn) mixed <|fun E args ks C r h hC hlen=>?_
 simp only at h
 unfold xz at h
 split at h
 rotate_left
 cases h
 rename_i p0
 cases h
 simp only [aj] at hlen
 refine ⟨rfl,?_⟩
 exact Xs [] [] 32 (v1 pT) <|Xt [El 2 96 (4+p0.size)] [0] [Mi 96 (4+p0.size) ((qM ((p0.size:Nat):Int))++(aF p0))] [] 128 (v2 (pu pz (v1 (pu (Ya pT 1 (4+p0.size) p0.size p0.size 4 4) (v1 pT))))) <|Xz [(96,0)] pz
theorem uq (s:ByteArray):(gK s).length=4+s.size:=by
 unfold gK
 rw [List.length_append,ai]
 rfl
theorem jO {α:Type}:∀ (p:List (List α)) (k:Nat),k<p.length→((p.take k).flatten.length+(p.getD k []).length≤p.flatten.length∧(p.take (k+1)).flatten=(p.take k).flatten++p.getD k [])
 |[],k,h=>absurd h (Nat.not_lt_zero k)
 |x :: p,0,_=>⟨by simp,by simp⟩
 |x :: p,k+1,h=>by
  obtain ⟨h1,h2⟩:=jO p k (by simpa using h)
  refine ⟨?_,?_⟩
  ·simp only [List.take_succ_cons,List.flatten_cons,List.length_append,List.getD_cons_succ];omega
  ·rw [List.take_succ_cons,List.take_succ_cons,List.flatten_cons,List.flatten_cons,h2,List.getD_cons_succ,List.append_assoc]
def fC (p0:List (List Int)) (k0:Nat) (z0:List Int):List Int :=
 z0++(p0.getD k0 [])
def mj (p0:List (List Int)):List Int :=
 (itr (fC p0) p0.length ([]:List Int))
def cM (p0:List (List Int)):Nat :=
 (itr (fC p0) p0.length ([]:List Int)).length
def yO:List AV→List Blk→Option (Prop × Ret)
 |[.sc (.rob p0)],[]=>some ((p0.flatten.length≤1000000000∧p0.length≤1000000000),⟨.sc (.sl 0 0 (cM p0) 1 none),[some (.ints .u8 (cM p0) (mj p0))]⟩)
 |_,_=>none
theorem EO:Known Tryz.prog gD 73 ⟨0,1,yO⟩:=by
 refine Xw Tryz.f73 18 Zn mixed <|fun E args ks C r h hC hlen=>?_
 simp only at h
 unfold yO at h
 split at h
 rotate_left
 cases h
 rename_i p0
 cases h
 simp only [aj] at hlen
 refine ⟨rfl,?_⟩
 refine Xs [] [] 32 (v1 pT) <|Xs [(3,.sc (.nils))] [] 48 (v1 pT) <|Tri.seq <|Xs [Ei 4 0] [] 64 (v1 pT) <|Tri.block <|Tri.sub (Sub.openNil (U:=64) (U':=80) 3 64 1 .u8 none (.inl rfl) (by decide) (by decide) (by kernel_rfl) (by kernel_rfl)) <|Xc p0.length (fC p0) ([]:List Int) (fun k0 z0=>z0=(p0.take k0).flatten) (fun k0 z0=>[El 3 64 z0.length,Ej 4 k0]) (fun k0 z0=>[Mi 64 z0.length z0]) rfl <|fun k0 z0 hk0 hz0 hJ0=>Tri.seq <|Xs [Eb 8 (decide ((((k0:Nat):Int):Int)<((p0.length:Nat):Int)))] [] 144 (v4 pT) <|Xb (fun h1 h1'=>?_) (fun h1 h1'=>?_)
 refine Tri.skip <|Tri.seq <|Tri.block <|Wt [El 3 224 (z0.length+((p0.getD k0 []).length))] [8,3] [Mi 224 (z0.length+((p0.getD k0 []).length)) (z0++(p0.getD k0 []))] [64] 256 (v3 (pu (Yj k0 p0.length) (v1 (pu (pa (pa (pa (Yz 1) (pa (Yl 0 1) (pa (pl (show (z0.length+((p0.getD k0 []).length))*1≤140737488355328 from by (have hq:=(jO p0 k0 (by omega)).1;rw [hJ0];omega))) (pl (show z0.length+((p0.getD k0 []).length)≤140737488355328 from by (have hq:=(jO p0 k0 (by omega)).1;rw [hJ0];omega)))))) (lo ((p0.getD k0 []).length=((p0.getD k0 []).length)*1))) (pa (Yr 1) (lo (0+z0.length*1=z0.length)))) (v1 pT))))) ?_
 exact Wu [Ej 10 (k0+1)] none [Ej 4 (k0+1)] [4] [] [] 304 (v1 (pv pT (Yp k0 1) (v1 pT))) <|Xp (by unfold fC;rw [hJ0,(jO p0 k0 (by omega)).2]) [(64,224)] [El 3 64 (z0.length+((p0.getD k0 []).length)),Ej 4 (k0+1)] [Mi 64 (z0.length+((p0.getD k0 []).length)) (z0++(p0.getD k0 []))] (by simp only [fC,h1,aC,aB,List.length_append,List.length_set,List.length_cons,List.length_nil,Nat.zero_add,Nat.reduceAdd]) (by simp only [fC,h1,aC,aB,List.length_append,List.length_set,List.length_cons,List.length_nil,Nat.zero_add,Nat.reduceAdd])
 refine Tri.exit <|?_
 obtain rfl:k0=p0.length:=(by omega);subst hz0
 exact Xs [El 2 64 ((itr (fC p0) p0.length ([]:List Int)).length)] [8,3,4,0] 176 (v2 pT) <|Xz [(64,0)] pz
theorem vQ (p0:List (List Int)):mj p0=p0.flatten:=by
 have h:∀ k,k≤p0.length→itr (fC p0) k []=(p0.take k).flatten:=by
  intro k
  induction k with
  |zero=>intro _;rw [aX];rfl
  |succ k ih=>intro hk;rw [aP,ih (by omega)];unfold fC;rw [(jO p0 k (by omega)).2]
 unfold mj
 rw [h p0.length (Nat.le_refl _),List.take_length]
def rE (p0:Nat) (p2:List Int) (p3:Int):List Int :=
 p2++[(IntKind.wrap .u8 (aJ .u32 p3 24)),(IntKind.wrap .u8 (aJ .u32 p3 16)),(IntKind.wrap .u8 (aJ .u32 p3 8)),(IntKind.wrap .u8 p3)]
def Bz:List AV→List Blk→Option (Prop × Ret)
 |[.sc (.sl 0 0 p0 1 none),.sc (.i .u32 p3)],[.ints .u8 p1 p2]=>some (((p0=p1)∧(p0≤1000000000)),⟨.sc (.sl 1 0 (p0+4) 1 none),[none,some (.ints .u8 (p0+4) (rE p0 p2 p3))]⟩)
 |_,_=>none
theorem GM:Known Tryz.prog gD 69 ⟨1,1,Bz⟩:=by
 refine Xw Tryz.f69 19 Zn mixed <|fun E args ks C r h hC hlen=>?_
 simp only at h
 unfold Bz at h
 split at h
 rotate_left
 cases h
 rename_i p0 p3 p1 p2
 cases h
 simp only [aj] at hlen
 obtain ⟨hEp1,hC⟩:=hC
 subst hEp1
 refine ⟨rfl,?_⟩
 exact Xs [] [] 32 (v1 pT) <|Xt [El 4 240 (p0+4)] [0,1] [Mi 240 (p0+4) (p2++[(IntKind.wrap .u8 (aJ .u32 p3 24)),(IntKind.wrap .u8 (aJ .u32 p3 16)),(IntKind.wrap .u8 (aJ .u32 p3 8)),(IntKind.wrap .u8 p3)])] [0] 272 (v2 (pu (Y0 24) (v2 (pu (Y0 16) (v2 (pu (Y0 8) (v3 (pu (Yf 4) (pu (Ya (Yw 4) 1 (p0+4) 4 4 p0 p0) (v1 pT)))))))))) <|Xz [(240,1)] pz
def mn (p3:Int):List Int :=
 [(IntKind.wrap .u8 (aJ .u32 p3 24)),(IntKind.wrap .u8 (aJ .u32 p3 16)),(IntKind.wrap .u8 (aJ .u32 p3 8)),(IntKind.wrap .u8 p3)]
def yd:List AV→List Blk→Option (Prop × Ret)
 |[.sc (.nils),.sc (.i .u32 p3)],[]=>some (True,⟨.sc (.sl 0 0 4 1 none),[some (.ints .u8 4 (mn p3))]⟩)
 |_,_=>none
theorem Ey:Known Tryz.prog gD 69 ⟨0,1,yd⟩:=by
 refine Xw Tryz.f69 19 Zn mixed <|fun E args ks C r h hC hlen=>?_
 simp only at h
 unfold yd at h
 split at h
 rotate_left
 cases h
 rename_i p3
 cases h
 simp only [aj] at hlen
 refine ⟨rfl,?_⟩
 exact Xs [] [] 32 (v1 pT) <|Xt [El 4 240 4] [0,1] [Mi 240 4 [(IntKind.wrap .u8 (aJ .u32 p3 24)),(IntKind.wrap .u8 (aJ .u32 p3 16)),(IntKind.wrap .u8 (aJ .u32 p3 8)),(IntKind.wrap .u8 p3)]] [] 272 (v2 (pu (Y0 24) (v2 (pu (Y0 16) (v2 (pu (Y0 8) (v3 (pu (Yf 4) (pu (YN (Yw 4) 1 4 4 4) (v1 pT)))))))))) <|Xz [(240,0)] pz
def cC (p0:Nat) (p2:List Int) (p3:ByteArray):List Int :=
 (rE p0 p2 (IntKind.wrap .u32 ((p3.size:Nat):Int)))++(aF p3)
def yH:List AV→List Blk→Option (Prop × Ret)
 |[.sc (.sl 0 0 p0 1 none),.sc (.s p3)],[.ints .u8 p1 p2]=>some (((p0=p1)∧(p0≤1000000000∧p3.size≤1000000000)),⟨.sc (.sl 1 0 ((p0+4)+p3.size) 1 none),[none,some (.ints .u8 ((p0+4)+p3.size) (cC p0 p2 p3))]⟩)
 |_,_=>none
theorem dQ:Known Tryz.prog gD 32 ⟨1,1,yH⟩:=by
 refine Xw Tryz.f32 12 (Zc GM 96 [.io,.val] [] [0] <|Zn) mixed <|fun E args ks C r h hC hlen=>?_
 simp only at h
 unfold yH at h
 split at h
 rotate_left
 cases h
 rename_i p0 p3 p1 p2
 cases h
 simp only [aj] at hlen
 obtain ⟨hEp1,hC⟩:=hC
 subst hEp1
 refine ⟨rfl,?_⟩
 exact Xs [] [] 32 (v1 pT) <|Xt [El 4 128 ((p0+4)+p3.size)] [0,1] [Mi 128 ((p0+4)+p3.size) ((rE p0 p2 (IntKind.wrap .u32 ((p3.size:Nat):Int)))++(aF p3))] [0] 160 (v4 (pu (pa pT (pa (Yr p0) (Ye p0 1000000000))) (v1 (pu (Ya pT 1 ((p0+4)+p3.size) p3.size p3.size (p0+4) (p0+4)) (v1 pT))))) <|Xz [(128,1)] pz
def el (p3:ByteArray):List Int :=
 (mn (IntKind.wrap .u32 ((p3.size:Nat):Int)))++(aF p3)
def ui:List AV→List Blk→Option (Prop × Ret)
 |[.sc (.nils),.sc (.s p3)],[]=>some ((p3.size≤1000000000),⟨.sc (.sl 0 0 (4+p3.size) 1 none),[some (.ints .u8 (4+p3.size) (el p3))]⟩)
 |_,_=>none
theorem rF:Known Tryz.prog gD 32 ⟨0,1,ui⟩:=by
 refine Xw Tryz.f32 12 (Zv Ey 96 2 <|Zn) mixed <|fun E args ks C r h hC hlen=>?_
 simp only at h
 unfold ui at h
 split at h
 rotate_left
 cases h
 rename_i p3
 cases h
 simp only [aj] at hlen
 refine ⟨rfl,?_⟩
 exact Xs [] [] 32 (v1 pT) <|Xt [El 4 128 (4+p3.size)] [0,1] [Mi 128 (4+p3.size) ((mn (IntKind.wrap .u32 ((p3.size:Nat):Int)))++(aF p3))] [] 160 (v4 (pu pz (v1 (pu (Ya pT 1 (4+p3.size) p3.size p3.size 4 4) (v1 pT))))) <|Xz [(128,0)] pz
def um (p0:Nat) (p2:List Int) (p3:List ByteArray):List Int :=
 (cC p0 p2 (jt p3 (⟨#[44]⟩:ByteArray)))
def ek (p0:Nat) (p2:List Int) (p3:List ByteArray):Nat :=
 (p0+4)+(jt p3 (⟨#[44]⟩:ByteArray)).size
def uo:List AV→List Blk→Option (Prop × Ret)
 |[.sc (.sl 0 0 p0 1 none),.sc (.ros p3)],[.ints .u8 p1 p2]=>some (((p0=p1)∧(p0≤1000000000∧p3.length≤1000000000∧(jt p3 (⟨#[44]⟩:ByteArray)).size≤1000000000)),⟨.sc (.sl 1 0 (ek p0 p2 p3) 1 none),[none,some (.ints .u8 (ek p0 p2 p3) (um p0 p2 p3))]⟩)
 |_,_=>none
theorem BP:Known Tryz.prog gD 83 ⟨1,1,uo⟩:=by
 refine Xw Tryz.f83 9 (Zc dQ 80 [.io,.val] [] [0] <|Zc Ho 64 [.ros,.val] [] [] <|Zn) mixed <|fun E args ks C r h hC hlen=>?_
 simp only at h
 unfold uo at h
 split at h
 rotate_left
 cases h
 rename_i p0 p3 p1 p2
 cases h
 simp only [aj] at hlen
 obtain ⟨hEp1,hC⟩:=hC
 subst hEp1
 refine ⟨rfl,?_⟩
 exact Xs [] [] 32 (v1 pT) <|Xt [El 4 80 ((p0+4)+(jt p3 (⟨#[44]⟩:ByteArray)).size)] [0,1] [Mi 80 ((p0+4)+(jt p3 (⟨#[44]⟩:ByteArray)).size) (cC p0 p2 (jt p3 (⟨#[44]⟩:ByteArray)))] [0] 112 (v2 (pu (pa pT (lo (p3.length≤1000000000∧(jt p3 (⟨#[44]⟩:ByteArray)).size≤1000000000))) (pu (pa pT (pa (Yr p0) (lo (p0≤1000000000∧(jt p3 (⟨#[44]⟩:ByteArray)).size≤1000000000)))) (v1 pT)))) <|Xz [(80,1)] pz
def ff (p0:Nat) (p2:List Int) (p3:Bool):List Int :=
 (sel p3 (p2++[1]) (p2++[0]))
def yu:List AV→List Blk→Option (Prop × Ret)
 |[.sc (.sl 0 0 p0 1 none),.sc (.b p3)],[.ints .u8 p1 p2]=>some (((p0=p1)∧(p0≤1000000000)),⟨.sc (.sl 1 0 (p0+1) 1 none),[none,some (.ints .u8 (p0+1) (ff p0 p2 p3))]⟩)
 |_,_=>none
theorem mv:Known Tryz.prog gD 33 ⟨1,1,yu⟩:=by
 refine Xw Tryz.f33 12 Zn mixed <|fun E args ks C r h hC hlen=>?_
 simp only at h
 unfold yu at h
 split at h
 rotate_left
 cases h
 rename_i p0 p3 p1 p2
 cases h
 simp only [aj] at hlen
 obtain ⟨hEp1,hC⟩:=hC
 subst hEp1
 refine ⟨rfl,?_⟩
 refine Xs [] [] 32 (v1 pT) <|Tri.seq <|Xs [Eb 5 p3] [1] 48 (v1 pT) <|Xa (fun h1=>?_) (fun h1=>?_)
 exact Xt [El 4 80 (p0+1)] [5,0] [Mi 80 (p0+1) (p2++[1])] [0] 112 (v1 (pu (Yf 1) (pu (Ya (Yw 1) 1 (p0+1) 1 1 p0 p0) (v1 pT)))) <|Xy [(80,1)] pz (by simp only [ff,h1,aC,aB] <;> rfl)
 exact Tri.skip <|Xt [El 4 80 (p0+1)] [5,0] [Mi 80 (p0+1) (p2++[0])] [0] 112 (v1 (pu (Yf 1) (pu (Ya (Yw 1) 1 (p0+1) 1 1 p0 p0) (v1 pT)))) <|Xy [(80,1)] pz (by simp only [ff,h1,aC,aB] <;> rfl)
end Go.Vm
namespace Go.Vm
open Go Go.Proofs
def bM (p0:Nat) (p2:List Int):List Int :=
 aA p2 p0 0 p0
def yi:List AV→List Blk→Option (Prop × Ret)
 |[.sc (.sl 0 0 p0 1 none)],[.ints .u8 p1 p2]=>some (((p0=p1)∧True),⟨.sc (.p 1 0),[none,some (.cells [.ro .u8 (bM p0 p2),.b false])]⟩)
 |_,_=>none
theorem tP:Known Tryz.prog gD 41 ⟨1,1,yi⟩:=by
 refine Xw Tryz.f41 6 Zn mixed <|fun E args ks C r h hC hlen=>?_
 simp only at h
 unfold yi at h
 split at h
 rotate_left
 cases h
 rename_i p0 p1 p2
 cases h
 simp only [aj] at hlen
 obtain ⟨hEp1,hC⟩:=hC
 subst hEp1
 refine ⟨rfl,?_⟩
 refine Tri.sub (Xf 0 (.ints .u8 p0 p2) (show 0+p0≤p0 from by first|omega|(rw [dU];omega)|exact db _ _|exact dc _ _|exact aK (by omega) (by first|omega|(simp only [List.length_append];omega))|decide)) ?_
 exact Xs [] [] 32 (v1 pT) <|Xt [Ep 2 64] [0] [Mc 64 [.ro .u8 (aA p2 p0 0 p0),.b false]] [] 96 (v1 (pu (pa (Ys 0 2) pT) (v2 pT))) <|Xz [(64,1)] pz
def vG:List Int :=
 (el (⟨#[115,115,104,45,101,100,50,53,53,49,57]⟩:ByteArray))
def ph (p0:ByteArray):List Int :=
 (cC (4+(⟨#[115,115,104,45,101,100,50,53,53,49,57]⟩:ByteArray).size) (vG) p0)
def cA (p0:ByteArray):ByteArray :=
 (bytesOf (((ph p0).drop 0).take (((4+(⟨#[115,115,104,45,101,100,50,53,53,49,57]⟩:ByteArray).size)+4)+p0.size)))
def Ar:List AV→List Blk→Option (Prop × Ret)
 |[.sc (.s p0)],[]=>some ((p0.size≤1000000000),⟨.sc (.s (cA p0)),[]⟩)
 |_,_=>none
theorem AK:Known Tryz.prog gD 29 ⟨0,0,Ar⟩:=by
 refine Xw Tryz.f29 7 (Zv rF 32 2 <|Zc dQ 64 [.io,.val] [] [32] <|Zn) mixed <|fun E args ks C r h hC hlen=>?_
 simp only at h
 unfold Ar at h
 split at h
 rotate_left
 cases h
 rename_i p0
 cases h
 simp only [aj] at hlen
 have sz:(⟨#[115,115,104,45,101,100,50,53,53,49,57]⟩:ByteArray).size=11:=rfl
 refine ⟨rfl,?_⟩
 exact Xs [] [] 32 (v1 pT) <|Xs [Es 2 (bytesOf (((ph p0).drop 0).take (((4+(⟨#[115,115,104,45,101,100,50,53,53,49,57]⟩:ByteArray).size)+4)+p0.size)))] [0] 112 (pu (pa pT (Ye ((⟨#[115,115,104,45,101,100,50,53,53,49,57]⟩:ByteArray).size) 1000000000)) (v1 (pu (pa pT (pa (Yr (4+(⟨#[115,115,104,45,101,100,50,53,53,49,57]⟩:ByteArray).size)) (lo ((4+(⟨#[115,115,104,45,101,100,50,53,53,49,57]⟩:ByteArray).size)≤1000000000∧p0.size≤1000000000)))) (pu (Yw (((4+(⟨#[115,115,104,45,101,100,50,53,53,49,57]⟩:ByteArray).size)+4)+p0.size)) (v1 pT))))) <|Xz [] pz
theorem jn (s:ByteArray):(cA s).size≤s.size+19:=by
 have sz:(⟨#[115,115,104,45,101,100,50,53,53,49,57]⟩:ByteArray).size=11:=rfl
 unfold cA
 rw [ag,List.length_take,sz]
 omega
def nn:List Int :=
 (gK (⟨#[115,115,104,45,101,100,50,53,53,49,57]⟩:ByteArray))
def az (p0:ByteArray):ByteArray :=
 (bytesOf ((((nn)++(aA (gK p0) (4+p0.size) 0 (4+p0.size))).drop 0).take ((4+(⟨#[115,115,104,45,101,100,50,53,53,49,57]⟩:ByteArray).size)+(4+p0.size))))
def xv:List AV→List Blk→Option (Prop × Ret)
 |[.sc (.s p0)],[]=>some ((p0.size≤1000000000),⟨.sc (.s (az p0)),[]⟩)
 |_,_=>none
theorem tS:Known Tryz.prog gD 37 ⟨0,0,xv⟩:=by
 refine Xw Tryz.f37 8 (Zv tz 32 1 <|Zv tz 64 1 <|Zn) mixed <|fun E args ks C r h hC hlen=>?_
 simp only at h
 unfold xv at h
 split at h
 rotate_left
 cases h
 rename_i p0
 cases h
 simp only [aj] at hlen
 have sz:(⟨#[115,115,104,45,101,100,50,53,53,49,57]⟩:ByteArray).size=11:=rfl
 refine ⟨rfl,?_⟩
 exact Xs [] [] 32 (v1 pT) <|Xs [Es 2 (bytesOf ((((nn)++(aA (gK p0) (4+p0.size) 0 (4+p0.size))).drop 0).take ((4+(⟨#[115,115,104,45,101,100,50,53,53,49,57]⟩:ByteArray).size)+(4+p0.size))))] [0] 128 (pu (pa pT (Ye ((⟨#[115,115,104,45,101,100,50,53,53,49,57]⟩:ByteArray).size) 1000000000)) (v1 (pu (pa pT (Ye p0.size 1000000000)) (pu (Ya (Yw (4+p0.size)) 1 ((4+(⟨#[115,115,104,45,101,100,50,53,53,49,57]⟩:ByteArray).size)+(4+p0.size)) (4+p0.size) (4+p0.size) (4+(⟨#[115,115,104,45,101,100,50,53,53,49,57]⟩:ByteArray).size) (4+(⟨#[115,115,104,45,101,100,50,53,53,49,57]⟩:ByteArray).size)) (pu (Yw ((4+(⟨#[115,115,104,45,101,100,50,53,53,49,57]⟩:ByteArray).size)+(4+p0.size))) (v1 pT)))))) <|Xz [] pz
def yF:List Int :=
 (el (⟨#[115,115,104,45,101,100,50,53,53,49,57]⟩:ByteArray))
def uN (p0:List Int):List Int :=
 (cC (4+(⟨#[115,115,104,45,101,100,50,53,53,49,57]⟩:ByteArray).size) (yF) (bytesOf p0))
def rC (p0:List Int):ByteArray :=
 (bytesOf (((uN p0).drop 0).take (((4+(⟨#[115,115,104,45,101,100,50,53,53,49,57]⟩:ByteArray).size)+4)+(bytesOf p0).size)))
def Fg:List AV→List Blk→Option (Prop × Ret)
 |[.sc (.ro .u8 p0)],[]=>some ((p0.length≤1000000000),⟨.sc (.s (rC p0)),[]⟩)
 |_,_=>none
theorem Is:Known Tryz.prog gD 35 ⟨0,0,Fg⟩:=by
 refine Xw Tryz.f35 8 (Zv rF 32 2 <|Zc dQ 80 [.io,.val] [] [32] <|Zn) mixed <|fun E args ks C r h hC hlen=>?_
 simp only at h
 unfold Fg at h
 split at h
 rotate_left
 cases h
 rename_i p0
 cases h
 simp only [aj] at hlen
 have sz:(⟨#[115,115,104,45,101,100,50,53,53,49,57]⟩:ByteArray).size=11:=rfl
 refine ⟨rfl,?_⟩
 refine Xs [] [] 32 (v1 pT) <|Xu [] (some [0,0,2,7,15,31]) [Es 2 (bytesOf (((uN p0).drop 0).take (((4+(⟨#[115,115,104,45,101,100,50,53,53,49,57]⟩:ByteArray).size)+4)+(bytesOf p0).size)))] [0] [] [] 128 (pu (pa pT (Ye ((⟨#[115,115,104,45,101,100,50,53,53,49,57]⟩:ByteArray).size) 1000000000)) (v2 (pu (pa pT (pa (Yr (4+(⟨#[115,115,104,45,101,100,50,53,53,49,57]⟩:ByteArray).size)) (pl (show (4+(⟨#[115,115,104,45,101,100,50,53,53,49,57]⟩:ByteArray).size)≤1000000000∧(bytesOf p0).size≤1000000000 from by (rw [ag];omega))))) (pu (Yw (((4+(⟨#[115,115,104,45,101,100,50,53,53,49,57]⟩:ByteArray).size)+4)+(bytesOf p0).size)) (v1 pT))))) ?_
 exact Xz [] pz
def fl (p0:ByteArray):ByteArray :=
 (aR (aW (bM p0.size (aF p0)) false) (af (bM p0.size (aF p0)) false))
def jh (p0:ByteArray):List Int :=
 (aW (aW (bM p0.size (aF p0)) false) (af (bM p0.size (aF p0)) false))
def jZ (p0:ByteArray):Bool :=
 (af (aW (bM p0.size (aF p0)) false) (af (bM p0.size (aF p0)) false))
def bV (p0:ByteArray):ByteArray :=
 (sel (!(fW (jh p0) (jZ p0))) (⟨#[]⟩:ByteArray) (sel (!(aQ (aR (bM p0.size (aF p0)) false) (⟨#[115,115,104,45,101,100,50,53,53,49,57]⟩:ByteArray))) (⟨#[]⟩:ByteArray) (sel (((((fl p0).size:Nat):Int):Int) != 32) (⟨#[]⟩:ByteArray) (fl p0))))
def qP:List AV→List Blk→Option (Prop × Ret)
 |[.sc (.s p0)],[]=>some ((p0.size≤1000000000),⟨.sc (.s (bV p0)),[]⟩)
 |_,_=>none
theorem xA:Known Tryz.prog gD 80 ⟨0,0,qP⟩:=by
 refine Xw Tryz.f80 26 (Zc tP 64 [.io] [] [48] <|Zc eg 112 [.io] [] [64] <|Zc eg 144 [.io] [] [64] <|Zc jq 208 [.io] [] [64] <|Zn) mixed <|fun E args ks C r h hC hlen=>?_
 simp only at h
 unfold qP at h
 split at h
 rotate_left
 cases h
 rename_i p0
 cases h
 simp only [aj] at hlen
 refine ⟨rfl,?_⟩
 refine Xs [] [] 32 (v1 pT) <|Xt [Ep 3 64] [0] [Mc 64 [.ro .u8 (bM p0.size (aF p0)),.b false]] [] 96 (v2 (pu (pa pT (pa (Yr p0.size) pT)) (v1 pT))) <|Xt [Es 5 (fl p0),Es 4 (aR (bM p0.size (aF p0)) false)] [] [Mc 64 [.ro .u8 (jh p0),.b (jZ p0)]] [64] 192 (v1 (pu pz (v1 (pu pz (v2 pT))))) <|Tri.seq <|Tri.split (!(fW (jh p0) (jZ p0))) (fun h1=>?_) (fun h1=>?_)
 exact Xu [Eb 16 true] none [Eb 24 true] [4,3] [] [64] 384 (v1 (pu pz (v1 (pg h1 (v8 pT))))) <|Tri.cond_true (by kernel_rfl) <|Xs [Es 2 (⟨#[]⟩:ByteArray)] [24,5] 400 (v1 pT) <|Xy [] pz (by simp only [bV,h1,aC,aB] <;> rfl)
 refine Tri.split (!(aQ (aR (bM p0.size (aF p0)) false) (⟨#[115,115,104,45,101,100,50,53,53,49,57]⟩:ByteArray))) (fun h2=>?_) (fun h2=>?_)
 exact Xu [Eb 16 false,Eb 20 true] none [Eb 24 true] [4,3] [] [64] 384 (v1 (pu pz (v1 (pg h1 (v3 (pg h2 (v4 pT))))))) <|Tri.cond_true (by kernel_rfl) <|Xs [Es 2 (⟨#[]⟩:ByteArray)] [24,5] 400 (v1 pT) <|Xy [] pz (by simp only [bV,h1,h2,aC,aB] <;> rfl)
 refine Xu [Eb 16 false,Eb 20 false] none [Eb 24 (((((fl p0).size:Nat):Int):Int) != 32)] [4,3] [] [64] 384 (v1 (pu pz (v1 (pg h1 (v3 (pg h2 (v4 pT))))))) <|Xa (fun h3=>?_) (fun h3=>?_)
 have h3':=cT h3
 exact Xs [Es 2 (⟨#[]⟩:ByteArray)] [24,5] 400 (v1 pT) <|Xy [] pz (by simp only [bV,h1,h2,h3,aC,aB] <;> rfl)
 have h3':=bU h3
 exact Tri.skip <|Xs [Es 2 (fl p0)] [24,5] 416 (v2 pT) <|Xy [] pz (by simp only [bV,h1,h2,h3,aC,aB] <;> rfl)
def gT (p0:ByteArray):ByteArray :=
 (aR (aW (bM p0.size (aF p0)) false) (af (bM p0.size (aF p0)) false))
def il (p0:ByteArray):List Int :=
 (aW (aW (bM p0.size (aF p0)) false) (af (bM p0.size (aF p0)) false))
def ia (p0:ByteArray):Bool :=
 (af (aW (bM p0.size (aF p0)) false) (af (bM p0.size (aF p0)) false))
def kQ (p0:ByteArray):Bool:=sel (!(fW (il p0) (ia p0))) true (sel (!(aQ (aR (bM p0.size (aF p0)) false) (⟨#[115,115,104,45,101,100,50,53,53,49,57]⟩:ByteArray))) true (((((gT p0).size:Nat):Int):Int) != 64))
theorem yU {p0:ByteArray} (h:kQ p0=false):(!(fW (il p0) (ia p0)))=false∧(!(aQ (aR (bM p0.size (aF p0)) false) (⟨#[115,115,104,45,101,100,50,53,53,49,57]⟩:ByteArray)))=false∧(((((gT p0).size:Nat):Int):Int) != 64)=false:=by
 unfold kQ at h
 revert h
 generalize (!(fW (il p0) (ia p0)))=a
 generalize (!(aQ (aR (bM p0.size (aF p0)) false) (⟨#[115,115,104,45,101,100,50,53,53,49,57]⟩:ByteArray)))=b
 generalize (((((gT p0).size:Nat):Int):Int) != 64)=c
 intro h
 cases a
 ·cases b
  ·rw [aB,aB] at h;exact ⟨rfl,rfl,h⟩
  ·rw [aB,aC] at h;cases h
 ·rw [aC] at h;cases h
theorem EY {p0:ByteArray} (h:kQ p0=true) (h1:(!(fW (il p0) (ia p0)))=false) (h2:(!(aQ (aR (bM p0.size (aF p0)) false) (⟨#[115,115,104,45,101,100,50,53,53,49,57]⟩:ByteArray)))=false):(((((gT p0).size:Nat):Int):Int) != 64)=true:=by
 unfold kQ at h
 rw [h1,h2,aB,aB] at h
 exact h
def ao (p0:ByteArray):ByteArray :=
 (aR (aW (bM p0.size (aF p0)) false) (af (bM p0.size (aF p0)) false))
def lR (p0:ByteArray):List Int :=
 (aW (aW (bM p0.size (aF p0)) false) (af (bM p0.size (aF p0)) false))
def lO (p0:ByteArray):Bool :=
 (af (aW (bM p0.size (aF p0)) false) (af (bM p0.size (aF p0)) false))
def gM (p0:ByteArray):List Int :=
 aF (ao p0)
def oN:List AV→List Blk→Option (Prop × Ret)
 |[.sc (.s p0)],[]=>some ((((kQ p0)=false)∧(p0.size≤1000000000)),⟨.sc (.sl 0 0 ((ao p0).size) 1 none),[some (.ints .u8 ((ao p0).size) (gM p0))]⟩)
 |_,_=>none
theorem kO:Known Tryz.prog gD 81 ⟨0,1,oN⟩:=by
 refine Xw Tryz.f81 27 (Zc tP 64 [.io] [] [48] <|Zc eg 112 [.io] [] [64] <|Zc eg 144 [.io] [] [64] <|Zc jq 208 [.io] [] [64] <|Zn) mixed <|fun E args ks C r h hC hlen=>?_
 simp only at h
 unfold oN at h
 split at h
 rotate_left
 cases h
 rename_i p0
 cases h
 simp only [aj] at hlen
 have hG0:=hC.1
 have hC:=hC.2
 have hsig:=yU hG0
 refine ⟨rfl,?_⟩
 refine Xs [] [] 32 (v1 pT) <|Xt [Ep 3 64] [0] [Mc 64 [.ro .u8 (bM p0.size (aF p0)),.b false]] [] 96 (v2 (pu (pa pT (pa (Yr p0.size) pT)) (v1 pT))) <|Xt [Es 5 (ao p0),Es 4 (aR (bM p0.size (aF p0)) false)] [] [Mc 64 [.ro .u8 (lR p0),.b (lO p0)]] [64] 192 (v1 (pu pz (v1 (pu pz (v2 pT))))) <|Tri.seq <|Xu [Eb 16 false,Eb 20 false] none [Eb 24 (((((ao p0).size:Nat):Int):Int) != 64)] [4,3] [] [64] 384 (v1 (pu pz (v1 (pv pT (pl (show (!(fW (lR p0) (lO p0)))=false from hsig.1)) (v3 (pv pT (pl (show (!(aQ (aR (bM p0.size (aF p0)) false) (⟨#[115,115,104,45,101,100,50,53,53,49,57]⟩:ByteArray)))=false from hsig.2.1)) (v4 pT))))))) <|Tri.cond (x:=(((((ao p0).size:Nat):Int):Int) != 64)) (by kernel_rfl) (fun h=>absurd (h.symm.trans hsig.2.2) (by decide)) (fun h=>?_)
 exact Tri.skip <|Xt [El 2 400 ((ao p0).size)] [24,5] [Mi 400 ((ao p0).size) (aF (ao p0))] [] 432 (v3 pT) <|Xz [(400,0)] pz
theorem EV {p0:ByteArray} (h:kQ p0=false):0<(ao p0).size:=by
 have h3:=bU (yU h).2.2
 have e:(ao p0).size=(gT p0).size:=rfl
 omega
def ir (p0:ByteArray):ByteArray :=
 (aR (aW (bM p0.size (aF p0)) false) (af (bM p0.size (aF p0)) false))
def lN (p0:ByteArray):List Int :=
 (aW (aW (bM p0.size (aF p0)) false) (af (bM p0.size (aF p0)) false))
def lK (p0:ByteArray):Bool :=
 (af (aW (bM p0.size (aF p0)) false) (af (bM p0.size (aF p0)) false))
def oh:List AV→List Blk→Option (Prop × Ret)
 |[.sc (.s p0)],[]=>some ((((kQ p0)=true)∧(p0.size≤1000000000)),⟨.sc (.nils),[]⟩)
 |_,_=>none
theorem uU:Known Tryz.prog gD 81 ⟨0,0,oh⟩:=by
 refine Xw Tryz.f81 27 (Zc tP 64 [.io] [] [48] <|Zc eg 112 [.io] [] [64] <|Zc eg 144 [.io] [] [64] <|Zc jq 208 [.io] [] [64] <|Zn) mixed <|fun E args ks C r h hC hlen=>?_
 simp only at h
 unfold oh at h
 split at h
 rotate_left
 cases h
 rename_i p0
 cases h
 simp only [aj] at hlen
 have hG0:=hC.1
 have hC:=hC.2
 refine ⟨rfl,?_⟩
 refine Xs [] [] 32 (v1 pT) <|Xt [Ep 3 64] [0] [Mc 64 [.ro .u8 (bM p0.size (aF p0)),.b false]] [] 96 (v2 (pu (pa pT (pa (Yr p0.size) pT)) (v1 pT))) <|Xt [Es 5 (ir p0),Es 4 (aR (bM p0.size (aF p0)) false)] [] [Mc 64 [.ro .u8 (lN p0),.b (lK p0)]] [64] 192 (v1 (pu pz (v1 (pu pz (v2 pT))))) <|Tri.seq <|Tri.split (!(fW (lN p0) (lK p0))) (fun h1=>?_) (fun h1=>?_)
 exact Xu [Eb 16 true] none [Eb 24 true] [4,3] [] [64] 384 (v1 (pu pz (v1 (pg h1 (v8 pT))))) <|Tri.cond_true (by kernel_rfl) <|Xs [(2,.sc (.nils))] [24,5] 400 (v1 pT) <|Xy [] pz rfl
 refine Tri.split (!(aQ (aR (bM p0.size (aF p0)) false) (⟨#[115,115,104,45,101,100,50,53,53,49,57]⟩:ByteArray))) (fun h2=>?_) (fun h2=>?_)
 exact Xu [Eb 16 false,Eb 20 true] none [Eb 24 true] [4,3] [] [64] 384 (v1 (pu pz (v1 (pg h1 (v3 (pg h2 (v4 pT))))))) <|Tri.cond_true (by kernel_rfl) <|Xs [(2,.sc (.nils))] [24,5] 400 (v1 pT) <|Xy [] pz rfl
 refine Xu [Eb 16 false,Eb 20 false] none [Eb 24 (((((ir p0).size:Nat):Int):Int) != 64)] [4,3] [] [64] 384 (v1 (pu pz (v1 (pg h1 (v3 (pg h2 (v4 pT))))))) <|Tri.cond (x:=(((((ir p0).size:Nat):Int):Int) != 64)) (by kernel_rfl) (fun h=>?_) (fun h=>absurd (h.symm.trans (EY hG0 h1 h2)) (by decide))
 exact Xs [(2,.sc (.nils))] [24,5] 400 (v1 pT) <|Xy [] pz rfl
end Go.Vm
namespace Go.Vm
open Go Go.Proofs
def qJ (p0:Int) (k0:Nat) (z0:List Int):List Int :=
 z0.set k0 p0
def nA (p0:Int):List Int :=
 (itr (qJ p0) 32 (List.replicate 32 0))
def dt (p0:Int):ByteArray :=
 (bytesOf (((nA p0).drop 0).take 32))
def DB:List AV→List Blk→Option (Prop × Ret)
 |[.sc (.i .u8 p0)],[]=>some (True,⟨.sc (.s (dt p0)),[]⟩)
 |_,_=>none
theorem Ak:Known Tryz.prog gD 25 ⟨0,0,DB⟩:=by
 refine Xw Tryz.f25 18 Zn mixed <|fun E args ks C r h hC hlen=>?_
 simp only at h
 unfold DB at h
 split at h
 rotate_left
 cases h
 rename_i p0
 cases h
 simp only [aj] at hlen
 refine ⟨rfl,?_⟩
 refine Xs [] [] 32 (v1 pT) <|Xt [El 3 32 32] [] [Mi 32 32 (List.replicate 32 0)] [] 64 (pu (pa (lo ((0:Int)≤32∧(32:Int)=32)) (pa (lo (32≤(140737488355328:Int))) (lo (((1:Nat):Int)*32≤281474976710656)))) (v1 pT)) <|Tri.seq <|Xs [Ei 8 0,Ei 7 32] [] 112 (v3 pT) <|Tri.block <|Xc 32 (qJ p0) (List.replicate 32 0) (fun k0 z0=>True) (fun k0 z0=>[Ej 8 k0]) (fun k0 z0=>[Mi 32 32 z0]) trivial <|fun k0 z0 hk0 hz0 hJ0=>Xs [Eb 9 (decide ((((k0:Nat):Int):Int)<32))] [] 128 (v1 pT) <|Tri.seq <|Xb (fun h1 h1'=>?_) (fun h1 h1'=>?_)
 exact Tri.skip <|Tri.seq <|Tri.block <|Xs [Ej 4 k0] [9] 160 (v2 pT) <|Wt [] [4] [Mi 32 32 (z0.set k0 p0)] [32] 240 (v3 (pu (Yj k0 32) (pu (Ys k0 32) pT))) <|Wu [Ej 15 (k0+1)] none [Ej 8 (k0+1)] [8] [] [] 272 (pv pT (Yp k0 1) (v1 pT)) <|Xo [] trivial
 refine Tri.exit <|?_
 obtain rfl:k0=32:=(by omega);obtain rfl:z0=(nA p0):=hz0
 exact Xt [Es 2 (bytesOf (((nA p0).drop 0).take 32))] [9,8,7,3,0] [] [32] 176 (v1 (pu (Yw 32) (v1 pT))) <|Xz [] pz
theorem zq (c:Int):(dt c).size=32:=by
 have h:∀ (f:Nat→List Int→List Int) (hf:∀ k z,(f k z).length=z.length) (n:Nat) (z:List Int),(itr f n z).length=z.length:=by
  intro f hf n z
  induction n with
  |zero=>rw [aX]
  |succ n ih=>rw [aP,hf,ih]
 unfold dt nA
 rw [ag,List.length_take,List.drop_zero,h _ (fun k z=>by unfold qJ;rw [List.length_set])]
 decide
theorem vL (c:Int):(aA (aF (dt c)) (dt c).size 0 (dt c).size).length=32:=by rw [aV (ai _),ai,zq]
def nT:List Int :=
 (qS (aA (aF (dt 107)) ((dt 107).size) 0 ((dt 107).size)))
def sE:List Int :=
 (qS (aA (aF (dt 99)) ((dt 99).size) 0 ((dt 99).size)))
def pE:ByteArray :=
 (bytesOf (((nT).drop 0).take 32))
def kl:ByteArray :=
 (bytesOf (((sE).drop 0).take 32))
def UA:List Sc:=[.s (⟨#[97,110,110]⟩:ByteArray),.s (⟨#[115,101,99,114,101,116]⟩:ByteArray),.s (⟨#[]⟩:ByteArray),.nils,.s (⟨#[98,111,98]⟩:ByteArray),.s (⟨#[]⟩:ByteArray),.s (pE),.nils,.s (⟨#[99,121]⟩:ByteArray),.s (⟨#[119,111,114,100]⟩:ByteArray),.s (kl),.nils,.s (⟨#[110,105,108]⟩:ByteArray),.s (⟨#[]⟩:ByteArray),.s (⟨#[]⟩:ByteArray),.nils]
def yR:List AV→List Blk→Option (Prop × Ret)
 |[],[]=>some (True,⟨.sc (.sl 0 0 4 4 none),[some (.cells UA)]⟩)
 |_,_=>none
theorem EN:Known Tryz.prog gD 19 ⟨0,1,yR⟩:=by
 refine Xw Tryz.f19 16 (Zc FD 64 [.ro .u8] [48] [] <|Zc FD 192 [.ro .u8] [176] [] <|Zv Ak 32 1 <|Zv Ak 160 1 <|Zn) mixed <|fun E args ks C r h hC hlen=>?_
 simp only at h
 unfold yR at h
 split at h
 rotate_left
 cases h
 cases h
 simp only [aj] at hlen
 refine ⟨rfl,?_⟩
 exact Xs [] [] 32 (v1 pT) <|Xs [Es 1 (bytesOf (((nT).drop 0).take 32))] [] 112 (pu pz (v1 (pu (pa (pa (Yw ((dt 107).size)) pT) (pl (show (aA (aF (dt 107)) ((dt 107).size) 0 ((dt 107).size)).length=32 from vL _))) (pu (Yw 32) (v1 pT))))) <|Xt [(0,.sc (.sl 256 0 4 4 none))] [1] [Mc 256 [.s (⟨#[97,110,110]⟩:ByteArray),.s (⟨#[115,101,99,114,101,116]⟩:ByteArray),.s (⟨#[]⟩:ByteArray),.nils,.s (⟨#[98,111,98]⟩:ByteArray),.s (⟨#[]⟩:ByteArray),.s (bytesOf (((nT).drop 0).take 32)),.nils,.s (⟨#[99,121]⟩:ByteArray),.s (⟨#[119,111,114,100]⟩:ByteArray),.s (bytesOf (((sE).drop 0).take 32)),.nils,.s (⟨#[110,105,108]⟩:ByteArray),.s (⟨#[]⟩:ByteArray),.s (⟨#[]⟩:ByteArray),.nils]] [] 288 (pu (pa (Ys 0 4) (pa (Ys 1 4) pT)) (v1 (pu (pa (Ys 0 4) (pa (Ys 2 4) pT)) (pu pz (v1 (pu (pa (pa (Yw ((dt 99).size)) pT) (pl (show (aA (aF (dt 99)) ((dt 99).size) 0 ((dt 99).size)).length=32 from vL _))) (pu (Yw 32) (pu (pa (Ys 0 4) (pa (Ys 1 4) (pa (Ys 2 4) pT))) (pu (pa (Ys 0 4) pT) (pu (pa (pa (pa (Ye (0+4) 16) (Yr 4)) (pa (pa (Ye (4+4) 16) (Yr 4)) (pa (pa (Ye (8+4) 16) (Yr 4)) (pa (pa (Ye (12+4) 16) (Yr 4)) pT)))) (pa (Ye (4*4) 16777216) (Yr 4))) (v1 pT))))))))))) <|Xz [(256,0)] pz
def Ft:List AV→List Blk→Option (Prop × Ret)
 |[.sc (.sl 0 0 4 4 none),.sc (.ro .u8 p1),.sc (.i .i64 p2)],[.cells p9]=>some (((UA=p9)∧(p1.length≤100000)),⟨.sc (.p 1 0),[some (.cells UA),some (.cells [.sl 0 0 4 4 none,.sl 2 0 p1.length 1 none,.i .i64 p2,.b false,.s (⟨#[]⟩:ByteArray),.b false]),some (.ints .u8 p1.length p1)]⟩)
 |_,_=>none
theorem Ic:Known Tryz.prog gD 18 ⟨1,2,Ft⟩:=by
 refine Xw Tryz.f18 13 Zn mixed <|fun E args ks C r h hC hlen=>?_
 simp only at h
 unfold Ft at h
 split at h
 rotate_left
 cases h
 rename_i p1 p2 p9
 cases h
 simp only [aj] at hlen
 obtain ⟨hEp9,hC⟩:=hC
 subst hEp9
 refine ⟨rfl,?_⟩
 exact Xs [] [] 32 (v1 pT) <|Xt [Ep 6 112] [0,1,2] [Mc 112 [.sl 0 0 4 4 none,.sl 64 0 p1.length 1 none,.i .i64 p2,.b false,.s (⟨#[]⟩:ByteArray),.b false],Mi 64 p1.length p1] [] 144 (v2 (pu (YN pT 1 p1.length p1.length p1.length) (v1 (pu (pa (Ys 0 6) (pa (Ys 1 6) (pa (Ys 2 6) pT))) (v2 pT))))) <|Xz [(0,0),(112,1),(64,2)] pz
def qZ (p3:ByteArray) (p4:Bool):ByteArray :=
 (sel (!p4) (⟨#[]⟩:ByteArray) p3)
def Ae:List AV→List Blk→Option (Prop × Ret)
 |[.sc (.p 0 0)],[.cells [.sl 1 0 4 4 none,.sl 2 0 p10 1 none,.i .i64 p1,.b p2,.s p3,.b p4],.cells p9,.ints .u8 p11 p0]=>some (((p10=p11)∧((UA=p9)∧True)),⟨.sc (.s (qZ p3 p4)),[some (.cells [.sl 1 0 4 4 none,.sl 2 0 p10 1 none,.i .i64 p1,.b p2,.s p3,.b p4]),some (.cells UA),some (.ints .u8 p10 p0)]⟩)
 |_,_=>none
theorem Hd:Known Tryz.prog gD 21 ⟨3,0,Ae⟩:=by
 refine Xw Tryz.f21 16 Zn mixed <|fun E args ks C r h hC hlen=>?_
 simp only at h
 unfold Ae at h
 split at h
 rotate_left
 cases h
 rename_i p10 p1 p2 p3 p4 p9 p11 p0
 cases h
 simp only [aj] at hlen
 obtain ⟨hEp11,hC⟩:=hC
 obtain ⟨hEp9,hC⟩:=hC
 subst hEp11
 subst hEp9
 refine ⟨rfl,?_⟩
 refine Xs [] [] 32 (v1 pT) <|Tri.seq <|Xs [Eb 11 (!p4)] [] 176 (v6 (pu (Yl 5 6) (v2 pT))) <|Xa (fun h1=>?_) (fun h1=>?_)
 exact Xs [Es 2 (⟨#[]⟩:ByteArray)] [11,0] 192 (v1 pT) <|Xy (r':=⟨.sc (.s (⟨#[]⟩:ByteArray)),[some (.cells [.sl 1 0 4 4 none,.sl 2 0 p10 1 none,.i .i64 p1,.b p2,.s p3,.b p4]),some (.cells UA),some (.ints .u8 p10 p0)]⟩) [(0,0),(1,1),(2,2)] pz (by simp only [qZ,h1,aC,aB])
 exact Tri.skip <|Xs [Es 2 p3] [11,0] 256 (v3 (pu (Yl 4 6) (v1 pT))) <|Xy (r':=⟨.sc (.s p3),[some (.cells [.sl 1 0 4 4 none,.sl 2 0 p10 1 none,.i .i64 p1,.b p2,.s p3,.b p4]),some (.cells UA),some (.ints .u8 p10 p0)]⟩) [(0,0),(1,1),(2,2)] pz (by simp only [qZ,h1,aC,aB])
def lZ (p5:ByteArray):ByteArray :=
 (sel (aQ (⟨#[97,110,110]⟩:ByteArray) p5) (⟨#[97,110,110]⟩:ByteArray) (sel (aQ (⟨#[98,111,98]⟩:ByteArray) p5) (⟨#[98,111,98]⟩:ByteArray) (sel (aQ (⟨#[99,121]⟩:ByteArray) p5) (⟨#[99,121]⟩:ByteArray) (sel (aQ (⟨#[110,105,108]⟩:ByteArray) p5) (⟨#[110,105,108]⟩:ByteArray) (⟨#[]⟩:ByteArray)))))
def da (p5:ByteArray):ByteArray :=
 (sel (aQ (⟨#[97,110,110]⟩:ByteArray) p5) (⟨#[115,101,99,114,101,116]⟩:ByteArray) (sel (aQ (⟨#[98,111,98]⟩:ByteArray) p5) (⟨#[]⟩:ByteArray) (sel (aQ (⟨#[99,121]⟩:ByteArray) p5) (⟨#[119,111,114,100]⟩:ByteArray) (⟨#[]⟩:ByteArray))))
def dM (p5:ByteArray):ByteArray :=
 (sel (aQ (⟨#[97,110,110]⟩:ByteArray) p5) (⟨#[]⟩:ByteArray) (sel (aQ (⟨#[98,111,98]⟩:ByteArray) p5) (pE) (sel (aQ (⟨#[99,121]⟩:ByteArray) p5) (kl) (⟨#[]⟩:ByteArray))))
def Bl:List AV→List Blk→Option (Prop × Ret)
 |[.sc (.p 0 0),.sc (.s p5)],[.cells [.sl 1 0 4 4 none,.sl 2 0 p10 1 none,.i .i64 p1,.b p2,.s p3,.b p4],.cells p9,.ints .u8 p11 p0]=>some (((p10=p11)∧((UA=p9)∧True)),⟨.agg [.s (lZ p5),.s (da p5),.s (dM p5),.nils],[some (.cells [.sl 1 0 4 4 none,.sl 2 0 p10 1 none,.i .i64 p1,.b p2,.s p3,.b p4]),some (.cells UA),some (.ints .u8 p10 p0)]⟩)
 |_,_=>none
theorem HG:Known Tryz.prog gD 77 ⟨3,0,Bl⟩:=by
 refine Xw Tryz.f77 23 Zn mixed <|fun E args ks C r h hC hlen=>?_
 simp only at h
 unfold Bl at h
 split at h
 rotate_left
 cases h
 rename_i p5 p10 p1 p2 p3 p4 p9 p11 p0
 cases h
 simp only [aj] at hlen
 obtain ⟨hEp11,hC⟩:=hC
 obtain ⟨hEp9,hC⟩:=hC
 subst hEp11
 subst hEp9
 refine ⟨rfl,?_⟩
 refine Xt [Ep 4 16] [] [Mc 16 [.s (⟨#[]⟩:ByteArray),.s (⟨#[]⟩:ByteArray),.s (⟨#[]⟩:ByteArray),.nils]] [] 32 (v1 pT) <|Tri.seq <|Xs [Ei 12 0,Ei 11 4,(10,.sc (.sl 1 0 4 4 none))] [0] 128 (v3 (pu (Yl 0 6) (v2 pT))) <|Tri.block <|Tri.rounds 4 <|Xs [Eb 13 true] [] 144 (v1 pT) <|Tri.seq <|Tri.cond_true (by kernel_rfl) <|Tri.skip <|Tri.seq <|Tri.block <|Xt [Ep 6 176] [13] [Mc 176 [.s (⟨#[97,110,110]⟩:ByteArray),.s (⟨#[115,101,99,114,101,116]⟩:ByteArray),.s (⟨#[]⟩:ByteArray),.nils]] [] 208 (pu (Yi 0 4) (pu (Ye (0+4) 16) (v1 (pu (pa (Yw 4) (Yr 4)) pT)))) <|Xs [Eb 19 (aQ (⟨#[97,110,110]⟩:ByteArray) p5)] [] 272 (v1 (pu (Yl 0 4) (v2 pT))) <|Xa (fun h1=>?_) (fun h1=>?_)
 exact Xt [] [19,6,12,11,10,1] [Mc 16 [.s (⟨#[97,110,110]⟩:ByteArray),.s (⟨#[115,101,99,114,101,116]⟩:ByteArray),.s (⟨#[]⟩:ByteArray),.nils]] [176,16] 304 (pu (Yw 4) (pu (pa (Yw 4) (Yr 4)) pT)) <|Xy [(0,0),(1,1),(2,2)] (pa (Yw 4) pT) (by simp only [lZ,da,dM,h1,aC,aB] <;> rfl)
 refine Tri.skip <|Wt [Ei 12 1] [19,6,12] [] [176] 304 (v2 pT) <|Xs [Eb 13 true] [] 320 (v1 pT) <|Tri.seq <|Tri.cond_true (by kernel_rfl) <|Tri.skip <|Tri.seq <|Tri.block <|Xt [Ep 6 352] [13] [Mc 352 [.s (⟨#[98,111,98]⟩:ByteArray),.s (⟨#[]⟩:ByteArray),.s (pE),.nils]] [] 384 (pu (Yi 1 4) (pu (Ye (4+4) 16) (v1 (pu (pa (Yw 4) (Yr 4)) pT)))) <|Xs [Eb 19 (aQ (⟨#[98,111,98]⟩:ByteArray) p5)] [] 448 (v1 (pu (Yl 0 4) (v2 pT))) <|Xa (fun h2=>?_) (fun h2=>?_)
 exact Xt [] [19,6,12,11,10,1] [Mc 16 [.s (⟨#[98,111,98]⟩:ByteArray),.s (⟨#[]⟩:ByteArray),.s (pE),.nils]] [352,16] 480 (pu (Yw 4) (pu (pa (Yw 4) (Yr 4)) pT)) <|Xy [(0,0),(1,1),(2,2)] (pa (Yw 4) pT) (by simp only [lZ,da,dM,h1,h2,aC,aB] <;> rfl)
 refine Tri.skip <|Wt [Ei 12 2] [19,6,12] [] [352] 480 (v2 pT) <|Xs [Eb 13 true] [] 496 (v1 pT) <|Tri.seq <|Tri.cond_true (by kernel_rfl) <|Tri.skip <|Tri.seq <|Tri.block <|Xt [Ep 6 528] [13] [Mc 528 [.s (⟨#[99,121]⟩:ByteArray),.s (⟨#[119,111,114,100]⟩:ByteArray),.s (kl),.nils]] [] 560 (pu (Yi 2 4) (pu (Ye (8+4) 16) (v1 (pu (pa (Yw 4) (Yr 4)) pT)))) <|Xs [Eb 19 (aQ (⟨#[99,121]⟩:ByteArray) p5)] [] 624 (v1 (pu (Yl 0 4) (v2 pT))) <|Xa (fun h3=>?_) (fun h3=>?_)
 exact Xt [] [19,6,12,11,10,1] [Mc 16 [.s (⟨#[99,121]⟩:ByteArray),.s (⟨#[119,111,114,100]⟩:ByteArray),.s (kl),.nils]] [528,16] 656 (pu (Yw 4) (pu (pa (Yw 4) (Yr 4)) pT)) <|Xy [(0,0),(1,1),(2,2)] (pa (Yw 4) pT) (by simp only [lZ,da,dM,h1,h2,h3,aC,aB] <;> rfl)
 refine Tri.skip <|Wt [Ei 12 3] [19,6,12] [] [528] 656 (v2 pT) <|Xs [Eb 13 true] [] 672 (v1 pT) <|Tri.seq <|Tri.cond_true (by kernel_rfl) <|Tri.skip <|Tri.seq <|Tri.block <|Xt [Ep 6 704] [13] [Mc 704 [.s (⟨#[110,105,108]⟩:ByteArray),.s (⟨#[]⟩:ByteArray),.s (⟨#[]⟩:ByteArray),.nils]] [] 736 (pu (Yi 3 4) (pu (Ye (12+4) 16) (v1 (pu (pa (Yw 4) (Yr 4)) pT)))) <|Xs [Eb 19 (aQ (⟨#[110,105,108]⟩:ByteArray) p5)] [] 800 (v1 (pu (Yl 0 4) (v2 pT))) <|Xa (fun h4=>?_) (fun h4=>?_)
 exact Xt [] [19,6,12,11,10,1] [Mc 16 [.s (⟨#[110,105,108]⟩:ByteArray),.s (⟨#[]⟩:ByteArray),.s (⟨#[]⟩:ByteArray),.nils]] [704,16] 832 (pu (Yw 4) (pu (pa (Yw 4) (Yr 4)) pT)) <|Xy [(0,0),(1,1),(2,2)] (pa (Yw 4) pT) (by simp only [lZ,da,dM,h1,h2,h3,h4,aC,aB] <;> rfl)
 exact Tri.skip <|Wt [Ei 12 4] [19,6,12] [] [704] 832 (v2 pT) <|Xs [Eb 13 false] [] 848 (v1 pT) <|Tri.seq <|Tri.cond_false (by kernel_rfl) <|Tri.exit <|Xs [] [13,12,11,10,1] 880 (v1 (pu (pa (Yw 4) (Yr 4)) pT)) <|Xy [(0,0),(1,1),(2,2)] (pa (Yw 4) pT) (by simp only [lZ,da,dM,h1,h2,h3,h4,aC,aB] <;> rfl)
def sW (p0:ByteArray):List Int :=
 (cC 1 [5] p0)
def sR:List AV→List Blk→Option (Prop × Ret)
 |[.sc (.s p0)],[]=>some ((p0.size≤100000),⟨.sc (.sl 0 0 ((1+4)+p0.size) 1 none),[some (.ints .u8 ((1+4)+p0.size) (sW p0))]⟩)
 |_,_=>none
theorem zA:Known Tryz.prog gD 22 ⟨0,1,sR⟩:=by
 refine Xw Tryz.f22 6 (Zc dQ 64 [.io,.val] [] [32] <|Zn) mixed <|fun E args ks C r h hC hlen=>?_
 simp only at h
 unfold sR at h
 split at h
 rotate_left
 cases h
 rename_i p0
 cases h
 simp only [aj] at hlen
 refine ⟨rfl,?_⟩
 exact Xs [] [] 32 (v1 pT) <|Xt [El 2 64 ((1+4)+p0.size)] [0] [Mi 64 ((1+4)+p0.size) (cC 1 [5] p0)] [] 96 (pu (Yf 1) (v1 (pu (pa pT (pa (Yr 1) (lo (1≤1000000000∧p0.size≤1000000000)))) (v1 pT)))) <|Xz [(64,0)] pz
def pc (p0:ByteArray):List Int :=
 (cC 1 [6] p0)
def vH:List AV→List Blk→Option (Prop × Ret)
 |[.sc (.s p0)],[]=>some ((p0.size≤100000),⟨.sc (.sl 0 0 ((1+4)+p0.size) 1 none),[some (.ints .u8 ((1+4)+p0.size) (pc p0))]⟩)
 |_,_=>none
theorem vv:Known Tryz.prog gD 27 ⟨0,1,vH⟩:=by
 refine Xw Tryz.f27 6 (Zc dQ 64 [.io,.val] [] [32] <|Zn) mixed <|fun E args ks C r h hC hlen=>?_
 simp only at h
 unfold vH at h
 split at h
 rotate_left
 cases h
 rename_i p0
 cases h
 simp only [aj] at hlen
 refine ⟨rfl,?_⟩
 exact Xs [] [] 32 (v1 pT) <|Xt [El 2 64 ((1+4)+p0.size)] [0] [Mi 64 ((1+4)+p0.size) (cC 1 [6] p0)] [] 96 (pu (Yf 1) (v1 (pu (pa pT (pa (Yr 1) (lo (1≤1000000000∧p0.size≤1000000000)))) (v1 pT)))) <|Xz [(64,0)] pz
def qn (p0:ByteArray):List Int :=
 (cC ((1+4)+p0.size) (cC 1 [50] p0) (⟨#[115,115,104,45,99,111,110,110,101,99,116,105,111,110]⟩:ByteArray))
def mS (p0:ByteArray) (p1:ByteArray):List Int :=
 (cC ((((1+4)+p0.size)+4)+(⟨#[115,115,104,45,99,111,110,110,101,99,116,105,111,110]⟩:ByteArray).size) (qn p0) p1)
def iQ (p0:ByteArray) (p1:ByteArray):List Int :=
 (mS p0 p1)
def aI (p0:ByteArray) (p1:ByteArray):Nat :=
 (((((1+4)+p0.size)+4)+(⟨#[115,115,104,45,99,111,110,110,101,99,116,105,111,110]⟩:ByteArray).size)+4)+p1.size
def AU:List AV→List Blk→Option (Prop × Ret)
 |[.sc (.s p0),.sc (.s p1)],[]=>some ((p0.size≤100000∧p1.size≤100000),⟨.sc (.sl 0 0 (aI p0 p1) 1 none),[some (.ints .u8 (aI p0 p1) (iQ p0 p1))]⟩)
 |_,_=>none
theorem qE:Known Tryz.prog gD 34 ⟨0,1,AU⟩:=by
 refine Xw Tryz.f34 11 (Zc dQ 64 [.io,.val] [] [32] <|Zc dQ 80 [.io,.val] [] [64] <|Zc dQ 112 [.io,.val] [] [80] <|Zn) mixed <|fun E args ks C r h hC hlen=>?_
 simp only at h
 unfold AU at h
 split at h
 rotate_left
 cases h
 rename_i p0 p1
 cases h
 simp only [aj] at hlen
 have sz0:(⟨#[115,115,104,45,99,111,110,110,101,99,116,105,111,110]⟩:ByteArray).size=14:=rfl
 refine ⟨rfl,?_⟩
 exact Xs [] [] 32 (v1 pT) <|Xt [El 4 112 ((((((1+4)+p0.size)+4)+(⟨#[115,115,104,45,99,111,110,110,101,99,116,105,111,110]⟩:ByteArray).size)+4)+p1.size)] [0,1] [Mi 112 ((((((1+4)+p0.size)+4)+(⟨#[115,115,104,45,99,111,110,110,101,99,116,105,111,110]⟩:ByteArray).size)+4)+p1.size) (mS p0 p1)] [] 144 (pu (Yf 1) (v1 (pu (pa pT (pa (Yr 1) (lo (1≤1000000000∧p0.size≤1000000000)))) (pu (pa pT (pa (Yr ((1+4)+p0.size)) (lo (((1+4)+p0.size)≤1000000000∧(⟨#[115,115,104,45,99,111,110,110,101,99,116,105,111,110]⟩:ByteArray).size≤1000000000)))) (v1 (pu (pa pT (pa (Yr ((((1+4)+p0.size)+4)+(⟨#[115,115,104,45,99,111,110,110,101,99,116,105,111,110]⟩:ByteArray).size)) (lo (((((1+4)+p0.size)+4)+(⟨#[115,115,104,45,99,111,110,110,101,99,116,105,111,110]⟩:ByteArray).size)≤1000000000∧p1.size≤1000000000)))) (v1 pT))))))) <|Xz [(112,0)] pz
theorem fY (k:Nat) (xs:List Int) (s:ByteArray):(cC k xs s).length=xs.length+4+s.size:=by unfold cC rE;simp only [List.length_append,ai,List.length_cons,List.length_nil]
theorem nS (k:Nat) (xs:List Int) (b:Bool):(ff k xs b).length=xs.length+1:=by cases b <;> (unfold ff;simp only [aC,aB,List.length_append,List.length_cons,List.length_nil])
theorem wH (s:ByteArray):(el s).length=4+s.size:=by unfold el mn;simp only [List.length_append,ai,List.length_cons,List.length_nil]
theorem jA (a b:ByteArray):(iQ a b).length=aI a b:=by
 unfold iQ mS qn aI
 rw [fY,fY,fY]
 rfl
def jk (p0:ByteArray):List Int :=
 (ff (aI p0 (⟨#[112,97,115,115,119,111,114,100]⟩:ByteArray)) (iQ p0 (⟨#[112,97,115,115,119,111,114,100]⟩:ByteArray)) false)
def gm (p0:ByteArray) (p1:ByteArray):List Int :=
 (cC ((aI p0 (⟨#[112,97,115,115,119,111,114,100]⟩:ByteArray))+1) (jk p0) p1)
def cq (p0:ByteArray) (p1:ByteArray):List Int :=
 (gm p0 p1)
def aG (p0:ByteArray) (p1:ByteArray):Nat :=
 (((aI p0 (⟨#[112,97,115,115,119,111,114,100]⟩:ByteArray))+1)+4)+p1.size
def pn:List AV→List Blk→Option (Prop × Ret)
 |[.sc (.s p0),.sc (.s p1)],[]=>some ((p0.size≤100000∧p1.size≤100000),⟨.sc (.sl 0 0 (aG p0 p1) 1 none),[some (.ints .u8 (aG p0 p1) (cq p0 p1))]⟩)
 |_,_=>none
theorem mC:Known Tryz.prog gD 11 ⟨0,1,pn⟩:=by
 refine Xw Tryz.f11 10 (Zc dQ 96 [.io,.val] [] [64] <|Zc mv 64 [.io,.val] [] [48] <|Zv qE 48 2 <|Zn) mixed <|fun E args ks C r h hC hlen=>?_
 simp only at h
 unfold pn at h
 split at h
 rotate_left
 cases h
 rename_i p0 p1
 cases h
 simp only [aj] at hlen
 have sz0:(⟨#[115,115,104,45,99,111,110,110,101,99,116,105,111,110]⟩:ByteArray).size=14:=rfl
 have sz1:(⟨#[112,97,115,115,119,111,114,100]⟩:ByteArray).size=8:=rfl
 refine ⟨rfl,?_⟩
 refine Xs [] [] 32 (v1 pT) <|Xt [El 4 96 ((((aI p0 (⟨#[112,97,115,115,119,111,114,100]⟩:ByteArray))+1)+4)+p1.size)] [0,1] [Mi 96 ((((aI p0 (⟨#[112,97,115,115,119,111,114,100]⟩:ByteArray))+1)+4)+p1.size) (gm p0 p1)] [] 128 (v1 (pu (pa pT (lo (p0.size≤100000∧(⟨#[112,97,115,115,119,111,114,100]⟩:ByteArray).size≤100000))) (pu (pa pT (pa (Yr (aI p0 (⟨#[112,97,115,115,119,111,114,100]⟩:ByteArray))) (pl (show (aI p0 (⟨#[112,97,115,115,119,111,114,100]⟩:ByteArray))≤1000000000 from by (unfold aI;omega))))) (v1 (pu (pa pT (pa (Yr ((aI p0 (⟨#[112,97,115,115,119,111,114,100]⟩:ByteArray))+1)) (pl (show ((aI p0 (⟨#[112,97,115,115,119,111,114,100]⟩:ByteArray))+1)≤1000000000∧p1.size≤1000000000 from by (unfold aI;omega))))) (v1 pT)))))) ?_
 exact Xz [(96,0)] pz
def lm (p0:ByteArray):List Int :=
 (iQ p0 (⟨#[110,111,110,101]⟩:ByteArray))
def eG (p0:ByteArray):Nat :=
 (aI p0 (⟨#[110,111,110,101]⟩:ByteArray))
def CZ:List AV→List Blk→Option (Prop × Ret)
 |[.sc (.s p0)],[]=>some ((p0.size≤100000),⟨.sc (.sl 0 0 (eG p0) 1 none),[some (.ints .u8 (eG p0) (lm p0))]⟩)
 |_,_=>none
theorem BK:Known Tryz.prog gD 15 ⟨0,1,CZ⟩:=by
 refine Xw Tryz.f15 5 (Zv qE 48 2 <|Zn) mixed <|fun E args ks C r h hC hlen=>?_
 simp only at h
 unfold CZ at h
 split at h
 rotate_left
 cases h
 rename_i p0
 cases h
 simp only [aj] at hlen
 have sz0:(⟨#[115,115,104,45,99,111,110,110,101,99,116,105,111,110]⟩:ByteArray).size=14:=rfl
 have sz1:(⟨#[110,111,110,101]⟩:ByteArray).size=4:=rfl
 refine ⟨rfl,?_⟩
 exact Xs [] [] 32 (v1 pT) <|Xt [El 2 48 (aI p0 (⟨#[110,111,110,101]⟩:ByteArray))] [0] [Mi 48 (aI p0 (⟨#[110,111,110,101]⟩:ByteArray)) (iQ p0 (⟨#[110,111,110,101]⟩:ByteArray))] [] 80 (v1 (pu (pa pT (lo (p0.size≤100000∧(⟨#[110,111,110,101]⟩:ByteArray).size≤100000))) (v1 pT))) <|Xz [(48,0)] pz
def pi (p0:ByteArray):List Int :=
 (iQ p0 (⟨#[112,117,98,108,105,99,107,101,121]⟩:ByteArray))
def pY (p0:ByteArray):List Int :=
 (ff (aI p0 (⟨#[112,117,98,108,105,99,107,101,121]⟩:ByteArray)) (pi p0) false)
def pR (p0:ByteArray):List Int :=
 (cC ((aI p0 (⟨#[112,117,98,108,105,99,107,101,121]⟩:ByteArray))+1) (pY p0) (⟨#[115,115,104,45,101,100,50,53,53,49,57]⟩:ByteArray))
def ml (p0:ByteArray) (p1:ByteArray):List Int :=
 (cC ((((aI p0 (⟨#[112,117,98,108,105,99,107,101,121]⟩:ByteArray))+1)+4)+(⟨#[115,115,104,45,101,100,50,53,53,49,57]⟩:ByteArray).size) (pR p0) (cA p1))
def iS (p0:ByteArray) (p1:ByteArray):List Int :=
 (ml p0 p1)
def cg (p0:ByteArray) (p1:ByteArray):Nat :=
 (((((aI p0 (⟨#[112,117,98,108,105,99,107,101,121]⟩:ByteArray))+1)+4)+(⟨#[115,115,104,45,101,100,50,53,53,49,57]⟩:ByteArray).size)+4)+(cA p1).size
def AY:List AV→List Blk→Option (Prop × Ret)
 |[.sc (.s p0),.sc (.s p1)],[]=>some ((p0.size≤100000∧p1.size≤1000),⟨.sc (.sl 0 0 (cg p0 p1) 1 none),[some (.ints .u8 (cg p0 p1) (iS p0 p1))]⟩)
 |_,_=>none
theorem BR:Known Tryz.prog gD 13 ⟨0,1,AY⟩:=by
 refine Xw Tryz.f13 12 (Zv AK 112 1 <|Zc dQ 80 [.io,.val] [] [64] <|Zc dQ 128 [.io,.val] [] [80] <|Zc mv 64 [.io,.val] [] [48] <|Zv qE 48 2 <|Zn) mixed <|fun E args ks C r h hC hlen=>?_
 simp only at h
 unfold AY at h
 split at h
 rotate_left
 cases h
 rename_i p0 p1
 cases h
 simp only [aj] at hlen
 have sz0:(⟨#[115,115,104,45,99,111,110,110,101,99,116,105,111,110]⟩:ByteArray).size=14:=rfl
 have sz1:(⟨#[112,117,98,108,105,99,107,101,121]⟩:ByteArray).size=9:=rfl
 have sz2:(⟨#[115,115,104,45,101,100,50,53,53,49,57]⟩:ByteArray).size=11:=rfl
 refine ⟨rfl,?_⟩
 refine Xs [] [] 32 (v1 pT) <|Xt [El 4 128 ((((((aI p0 (⟨#[112,117,98,108,105,99,107,101,121]⟩:ByteArray))+1)+4)+(⟨#[115,115,104,45,101,100,50,53,53,49,57]⟩:ByteArray).size)+4)+(cA p1).size)] [0,1] [Mi 128 ((((((aI p0 (⟨#[112,117,98,108,105,99,107,101,121]⟩:ByteArray))+1)+4)+(⟨#[115,115,104,45,101,100,50,53,53,49,57]⟩:ByteArray).size)+4)+(cA p1).size) (ml p0 p1)] [] 160 (v1 (pu (pa pT (lo (p0.size≤100000∧(⟨#[112,117,98,108,105,99,107,101,121]⟩:ByteArray).size≤100000))) (pu (pa pT (pa (Yr (aI p0 (⟨#[112,117,98,108,105,99,107,101,121]⟩:ByteArray))) (pl (show (aI p0 (⟨#[112,117,98,108,105,99,107,101,121]⟩:ByteArray))≤1000000000 from by (unfold aI;omega))))) (pu (pa pT (pa (Yr ((aI p0 (⟨#[112,117,98,108,105,99,107,101,121]⟩:ByteArray))+1)) (pl (show ((aI p0 (⟨#[112,117,98,108,105,99,107,101,121]⟩:ByteArray))+1)≤1000000000∧(⟨#[115,115,104,45,101,100,50,53,53,49,57]⟩:ByteArray).size≤1000000000 from by (unfold aI;omega))))) (v1 (pu (pa pT (Ye p1.size 1000000000)) (pu (pa pT (pa (Yr ((((aI p0 (⟨#[112,117,98,108,105,99,107,101,121]⟩:ByteArray))+1)+4)+(⟨#[115,115,104,45,101,100,50,53,53,49,57]⟩:ByteArray).size)) (pl (show ((((aI p0 (⟨#[112,117,98,108,105,99,107,101,121]⟩:ByteArray))+1)+4)+(⟨#[115,115,104,45,101,100,50,53,53,49,57]⟩:ByteArray).size)≤1000000000∧(cA p1).size≤1000000000 from ⟨by unfold aI;omega,Nat.le_trans (jn _) (by omega)⟩)))) (v1 pT)))))))) ?_
 exact Xz [(128,0)] pz
theorem Dh (a b:ByteArray):(iS a b).length=cg a b:=by
 unfold iS ml pR pY pi cg
 rw [fY,fY,nS,jA]
def uv:List Int :=
 (um 1 [51] ([(⟨#[112,117,98,108,105,99,107,101,121]⟩:ByteArray),(⟨#[112,97,115,115,119,111,114,100]⟩:ByteArray)]))
def ol:List Int :=
 (ff (ek 1 [51] ([(⟨#[112,117,98,108,105,99,107,101,121]⟩:ByteArray),(⟨#[112,97,115,115,119,111,114,100]⟩:ByteArray)])) (uv) false)
def gJ:List Int :=
 (ol)
def cV:Nat :=
 (ek 1 [51] ([(⟨#[112,117,98,108,105,99,107,101,121]⟩:ByteArray),(⟨#[112,97,115,115,119,111,114,100]⟩:ByteArray)]))+1
def sh:List AV→List Blk→Option (Prop × Ret)
 |[],[]=>some (True,⟨.sc (.sl 0 0 (cV) 1 none),[some (.ints .u8 (cV) (gJ))]⟩)
 |_,_=>none
theorem sH:Known Tryz.prog gD 46 ⟨0,1,sh⟩:=by
 refine Xw Tryz.f46 5 (Zc mv 80 [.io,.val] [] [64] <|Zc BP 64 [.io,.ros] [48] [32] <|Zn) mixed <|fun E args ks C r h hC hlen=>?_
 simp only at h
 unfold sh at h
 split at h
 rotate_left
 cases h
 cases h
 simp only [aj] at hlen
 refine ⟨rfl,?_⟩
 exact Xs [] [] 32 (v1 pT) <|Xt [El 0 80 ((ek 1 [51] ([(⟨#[112,117,98,108,105,99,107,101,121]⟩:ByteArray),(⟨#[112,97,115,115,119,111,114,100]⟩:ByteArray)]))+1)] [] [Mi 80 ((ek 1 [51] ([(⟨#[112,117,98,108,105,99,107,101,121]⟩:ByteArray),(⟨#[112,97,115,115,119,111,114,100]⟩:ByteArray)]))+1) (ol)] [] 112 (pu (Yf 1) (pu (Yf 2) (pu (pa (pa (ld (0+2≤2)) pT) (pa (Yr 1) (lo (1≤1000000000∧([(⟨#[112,117,98,108,105,99,107,101,121]⟩:ByteArray),(⟨#[112,97,115,115,119,111,114,100]⟩:ByteArray)]).length≤1000000000∧(jt ([(⟨#[112,117,98,108,105,99,107,101,121]⟩:ByteArray),(⟨#[112,97,115,115,119,111,114,100]⟩:ByteArray)]) (⟨#[44]⟩:ByteArray)).size≤1000000000)))) (pu (pa pT (pa (Yr (ek 1 [51] ([(⟨#[112,117,98,108,105,99,107,101,121]⟩:ByteArray),(⟨#[112,97,115,115,119,111,114,100]⟩:ByteArray)]))) (Ye (ek 1 [51] ([(⟨#[112,117,98,108,105,99,107,101,121]⟩:ByteArray),(⟨#[112,97,115,115,119,111,114,100]⟩:ByteArray)])) 1000000000))) (v1 pT))))) <|Xz [(80,0)] pz
def jg (p1:ByteArray):List Int :=
 (iQ p1 (⟨#[112,117,98,108,105,99,107,101,121]⟩:ByteArray))
def mF (p0:List Int) (p1:ByteArray):List Int :=
 (ff ((4+(bytesOf p0).size)+(aI p1 (⟨#[112,117,98,108,105,99,107,101,121]⟩:ByteArray))) ((el (bytesOf p0))++(aA (jg p1) (aI p1 (⟨#[112,117,98,108,105,99,107,101,121]⟩:ByteArray)) 0 (aI p1 (⟨#[112,117,98,108,105,99,107,101,121]⟩:ByteArray)))) true)
def lh (p0:List Int) (p1:ByteArray):List Int :=
 (cC (((4+(bytesOf p0).size)+(aI p1 (⟨#[112,117,98,108,105,99,107,101,121]⟩:ByteArray)))+1) (mF p0 p1) (⟨#[115,115,104,45,101,100,50,53,53,49,57]⟩:ByteArray))
def jU (p0:List Int) (p1:ByteArray) (p2:ByteArray):List Int :=
 (cC (((((4+(bytesOf p0).size)+(aI p1 (⟨#[112,117,98,108,105,99,107,101,121]⟩:ByteArray)))+1)+4)+(⟨#[115,115,104,45,101,100,50,53,53,49,57]⟩:ByteArray).size) (lh p0 p1) p2)
def fQ (p0:List Int) (p1:ByteArray) (p2:ByteArray):List Int :=
 (jU p0 p1 p2)
def bm (p0:List Int) (p1:ByteArray) (p2:ByteArray):Nat :=
 ((((((4+(bytesOf p0).size)+(aI p1 (⟨#[112,117,98,108,105,99,107,101,121]⟩:ByteArray)))+1)+4)+(⟨#[115,115,104,45,101,100,50,53,53,49,57]⟩:ByteArray).size)+4)+p2.size
def vT:List AV→List Blk→Option (Prop × Ret)
 |[.sc (.ro .u8 p0),.sc (.s p1),.sc (.s p2)],[]=>some ((p0.length≤20000∧p1.size≤20000∧p2.size≤20000),⟨.sc (.sl 0 0 (bm p0 p1 p2) 1 none),[some (.ints .u8 (bm p0 p1 p2) (fQ p0 p1 p2))]⟩)
 |_,_=>none
theorem vl:Known Tryz.prog gD 31 ⟨0,1,vT⟩:=by
 refine Xw Tryz.f31 20 (Zv rF 64 2 <|Zc dQ 208 [.io,.val] [] [192] <|Zc dQ 240 [.io,.val] [] [208] <|Zc mv 192 [.io,.val] [] [144] <|Zv qE 128 2 <|Zn) mixed <|fun E args ks C r h hC hlen=>?_
 simp only at h
 unfold vT at h
 split at h
 rotate_left
 cases h
 rename_i p0 p1 p2
 cases h
 simp only [aj] at hlen
 have sz0:(⟨#[115,115,104,45,99,111,110,110,101,99,116,105,111,110]⟩:ByteArray).size=14:=rfl
 have sz1:(⟨#[112,117,98,108,105,99,107,101,121]⟩:ByteArray).size=9:=rfl
 have sz2:(⟨#[115,115,104,45,101,100,50,53,53,49,57]⟩:ByteArray).size=11:=rfl
 refine ⟨rfl,?_⟩
 refine Xs [] [] 32 (v1 pT) <|Xt [El 7 64 (4+(bytesOf p0).size)] [0] [Mi 64 (4+(bytesOf p0).size) (el (bytesOf p0))] [] 96 (v2 (pu (pa pT (pl (show (bytesOf p0).size≤1000000000 from by (rw [ag];omega)))) (v1 pT))) ?_
 refine Tri.len 64 rfl <|fun hl1=>Xt [El 7 144 ((4+(bytesOf p0).size)+(aI p1 (⟨#[112,117,98,108,105,99,107,101,121]⟩:ByteArray)))] [7,1] [Mi 144 ((4+(bytesOf p0).size)+(aI p1 (⟨#[112,117,98,108,105,99,107,101,121]⟩:ByteArray))) ((el (bytesOf p0))++(aA (jg p1) (aI p1 (⟨#[112,117,98,108,105,99,107,101,121]⟩:ByteArray)) 0 (aI p1 (⟨#[112,117,98,108,105,99,107,101,121]⟩:ByteArray))))] [64] 176 (v2 (pu (pa pT (lo (p1.size≤100000∧(⟨#[112,117,98,108,105,99,107,101,121]⟩:ByteArray).size≤100000))) (pu (pa (pa (pa (pa (Yw (aI p1 (⟨#[112,117,98,108,105,99,107,101,121]⟩:ByteArray))) (Yr 1)) (pa (Yl 0 1) (pa (pl (show ((4+(bytesOf p0).size)+(aI p1 (⟨#[112,117,98,108,105,99,107,101,121]⟩:ByteArray)))*1≤140737488355328 from by (simp only [ag];unfold aI;omega))) (pl (show (4+(bytesOf p0).size)+(aI p1 (⟨#[112,117,98,108,105,99,107,101,121]⟩:ByteArray))≤140737488355328 from by (simp only [ag];unfold aI;omega)))))) (lo ((aI p1 (⟨#[112,117,98,108,105,99,107,101,121]⟩:ByteArray))=(aI p1 (⟨#[112,117,98,108,105,99,107,101,121]⟩:ByteArray))*1))) (pa (Yr 1) (lo (0+(4+(bytesOf p0).size)*1=4+(bytesOf p0).size)))) (v1 pT)))) ?_
 refine Xt [El 6 240 (((((((4+(bytesOf p0).size)+(aI p1 (⟨#[112,117,98,108,105,99,107,101,121]⟩:ByteArray)))+1)+4)+(⟨#[115,115,104,45,101,100,50,53,53,49,57]⟩:ByteArray).size)+4)+p2.size)] [7,2] [Mi 240 (((((((4+(bytesOf p0).size)+(aI p1 (⟨#[112,117,98,108,105,99,107,101,121]⟩:ByteArray)))+1)+4)+(⟨#[115,115,104,45,101,100,50,53,53,49,57]⟩:ByteArray).size)+4)+p2.size) (jU p0 p1 p2)] [144] 272 (v1 (pu (pa pT (pa (Yr ((4+(bytesOf p0).size)+(aI p1 (⟨#[112,117,98,108,105,99,107,101,121]⟩:ByteArray)))) (pl (show ((4+(bytesOf p0).size)+(aI p1 (⟨#[112,117,98,108,105,99,107,101,121]⟩:ByteArray)))≤1000000000 from by (simp only [ag];unfold aI;omega))))) (pu (pa pT (pa (Yr (((4+(bytesOf p0).size)+(aI p1 (⟨#[112,117,98,108,105,99,107,101,121]⟩:ByteArray)))+1)) (pl (show (((4+(bytesOf p0).size)+(aI p1 (⟨#[112,117,98,108,105,99,107,101,121]⟩:ByteArray)))+1)≤1000000000∧(⟨#[115,115,104,45,101,100,50,53,53,49,57]⟩:ByteArray).size≤1000000000 from by (simp only [ag];unfold aI;omega))))) (v1 (pu (pa pT (pa (Yr (((((4+(bytesOf p0).size)+(aI p1 (⟨#[112,117,98,108,105,99,107,101,121]⟩:ByteArray)))+1)+4)+(⟨#[115,115,104,45,101,100,50,53,53,49,57]⟩:ByteArray).size)) (pl (show (((((4+(bytesOf p0).size)+(aI p1 (⟨#[112,117,98,108,105,99,107,101,121]⟩:ByteArray)))+1)+4)+(⟨#[115,115,104,45,101,100,50,53,53,49,57]⟩:ByteArray).size)≤1000000000∧p2.size≤1000000000 from by (simp only [ag];unfold aI;omega))))) (v1 pT)))))) ?_
 exact Xz [(240,0)] pz
theorem nK (p0:List Int) (p1 p2:ByteArray):bm p0 p1 p2≤p0.length+p1.size+p2.size+200:=by
 have sz0:(⟨#[115,115,104,45,99,111,110,110,101,99,116,105,111,110]⟩:ByteArray).size=14:=rfl;have sz1:(⟨#[112,117,98,108,105,99,107,101,121]⟩:ByteArray).size=9:=rfl;have sz2:(⟨#[115,115,104,45,101,100,50,53,53,49,57]⟩:ByteArray).size=11:=rfl
 unfold bm
 try unfold aI
 simp only [ag]
 omega
theorem mG (p0:List Int) (p1 p2:ByteArray):(fQ p0 p1 p2).length=bm p0 p1 p2:=by
 unfold fQ jU lh mF jg bm
 rw [fY,fY,nS,List.length_append,wH,aV (jA _ _),jA]
end Go.Vm
namespace Go.Vm
open Go Go.Proofs
def xW (p0:List Int) (p1:List Int) (k0:Nat) (z0:Int):Int :=
 (iOr .i64 z0 (IntKind.wrap .i64 (al .u8 (p0.getD k0 0) (p1.getD k0 0))))
def Ix (p0:List Int) (p1:List Int):Bool :=
 (((itr (xW p0 p1) (min p0.length p1.length) (al .i64 ((p0.length:Nat):Int) ((p1.length:Nat):Int))):Int)==0)
def Ip:List AV→List Blk→Option (Prop × Ret)
 |[.sc (.ro .u8 p0),.sc (.ro .u8 p1)],[]=>some ((p0.length≤100000),⟨.sc (.b (Ix p0 p1)),[]⟩)
 |_,_=>none
theorem Jv:Known Tryz.prog gD 79 ⟨0,0,Ip⟩:=by
 refine Xw Tryz.f79 35 Zn mixed <|fun E args ks C r h hC hlen=>?_
 simp only at h
 unfold Ip at h
 split at h
 rotate_left
 cases h
 rename_i p0 p1
 cases h
 simp only [aj] at hlen
 refine ⟨rfl,?_⟩
 refine Xs [] [] 32 (v1 pT) <|Xs [Ei 5 (al .i64 ((p0.length:Nat):Int) ((p1.length:Nat):Int))] [] 128 (v6 pT) <|Tri.seq <|Xu [Ej 16 (min p0.length p1.length)] none [Ei 17 0,Ej 16 (min p0.length p1.length)] [] [] [] 224 (v4 (pv pT (pl (show (rR ((p0.length:Nat):Int) ((p1.length:Nat):Int))=((min p0.length p1.length:Nat):Int) from Bc p0.length p1.length)) (v1 pT))) <|Tri.block <|Xc (min p0.length p1.length) (xW p0 p1) (al .i64 ((p0.length:Nat):Int) ((p1.length:Nat):Int)) (fun k0 z0=>True) (fun k0 z0=>[Ej 17 k0,Ei 5 z0]) (fun k0 z0=>[]) trivial <|fun k0 z0 hk0 hz0 hJ0=>Xs [Eb 18 (decide ((((k0:Nat):Int):Int)<((min p0.length p1.length:Nat):Int)))] [] 240 (v1 pT) <|Tri.seq <|Xb (fun h1 h1'=>?_) (fun h1 h1'=>?_)
 exact Tri.skip <|Tri.seq <|Tri.block <|Xs [Ej 6 k0] [18] 272 (v2 pT) <|Wu [] (some [0,0,0,6,14,0,0,96,224,510,1022,2047,4095]) [Ei 5 (iOr .i64 z0 (IntKind.wrap .i64 (al .u8 (p0.getD k0 0) (p1.getD k0 0))))] [6,5] [] [] 480 (v3 (pu (Yj k0 p0.length) (pu (Yl k0 p0.length) (v2 (pu (Yj k0 p1.length) (pu (Yl k0 p1.length) (v4 pT))))))) <|Wu [Ej 32 (k0+1)] none [Ej 17 (k0+1)] [17] [] [] 512 (pv pT (Yp k0 1) (v1 pT)) <|Xo [] trivial
 refine Tri.exit <|?_
 obtain rfl:k0=(min p0.length p1.length):=(by omega);subst hz0
 exact Xs [Eb 4 (((itr (xW p0 p1) (min p0.length p1.length) (al .i64 ((p0.length:Nat):Int) ((p1.length:Nat):Int))):Int)==0)] [18,17,16,5,0,1] 288 (v3 pT) <|Xz [] pz
theorem qK (p:List Int) (b:Bool) (n:Int):(cP p b n).length+(dW p b n).length≤p.length:=by
 unfold cP dW
 cases b
 ·rw [aB,aB]
  cases decide ((n:Int)>((p.length:Nat):Int))
  ·rw [aB,aB,List.length_take,List.length_take,List.length_drop,List.length_drop];omega
  ·rw [aC,aC];exact Nat.zero_le _
 ·rw [aC,aC];exact Nat.zero_le _
theorem jE (p:List Int) (b:Bool):(aR p b).size+(aW p b).length≤p.length:=by
 have h1:=qK p b 4
 have h2:=fun n=>qK (dq p b) (ed p b) n
 have h3:(dq p b).length≤p.length:=by unfold dq;omega
 unfold aR aW
 cases decide (((fa p b):Int)>16384)
 ·rw [aB,aB,ag];have:=h2 (IntKind.wrap .i64 (fa p b));omega
 ·rw [aC,aC];have:=h2 1073741824;show 0+_≤_;omega
theorem ry (p:List Int) (b:Bool):(bD p b).length≤p.length:=by
 unfold bD bG iI
 cases b
 ·rw [aB]
  cases decide ((1:Int)>((p.length:Nat):Int))
  ·rw [aB,List.length_take,List.length_drop];omega
  ·rw [aC];exact Nat.zero_le _
 ·rw [aC];exact Nat.zero_le _
def ti (p5:List Int) (p6:Bool) (p7:ByteArray):Bool :=
 (Ix (aA (aF (aR (bD p5 p6) (bN p5 p6))) ((aR (bD p5 p6) (bN p5 p6)).size) 0 ((aR (bD p5 p6) (bN p5 p6)).size)) (aA (aF (da p7)) ((da p7).size) 0 ((da p7).size)))
def te (p5:List Int) (p6:Bool):Bool :=
 (fW (aW (bD p5 p6) (bN p5 p6)) (af (bD p5 p6) (bN p5 p6)))
def bW (p5:List Int) (p6:Bool):ByteArray :=
 (aR (aW (bD p5 p6) (bN p5 p6)) (af (bD p5 p6) (bN p5 p6)))
def ar (p5:List Int) (p6:Bool):List Int :=
 (aW (aW (bD p5 p6) (bN p5 p6)) (af (bD p5 p6) (bN p5 p6)))
def au (p5:List Int) (p6:Bool):Bool :=
 (af (aW (bD p5 p6) (bN p5 p6)) (af (bD p5 p6) (bN p5 p6)))
def gp (p5:List Int) (p6:Bool):Bool :=
 (fW (aW (ar p5 p6) (au p5 p6)) (af (ar p5 p6) (au p5 p6)))
def yr (p10:Nat) (p0:List Int) (p5:List Int) (p6:Bool) (p7:ByteArray):Bool :=
 (yz (aA (aF (bV (bW p5 p6))) ((bV (bW p5 p6)).size) 0 ((bV (bW p5 p6)).size)) (aA (fQ (aA p0 p10 0 p10) p7 (bW p5 p6)) (bm (aA p0 p10 0 p10) p7 (bW p5 p6)) 0 (bm (aA p0 p10 0 p10) p7 (bW p5 p6))) (aA (gM (aR (ar p5 p6) (au p5 p6))) ((ao (aR (ar p5 p6) (au p5 p6))).size) 0 ((ao (aR (ar p5 p6) (au p5 p6))).size)))
def fk (p10:Nat) (p0:List Int) (p5:List Int) (p6:Bool) (p7:ByteArray) (p8:ByteArray):Bool :=
 (sel (aQ p8 (⟨#[110,111,110,101]⟩:ByteArray)) false (sel (aQ p8 (⟨#[112,97,115,115,119,111,114,100]⟩:ByteArray)) (sel (!(aQ (da p7) (⟨#[]⟩:ByteArray))) (ti p5 p6 p7) false) (sel (aQ p8 (⟨#[112,117,98,108,105,99,107,101,121]⟩:ByteArray)) (sel (aQ (aR (bD p5 p6) (bN p5 p6)) (⟨#[115,115,104,45,101,100,50,53,53,49,57]⟩:ByteArray)) (sel (!(aQ (bV (bW p5 p6)) (⟨#[]⟩:ByteArray))) (sel (!(fe p5 p6)) false (sel (kQ (aR (ar p5 p6) (au p5 p6))) false (sel (aQ (bV (bW p5 p6)) (dM p7)) (yr p10 p0 p5 p6 p7) false))) false) false) false)))
def co (p5:List Int) (p6:Bool) (p7:ByteArray) (p8:ByteArray):ByteArray :=
 (sel (aQ p8 (⟨#[110,111,110,101]⟩:ByteArray)) (⟨#[]⟩:ByteArray) (sel (aQ p8 (⟨#[112,97,115,115,119,111,114,100]⟩:ByteArray)) (⟨#[]⟩:ByteArray) (sel (aQ p8 (⟨#[112,117,98,108,105,99,107,101,121]⟩:ByteArray)) (sel (aQ (aR (bD p5 p6) (bN p5 p6)) (⟨#[115,115,104,45,101,100,50,53,53,49,57]⟩:ByteArray)) (sel (!(aQ (bV (bW p5 p6)) (⟨#[]⟩:ByteArray))) (sel (!(fe p5 p6)) (sel (aQ (bV (bW p5 p6)) (dM p7)) (bW p5 p6) (⟨#[]⟩:ByteArray)) (⟨#[]⟩:ByteArray)) (⟨#[]⟩:ByteArray)) (⟨#[]⟩:ByteArray)) (⟨#[]⟩:ByteArray))))
def dE (p5:List Int) (p6:Bool) (p8:ByteArray):Bool :=
 (sel (aQ p8 (⟨#[110,111,110,101]⟩:ByteArray)) (fW p5 p6) (sel (aQ p8 (⟨#[112,97,115,115,119,111,114,100]⟩:ByteArray)) (sel (te p5 p6) (!(fe p5 p6)) false) (sel (aQ p8 (⟨#[112,117,98,108,105,99,107,101,121]⟩:ByteArray)) (sel (!(fe p5 p6)) (fW (ar p5 p6) (au p5 p6)) (gp p5 p6)) (AL p5 p6))))
def dP (p5:List Int) (p6:Bool) (p8:ByteArray):List Int :=
 (sel (aQ p8 (⟨#[110,111,110,101]⟩:ByteArray)) p5 (sel (aQ p8 (⟨#[112,97,115,115,119,111,114,100]⟩:ByteArray)) (aW (bD p5 p6) (bN p5 p6)) (sel (aQ p8 (⟨#[112,117,98,108,105,99,107,101,121]⟩:ByteArray)) (sel (!(fe p5 p6)) (ar p5 p6) (aW (ar p5 p6) (au p5 p6))) p5)))
def dR (p5:List Int) (p6:Bool) (p8:ByteArray):Bool :=
 (sel (aQ p8 (⟨#[110,111,110,101]⟩:ByteArray)) p6 (sel (aQ p8 (⟨#[112,97,115,115,119,111,114,100]⟩:ByteArray)) (af (bD p5 p6) (bN p5 p6)) (sel (aQ p8 (⟨#[112,117,98,108,105,99,107,101,121]⟩:ByteArray)) (sel (!(fe p5 p6)) (au p5 p6) (af (ar p5 p6) (au p5 p6))) p6)))
theorem Bq (p5:List Int) (p6:Bool):(bW p5 p6).size≤p5.length:=by
 have h1:=ry p5 p6
 have h2:=jE (bD p5 p6) (bN p5 p6)
 have h3:=jE (aW (bD p5 p6) (bN p5 p6)) (af (bD p5 p6) (bN p5 p6))
 unfold bW
 omega
theorem qe {p0:List Int} {n:Nat} {a b:ByteArray} (h:p0.length=n):bm (aA p0 n 0 n) a b≤n+a.size+b.size+200:=by
 rw [aV h]
 have:=nK p0 a b
 omega
theorem vA {s:ByteArray} {n:Nat} (h:s.size≤n):(aA (aF s) s.size 0 s.size).length≤n:=by rw [aV (ai s),ai];exact h
def Fk:List AV→List Blk→Option (Prop × Ret)
 |[.sc (.p 0 0),.sc (.p 3 0),.sc (.s p7),.sc (.s p8)],[.cells [.sl 1 0 4 4 none,.sl 2 0 p10 1 none,.i .i64 p1,.b p2,.s p3,.b p4],.cells p9,.ints .u8 p11 p0,.cells [.ro .u8 p5,.b p6]]=>some (((p10=p11)∧((UA=p9)∧(p5.length+p7.size≤6000∧p10≤1000))),⟨.tup [.sc (.b (fk p10 p0 p5 p6 p7 p8)),.sc (.s (co p5 p6 p7 p8)),.sc (.b (dE p5 p6 p8))],[some (.cells [.sl 1 0 4 4 none,.sl 2 0 p10 1 none,.i .i64 p1,.b p2,.s p3,.b p4]),some (.cells UA),some (.ints .u8 p10 p0),some (.cells [.ro .u8 (dP p5 p6 p8),.b (dR p5 p6 p8)])]⟩)
 |_,_=>none
def JX:KL Tryz.prog gD:=Zc vl 1408 [.ro .u8,.val,.val] [2] [] <|Zc eg 272 [.io] [] [3] <|Zc eg 304 [.io] [] [3] <|Zc eg 336 [.io] [] [3] <|Zc eg 704 [.io] [] [3] <|Zc eg 1136 [.io] [] [3] <|Zc eg 1568 [.io] [] [3] <|Zc eg 2000 [.io] [] [3] <|Zc jq 208 [.io] [] [3] <|Zc jq 512 [.io] [] [3] <|Zc jq 736 [.io] [] [3] <|Zc jq 768 [.io] [] [3] <|Zc jq 1056 [.io] [] [3] <|Zc jq 1488 [.io] [] [3] <|Zc jq 1920 [.io] [] [3] <|Zc jq 2352 [.io] [] [3] <|Zc JD 272 [.io] [] [3] <|Zc HG 96 [.io,.val] [] [0,1,2] <|Zc CW 240 [.io] [] [3] <|Zc CW 272 [.io] [] [3] <|Zc Jv 464 [.ro .u8,.ro .u8] [400,448] [] <|Zv xA 416 1 <|Zv uU 720 1 <|Zv kO 1152 1 <|Zv kO 1584 1 <|Zv kO 2016 1 <|Zc KN 1440 [.ro .u8,.ro .u8,.ro .u8] [1296,1408,1152] [] <|Zn
theorem Io:Known Tryz.prog gD 45 ⟨4,0,Fk⟩:=by
 refine Xw Tryz.f45 105 JX mixed <|fun E args ks C r h hC hlen=>?_
 simp only at h
 unfold Fk at h
 split at h
 rotate_left
 cases h
 rename_i p7 p8 p10 p1 p2 p3 p4 p9 p11 p0 p5 p6
 cases h
 simp only [aj] at hlen
 obtain ⟨hEp11,hC⟩:=hC
 obtain ⟨hEp9,hC⟩:=hC
 subst hEp11
 subst hEp9
 have hb:=Bq p5 p6
 refine ⟨rfl,?_⟩
 refine Xs [Es 9 (⟨#[]⟩:ByteArray)] [] 64 (v3 pT) <|Xt [Ep 11 112] [] [Mc 112 [.s (lZ p7),.s (da p7),.s (dM p7),.nils],Mi 2 p10 p0,Mc 1 UA] [1,2] 144 (v2 (pu (pa pT (pa (Yr p10) (pa (Yr UA) pT))) (v1 (pu (pa (Yw 4) (Yr 4)) pT)))) <|Tri.seq <|Xs [Es 23 p8] [3] 160 (v1 pT) <|Tri.block <|Xs [Eb 24 (aQ p8 (⟨#[110,111,110,101]⟩:ByteArray))] [] 192 (v2 pT) <|Xa (fun h1=>?_) (fun h1=>?_)
 exact Xt [Eb 10 (fW p5 p6),Es 9 (⟨#[]⟩:ByteArray),Eb 8 false] [24,23,11,9,0,1,2] [Mc 3 [.ro .u8 p5,.b p6]] [112,3] 272 (v1 (pu pz (v3 pT))) <|Xy [(0,0),(1,1),(2,2),(3,3)] (pa pT (pa pT pz)) (by simp only [fk,co,dE,dP,dR,h1,aC,aB] <;> rfl)
 refine Xs [Eb 28 (aQ p8 (⟨#[112,97,115,115,119,111,114,100]⟩:ByteArray))] [24] 224 (v2 pT) <|Xa (fun h2=>?_) (fun h2=>?_)
 refine Xt [Es 13 (aR (bD p5 p6) (bN p5 p6)),Eb 12 (fe p5 p6)] [28,23,9,0,2] [Mc 3 [.ro .u8 (aW (bD p5 p6) (bN p5 p6)),.b (af (bD p5 p6) (bN p5 p6))]] [3] 320 (v1 (pu pz (v1 (pu pz (v2 pT))))) <|Tri.split (!(aQ (da p7) (⟨#[]⟩:ByteArray))) (fun h3=>?_) (fun h3=>?_)
 refine Tri.split (te p5 p6) (fun h4=>?_) (fun h4=>?_)
 exact Tri.len 2 rfl <|fun hl5=>Xu [Eb 37 true,Eb 47 true] none [Eb 10 (!(fe p5 p6)),Es 9 (⟨#[]⟩:ByteArray),Eb 8 (ti p5 p6 p7)] [13,12,11,1] [] [112] 640 (v1 (pu (Yl 1 4) (v1 (pg h3 (v3 (pu (Yl 1 4) (v1 (pu (pa (pa (Yw ((aR (bD p5 p6) (bN p5 p6)).size)) (pa (Yw ((da p7).size)) pT)) (pl (show (aA (aF (aR (bD p5 p6) (bN p5 p6))) ((aR (bD p5 p6) (bN p5 p6)).size) 0 ((aR (bD p5 p6) (bN p5 p6)).size)).length≤100000 from vA (Nat.le_trans (dG _ _) (by decide))))) (v2 (pu pz (pg h4 (v6 pT)))))))))))) <|Xy [(0,0),(1,1),(2,2),(3,3)] (pa pT (pa pT pz)) (by simp only [fk,co,dE,dP,dR,h1,h2,h3,h4,aC,aB] <;> rfl)
 exact Tri.len 2 rfl <|fun hl6=>Xu [Eb 37 true,Eb 47 false] none [Eb 10 false,Es 9 (⟨#[]⟩:ByteArray),Eb 8 (ti p5 p6 p7)] [13,12,11,1] [] [112] 640 (v1 (pu (Yl 1 4) (v1 (pg h3 (v3 (pu (Yl 1 4) (v1 (pu (pa (pa (Yw ((aR (bD p5 p6) (bN p5 p6)).size)) (pa (Yw ((da p7).size)) pT)) (pl (show (aA (aF (aR (bD p5 p6) (bN p5 p6))) ((aR (bD p5 p6) (bN p5 p6)).size) 0 ((aR (bD p5 p6) (bN p5 p6)).size)).length≤100000 from vA (Nat.le_trans (dG _ _) (by decide))))) (v2 (pu pz (pg h4 (v6 pT)))))))))))) <|Xy [(0,0),(1,1),(2,2),(3,3)] (pa pT (pa pT pz)) (by simp only [fk,co,dE,dP,dR,h1,h2,h3,h4,aC,aB] <;> rfl)
 refine Tri.split (te p5 p6) (fun h7=>?_) (fun h7=>?_)
 exact Xu [Eb 37 false,Eb 47 true] none [Eb 10 (!(fe p5 p6)),Es 9 (⟨#[]⟩:ByteArray),Eb 8 false] [13,12,11,1] [] [112] 640 (v1 (pu (Yl 1 4) (v1 (pg h3 (v8 (pu pz (pg h7 (v6 pT)))))))) <|Xy [(0,0),(1,1),(2,2),(3,3)] (pa pT (pa pT pz)) (by simp only [fk,co,dE,dP,dR,h1,h2,h3,h7,aC,aB] <;> rfl)
 exact Xu [Eb 37 false,Eb 47 false] none [Eb 10 false,Es 9 (⟨#[]⟩:ByteArray),Eb 8 false] [13,12,11,1] [] [112] 640 (v1 (pu (Yl 1 4) (v1 (pg h3 (v8 (pu pz (pg h7 (v6 pT)))))))) <|Xy [(0,0),(1,1),(2,2),(3,3)] (pa pT (pa pT pz)) (by simp only [fk,co,dE,dP,dR,h1,h2,h3,h7,aC,aB] <;> rfl)
 refine Xs [Eb 51 (aQ p8 (⟨#[112,117,98,108,105,99,107,101,121]⟩:ByteArray))] [28,23] 256 (v2 pT) <|Xa (fun h8=>?_) (fun h8=>?_)
 refine Xt [Es 16 (bW p5 p6),Es 15 (aR (bD p5 p6) (bN p5 p6)),Eb 14 (fe p5 p6)] [51] [Mc 3 [.ro .u8 (ar p5 p6),.b (au p5 p6)]] [3] 400 (v1 (pu pz (v1 (pu pz (v1 (pu pz (v3 pT))))))) <|Xs [Es 17 (bV (bW p5 p6))] [] 448 (v1 (pu (pa pT (Ye ((bW p5 p6).size) 1000000000)) (v1 pT))) <|Tri.split (aQ (aR (bD p5 p6) (bN p5 p6)) (⟨#[115,115,104,45,101,100,50,53,53,49,57]⟩:ByteArray)) (fun h9=>?_) (fun h9=>?_)
 refine Tri.split (!(aQ (bV (bW p5 p6)) (⟨#[]⟩:ByteArray))) (fun h10=>?_) (fun h10=>?_)
 refine Xu [Eb 63 true,Eb 67 true] none [Eb 18 (aQ (bV (bW p5 p6)) (dM p7))] [15,11] [] [112] 656 (v2 (pg h9 (v3 (pg h10 (v2 (pu (Yl 2 4) (v3 pT))))))) <|Tri.seq <|Xs [Eb 74 (!(fe p5 p6))] [14] 688 (v2 pT) <|Xa (fun h11=>?_) (fun h11=>?_)
 refine Tri.seq <|Xs [Eb 75 (aQ (bV (bW p5 p6)) (dM p7))] [74,18,17,0,2] 704 (v1 pT) <|Xj (x:=(aQ (bV (bW p5 p6)) (dM p7))) (fun bb=>[Es 9 (sel bb (bW p5 p6) (⟨#[]⟩:ByteArray))]) [75,16,9] (fun bb=>[]) [] 736 (fun h12=>?_) (fun h12=>?_) ?_
 exact Ws [Es 9 (bW p5 p6)] [75,16,9] 736 (v2 pT) <|Xe [Es 9 (bW p5 p6)] []
 exact Tri.skip <|Xe [Es 9 (⟨#[]⟩:ByteArray)] []
 exact Xs [Eb 10 (fW (ar p5 p6) (au p5 p6)),Es 9 (sel (aQ (bV (bW p5 p6)) (dM p7)) (bW p5 p6) (⟨#[]⟩:ByteArray)),Eb 8 false] [9,1] 832 (v2 (pu pz (v3 pT))) <|Xy [(0,0),(1,1),(2,2),(3,3)] (pa pT (pa pT pz)) (by simp only [fk,co,dE,dP,dR,h1,h2,h8,h9,h10,h11,aC,aB] <;> rfl)
 refine Tri.skip <|Tri.split (kQ (aR (ar p5 p6) (au p5 p6))) (fun h13=>?_) (fun h13=>?_)
 refine Xt [(19,.sc (.nils))] [74,9] [Mc 3 [.ro .u8 (aW (ar p5 p6) (au p5 p6)),.b (af (ar p5 p6) (au p5 p6))]] [3] 752 (v1 (pu pz (pu (pa pT (pa (pl h13) (pl (show (aR (ar p5 p6) (au p5 p6)).size≤1000000000 from Nat.le_trans (dG _ _) (by decide))))) (v1 pT)))) <|Tri.split (aQ (bV (bW p5 p6)) (dM p7)) (fun h14=>?_) (fun h14=>?_)
 exact Xu [Eb 84 true] none [Eb 10 (gp p5 p6),Es 9 (⟨#[]⟩:ByteArray),Eb 8 false] [19,18,17,16,0,1,2] [] [] 1120 (v1 (pg h14 (v8 (v9 (pu pz (v3 pT)))))) <|Xy [(0,0),(1,1),(2,2),(3,3)] (pa pT (pa pT pz)) (by simp only [fk,co,dE,dP,dR,h1,h2,h8,h9,h10,h11,h13,h14,aC,aB] <;> rfl)
 exact Xu [Eb 84 false] none [Eb 10 (gp p5 p6),Es 9 (⟨#[]⟩:ByteArray),Eb 8 false] [19,18,17,16,0,1,2] [] [] 1120 (v1 (pg h14 (v8 (v9 (pu pz (v3 pT)))))) <|Xy [(0,0),(1,1),(2,2),(3,3)] (pa pT (pa pT pz)) (by simp only [fk,co,dE,dP,dR,h1,h2,h8,h9,h10,h11,h13,h14,aC,aB] <;> rfl)
 refine Tri.sub (Sub.up (U':=1120) (by decide)) <|Xt [El 19 1152 ((ao (aR (ar p5 p6) (au p5 p6))).size)] [74,9] [Mi 1152 ((ao (aR (ar p5 p6) (au p5 p6))).size) (gM (aR (ar p5 p6) (au p5 p6))),Mc 3 [.ro .u8 (aW (ar p5 p6) (au p5 p6)),.b (af (ar p5 p6) (au p5 p6))]] [3] 1184 (v1 (pu pz (pu (pa pT (pa (pl h13) (pl (show (aR (ar p5 p6) (au p5 p6)).size≤1000000000 from Nat.le_trans (dG _ _) (by decide))))) (v1 pT)))) <|Tri.split (aQ (bV (bW p5 p6)) (dM p7)) (fun h15=>?_) (fun h15=>?_)
 exact Tri.len 1152 rfl <|fun hl16=>Tri.len 2 rfl <|fun hl17=>Xu [Eb 84 true] none [Eb 10 (gp p5 p6),Es 9 (⟨#[]⟩:ByteArray),Eb 8 (yr p10 p0 p5 p6 p7)] [19,18,17,16,0,1,2] [] [1152] 1552 (v1 (pg h15 (v1 (pu (pl (show 0<(ao (aR (ar p5 p6) (au p5 p6))).size from EV (by assumption))) (v7 (pu (Yl 1 6) (v2 (pu (pa (pa (Yw p10) pT) (pl (show (aA p0 p10 0 p10).length≤20000∧p7.size≤20000∧(bW p5 p6).size≤20000 from ⟨aK (by omega) (by omega),by omega,by omega⟩))) (v1 (pu (pa (pa (Yw ((bV (bW p5 p6)).size)) (pa (Yw (bm (aA p0 p10 0 p10) p7 (bW p5 p6))) (pa (Yw ((ao (aR (ar p5 p6) (au p5 p6))).size)) pT))) (pl (show (aA (fQ (aA p0 p10 0 p10) p7 (bW p5 p6)) (bm (aA p0 p10 0 p10) p7 (bW p5 p6)) 0 (bm (aA p0 p10 0 p10) p7 (bW p5 p6))).length≤10000 from aK (Nat.le_trans (qe (by assumption)) (by omega)) (by rw [mG];exact Nat.le_trans (qe (by assumption)) (by omega))))) (v2 (pu pz (v3 pT))))))))))))) <|Xy [(0,0),(1,1),(2,2),(3,3)] (pa pT (pa pT pz)) (by simp only [fk,co,dE,dP,dR,h1,h2,h8,h9,h10,h11,h13,h15,aC,aB] <;> rfl)
 exact Xu [Eb 84 false] none [Eb 10 (gp p5 p6),Es 9 (⟨#[]⟩:ByteArray),Eb 8 false] [19,18,17,16,0,1,2] [] [1152] 1552 (v1 (pg h15 (v8 (v9 (pu pz (v3 pT)))))) <|Xy [(0,0),(1,1),(2,2),(3,3)] (pa pT (pa pT pz)) (by simp only [fk,co,dE,dP,dR,h1,h2,h8,h9,h10,h11,h13,h15,aC,aB] <;> rfl)
 refine Xu [Eb 63 true,Eb 67 false] none [Eb 18 false] [15,11] [] [112] 656 (v2 (pg h9 (v3 (pg h10 (v6 pT))))) <|Tri.seq <|Xs [Eb 74 (!(fe p5 p6))] [14] 688 (v2 pT) <|Xa (fun h18=>?_) (fun h18=>?_)
 exact Tri.seq <|Xs [Eb 75 false] [74,18,17,0,2] 704 (v1 pT) <|Tri.cond_false (by kernel_rfl) <|Tri.skip <|Xs [Eb 10 (fW (ar p5 p6) (au p5 p6)),Es 9 (⟨#[]⟩:ByteArray),Eb 8 false] [75,16,9,1] 800 (v2 (pu pz (v3 pT))) <|Xy [(0,0),(1,1),(2,2),(3,3)] (pa pT (pa pT pz)) (by simp only [fk,co,dE,dP,dR,h1,h2,h8,h9,h10,h18,aC,aB] <;> rfl)
 refine Tri.skip <|Tri.split (kQ (aR (ar p5 p6) (au p5 p6))) (fun h19=>?_) (fun h19=>?_)
 exact Xt [(19,.sc (.nils))] [74,9] [Mc 3 [.ro .u8 (aW (ar p5 p6) (au p5 p6)),.b (af (ar p5 p6) (au p5 p6))]] [3] 752 (v1 (pu pz (pu (pa pT (pa (pl h19) (pl (show (aR (ar p5 p6) (au p5 p6)).size≤1000000000 from Nat.le_trans (dG _ _) (by decide))))) (v1 pT)))) <|Xs [Eb 10 (gp p5 p6),Es 9 (⟨#[]⟩:ByteArray),Eb 8 false] [19,18,17,16,0,1,2] 1120 (v1 (v9 (v9 (pu pz (v3 pT))))) <|Xy [(0,0),(1,1),(2,2),(3,3)] (pa pT (pa pT pz)) (by simp only [fk,co,dE,dP,dR,h1,h2,h8,h9,h10,h18,h19,aC,aB] <;> rfl)
 exact Tri.sub (Sub.up (U':=1552) (by decide)) <|Xt [El 19 1584 ((ao (aR (ar p5 p6) (au p5 p6))).size)] [74,9] [Mi 1584 ((ao (aR (ar p5 p6) (au p5 p6))).size) (gM (aR (ar p5 p6) (au p5 p6))),Mc 3 [.ro .u8 (aW (ar p5 p6) (au p5 p6)),.b (af (ar p5 p6) (au p5 p6))]] [3] 1616 (v1 (pu pz (pu (pa pT (pa (pl h19) (pl (show (aR (ar p5 p6) (au p5 p6)).size≤1000000000 from Nat.le_trans (dG _ _) (by decide))))) (v1 pT)))) <|Xt [Eb 10 (gp p5 p6),Es 9 (⟨#[]⟩:ByteArray),Eb 8 false] [19,18,17,16,0,1,2] [] [1584] 1984 (v1 (v9 (v9 (pu pz (v3 pT))))) <|Xy [(0,0),(1,1),(2,2),(3,3)] (pa pT (pa pT pz)) (by simp only [fk,co,dE,dP,dR,h1,h2,h8,h9,h10,h18,h19,aC,aB] <;> rfl)
 refine Xu [Eb 63 false] none [Eb 18 false] [15,11] [] [112] 656 (v2 (pg h9 (v1 (v9 pT)))) <|Tri.seq <|Xs [Eb 74 (!(fe p5 p6))] [14] 688 (v2 pT) <|Xa (fun h20=>?_) (fun h20=>?_)
 exact Tri.seq <|Xs [Eb 75 false] [74,18,17,0,2] 704 (v1 pT) <|Tri.cond_false (by kernel_rfl) <|Tri.skip <|Xs [Eb 10 (fW (ar p5 p6) (au p5 p6)),Es 9 (⟨#[]⟩:ByteArray),Eb 8 false] [75,16,9,1] 800 (v2 (pu pz (v3 pT))) <|Xy [(0,0),(1,1),(2,2),(3,3)] (pa pT (pa pT pz)) (by simp only [fk,co,dE,dP,dR,h1,h2,h8,h9,h20,aC,aB] <;> rfl)
 refine Tri.skip <|Tri.split (kQ (aR (ar p5 p6) (au p5 p6))) (fun h21=>?_) (fun h21=>?_)
 exact Xt [(19,.sc (.nils))] [74,9] [Mc 3 [.ro .u8 (aW (ar p5 p6) (au p5 p6)),.b (af (ar p5 p6) (au p5 p6))]] [3] 752 (v1 (pu pz (pu (pa pT (pa (pl h21) (pl (show (aR (ar p5 p6) (au p5 p6)).size≤1000000000 from Nat.le_trans (dG _ _) (by decide))))) (v1 pT)))) <|Xs [Eb 10 (gp p5 p6),Es 9 (⟨#[]⟩:ByteArray),Eb 8 false] [19,18,17,16,0,1,2] 1120 (v1 (v9 (v9 (pu pz (v3 pT))))) <|Xy [(0,0),(1,1),(2,2),(3,3)] (pa pT (pa pT pz)) (by simp only [fk,co,dE,dP,dR,h1,h2,h8,h9,h20,h21,aC,aB] <;> rfl)
 exact Tri.sub (Sub.up (U':=1984) (by decide)) <|Xt [El 19 2016 ((ao (aR (ar p5 p6) (au p5 p6))).size)] [74,9] [Mi 2016 ((ao (aR (ar p5 p6) (au p5 p6))).size) (gM (aR (ar p5 p6) (au p5 p6))),Mc 3 [.ro .u8 (aW (ar p5 p6) (au p5 p6)),.b (af (ar p5 p6) (au p5 p6))]] [3] 2048 (v1 (pu pz (pu (pa pT (pa (pl h21) (pl (show (aR (ar p5 p6) (au p5 p6)).size≤1000000000 from Nat.le_trans (dG _ _) (by decide))))) (v1 pT)))) <|Xt [Eb 10 (gp p5 p6),Es 9 (⟨#[]⟩:ByteArray),Eb 8 false] [19,18,17,16,0,1,2] [] [2016] 2416 (v1 (v9 (v9 (pu pz (v3 pT))))) <|Xy [(0,0),(1,1),(2,2),(3,3)] (pa pT (pa pT pz)) (by simp only [fk,co,dE,dP,dR,h1,h2,h8,h9,h20,h21,aC,aB] <;> rfl)
 exact Tri.skip <|Xt [Eb 10 (AL p5 p6),Es 9 (⟨#[]⟩:ByteArray),Eb 8 false] [51,11,9,0,1,2] [Mc 3 [.ro .u8 p5,.b p6]] [112,3] 336 (v1 (pu pz (v3 pT))) <|Xy [(0,0),(1,1),(2,2),(3,3)] (pa pT (pa pT pz)) (by simp only [fk,co,dE,dP,dR,h1,h2,h8,aC,aB] <;> rfl)
end Go.Vm
namespace Go.Vm
open Go Go.Proofs
def kj (p5:List Int):Bool :=
 (fW (aW (bG p5 false) (bI p5 false)) (af (bG p5 false) (bI p5 false)))
def pb:List Int :=
 (pc (⟨#[115,115,104,45,117,115,101,114,97,117,116,104]⟩:ByteArray))
def gW (p5:List Int):ByteArray :=
 (aR (aW (bG p5 false) (bI p5 false)) (af (bG p5 false) (bI p5 false)))
def cH (p5:List Int):List Int :=
 (aW (aW (bG p5 false) (bI p5 false)) (af (bG p5 false) (bI p5 false)))
def cL (p5:List Int):Bool :=
 (af (aW (bG p5 false) (bI p5 false)) (af (bG p5 false) (bI p5 false)))
def gU (p10:Nat) (p0:List Int) (p5:List Int):Bool :=
 (fk p10 p0 (aW (cH p5) (cL p5)) (af (cH p5) (cL p5)) (aR (bG p5 false) (bI p5 false)) (aR (cH p5) (cL p5)))
def dI (p5:List Int):ByteArray :=
 (co (aW (cH p5) (cL p5)) (af (cH p5) (cL p5)) (aR (bG p5 false) (bI p5 false)) (aR (cH p5) (cL p5)))
def gZ (p5:List Int):Bool :=
 (dE (aW (cH p5) (cL p5)) (af (cH p5) (cL p5)) (aR (cH p5) (cL p5)))
def zD:List Int :=
 (cC 1 [60] (⟨#[115,115,104,45,101,100,50,53,53,49,57]⟩:ByteArray))
def nO (p5:List Int):List Int :=
 (cC ((1+4)+(⟨#[115,115,104,45,101,100,50,53,53,49,57]⟩:ByteArray).size) (zD) (dI p5))
def dv (p10:Nat) (p0:List Int) (p1:Int) (p2:Bool) (p4:Bool) (p5:List Int):Int :=
 (sel p4 8 (sel (((dV p5 false):Int)==5) (sel (!(kj p5)) 3 (sel (!(aQ (aR (bG p5 false) (bI p5 false)) (⟨#[115,115,104,45,117,115,101,114,97,117,116,104]⟩:ByteArray))) 3 0)) (sel (((dV p5 false):Int) != 50) 3 (sel (!p2) 3 (sel (!(gZ p5)) 3 (sel (!(aQ (gW p5) (⟨#[115,115,104,45,99,111,110,110,101,99,116,105,111,110]⟩:ByteArray))) 3 (sel (gU p10 p0 p5) 0 (sel (!(aQ (dI p5) (⟨#[]⟩:ByteArray))) 0 (sel (!(aQ (aR (cH p5) (cL p5)) (⟨#[110,111,110,101]⟩:ByteArray))) (sel (((aT .i64 (qG p1 1) 1):Int)==0) 9 0) 0)))))))))
def bc (p10:Nat) (p0:List Int) (p1:Int) (p2:Bool) (p4:Bool) (p5:List Int):Int :=
 (sel p4 p1 (sel (((dV p5 false):Int)==5) p1 (sel (((dV p5 false):Int) != 50) p1 (sel (!p2) p1 (sel (!(gZ p5)) p1 (sel (!(aQ (gW p5) (⟨#[115,115,104,45,99,111,110,110,101,99,116,105,111,110]⟩:ByteArray))) p1 (sel (gU p10 p0 p5) p1 (sel (!(aQ (dI p5) (⟨#[]⟩:ByteArray))) p1 (sel (!(aQ (aR (cH p5) (cL p5)) (⟨#[110,111,110,101]⟩:ByteArray))) (aT .i64 (qG p1 1) 1) p1)))))))))
def cu (p2:Bool) (p4:Bool) (p5:List Int):Bool :=
 (sel p4 p2 (sel (((dV p5 false):Int)==5) (sel (!(kj p5)) p2 (sel (!(aQ (aR (bG p5 false) (bI p5 false)) (⟨#[115,115,104,45,117,115,101,114,97,117,116,104]⟩:ByteArray))) p2 true)) p2))
def cz (p10:Nat) (p0:List Int) (p2:Bool) (p3:ByteArray) (p4:Bool) (p5:List Int):ByteArray :=
 (sel p4 p3 (sel (((dV p5 false):Int)==5) p3 (sel (((dV p5 false):Int) != 50) p3 (sel (!p2) p3 (sel (!(gZ p5)) p3 (sel (!(aQ (gW p5) (⟨#[115,115,104,45,99,111,110,110,101,99,116,105,111,110]⟩:ByteArray))) p3 (sel (gU p10 p0 p5) (aR (bG p5 false) (bI p5 false)) p3)))))))
def dB (p10:Nat) (p0:List Int) (p2:Bool) (p4:Bool) (p5:List Int):Bool :=
 (sel p4 p4 (sel (((dV p5 false):Int)==5) p4 (sel (((dV p5 false):Int) != 50) p4 (sel (!p2) p4 (sel (!(gZ p5)) p4 (sel (!(aQ (gW p5) (⟨#[115,115,104,45,99,111,110,110,101,99,116,105,111,110]⟩:ByteArray))) p4 (sel (gU p10 p0 p5) true p4)))))))
def cy (p10:Nat) (p0:List Int) (p1:Int) (p2:Bool) (p4:Bool) (p5:List Int):List Int :=
 (sel p4 ([]:List Int) (sel (((dV p5 false):Int)==5) (sel (!(kj p5)) ([]:List Int) (sel (!(aQ (aR (bG p5 false) (bI p5 false)) (⟨#[115,115,104,45,117,115,101,114,97,117,116,104]⟩:ByteArray))) ([]:List Int) (pb))) (sel (((dV p5 false):Int) != 50) ([]:List Int) (sel (!p2) ([]:List Int) (sel (!(gZ p5)) ([]:List Int) (sel (!(aQ (gW p5) (⟨#[115,115,104,45,99,111,110,110,101,99,116,105,111,110]⟩:ByteArray))) ([]:List Int) (sel (gU p10 p0 p5) [52] (sel (!(aQ (dI p5) (⟨#[]⟩:ByteArray))) (nO p5) (sel (!(aQ (aR (cH p5) (cL p5)) (⟨#[110,111,110,101]⟩:ByteArray))) (sel (((aT .i64 (qG p1 1) 1):Int)==0) ([]:List Int) (gJ)) (gJ))))))))))
def bX (p10:Nat) (p0:List Int) (p1:Int) (p2:Bool) (p4:Bool) (p5:List Int):Nat :=
 (sel p4 0 (sel (((dV p5 false):Int)==5) (sel (!(kj p5)) 0 (sel (!(aQ (aR (bG p5 false) (bI p5 false)) (⟨#[115,115,104,45,117,115,101,114,97,117,116,104]⟩:ByteArray))) 0 ((1+4)+(⟨#[115,115,104,45,117,115,101,114,97,117,116,104]⟩:ByteArray).size))) (sel (((dV p5 false):Int) != 50) 0 (sel (!p2) 0 (sel (!(gZ p5)) 0 (sel (!(aQ (gW p5) (⟨#[115,115,104,45,99,111,110,110,101,99,116,105,111,110]⟩:ByteArray))) 0 (sel (gU p10 p0 p5) 1 (sel (!(aQ (dI p5) (⟨#[]⟩:ByteArray))) ((((1+4)+(⟨#[115,115,104,45,101,100,50,53,53,49,57]⟩:ByteArray).size)+4)+(dI p5).size) (sel (!(aQ (aR (cH p5) (cL p5)) (⟨#[110,111,110,101]⟩:ByteArray))) (sel (((aT .i64 (qG p1 1) 1):Int)==0) 0 (cV)) (cV))))))))))
theorem zb (p5:List Int):(aW (cH p5) (cL p5)).length+(aR (bG p5 false) (bI p5 false)).size≤p5.length:=by
 have h1:=ry p5 false
 have h2:=jE (bG p5 false) (bI p5 false)
 have h3:=jE (aW (bG p5 false) (bI p5 false)) (af (bG p5 false) (bI p5 false))
 have h4:=jE (cH p5) (cL p5)
 unfold bD at h1
 unfold cH at h4 ⊢
 omega
theorem EI (p5:List Int):(dI p5).size≤16384:=by
 have h0:(⟨#[]⟩:ByteArray).size≤16384:=by decide
 have hs:∀ (b:Bool) (x y:ByteArray),x.size≤16384→y.size≤16384→(sel b x y).size≤16384:=fun b x y hx hy=>by cases b;exact hy;exact hx
 unfold dI co
 repeat first|exact h0|exact dG _ _|(unfold bW;exact dG _ _)|refine hs _ _ _ ?_ ?_
def AP:List AV→List Blk→Option (Prop × Ret)
 |[.sc (.p 0 0),.sc (.ro .u8 p5)],[.cells [.sl 1 0 4 4 none,.sl 2 0 p10 1 none,.i .i64 p1,.b p2,.s p3,.b p4],.cells p9,.ints .u8 p11 p0]=>some (((p10=p11)∧((UA=p9)∧(p5.length≤6000∧p10≤1000))),⟨.tup [.sc (.sl 3 0 (bX p10 p0 p1 p2 p4 p5) 1 none),.sc (.i .i64 (dv p10 p0 p1 p2 p4 p5))],[some (.cells [.sl 1 0 4 4 none,.sl 2 0 p10 1 none,.i .i64 (bc p10 p0 p1 p2 p4 p5),.b (cu p2 p4 p5),.s (cz p10 p0 p2 p3 p4 p5),.b (dB p10 p0 p2 p4 p5)]),some (.cells UA),some (.ints .u8 p10 p0),some (.ints .u8 (bX p10 p0 p1 p2 p4 p5) (cy p10 p0 p1 p2 p4 p5))]⟩)
 |_,_=>none
def HY:KL Tryz.prog gD:=Zv vv 544 1 <|Zc dQ 1024 [.io,.val] [] [1008] <|Zc dQ 1056 [.io,.val] [] [1024] <|Zc GD 192 [.ro .u8] [] [] <|Zc Bf 240 [.io] [] [192] <|Zc eg 336 [.io] [] [192] <|Zc eg 496 [.io] [] [192] <|Zc eg 528 [.io] [] [192] <|Zc eg 560 [.io] [] [192] <|Zc jq 384 [.io] [] [192] <|Zc Io 688 [.io,.io,.val,.val] [] [0,1,2,192] <|Zv sH 1040 0 <|Zv sH 1280 0 <|Zn
theorem Bk:Known Tryz.prog gD 20 ⟨3,1,AP⟩:=by
 refine Xw Tryz.f20 109 HY mixed <|fun E args ks C r h hC hlen=>?_
 simp only at h
 unfold AP at h
 split at h
 rotate_left
 cases h
 rename_i p5 p10 p1 p2 p3 p4 p9 p11 p0
 cases h
 simp only [aj] at hlen
 obtain ⟨hEp11,hC⟩:=hC
 obtain ⟨hEp9,hC⟩:=hC
 subst hEp11
 subst hEp9
 have ht:=zb p5
 have hf:=EI p5
 have sz0:(⟨#[115,115,104,45,101,100,50,53,53,49,57]⟩:ByteArray).size=11:=rfl
 refine ⟨rfl,?_⟩
 refine Xs [] [] 48 (v2 pT) <|Tri.seq <|Xs [Eb 22 p4] [] 176 (v6 (pu (Yl 5 6) (v1 pT))) <|Xa (fun h1=>?_) (fun h1=>?_)
 exact Xs [Ei 5 8,(4,.sc (.nils))] [22,0,1] 208 (v2 pT) <|Tri.sub (Sub.openNil (U:=208) (U':=224) 4 208 1 .u8 none (.inl rfl) (by decide) (by decide) (by kernel_rfl) (by kernel_rfl)) <|Xy (r':=⟨.tup [.sc (.sl 3 0 0 1 none),.sc (.i .i64 8)],[some (.cells [.sl 1 0 4 4 none,.sl 2 0 p10 1 none,.i .i64 p1,.b p2,.s p3,.b p4]),some (.cells UA),some (.ints .u8 p10 p0),some (.ints .u8 0 ([]:List Int))]⟩) [(0,0),(1,1),(2,2),(208,3)] (pa pT pz) (by simp only [dv,bc,cu,cz,dB,cy,bX,h1,aC,aB])
 refine Tri.skip <|Xt [Ep 6 192] [22,1] [Mc 192 [.ro .u8 p5,.b false]] [] 224 (v1 (pu (pa pz pT) (v1 pT))) <|Tri.seq <|Xt [Ek 7 .u8 (dV p5 false)] [] [Mc 192 [.ro .u8 (bG p5 false),.b (bI p5 false)]] [192] 272 (v1 (pu pz (v1 pT))) <|Tri.block <|Xs [Eb 27 (((dV p5 false):Int)==5)] [] 320 (v3 pT) <|Xa (fun h2=>?_) (fun h2=>?_)
 have h2':=eX h2
 refine Tri.seq <|Xt [Es 8 (aR (bG p5 false) (bI p5 false))] [27,7] [Mc 192 [.ro .u8 (aW (bG p5 false) (bI p5 false)),.b (af (bG p5 false) (bI p5 false))]] [192] 368 (v1 (pu pz (v1 pT))) <|Tri.split (!(kj p5)) (fun h3=>?_) (fun h3=>?_)
 exact Xu [Eb 35 true] none [Eb 38 true] [8,6] [] [192] 480 (v1 (pu pz (v1 (pg h3 (v3 pT))))) <|Tri.cond_true (by kernel_rfl) <|Xs [Ei 5 3,(4,.sc (.nils))] [38,0] 512 (v2 pT) <|Tri.sub (Sub.openNil (U:=512) (U':=528) 4 512 1 .u8 none (.inl rfl) (by decide) (by decide) (by kernel_rfl) (by kernel_rfl)) <|Xy (r':=⟨.tup [.sc (.sl 3 0 0 1 none),.sc (.i .i64 3)],[some (.cells [.sl 1 0 4 4 none,.sl 2 0 p10 1 none,.i .i64 p1,.b p2,.s p3,.b p4]),some (.cells UA),some (.ints .u8 p10 p0),some (.ints .u8 0 ([]:List Int))]⟩) [(0,0),(1,1),(2,2),(512,3)] (pa pT pz) (by simp only [dv,bc,cu,cz,dB,cy,bX,h1,h2,h3,aC,aB])
 refine Xu [Eb 35 false] none [Eb 38 (!(aQ (aR (bG p5 false) (bI p5 false)) (⟨#[115,115,104,45,117,115,101,114,97,117,116,104]⟩:ByteArray)))] [8,6] [] [192] 480 (v1 (pu pz (v1 (pg h3 (v3 pT))))) <|Xa (fun h4=>?_) (fun h4=>?_)
 exact Xs [Ei 5 3,(4,.sc (.nils))] [38,0] 512 (v2 pT) <|Tri.sub (Sub.openNil (U:=512) (U':=528) 4 512 1 .u8 none (.inl rfl) (by decide) (by decide) (by kernel_rfl) (by kernel_rfl)) <|Xy (r':=⟨.tup [.sc (.sl 3 0 0 1 none),.sc (.i .i64 3)],[some (.cells [.sl 1 0 4 4 none,.sl 2 0 p10 1 none,.i .i64 p1,.b p2,.s p3,.b p4]),some (.cells UA),some (.ints .u8 p10 p0),some (.ints .u8 0 ([]:List Int))]⟩) [(0,0),(1,1),(2,2),(512,3)] (pa pT pz) (by simp only [dv,bc,cu,cz,dB,cy,bX,h1,h2,h3,h4,aC,aB])
 exact Tri.skip <|Xt [] [38,0] [Mc 0 [.sl 1 0 4 4 none,.sl 2 0 p10 1 none,.i .i64 p1,.b true,.s p3,.b p4]] [0] 544 (v3 (pu (Ys 3 6) pT)) <|Xt [Ei 5 0,El 4 544 ((1+4)+(⟨#[115,115,104,45,117,115,101,114,97,117,116,104]⟩:ByteArray).size)] [] [Mi 544 ((1+4)+(⟨#[115,115,104,45,117,115,101,114,97,117,116,104]⟩:ByteArray).size) (pb)] [] 592 (pu (pa pT (Ye ((⟨#[115,115,104,45,117,115,101,114,97,117,116,104]⟩:ByteArray).size) 100000)) (v2 pT)) <|Xy (r':=⟨.tup [.sc (.sl 3 0 ((1+4)+(⟨#[115,115,104,45,117,115,101,114,97,117,116,104]⟩:ByteArray).size) 1 none),.sc (.i .i64 0)],[some (.cells [.sl 1 0 4 4 none,.sl 2 0 p10 1 none,.i .i64 p1,.b true,.s p3,.b p4]),some (.cells UA),some (.ints .u8 p10 p0),some (.ints .u8 ((1+4)+(⟨#[115,115,104,45,117,115,101,114,97,117,116,104]⟩:ByteArray).size) (pb))]⟩) [(0,0),(1,1),(2,2),(544,3)] (pa pT pz) (by simp only [dv,bc,cu,cz,dB,cy,bX,h1,h2,h3,h4,aC,aB])
 have h2':=dg h2
 refine Tri.split (((dV p5 false):Int) != 50) (fun h5=>?_) (fun h5=>?_)
 have h5':=cT h5
 exact Xu [Eb 46 true] none [Eb 43 true] [27,7] [] [] 480 (v2 (pg h5 (v7 pT))) <|Tri.cond_true (by kernel_rfl) <|Xt [Ei 5 3,(4,.sc (.nils))] [43,6,0] [] [192] 512 (v2 pT) <|Tri.sub (Sub.openNil (U:=512) (U':=528) 4 512 1 .u8 none (.inl rfl) (by decide) (by decide) (by kernel_rfl) (by kernel_rfl)) <|Xy (r':=⟨.tup [.sc (.sl 3 0 0 1 none),.sc (.i .i64 3)],[some (.cells [.sl 1 0 4 4 none,.sl 2 0 p10 1 none,.i .i64 p1,.b p2,.s p3,.b p4]),some (.cells UA),some (.ints .u8 p10 p0),some (.ints .u8 0 ([]:List Int))]⟩) [(0,0),(1,1),(2,2),(512,3)] (pa pT pz) (by simp only [dv,bc,cu,cz,dB,cy,bX,h1,h2,h5,aC,aB])
 have h5':=bU h5
 refine Xu [Eb 46 false] none [Eb 43 (!p2)] [27,7] [] [] 480 (v2 (pg h5 (v3 (pu (Yl 3 6) (v3 pT))))) <|Xa (fun h6=>?_) (fun h6=>?_)
 exact Xt [Ei 5 3,(4,.sc (.nils))] [43,6,0] [] [192] 512 (v2 pT) <|Tri.sub (Sub.openNil (U:=512) (U':=528) 4 512 1 .u8 none (.inl rfl) (by decide) (by decide) (by kernel_rfl) (by kernel_rfl)) <|Xy (r':=⟨.tup [.sc (.sl 3 0 0 1 none),.sc (.i .i64 3)],[some (.cells [.sl 1 0 4 4 none,.sl 2 0 p10 1 none,.i .i64 p1,.b p2,.s p3,.b p4]),some (.cells UA),some (.ints .u8 p10 p0),some (.ints .u8 0 ([]:List Int))]⟩) [(0,0),(1,1),(2,2),(512,3)] (pa pT pz) (by simp only [dv,bc,cu,cz,dB,cy,bX,h1,h2,h5,h6,aC,aB])
 refine Tri.skip <|Xt [Es 11 (aR (cH p5) (cL p5)),Es 10 (gW p5),Es 9 (aR (bG p5 false) (bI p5 false))] [43] [Mc 192 [.ro .u8 (aW (cH p5) (cL p5)),.b (af (cH p5) (cL p5))]] [192] 624 (v1 (pu pz (v1 (pu pz (v1 (pu pz (v3 pT))))))) <|Xt [Eb 14 (gZ p5),Es 13 (dI p5),Eb 12 (gU p10 p0 p5)] [6] [Mi 2 p10 p0,Mc 1 UA] [192,1,2] 816 (v4 (pu (pa pT (pa (Yr p10) (pa (Yr UA) (lo ((aW (cH p5) (cL p5)).length+(aR (bG p5 false) (bI p5 false)).size≤6000∧p10≤1000))))) (v7 pT))) <|Tri.seq <|Tri.block <|Tri.split (!(gZ p5)) (fun h7=>?_) (fun h7=>?_)
 exact Xu [Eb 71 true] none [Eb 68 true] [14,10] [] [] 928 (v2 (pg h7 (v4 pT))) <|Tri.cond_true (by kernel_rfl) <|Xs [Ei 5 3,(4,.sc (.nils))] [68,13,12,11,9,0] 960 (v2 pT) <|Tri.sub (Sub.openNil (U:=960) (U':=976) 4 960 1 .u8 none (.inl rfl) (by decide) (by decide) (by kernel_rfl) (by kernel_rfl)) <|Xy (r':=⟨.tup [.sc (.sl 3 0 0 1 none),.sc (.i .i64 3)],[some (.cells [.sl 1 0 4 4 none,.sl 2 0 p10 1 none,.i .i64 p1,.b p2,.s p3,.b p4]),some (.cells UA),some (.ints .u8 p10 p0),some (.ints .u8 0 ([]:List Int))]⟩) [(0,0),(1,1),(2,2),(960,3)] (pa pT pz) (by simp only [dv,bc,cu,cz,dB,cy,bX,h1,h2,h5,h6,h7,aC,aB])
 refine Xu [Eb 71 false] none [Eb 68 (!(aQ (gW p5) (⟨#[115,115,104,45,99,111,110,110,101,99,116,105,111,110]⟩:ByteArray)))] [14,10] [] [] 928 (v2 (pg h7 (v4 pT))) <|Xa (fun h8=>?_) (fun h8=>?_)
 exact Xs [Ei 5 3,(4,.sc (.nils))] [68,13,12,11,9,0] 960 (v2 pT) <|Tri.sub (Sub.openNil (U:=960) (U':=976) 4 960 1 .u8 none (.inl rfl) (by decide) (by decide) (by kernel_rfl) (by kernel_rfl)) <|Xy (r':=⟨.tup [.sc (.sl 3 0 0 1 none),.sc (.i .i64 3)],[some (.cells [.sl 1 0 4 4 none,.sl 2 0 p10 1 none,.i .i64 p1,.b p2,.s p3,.b p4]),some (.cells UA),some (.ints .u8 p10 p0),some (.ints .u8 0 ([]:List Int))]⟩) [(0,0),(1,1),(2,2),(960,3)] (pa pT pz) (by simp only [dv,bc,cu,cz,dB,cy,bX,h1,h2,h5,h6,h7,h8,aC,aB])
 refine Xs [Eb 75 (gU p10 p0 p5)] [68,12] 960 (v2 pT) <|Xa (fun h9=>?_) (fun h9=>?_)
 exact Xt [] [75,13,11,9,0] [Mc 0 [.sl 1 0 4 4 none,.sl 2 0 p10 1 none,.i .i64 p1,.b p2,.s (aR (bG p5 false) (bI p5 false)),.b true]] [0] 1104 (v5 (pu (Ys 5 6) (v2 (pu (Ys 4 6) pT)))) <|Xt [Ei 5 0,El 4 1104 1] [] [Mi 1104 1 [52]] [] 1152 (pu (Yf 1) (v2 pT)) <|Xy (r':=⟨.tup [.sc (.sl 3 0 1 1 none),.sc (.i .i64 0)],[some (.cells [.sl 1 0 4 4 none,.sl 2 0 p10 1 none,.i .i64 p1,.b p2,.s (aR (bG p5 false) (bI p5 false)),.b true]),some (.cells UA),some (.ints .u8 p10 p0),some (.ints .u8 1 [52])]⟩) [(0,0),(1,1),(2,2),(1104,3)] (pa pT pz) (by simp only [dv,bc,cu,cz,dB,cy,bX,h1,h2,h5,h6,h7,h8,h9,aC,aB])
 refine Xs [Eb 85 (!(aQ (dI p5) (⟨#[]⟩:ByteArray)))] [75,9] 1008 (v3 pT) <|Xa (fun h10=>?_) (fun h10=>?_)
 exact Xt [Ei 5 0,El 4 1056 ((((1+4)+(⟨#[115,115,104,45,101,100,50,53,53,49,57]⟩:ByteArray).size)+4)+(dI p5).size)] [85,13,11,0] [Mi 1056 ((((1+4)+(⟨#[115,115,104,45,101,100,50,53,53,49,57]⟩:ByteArray).size)+4)+(dI p5).size) (nO p5)] [] 1104 (pu (Yf 1) (pu (pa pT (pa (Yr 1) (lo (1≤1000000000∧(⟨#[115,115,104,45,101,100,50,53,53,49,57]⟩:ByteArray).size≤1000000000)))) (v1 (pu (pa pT (pa (Yr ((1+4)+(⟨#[115,115,104,45,101,100,50,53,53,49,57]⟩:ByteArray).size)) (lo (((1+4)+(⟨#[115,115,104,45,101,100,50,53,53,49,57]⟩:ByteArray).size)≤1000000000∧(dI p5).size≤1000000000)))) (v2 pT))))) <|Xy (r':=⟨.tup [.sc (.sl 3 0 ((((1+4)+(⟨#[115,115,104,45,101,100,50,53,53,49,57]⟩:ByteArray).size)+4)+(dI p5).size) 1 none),.sc (.i .i64 0)],[some (.cells [.sl 1 0 4 4 none,.sl 2 0 p10 1 none,.i .i64 p1,.b p2,.s p3,.b p4]),some (.cells UA),some (.ints .u8 p10 p0),some (.ints .u8 ((((1+4)+(⟨#[115,115,104,45,101,100,50,53,53,49,57]⟩:ByteArray).size)+4)+(dI p5).size) (nO p5))]⟩) [(0,0),(1,1),(2,2),(1056,3)] (pa pT pz) (by simp only [dv,bc,cu,cz,dB,cy,bX,h1,h2,h5,h6,h7,h8,h9,h10,aC,aB])
 refine Tri.skip <|Tri.seq <|Xs [Eb 93 (!(aQ (aR (cH p5) (cL p5)) (⟨#[110,111,110,101]⟩:ByteArray)))] [85,13,11] 1040 (v2 pT) <|Xa (fun h11=>?_) (fun h11=>?_)
 refine Xt [] [93] [Mc 0 [.sl 1 0 4 4 none,.sl 2 0 p10 1 none,.i .i64 (aT .i64 (qG p1 1) 1),.b p2,.s p3,.b p4]] [0] 1200 (v4 (pu (Yl 2 6) (v4 (pu (Ys 2 6) pT)))) <|Xs [Eb 107 (((aT .i64 (qG p1 1) 1):Int)==0)] [0] 1280 (v3 (pu (Yl 2 6) (v1 pT))) <|Xa (fun h12=>?_) (fun h12=>?_)
 have h12':=eX h12
 exact Xs [Ei 5 9,(4,.sc (.nils))] [107] 1312 (v2 pT) <|Tri.sub (Sub.openNil (U:=1312) (U':=1328) 4 1312 1 .u8 none (.inl rfl) (by decide) (by decide) (by kernel_rfl) (by kernel_rfl)) <|Xy (r':=⟨.tup [.sc (.sl 3 0 0 1 none),.sc (.i .i64 9)],[some (.cells [.sl 1 0 4 4 none,.sl 2 0 p10 1 none,.i .i64 (aT .i64 (qG p1 1) 1),.b p2,.s p3,.b p4]),some (.cells UA),some (.ints .u8 p10 p0),some (.ints .u8 0 ([]:List Int))]⟩) [(0,0),(1,1),(2,2),(1312,3)] (pa pT pz) (by simp only [dv,bc,cu,cz,dB,cy,bX,h1,h2,h5,h6,h7,h8,h9,h10,h11,h12,aC,aB])
 have h12':=dg h12
 exact Tri.skip <|Xt [Ei 5 0,El 4 1280 (cV)] [107] [Mi 1280 (cV) (gJ)] [] 1328 (pu pz (v2 pT)) <|Xy (r':=⟨.tup [.sc (.sl 3 0 (cV) 1 none),.sc (.i .i64 0)],[some (.cells [.sl 1 0 4 4 none,.sl 2 0 p10 1 none,.i .i64 (aT .i64 (qG p1 1) 1),.b p2,.s p3,.b p4]),some (.cells UA),some (.ints .u8 p10 p0),some (.ints .u8 (cV) (gJ))]⟩) [(0,0),(1,1),(2,2),(1280,3)] (pa pT pz) (by simp only [dv,bc,cu,cz,dB,cy,bX,h1,h2,h5,h6,h7,h8,h9,h10,h11,h12,aC,aB])
 exact Tri.skip <|Xt [Ei 5 0,El 4 1040 (cV)] [93,0] [Mi 1040 (cV) (gJ)] [] 1088 (pu pz (v2 pT)) <|Xy (r':=⟨.tup [.sc (.sl 3 0 (cV) 1 none),.sc (.i .i64 0)],[some (.cells [.sl 1 0 4 4 none,.sl 2 0 p10 1 none,.i .i64 p1,.b p2,.s p3,.b p4]),some (.cells UA),some (.ints .u8 p10 p0),some (.ints .u8 (cV) (gJ))]⟩) [(0,0),(1,1),(2,2),(1040,3)] (pa pT pz) (by simp only [dv,bc,cu,cz,dB,cy,bX,h1,h2,h5,h6,h7,h8,h9,h10,h11,aC,aB])
end Go.Vm
namespace Go.Vm
open Go Go.Proofs
def cB:List Int :=
 (sW (⟨#[115,115,104,45,117,115,101,114,97,117,116,104]⟩:ByteArray))
def eF:Bool :=
 (cu false false (aA (cB) ((1+4)+(⟨#[115,115,104,45,117,115,101,114,97,117,116,104]⟩:ByteArray).size) 0 ((1+4)+(⟨#[115,115,104,45,117,115,101,114,97,117,116,104]⟩:ByteArray).size)))
def yo:ByteArray :=
 (cz ((aA [115] 1 0 1).length) (aA [115] 1 0 1) false (⟨#[]⟩:ByteArray) false (aA (cB) ((1+4)+(⟨#[115,115,104,45,117,115,101,114,97,117,116,104]⟩:ByteArray).size) 0 ((1+4)+(⟨#[115,115,104,45,117,115,101,114,97,117,116,104]⟩:ByteArray).size)))
def dy:Bool :=
 (dB ((aA [115] 1 0 1).length) (aA [115] 1 0 1) false false (aA (cB) ((1+4)+(⟨#[115,115,104,45,117,115,101,114,97,117,116,104]⟩:ByteArray).size) 0 ((1+4)+(⟨#[115,115,104,45,117,115,101,114,97,117,116,104]⟩:ByteArray).size)))
def uB:List Int :=
 (cy ((aA [115] 1 0 1).length) (aA [115] 1 0 1) 3 false false (aA (cB) ((1+4)+(⟨#[115,115,104,45,117,115,101,114,97,117,116,104]⟩:ByteArray).size) 0 ((1+4)+(⟨#[115,115,104,45,117,115,101,114,97,117,116,104]⟩:ByteArray).size)))
def eB:List Int :=
 (cq (⟨#[97,110,110]⟩:ByteArray) (⟨#[115,101,99,114,101,116]⟩:ByteArray))
def Dk:Bool :=
 (cu (eF) (dy) (aA (eB) (aG (⟨#[97,110,110]⟩:ByteArray) (⟨#[115,101,99,114,101,116]⟩:ByteArray)) 0 (aG (⟨#[97,110,110]⟩:ByteArray) (⟨#[115,101,99,114,101,116]⟩:ByteArray))))
def th:ByteArray :=
 (cz ((aA [115] 1 0 1).length) (aA [115] 1 0 1) (eF) (yo) (dy) (aA (eB) (aG (⟨#[97,110,110]⟩:ByteArray) (⟨#[115,101,99,114,101,116]⟩:ByteArray)) 0 (aG (⟨#[97,110,110]⟩:ByteArray) (⟨#[115,101,99,114,101,116]⟩:ByteArray))))
def uC:Bool :=
 (dB ((aA [115] 1 0 1).length) (aA [115] 1 0 1) (eF) (dy) (aA (eB) (aG (⟨#[97,110,110]⟩:ByteArray) (⟨#[115,101,99,114,101,116]⟩:ByteArray)) 0 (aG (⟨#[97,110,110]⟩:ByteArray) (⟨#[115,101,99,114,101,116]⟩:ByteArray))))
def uD:List Int :=
 (cy ((aA [115] 1 0 1).length) (aA [115] 1 0 1) (bc ((aA [115] 1 0 1).length) (aA [115] 1 0 1) 3 false false (aA (cB) ((1+4)+(⟨#[115,115,104,45,117,115,101,114,97,117,116,104]⟩:ByteArray).size) 0 ((1+4)+(⟨#[115,115,104,45,117,115,101,114,97,117,116,104]⟩:ByteArray).size))) (eF) (dy) (aA (eB) (aG (⟨#[97,110,110]⟩:ByteArray) (⟨#[115,101,99,114,101,116]⟩:ByteArray)) 0 (aG (⟨#[97,110,110]⟩:ByteArray) (⟨#[115,101,99,114,101,116]⟩:ByteArray))))
def ud:List Int :=
 (pc (⟨#[115,115,104,45,117,115,101,114,97,117,116,104]⟩:ByteArray))
def oV:Bool :=
 (sel (((aD .i64 (dv ((aA [115] 1 0 1).length) (aA [115] 1 0 1) 3 false false (aA (cB) ((1+4)+(⟨#[115,115,104,45,117,115,101,114,97,117,116,104]⟩:ByteArray).size) 0 ((1+4)+(⟨#[115,115,104,45,117,115,101,114,97,117,116,104]⟩:ByteArray).size))) (dv ((aA [115] 1 0 1).length) (aA [115] 1 0 1) (bc ((aA [115] 1 0 1).length) (aA [115] 1 0 1) 3 false false (aA (cB) ((1+4)+(⟨#[115,115,104,45,117,115,101,114,97,117,116,104]⟩:ByteArray).size) 0 ((1+4)+(⟨#[115,115,104,45,117,115,101,114,97,117,116,104]⟩:ByteArray).size))) (eF) (dy) (aA (eB) (aG (⟨#[97,110,110]⟩:ByteArray) (⟨#[115,101,99,114,101,116]⟩:ByteArray)) 0 (aG (⟨#[97,110,110]⟩:ByteArray) (⟨#[115,101,99,114,101,116]⟩:ByteArray))))):Int)==0) (sel (aQ (bytesOf (((uB).drop 0).take (bX ((aA [115] 1 0 1).length) (aA [115] 1 0 1) 3 false false (aA (cB) ((1+4)+(⟨#[115,115,104,45,117,115,101,114,97,117,116,104]⟩:ByteArray).size) 0 ((1+4)+(⟨#[115,115,104,45,117,115,101,114,97,117,116,104]⟩:ByteArray).size))))) (bytesOf (((ud).drop 0).take ((1+4)+(⟨#[115,115,104,45,117,115,101,114,97,117,116,104]⟩:ByteArray).size)))) (sel (aQ (bytesOf (((uD).drop 0).take (bX ((aA [115] 1 0 1).length) (aA [115] 1 0 1) (bc ((aA [115] 1 0 1).length) (aA [115] 1 0 1) 3 false false (aA (cB) ((1+4)+(⟨#[115,115,104,45,117,115,101,114,97,117,116,104]⟩:ByteArray).size) 0 ((1+4)+(⟨#[115,115,104,45,117,115,101,114,97,117,116,104]⟩:ByteArray).size))) (eF) (dy) (aA (eB) (aG (⟨#[97,110,110]⟩:ByteArray) (⟨#[115,101,99,114,101,116]⟩:ByteArray)) 0 (aG (⟨#[97,110,110]⟩:ByteArray) (⟨#[115,101,99,114,101,116]⟩:ByteArray)))))) (⟨#[52]⟩:ByteArray)) (aQ (qZ (th) (uC)) (⟨#[97,110,110]⟩:ByteArray)) false) false) false)
def Fo:List AV→List Blk→Option (Prop × Ret)
 |[],[]=>some (True,⟨.sc (.b (oV)),[]⟩)
 |_,_=>none
theorem IL:Known Tryz.prog gD 8 ⟨0,0,Fo⟩:=by
 refine Xw Tryz.f8 43 (Zv mC 256 2 <|Zc Ic 80 [.io,.ro .u8,.val] [48] [32] <|Zv EN 32 0 <|Zc Bk 144 [.io,.ro .u8] [128] [80,32,81] <|Zc Bk 272 [.io,.ro .u8] [256] [80,32,81] <|Zc Hd 656 [.io] [] [80,32,81] <|Zv zA 128 1 <|Zv vv 480 1 <|Zn) mixed <|fun E args ks C r h hC hlen=>?_
 simp only at h
 unfold Fo at h
 split at h
 rotate_left
 cases h
 cases h
 simp only [aj] at hlen
 refine ⟨rfl,?_⟩
 refine Xs [] [] 32 (v1 pT) <|Xt [Ep 1 80] [] [Mi 81 ((aA [115] 1 0 1).length) (aA [115] 1 0 1),Mc 80 [.sl 32 0 4 4 none,.sl 81 0 ((aA [115] 1 0 1).length) 1 none,.i .i64 3,.b false,.s (⟨#[]⟩:ByteArray),.b false],Mc 32 UA] [] 112 (pu pz (pu (Yf 1) (pu (pa (Yr 1) (pa (Yr 0) (Yl 0 1))) (pu (pa (pa (Yw 1) pT) (pa (Yr UA) (Ye ((aA [115] 1 0 1).length) 100000))) (v1 pT))))) <|Tri.len 81 rfl <|fun hl1=>Xt [Ei 3 (dv ((aA [115] 1 0 1).length) (aA [115] 1 0 1) 3 false false (aA (cB) ((1+4)+(⟨#[115,115,104,45,117,115,101,114,97,117,116,104]⟩:ByteArray).size) 0 ((1+4)+(⟨#[115,115,104,45,117,115,101,114,97,117,116,104]⟩:ByteArray).size))),El 2 144 (bX ((aA [115] 1 0 1).length) (aA [115] 1 0 1) 3 false false (aA (cB) ((1+4)+(⟨#[115,115,104,45,117,115,101,114,97,117,116,104]⟩:ByteArray).size) 0 ((1+4)+(⟨#[115,115,104,45,117,115,101,114,97,117,116,104]⟩:ByteArray).size)))] [] [Mi 144 (bX ((aA [115] 1 0 1).length) (aA [115] 1 0 1) 3 false false (aA (cB) ((1+4)+(⟨#[115,115,104,45,117,115,101,114,97,117,116,104]⟩:ByteArray).size) 0 ((1+4)+(⟨#[115,115,104,45,117,115,101,114,97,117,116,104]⟩:ByteArray).size))) (uB),Mi 81 ((aA [115] 1 0 1).length) (aA [115] 1 0 1),Mc 32 UA,Mc 80 [.sl 32 0 4 4 none,.sl 81 0 ((aA [115] 1 0 1).length) 1 none,.i .i64 (bc ((aA [115] 1 0 1).length) (aA [115] 1 0 1) 3 false false (aA (cB) ((1+4)+(⟨#[115,115,104,45,117,115,101,114,97,117,116,104]⟩:ByteArray).size) 0 ((1+4)+(⟨#[115,115,104,45,117,115,101,114,97,117,116,104]⟩:ByteArray).size))),.b (eF),.s (yo),.b (dy)]] [81,80,32] 240 (v1 (pu (pa pT (Ye ((⟨#[115,115,104,45,117,115,101,114,97,117,116,104]⟩:ByteArray).size) 100000)) (pu (pa (pa (Yw ((1+4)+(⟨#[115,115,104,45,117,115,101,114,97,117,116,104]⟩:ByteArray).size)) pT) (pa (Yr ((aA [115] 1 0 1).length)) (pa (Yr UA) (lo ((aA (cB) ((1+4)+(⟨#[115,115,104,45,117,115,101,114,97,117,116,104]⟩:ByteArray).size) 0 ((1+4)+(⟨#[115,115,104,45,117,115,101,114,97,117,116,104]⟩:ByteArray).size)).length≤6000∧((aA [115] 1 0 1).length)≤1000))))) (v5 pT)))) <|Tri.len 144 rfl <|fun hl2=>Tri.len 81 rfl <|fun hl3=>Xt [Ei 5 (dv ((aA [115] 1 0 1).length) (aA [115] 1 0 1) (bc ((aA [115] 1 0 1).length) (aA [115] 1 0 1) 3 false false (aA (cB) ((1+4)+(⟨#[115,115,104,45,117,115,101,114,97,117,116,104]⟩:ByteArray).size) 0 ((1+4)+(⟨#[115,115,104,45,117,115,101,114,97,117,116,104]⟩:ByteArray).size))) (eF) (dy) (aA (eB) (aG (⟨#[97,110,110]⟩:ByteArray) (⟨#[115,101,99,114,101,116]⟩:ByteArray)) 0 (aG (⟨#[97,110,110]⟩:ByteArray) (⟨#[115,101,99,114,101,116]⟩:ByteArray)))),El 4 272 (bX ((aA [115] 1 0 1).length) (aA [115] 1 0 1) (bc ((aA [115] 1 0 1).length) (aA [115] 1 0 1) 3 false false (aA (cB) ((1+4)+(⟨#[115,115,104,45,117,115,101,114,97,117,116,104]⟩:ByteArray).size) 0 ((1+4)+(⟨#[115,115,104,45,117,115,101,114,97,117,116,104]⟩:ByteArray).size))) (eF) (dy) (aA (eB) (aG (⟨#[97,110,110]⟩:ByteArray) (⟨#[115,101,99,114,101,116]⟩:ByteArray)) 0 (aG (⟨#[97,110,110]⟩:ByteArray) (⟨#[115,101,99,114,101,116]⟩:ByteArray))))] [] [Mi 272 (bX ((aA [115] 1 0 1).length) (aA [115] 1 0 1) (bc ((aA [115] 1 0 1).length) (aA [115] 1 0 1) 3 false false (aA (cB) ((1+4)+(⟨#[115,115,104,45,117,115,101,114,97,117,116,104]⟩:ByteArray).size) 0 ((1+4)+(⟨#[115,115,104,45,117,115,101,114,97,117,116,104]⟩:ByteArray).size))) (eF) (dy) (aA (eB) (aG (⟨#[97,110,110]⟩:ByteArray) (⟨#[115,101,99,114,101,116]⟩:ByteArray)) 0 (aG (⟨#[97,110,110]⟩:ByteArray) (⟨#[115,101,99,114,101,116]⟩:ByteArray)))) (uD),Mi 81 ((aA [115] 1 0 1).length) (aA [115] 1 0 1),Mc 32 UA,Mc 80 [.sl 32 0 4 4 none,.sl 81 0 ((aA [115] 1 0 1).length) 1 none,.i .i64 (bc ((aA [115] 1 0 1).length) (aA [115] 1 0 1) (bc ((aA [115] 1 0 1).length) (aA [115] 1 0 1) 3 false false (aA (cB) ((1+4)+(⟨#[115,115,104,45,117,115,101,114,97,117,116,104]⟩:ByteArray).size) 0 ((1+4)+(⟨#[115,115,104,45,117,115,101,114,97,117,116,104]⟩:ByteArray).size))) (eF) (dy) (aA (eB) (aG (⟨#[97,110,110]⟩:ByteArray) (⟨#[115,101,99,114,101,116]⟩:ByteArray)) 0 (aG (⟨#[97,110,110]⟩:ByteArray) (⟨#[115,101,99,114,101,116]⟩:ByteArray)))),.b (Dk),.s (th),.b (uC)]] [81,32,80] 368 (v1 (pu (pa pT (lo ((⟨#[97,110,110]⟩:ByteArray).size≤100000∧(⟨#[115,101,99,114,101,116]⟩:ByteArray).size≤100000))) (pu (pa (pa (Yw (aG (⟨#[97,110,110]⟩:ByteArray) (⟨#[115,101,99,114,101,116]⟩:ByteArray))) pT) (pa (Yr ((aA [115] 1 0 1).length)) (pa (Yr UA) (lo ((aA (eB) (aG (⟨#[97,110,110]⟩:ByteArray) (⟨#[115,101,99,114,101,116]⟩:ByteArray)) 0 (aG (⟨#[97,110,110]⟩:ByteArray) (⟨#[115,101,99,114,101,116]⟩:ByteArray))).length≤6000∧((aA [115] 1 0 1).length)≤1000))))) (v5 pT)))) <|Tri.split (((aD .i64 (dv ((aA [115] 1 0 1).length) (aA [115] 1 0 1) 3 false false (aA (cB) ((1+4)+(⟨#[115,115,104,45,117,115,101,114,97,117,116,104]⟩:ByteArray).size) 0 ((1+4)+(⟨#[115,115,104,45,117,115,101,114,97,117,116,104]⟩:ByteArray).size))) (dv ((aA [115] 1 0 1).length) (aA [115] 1 0 1) (bc ((aA [115] 1 0 1).length) (aA [115] 1 0 1) 3 false false (aA (cB) ((1+4)+(⟨#[115,115,104,45,117,115,101,114,97,117,116,104]⟩:ByteArray).size) 0 ((1+4)+(⟨#[115,115,104,45,117,115,101,114,97,117,116,104]⟩:ByteArray).size))) (eF) (dy) (aA (eB) (aG (⟨#[97,110,110]⟩:ByteArray) (⟨#[115,101,99,114,101,116]⟩:ByteArray)) 0 (aG (⟨#[97,110,110]⟩:ByteArray) (⟨#[115,101,99,114,101,116]⟩:ByteArray))))):Int)==0) (fun h4=>?_) (fun h4=>?_)
 have h4':=eX h4
 refine Tri.split (aQ (bytesOf (((uB).drop 0).take (bX ((aA [115] 1 0 1).length) (aA [115] 1 0 1) 3 false false (aA (cB) ((1+4)+(⟨#[115,115,104,45,117,115,101,114,97,117,116,104]⟩:ByteArray).size) 0 ((1+4)+(⟨#[115,115,104,45,117,115,101,114,97,117,116,104]⟩:ByteArray).size))))) (bytesOf (((ud).drop 0).take ((1+4)+(⟨#[115,115,104,45,117,115,101,114,97,117,116,104]⟩:ByteArray).size)))) (fun h5=>?_) (fun h5=>?_)
 refine Tri.split (aQ (bytesOf (((uD).drop 0).take (bX ((aA [115] 1 0 1).length) (aA [115] 1 0 1) (bc ((aA [115] 1 0 1).length) (aA [115] 1 0 1) 3 false false (aA (cB) ((1+4)+(⟨#[115,115,104,45,117,115,101,114,97,117,116,104]⟩:ByteArray).size) 0 ((1+4)+(⟨#[115,115,104,45,117,115,101,114,97,117,116,104]⟩:ByteArray).size))) (eF) (dy) (aA (eB) (aG (⟨#[97,110,110]⟩:ByteArray) (⟨#[115,101,99,114,101,116]⟩:ByteArray)) 0 (aG (⟨#[97,110,110]⟩:ByteArray) (⟨#[115,101,99,114,101,116]⟩:ByteArray)))))) (⟨#[52]⟩:ByteArray)) (fun h6=>?_) (fun h6=>?_)
 exact Tri.len 272 rfl <|fun hl7=>Tri.len 81 rfl <|fun hl8=>Tri.len 144 rfl <|fun hl9=>Xu [Eb 26 true,Eb 33 true,Eb 38 true] (some [0,0,3,7,15,31,63,31,159,511,1023,2047,4095,8191,16383,32767,65535,131071,262143,524287,1048575,2097151]) [Eb 0 (aQ (qZ (th) (uC)) (⟨#[97,110,110]⟩:ByteArray))] [5,4,3,2,1] [] [272,81,32,80,144] 720 (v4 (pg h4 (v1 (pu (Yw (bX ((aA [115] 1 0 1).length) (aA [115] 1 0 1) 3 false false (aA (cB) ((1+4)+(⟨#[115,115,104,45,117,115,101,114,97,117,116,104]⟩:ByteArray).size) 0 ((1+4)+(⟨#[115,115,104,45,117,115,101,114,97,117,116,104]⟩:ByteArray).size)))) (pu (pa pT (Ye ((⟨#[115,115,104,45,117,115,101,114,97,117,116,104]⟩:ByteArray).size) 100000)) (pu (Yw ((1+4)+(⟨#[115,115,104,45,117,115,101,114,97,117,116,104]⟩:ByteArray).size)) (v2 (pg h5 (v1 (pu (Yw (bX ((aA [115] 1 0 1).length) (aA [115] 1 0 1) (bc ((aA [115] 1 0 1).length) (aA [115] 1 0 1) 3 false false (aA (cB) ((1+4)+(⟨#[115,115,104,45,117,115,101,114,97,117,116,104]⟩:ByteArray).size) 0 ((1+4)+(⟨#[115,115,104,45,117,115,101,114,97,117,116,104]⟩:ByteArray).size))) (eF) (dy) (aA (eB) (aG (⟨#[97,110,110]⟩:ByteArray) (⟨#[115,101,99,114,101,116]⟩:ByteArray)) 0 (aG (⟨#[97,110,110]⟩:ByteArray) (⟨#[115,101,99,114,101,116]⟩:ByteArray))))) (v2 (pg h6 (v1 (pu (pa pT (pa (Yr ((aA [115] 1 0 1).length)) (pa (Yr UA) pT))) (v3 pT))))))))))))))) <|Xy [] pz (by simp only [oV,h4,h5,h6,aC,aB] <;> rfl)
 exact Tri.len 272 rfl <|fun hl10=>Tri.len 81 rfl <|fun hl11=>Tri.len 144 rfl <|fun hl12=>Xu [Eb 26 true,Eb 33 true,Eb 38 false] (some [0,0,3,7,15,31,63,31,159,511,1023,2047,4095,8191,16383,32767,65535,131071,262143,524287,1048575,2097151]) [Eb 0 false] [5,4,3,2,1] [] [272,81,32,80,144] 720 (v4 (pg h4 (v1 (pu (Yw (bX ((aA [115] 1 0 1).length) (aA [115] 1 0 1) 3 false false (aA (cB) ((1+4)+(⟨#[115,115,104,45,117,115,101,114,97,117,116,104]⟩:ByteArray).size) 0 ((1+4)+(⟨#[115,115,104,45,117,115,101,114,97,117,116,104]⟩:ByteArray).size)))) (pu (pa pT (Ye ((⟨#[115,115,104,45,117,115,101,114,97,117,116,104]⟩:ByteArray).size) 100000)) (pu (Yw ((1+4)+(⟨#[115,115,104,45,117,115,101,114,97,117,116,104]⟩:ByteArray).size)) (v2 (pg h5 (v1 (pu (Yw (bX ((aA [115] 1 0 1).length) (aA [115] 1 0 1) (bc ((aA [115] 1 0 1).length) (aA [115] 1 0 1) 3 false false (aA (cB) ((1+4)+(⟨#[115,115,104,45,117,115,101,114,97,117,116,104]⟩:ByteArray).size) 0 ((1+4)+(⟨#[115,115,104,45,117,115,101,114,97,117,116,104]⟩:ByteArray).size))) (eF) (dy) (aA (eB) (aG (⟨#[97,110,110]⟩:ByteArray) (⟨#[115,101,99,114,101,116]⟩:ByteArray)) 0 (aG (⟨#[97,110,110]⟩:ByteArray) (⟨#[115,101,99,114,101,116]⟩:ByteArray))))) (v2 (pg h6 (v5 pT))))))))))))) <|Xy [] pz (by simp only [oV,h4,h5,h6,aC,aB] <;> rfl)
 exact Tri.len 272 rfl <|fun hl13=>Tri.len 81 rfl <|fun hl14=>Tri.len 144 rfl <|fun hl15=>Xu [Eb 26 true,Eb 33 false] (some [0,0,3,7,15,31,63,31,159,511,1023,2047,4095,8191,16383,32767,65535,131071,262143,524287,1048575,2097151]) [Eb 0 false] [5,4,3,2,1] [] [272,81,32,80,144] 720 (v4 (pg h4 (v1 (pu (Yw (bX ((aA [115] 1 0 1).length) (aA [115] 1 0 1) 3 false false (aA (cB) ((1+4)+(⟨#[115,115,104,45,117,115,101,114,97,117,116,104]⟩:ByteArray).size) 0 ((1+4)+(⟨#[115,115,104,45,117,115,101,114,97,117,116,104]⟩:ByteArray).size)))) (pu (pa pT (Ye ((⟨#[115,115,104,45,117,115,101,114,97,117,116,104]⟩:ByteArray).size) 100000)) (pu (Yw ((1+4)+(⟨#[115,115,104,45,117,115,101,114,97,117,116,104]⟩:ByteArray).size)) (v2 (pg h5 (v1 (v9 pT)))))))))) <|Xy [] pz (by simp only [oV,h4,h5,aC,aB] <;> rfl)
 have h4':=dg h4
 exact Xu [Eb 26 false] (some [0,0,3,7,15,31,63,31,159,511,1023,2047,4095,8191,16383,32767,65535,131071,262143,524287,1048575,2097151]) [Eb 0 false] [5,4,3,2,1] [] [272,81,32,80,144] 720 (v4 (pg h4 (v8 (v9 pT)))) <|Xy [] pz (by simp only [oV,h4,aC,aB] <;> rfl)
end Go.Vm
namespace Go.Vm
open Go Go.Proofs
def cK (p0:ByteArray):List Int :=
 (gK p0)
def FS:List AV→List Blk→Option (Prop × Ret)
 |[.sc (.s p0)],[]=>some ((p0.size≤1000000),⟨.sc (.sl 0 0 (4+p0.size) 1 none),[some (.ints .u8 (4+p0.size) (cK p0))]⟩)
 |_,_=>none
theorem oI:Known Tryz.prog gD 39 ⟨0,1,FS⟩:=by
 refine Xw Tryz.f39 5 (Zv tz 48 1 <|Zn) mixed <|fun E args ks C r h hC hlen=>?_
 simp only at h
 unfold FS at h
 split at h
 rotate_left
 cases h
 rename_i p0
 cases h
 simp only [aj] at hlen
 refine ⟨rfl,?_⟩
 exact Xs [] [] 32 (v1 pT) <|Xt [El 2 48 (4+p0.size)] [0] [Mi 48 (4+p0.size) (gK p0)] [] 80 (v1 (pu (pa pT (Ye p0.size 1000000000)) (v1 pT))) <|Xz [(48,0)] pz
theorem uE (s:ByteArray):(cK s).length=4+s.size:=uq s
def sB (p0:List (List Int)):List Int :=
 (mj p0)
def Fv:List AV→List Blk→Option (Prop × Ret)
 |[.sc (.rob p0)],[]=>some ((p0.flatten.length≤1000000∧p0.length≤1000000),⟨.sc (.sl 0 0 (cM p0) 1 none),[some (.ints .u8 (cM p0) (sB p0))]⟩)
 |_,_=>none
theorem Cb:Known Tryz.prog gD 40 ⟨0,1,Fv⟩:=by
 refine Xw Tryz.f40 5 (Zc EO 48 [.rob] [] [] <|Zn) mixed <|fun E args ks C r h hC hlen=>?_
 simp only at h
 unfold Fv at h
 split at h
 rotate_left
 cases h
 rename_i p0
 cases h
 simp only [aj] at hlen
 refine ⟨rfl,?_⟩
 exact Xs [] [] 32 (v1 pT) <|Xt [El 2 48 (cM p0)] [0] [Mi 48 (cM p0) (mj p0)] [] 80 (v1 (pu (pa pT (lo (p0.flatten.length≤1000000000∧p0.length≤1000000000))) (v1 pT))) <|Xz [(48,0)] pz
theorem xn (p:List (List Int)):cM p=p.flatten.length:=congrArg List.length (vQ p)
theorem sv (p:List (List Int)):sB p=p.flatten:=vQ p
theorem uj {A B C D:List Int} {n:Nat} (h:A.length+B.length+C.length+D.length≤n):cM [A,B,C,D]≤n∧(sB [A,B,C,D]).length≤n:=by
 rw [xn,sv]
 simp only [List.flatten_cons,List.flatten_nil,List.length_append,List.length_nil]
 omega
theorem bR {A B C D:List Int} {a b c d:Nat} (ha:A.length≤a) (hb:B.length≤b) (hc:C.length≤c) (hd:D.length≤d) (h:a+b+c+d≤1000000):[A,B,C,D].flatten.length≤1000000∧[A,B,C,D].length≤1000000:=by
 refine ⟨?_,(show 4≤1000000 by decide)⟩
 simp only [List.flatten_cons,List.flatten_nil,List.length_append,List.length_nil]
 omega
theorem eN {A B C:List Int} {a b c:Nat} (ha:A.length≤a) (hb:B.length≤b) (hc:C.length≤c) (h:a+b+c≤1000000):[A,B,C].flatten.length≤1000000∧[A,B,C].length≤1000000:=by
 refine ⟨?_,(show 3≤1000000 by decide)⟩
 simp only [List.flatten_cons,List.flatten_nil,List.length_append,List.length_nil]
 omega
theorem ah (s:ByteArray):(aA (cK s) (4+s.size) 0 (4+s.size)).length≤4+s.size:=aK (Nat.le_refl _) (by rw [uE];exact Nat.le_refl _)
theorem bS (x:Int):(aA [x] 1 0 1).length≤1:=aK (Nat.le_refl _) (Nat.le_refl _)
theorem cR {xs:List Int} {n m:Nat} (h:n≤m∧xs.length≤m):(aA xs n 0 n).length≤m:=aK h.1 h.2
def fB:List Int :=
 (cK (⟨#[115,115,104,45,99,111,110,110,101,99,116,105,111,110]⟩:ByteArray))
def kv (p0:ByteArray) (p1:ByteArray):List Int :=
 (sB ([aA [50] 1 0 1,aA (cK p0) (4+p0.size) 0 (4+p0.size),aA (fB) (4+(⟨#[115,115,104,45,99,111,110,110,101,99,116,105,111,110]⟩:ByteArray).size) 0 (4+(⟨#[115,115,104,45,99,111,110,110,101,99,116,105,111,110]⟩:ByteArray).size),aA (cK p1) (4+p1.size) 0 (4+p1.size)]))
def cl (p0:ByteArray) (p1:ByteArray):List Int :=
 (kv p0 p1)
def aS (p0:ByteArray) (p1:ByteArray):Nat :=
 (cM ([aA [50] 1 0 1,aA (cK p0) (4+p0.size) 0 (4+p0.size),aA (fB) (4+(⟨#[115,115,104,45,99,111,110,110,101,99,116,105,111,110]⟩:ByteArray).size) 0 (4+(⟨#[115,115,104,45,99,111,110,110,101,99,116,105,111,110]⟩:ByteArray).size),aA (cK p1) (4+p1.size) 0 (4+p1.size)]))
def yn:List AV→List Blk→Option (Prop × Ret)
 |[.sc (.s p0),.sc (.s p1)],[]=>some ((p0.size≤10000∧p1.size≤10000),⟨.sc (.sl 0 0 (aS p0 p1) 1 none),[some (.ints .u8 (aS p0 p1) (cl p0 p1))]⟩)
 |_,_=>none
theorem pP:Known Tryz.prog gD 16 ⟨0,1,yn⟩:=by
 refine Xw Tryz.f16 13 (Zv oI 64 1 <|Zv oI 80 1 <|Zv oI 112 1 <|Zc Cb 144 [.rob] [128,32,64,80,112] [] <|Zn) mixed <|fun E args ks C r h hC hlen=>?_
 simp only at h
 unfold yn at h
 split at h
 rotate_left
 cases h
 rename_i p0 p1
 cases h
 simp only [aj] at hlen
 have sz0:(⟨#[115,115,104,45,99,111,110,110,101,99,116,105,111,110]⟩:ByteArray).size=14:=rfl
 refine ⟨rfl,?_⟩
 refine Xs [] [] 32 (v1 pT) <|Xt [El 4 144 (cM ([aA [50] 1 0 1,aA (cK p0) (4+p0.size) 0 (4+p0.size),aA (fB) (4+(⟨#[115,115,104,45,99,111,110,110,101,99,116,105,111,110]⟩:ByteArray).size) 0 (4+(⟨#[115,115,104,45,99,111,110,110,101,99,116,105,111,110]⟩:ByteArray).size),aA (cK p1) (4+p1.size) 0 (4+p1.size)]))] [0,1] [Mi 144 (cM ([aA [50] 1 0 1,aA (cK p0) (4+p0.size) 0 (4+p0.size),aA (fB) (4+(⟨#[115,115,104,45,99,111,110,110,101,99,116,105,111,110]⟩:ByteArray).size) 0 (4+(⟨#[115,115,104,45,99,111,110,110,101,99,116,105,111,110]⟩:ByteArray).size),aA (cK p1) (4+p1.size) 0 (4+p1.size)])) (kv p0 p1)] [] 176 (pu (pa (pa (pa (pl (show 0<1 from by first|omega|decide|exact bR (bS _) (ah _) (ah _) (ah _) (by omega))) (Yr 1)) pT) (pa (pl (show 1*1≤16777216 from by first|omega|decide|exact bR (bS _) (ah _) (ah _) (ah _) (by omega))) (Yr 1))) (v1 (pu (pa pT (pl (show p0.size≤1000000 from by first|omega|decide|exact bR (bS _) (ah _) (ah _) (ah _) (by omega)))) (pu (pa pT (pl (show (⟨#[115,115,104,45,99,111,110,110,101,99,116,105,111,110]⟩:ByteArray).size≤1000000 from by first|omega|decide|exact bR (bS _) (ah _) (ah _) (ah _) (by omega)))) (v1 (pu (pa pT (pl (show p1.size≤1000000 from by first|omega|decide|exact bR (bS _) (ah _) (ah _) (ah _) (by omega)))) (pu (pa (pa (pa (pl (show 0<4 from by first|omega|decide|exact bR (bS _) (ah _) (ah _) (ah _) (by omega))) (Yr 1)) (pa (pa (pl (show 1<4 from by first|omega|decide|exact bR (bS _) (ah _) (ah _) (ah _) (by omega))) (Yr 1)) (pa (pa (pl (show 2<4 from by first|omega|decide|exact bR (bS _) (ah _) (ah _) (ah _) (by omega))) (Yr 1)) (pa (pa (pl (show 3<4 from by first|omega|decide|exact bR (bS _) (ah _) (ah _) (ah _) (by omega))) (Yr 1)) pT)))) (pa (pl (show 4*1≤16777216 from by first|omega|decide|exact bR (bS _) (ah _) (ah _) (ah _) (by omega))) (Yr 1))) (pu (pa (pa (pa (ld (0+4≤4)) (pa (pl (show 0+1≤1 from by first|omega|decide|exact bR (bS _) (ah _) (ah _) (ah _) (by omega))) (pa (pl (show 0+(4+p0.size)≤4+p0.size from by first|omega|decide|exact bR (bS _) (ah _) (ah _) (ah _) (by omega))) (pa (pl (show 0+(4+(⟨#[115,115,104,45,99,111,110,110,101,99,116,105,111,110]⟩:ByteArray).size)≤4+(⟨#[115,115,104,45,99,111,110,110,101,99,116,105,111,110]⟩:ByteArray).size from by first|omega|decide|exact bR (bS _) (ah _) (ah _) (ah _) (by omega))) (pa (pl (show 0+(4+p1.size)≤4+p1.size from by first|omega|decide|exact bR (bS _) (ah _) (ah _) (ah _) (by omega))) pT))))) pT) (pl (show ([aA [50] 1 0 1,aA (cK p0) (4+p0.size) 0 (4+p0.size),aA (fB) (4+(⟨#[115,115,104,45,99,111,110,110,101,99,116,105,111,110]⟩:ByteArray).size) 0 (4+(⟨#[115,115,104,45,99,111,110,110,101,99,116,105,111,110]⟩:ByteArray).size),aA (cK p1) (4+p1.size) 0 (4+p1.size)]).flatten.length≤1000000∧([aA [50] 1 0 1,aA (cK p0) (4+p0.size) 0 (4+p0.size),aA (fB) (4+(⟨#[115,115,104,45,99,111,110,110,101,99,116,105,111,110]⟩:ByteArray).size) 0 (4+(⟨#[115,115,104,45,99,111,110,110,101,99,116,105,111,110]⟩:ByteArray).size),aA (cK p1) (4+p1.size) 0 (4+p1.size)]).length≤1000000 from by first|omega|decide|exact bR (bS _) (ah _) (ah _) (ah _) (by omega)))) (v1 pT))))))))) ?_
 exact Xz [(144,0)] pz
theorem bT (a b:ByteArray):aS a b≤a.size+b.size+27∧(cl a b).length≤a.size+b.size+27:=by
 have h1:=ah a
 have h2:=ah b
 have h3:=ah (⟨#[115,115,104,45,99,111,110,110,101,99,116,105,111,110]⟩:ByteArray)
 have h4:=bS 50
 have sz0:(⟨#[115,115,104,45,99,111,110,110,101,99,116,105,111,110]⟩:ByteArray).size=14:=rfl
 unfold aS cl kv fB
 exact uj (by omega)
def ip (p0:ByteArray) (p1:ByteArray):List Int :=
 (sB ([aA (cl p0 (⟨#[112,97,115,115,119,111,114,100]⟩:ByteArray)) (aS p0 (⟨#[112,97,115,115,119,111,114,100]⟩:ByteArray)) 0 (aS p0 (⟨#[112,97,115,115,119,111,114,100]⟩:ByteArray)),aA [0] 1 0 1,aA (cK p1) (4+p1.size) 0 (4+p1.size)]))
def dY (p0:ByteArray) (p1:ByteArray):List Int :=
 (ip p0 p1)
def am (p0:ByteArray) (p1:ByteArray):Nat :=
 (cM ([aA (cl p0 (⟨#[112,97,115,115,119,111,114,100]⟩:ByteArray)) (aS p0 (⟨#[112,97,115,115,119,111,114,100]⟩:ByteArray)) 0 (aS p0 (⟨#[112,97,115,115,119,111,114,100]⟩:ByteArray)),aA [0] 1 0 1,aA (cK p1) (4+p1.size) 0 (4+p1.size)]))
def oa:List AV→List Blk→Option (Prop × Ret)
 |[.sc (.s p0),.sc (.s p1)],[]=>some ((p0.size≤10000∧p1.size≤10000),⟨.sc (.sl 0 0 (am p0 p1) 1 none),[some (.ints .u8 (am p0 p1) (dY p0 p1))]⟩)
 |_,_=>none
theorem oc:Known Tryz.prog gD 12 ⟨0,1,oa⟩:=by
 refine Xw Tryz.f12 12 (Zv pP 48 2 <|Zv oI 96 1 <|Zc Cb 128 [.rob] [112,48,64,96] [] <|Zn) mixed <|fun E args ks C r h hC hlen=>?_
 simp only at h
 unfold oa at h
 split at h
 rotate_left
 cases h
 rename_i p0 p1
 cases h
 simp only [aj] at hlen
 have hh:=bT p0 (⟨#[112,97,115,115,119,111,114,100]⟩:ByteArray)
 have sz0:(⟨#[112,97,115,115,119,111,114,100]⟩:ByteArray).size=8:=rfl
 refine ⟨rfl,?_⟩
 refine Xs [] [] 32 (v1 pT) <|Xt [El 4 128 (cM ([aA (cl p0 (⟨#[112,97,115,115,119,111,114,100]⟩:ByteArray)) (aS p0 (⟨#[112,97,115,115,119,111,114,100]⟩:ByteArray)) 0 (aS p0 (⟨#[112,97,115,115,119,111,114,100]⟩:ByteArray)),aA [0] 1 0 1,aA (cK p1) (4+p1.size) 0 (4+p1.size)]))] [0,1] [Mi 128 (cM ([aA (cl p0 (⟨#[112,97,115,115,119,111,114,100]⟩:ByteArray)) (aS p0 (⟨#[112,97,115,115,119,111,114,100]⟩:ByteArray)) 0 (aS p0 (⟨#[112,97,115,115,119,111,114,100]⟩:ByteArray)),aA [0] 1 0 1,aA (cK p1) (4+p1.size) 0 (4+p1.size)])) (ip p0 p1)] [] 160 (v1 (pu (pa pT (pl (show p0.size≤10000∧(⟨#[112,97,115,115,119,111,114,100]⟩:ByteArray).size≤10000 from by first|omega|decide|exact eN (cR (bT _ _)) (bS _) (ah _) (by omega)))) (pu (pa (pa (pa (pl (show 0<1 from by first|omega|decide|exact eN (cR (bT _ _)) (bS _) (ah _) (by omega))) (Yr 1)) pT) (pa (pl (show 1*1≤16777216 from by first|omega|decide|exact eN (cR (bT _ _)) (bS _) (ah _) (by omega))) (Yr 1))) (v1 (pu (pa pT (pl (show p1.size≤1000000 from by first|omega|decide|exact eN (cR (bT _ _)) (bS _) (ah _) (by omega)))) (pu (pa (pa (pa (pl (show 0<3 from by first|omega|decide|exact eN (cR (bT _ _)) (bS _) (ah _) (by omega))) (Yr 1)) (pa (pa (pl (show 1<3 from by first|omega|decide|exact eN (cR (bT _ _)) (bS _) (ah _) (by omega))) (Yr 1)) (pa (pa (pl (show 2<3 from by first|omega|decide|exact eN (cR (bT _ _)) (bS _) (ah _) (by omega))) (Yr 1)) pT))) (pa (pl (show 3*1≤16777216 from by first|omega|decide|exact eN (cR (bT _ _)) (bS _) (ah _) (by omega))) (Yr 1))) (pu (pa (pa (pa (ld (0+3≤3)) (pa (pl (show 0+(aS p0 (⟨#[112,97,115,115,119,111,114,100]⟩:ByteArray))≤(aS p0 (⟨#[112,97,115,115,119,111,114,100]⟩:ByteArray)) from by first|omega|decide|exact eN (cR (bT _ _)) (bS _) (ah _) (by omega))) (pa (pl (show 0+1≤1 from by first|omega|decide|exact eN (cR (bT _ _)) (bS _) (ah _) (by omega))) (pa (pl (show 0+(4+p1.size)≤4+p1.size from by first|omega|decide|exact eN (cR (bT _ _)) (bS _) (ah _) (by omega))) pT)))) pT) (pl (show ([aA (cl p0 (⟨#[112,97,115,115,119,111,114,100]⟩:ByteArray)) (aS p0 (⟨#[112,97,115,115,119,111,114,100]⟩:ByteArray)) 0 (aS p0 (⟨#[112,97,115,115,119,111,114,100]⟩:ByteArray)),aA [0] 1 0 1,aA (cK p1) (4+p1.size) 0 (4+p1.size)]).flatten.length≤1000000∧([aA (cl p0 (⟨#[112,97,115,115,119,111,114,100]⟩:ByteArray)) (aS p0 (⟨#[112,97,115,115,119,111,114,100]⟩:ByteArray)) 0 (aS p0 (⟨#[112,97,115,115,119,111,114,100]⟩:ByteArray)),aA [0] 1 0 1,aA (cK p1) (4+p1.size) 0 (4+p1.size)]).length≤1000000 from by first|omega|decide|exact eN (cR (bT _ _)) (bS _) (ah _) (by omega)))) (v1 pT)))))))) ?_
 exact Xz [(128,0)] pz
def fh (p0:ByteArray):List Int :=
 (cl p0 (⟨#[112,117,98,108,105,99,107,101,121]⟩:ByteArray))
def fj:List Int :=
 (cK (⟨#[115,115,104,45,101,100,50,53,53,49,57]⟩:ByteArray))
def mZ (p0:ByteArray) (p1:ByteArray) (p2:Int):List Int :=
 (sB ([aA (fh p0) (aS p0 (⟨#[112,117,98,108,105,99,107,101,121]⟩:ByteArray)) 0 (aS p0 (⟨#[112,117,98,108,105,99,107,101,121]⟩:ByteArray)),aA [p2] 1 0 1,aA (fj) (4+(⟨#[115,115,104,45,101,100,50,53,53,49,57]⟩:ByteArray).size) 0 (4+(⟨#[115,115,104,45,101,100,50,53,53,49,57]⟩:ByteArray).size),aA (cK p1) (4+p1.size) 0 (4+p1.size)]))
def fS (p0:ByteArray) (p1:ByteArray) (p2:Int):List Int :=
 (mZ p0 p1 p2)
def aY (p0:ByteArray) (p1:ByteArray) (p2:Int):Nat :=
 (cM ([aA (fh p0) (aS p0 (⟨#[112,117,98,108,105,99,107,101,121]⟩:ByteArray)) 0 (aS p0 (⟨#[112,117,98,108,105,99,107,101,121]⟩:ByteArray)),aA [p2] 1 0 1,aA (fj) (4+(⟨#[115,115,104,45,101,100,50,53,53,49,57]⟩:ByteArray).size) 0 (4+(⟨#[115,115,104,45,101,100,50,53,53,49,57]⟩:ByteArray).size),aA (cK p1) (4+p1.size) 0 (4+p1.size)]))
def CY:List AV→List Blk→Option (Prop × Ret)
 |[.sc (.s p0),.sc (.s p1),.sc (.i .u8 p2)],[]=>some ((p0.size≤10000∧p1.size≤10000),⟨.sc (.sl 0 0 (aY p0 p1 p2) 1 none),[some (.ints .u8 (aY p0 p1 p2) (fS p0 p1 p2))]⟩)
 |_,_=>none
theorem An:Known Tryz.prog gD 36 ⟨0,1,CY⟩:=by
 refine Xw Tryz.f36 16 (Zv pP 48 2 <|Zv oI 96 1 <|Zv oI 128 1 <|Zc Cb 160 [.rob] [144,48,80,96,128] [] <|Zn) mixed <|fun E args ks C r h hC hlen=>?_
 simp only at h
 unfold CY at h
 split at h
 rotate_left
 cases h
 rename_i p0 p1 p2
 cases h
 simp only [aj] at hlen
 have sz0:(⟨#[112,117,98,108,105,99,107,101,121]⟩:ByteArray).size=9:=rfl
 have sz1:(⟨#[115,115,104,45,101,100,50,53,53,49,57]⟩:ByteArray).size=11:=rfl
 refine ⟨rfl,?_⟩
 refine Xs [] [] 32 (v1 pT) <|Xt [El 6 160 (cM ([aA (fh p0) (aS p0 (⟨#[112,117,98,108,105,99,107,101,121]⟩:ByteArray)) 0 (aS p0 (⟨#[112,117,98,108,105,99,107,101,121]⟩:ByteArray)),aA [p2] 1 0 1,aA (fj) (4+(⟨#[115,115,104,45,101,100,50,53,53,49,57]⟩:ByteArray).size) 0 (4+(⟨#[115,115,104,45,101,100,50,53,53,49,57]⟩:ByteArray).size),aA (cK p1) (4+p1.size) 0 (4+p1.size)]))] [0,1,2] [Mi 160 (cM ([aA (fh p0) (aS p0 (⟨#[112,117,98,108,105,99,107,101,121]⟩:ByteArray)) 0 (aS p0 (⟨#[112,117,98,108,105,99,107,101,121]⟩:ByteArray)),aA [p2] 1 0 1,aA (fj) (4+(⟨#[115,115,104,45,101,100,50,53,53,49,57]⟩:ByteArray).size) 0 (4+(⟨#[115,115,104,45,101,100,50,53,53,49,57]⟩:ByteArray).size),aA (cK p1) (4+p1.size) 0 (4+p1.size)])) (mZ p0 p1 p2)] [] 192 (v1 (pu (pa pT (pl (show p0.size≤10000∧(⟨#[112,117,98,108,105,99,107,101,121]⟩:ByteArray).size≤10000 from by first|omega|decide|exact bR (cR (bT _ _)) (bS _) (ah _) (ah _) (by omega)))) (v1 (pu (pa (pa (pa (pl (show 0<1 from by first|omega|decide|exact bR (cR (bT _ _)) (bS _) (ah _) (ah _) (by omega))) (Yr 1)) pT) (pa (pl (show 1*1≤16777216 from by first|omega|decide|exact bR (cR (bT _ _)) (bS _) (ah _) (ah _) (by omega))) (Yr 1))) (pu (pa pT (pl (show (⟨#[115,115,104,45,101,100,50,53,53,49,57]⟩:ByteArray).size≤1000000 from by first|omega|decide|exact bR (cR (bT _ _)) (bS _) (ah _) (ah _) (by omega)))) (v1 (pu (pa pT (pl (show p1.size≤1000000 from by first|omega|decide|exact bR (cR (bT _ _)) (bS _) (ah _) (ah _) (by omega)))) (pu (pa (pa (pa (pl (show 0<4 from by first|omega|decide|exact bR (cR (bT _ _)) (bS _) (ah _) (ah _) (by omega))) (Yr 1)) (pa (pa (pl (show 1<4 from by first|omega|decide|exact bR (cR (bT _ _)) (bS _) (ah _) (ah _) (by omega))) (Yr 1)) (pa (pa (pl (show 2<4 from by first|omega|decide|exact bR (cR (bT _ _)) (bS _) (ah _) (ah _) (by omega))) (Yr 1)) (pa (pa (pl (show 3<4 from by first|omega|decide|exact bR (cR (bT _ _)) (bS _) (ah _) (ah _) (by omega))) (Yr 1)) pT)))) (pa (pl (show 4*1≤16777216 from by first|omega|decide|exact bR (cR (bT _ _)) (bS _) (ah _) (ah _) (by omega))) (Yr 1))) (pu (pa (pa (pa (ld (0+4≤4)) (pa (pl (show 0+(aS p0 (⟨#[112,117,98,108,105,99,107,101,121]⟩:ByteArray))≤(aS p0 (⟨#[112,117,98,108,105,99,107,101,121]⟩:ByteArray)) from by first|omega|decide|exact bR (cR (bT _ _)) (bS _) (ah _) (ah _) (by omega))) (pa (pl (show 0+1≤1 from by first|omega|decide|exact bR (cR (bT _ _)) (bS _) (ah _) (ah _) (by omega))) (pa (pl (show 0+(4+(⟨#[115,115,104,45,101,100,50,53,53,49,57]⟩:ByteArray).size)≤4+(⟨#[115,115,104,45,101,100,50,53,53,49,57]⟩:ByteArray).size from by first|omega|decide|exact bR (cR (bT _ _)) (bS _) (ah _) (ah _) (by omega))) (pa (pl (show 0+(4+p1.size)≤4+p1.size from by first|omega|decide|exact bR (cR (bT _ _)) (bS _) (ah _) (ah _) (by omega))) pT))))) pT) (pl (show ([aA (fh p0) (aS p0 (⟨#[112,117,98,108,105,99,107,101,121]⟩:ByteArray)) 0 (aS p0 (⟨#[112,117,98,108,105,99,107,101,121]⟩:ByteArray)),aA [p2] 1 0 1,aA (fj) (4+(⟨#[115,115,104,45,101,100,50,53,53,49,57]⟩:ByteArray).size) 0 (4+(⟨#[115,115,104,45,101,100,50,53,53,49,57]⟩:ByteArray).size),aA (cK p1) (4+p1.size) 0 (4+p1.size)]).flatten.length≤1000000∧([aA (fh p0) (aS p0 (⟨#[112,117,98,108,105,99,107,101,121]⟩:ByteArray)) 0 (aS p0 (⟨#[112,117,98,108,105,99,107,101,121]⟩:ByteArray)),aA [p2] 1 0 1,aA (fj) (4+(⟨#[115,115,104,45,101,100,50,53,53,49,57]⟩:ByteArray).size) 0 (4+(⟨#[115,115,104,45,101,100,50,53,53,49,57]⟩:ByteArray).size),aA (cK p1) (4+p1.size) 0 (4+p1.size)]).length≤1000000 from by first|omega|decide|exact bR (cR (bT _ _)) (bS _) (ah _) (ah _) (by omega)))) (v1 pT)))))))))) ?_
 exact Xz [(160,0)] pz
theorem Eg (a b:ByteArray) (c:Int):aY a b c≤a.size+b.size+56∧(fS a b c).length≤a.size+b.size+56:=by
 have sz0:(⟨#[112,117,98,108,105,99,107,101,121]⟩:ByteArray).size=9:=rfl;have sz1:(⟨#[115,115,104,45,101,100,50,53,53,49,57]⟩:ByteArray).size=11:=rfl
 have h1:=cR (bT a (⟨#[112,117,98,108,105,99,107,101,121]⟩:ByteArray))
 have h2:=ah b
 have h3:=ah (⟨#[115,115,104,45,101,100,50,53,53,49,57]⟩:ByteArray)
 have h4:=bS c
 unfold aY fS mZ fj fh
 exact uj (by omega)
theorem mJ (s:ByteArray) (h:s.size≤1000000000):(az s).size≤s.size+19:=by
 have sz:(⟨#[115,115,104,45,101,100,50,53,53,49,57]⟩:ByteArray).size=11:=rfl
 unfold az
 rw [ag,List.length_take,sz]
 omega
theorem HZ (p:List Int) (h:p.length≤1000):(rC p).size≤p.length+19:=by
 have sz:(⟨#[115,115,104,45,101,100,50,53,53,49,57]⟩:ByteArray).size=11:=rfl
 unfold rC
 rw [ag,List.length_take,sz,ag]
 omega
def jb (p0:ByteArray) (p1:ByteArray):List Int :=
 (fS p0 (az p1) 0)
def yM:List AV→List Blk→Option (Prop × Ret)
 |[.sc (.s p0),.sc (.s p1)],[]=>some ((p0.size≤1000∧p1.size≤1000),⟨.sc (.sl 0 0 (aY p0 (az p1) 0) 1 none),[some (.ints .u8 (aY p0 (az p1) 0) (jb p0 p1))]⟩)
 |_,_=>none
theorem yq:Known Tryz.prog gD 14 ⟨0,1,yM⟩:=by
 refine Xw Tryz.f14 9 (Zv An 80 3 <|Zv tS 64 1 <|Zn) mixed <|fun E args ks C r h hC hlen=>?_
 simp only at h
 unfold yM at h
 split at h
 rotate_left
 cases h
 rename_i p0 p1
 cases h
 simp only [aj] at hlen
 refine ⟨rfl,?_⟩
 refine Xs [] [] 32 (v1 pT) <|Xt [El 4 80 (aY p0 (az p1) 0)] [0,1] [Mi 80 (aY p0 (az p1) 0) (fS p0 (az p1) 0)] [] 112 (v2 (pu (pa pT (pl (show p1.size≤1000000000 from by first|omega|decide|exact ⟨by omega,Nat.le_trans (mJ _ (by omega)) (by omega)⟩))) (pu (pa pT (pl (show p0.size≤10000∧(az p1).size≤10000 from by first|omega|decide|exact ⟨by omega,Nat.le_trans (mJ _ (by omega)) (by omega)⟩))) (v1 pT)))) ?_
 exact Xz [(80,0)] pz
end Go.Vm
end
