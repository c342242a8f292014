/- A part of a proof (pack3): the small machine that walks the program, the walks of its functions, and what they compute in plain. -/
import Derived.Test.YtcomenlmambmfaaGreatDoorWcb
import Derived.Test.YtcomenlmambmfaaGreatDoorChecked
set_option maxHeartbeats 2000000
set_option maxRecDepth 4000
set_option linter.unusedVariables false
set_option linter.unusedSimpArgs false
noncomputable section
namespace Go.Vm
open Go Go.Proofs
def sr (p0:Int) (p1:Int):List Int :=
 (F20 (F30 p0) (F25 (F30 p1)))
def Mg:List AV→List Blk→Option (Prop × Ret)
 |[.sc (.i .u32 p0),.sc (.i .u32 p1)],[]=>some (True,⟨.ints .u64 5 (sr p0 p1),[]⟩)
 |_,_=>none
theorem ML:Known Tryz.prog gD 101 ⟨0,0,Mg⟩:=by
 refine Xw Tryz.f101 11 (Zv K30 48 1 <|Zv K30 80 1 <|Zv K25 96 1 <|Zv K20 112 2 <|Zn) mixed <|fun E args ks C r h hC hlen=>?_
 simp only at h
 unfold Mg at h
 split at h
 rotate_left
 cases h
 rename_i p0 p1
 cases h
 simp only [bU] at hlen
 refine ⟨rfl,?_⟩
 exact Xt [Ep 4 16] [] [Mk 16 .u64 5 [0,0,0,0,0]] [] 32 (v1 pT) <|Xt [] [0,1] [Mk 16 .u64 5 (F20 (F30 p0) (F25 (F30 p1)))] [16] 144 (v1 (pu pz (v1 (pu pz (pu pz (pu pz (pu (Yz 5) pT))))))) <|Xz [] pz
def cN:List Int :=
 (F18 (F30 0) (sr 121665 121666))
def Nl:List AV→List Blk→Option (Prop × Ret)
 |[],[]=>some (True,⟨.ints .u64 5 (cN),[]⟩)
 |_,_=>none
theorem Ll:Known Tryz.prog gD 104 ⟨0,0,Nl⟩:=by
 refine Xw Tryz.f104 4 (Zv ML 48 2 <|Zv K30 32 1 <|Zv K18 64 2 <|Zn) mixed <|fun E args ks C r h hC hlen=>?_
 simp only at h
 unfold Nl at h
 split at h
 rotate_left
 cases h
 cases h
 simp only [bU] at hlen
 refine ⟨rfl,?_⟩
 exact Xt [Ep 0 16] [] [Mk 16 .u64 5 [0,0,0,0,0]] [] 32 (v1 pT) <|Xt [] [] [Mk 16 .u64 5 (F18 (F30 0) (sr 121665 121666))] [16] 96 (pu pz (pu pz (pu pz (pu (Yz 5) pT)))) <|Xz [] pz
def jg (p0:List Int):List Int :=
 (sel (!(lc p0)) [0,0,0,0,0,0,0,0,0,0,0,0,0,0,0,0,0,0,0,0] (sel (((iOr .u8 ((F33 (F23 p0)).getD 31 0) (aq .u8 (p0.getD 31 0) 128)):Int) != p0.getD 31 0) [0,0,0,0,0,0,0,0,0,0,0,0,0,0,0,0,0,0,0,0] (sel (!(aB (aL (((F33 (F23 p0)).drop 0).take 31)) (aL ((p0.drop 0).take 31)))) [0,0,0,0,0,0,0,0,0,0,0,0,0,0,0,0,0,0,0,0] (sel (!(uW (F20 (F18 (F20 (F23 p0) (F23 p0)) (F30 1)) (F25 (F16 (F20 (F20 (F23 p0) (F23 p0)) (cN)) (F30 1)))))) [0,0,0,0,0,0,0,0,0,0,0,0,0,0,0,0,0,0,0,0] (sel (F29 (F34 (F20 (F18 (F20 (F23 p0) (F23 p0)) (F30 1)) (F25 (F16 (F20 (F20 (F23 p0) (F23 p0)) (cN)) (F30 1))))) (F30 0)) (sel (decide ((p0.getD 31 0:Int) ≥ 128)) [0,0,0,0,0,0,0,0,0,0,0,0,0,0,0,0,0,0,0,0] (ah (ah (ah (ah [0,0,0,0,0,0,0,0,0,0,0,0,0,0,0,0,0,0,0,0] 0 (sel (!((F32 (F34 (F20 (F18 (F20 (F23 p0) (F23 p0)) (F30 1)) (F25 (F16 (F20 (F20 (F23 p0) (F23 p0)) (cN)) (F30 1))))))==(decide ((p0.getD 31 0:Int) ≥ 128)))) (F18 (F30 0) (F34 (F20 (F18 (F20 (F23 p0) (F23 p0)) (F30 1)) (F25 (F16 (F20 (F20 (F23 p0) (F23 p0)) (cN)) (F30 1)))))) (F34 (F20 (F18 (F20 (F23 p0) (F23 p0)) (F30 1)) (F25 (F16 (F20 (F20 (F23 p0) (F23 p0)) (cN)) (F30 1))))))) 5 (F23 p0)) 10 (F30 1)) 15 (F20 (sel (!((F32 (F34 (F20 (F18 (F20 (F23 p0) (F23 p0)) (F30 1)) (F25 (F16 (F20 (F20 (F23 p0) (F23 p0)) (cN)) (F30 1))))))==(decide ((p0.getD 31 0:Int) ≥ 128)))) (F18 (F30 0) (F34 (F20 (F18 (F20 (F23 p0) (F23 p0)) (F30 1)) (F25 (F16 (F20 (F20 (F23 p0) (F23 p0)) (cN)) (F30 1)))))) (F34 (F20 (F18 (F20 (F23 p0) (F23 p0)) (F30 1)) (F25 (F16 (F20 (F20 (F23 p0) (F23 p0)) (cN)) (F30 1)))))) (F23 p0)))) (ah (ah (ah (ah [0,0,0,0,0,0,0,0,0,0,0,0,0,0,0,0,0,0,0,0] 0 (sel (!((F32 (F34 (F20 (F18 (F20 (F23 p0) (F23 p0)) (F30 1)) (F25 (F16 (F20 (F20 (F23 p0) (F23 p0)) (cN)) (F30 1))))))==(decide ((p0.getD 31 0:Int) ≥ 128)))) (F18 (F30 0) (F34 (F20 (F18 (F20 (F23 p0) (F23 p0)) (F30 1)) (F25 (F16 (F20 (F20 (F23 p0) (F23 p0)) (cN)) (F30 1)))))) (F34 (F20 (F18 (F20 (F23 p0) (F23 p0)) (F30 1)) (F25 (F16 (F20 (F20 (F23 p0) (F23 p0)) (cN)) (F30 1))))))) 5 (F23 p0)) 10 (F30 1)) 15 (F20 (sel (!((F32 (F34 (F20 (F18 (F20 (F23 p0) (F23 p0)) (F30 1)) (F25 (F16 (F20 (F20 (F23 p0) (F23 p0)) (cN)) (F30 1))))))==(decide ((p0.getD 31 0:Int) ≥ 128)))) (F18 (F30 0) (F34 (F20 (F18 (F20 (F23 p0) (F23 p0)) (F30 1)) (F25 (F16 (F20 (F20 (F23 p0) (F23 p0)) (cN)) (F30 1)))))) (F34 (F20 (F18 (F20 (F23 p0) (F23 p0)) (F30 1)) (F25 (F16 (F20 (F20 (F23 p0) (F23 p0)) (cN)) (F30 1)))))) (F23 p0))))))))
def iA (p0:List Int):Bool :=
 (sel (!(lc p0)) false (sel (((iOr .u8 ((F33 (F23 p0)).getD 31 0) (aq .u8 (p0.getD 31 0) 128)):Int) != p0.getD 31 0) false (sel (!(aB (aL (((F33 (F23 p0)).drop 0).take 31)) (aL ((p0.drop 0).take 31)))) false (sel (!(uW (F20 (F18 (F20 (F23 p0) (F23 p0)) (F30 1)) (F25 (F16 (F20 (F20 (F23 p0) (F23 p0)) (cN)) (F30 1)))))) false (sel (F29 (F34 (F20 (F18 (F20 (F23 p0) (F23 p0)) (F30 1)) (F25 (F16 (F20 (F20 (F23 p0) (F23 p0)) (cN)) (F30 1))))) (F30 0)) (sel (decide ((p0.getD 31 0:Int) ≥ 128)) false true) true)))))
def Mv:List AV→List Blk→Option (Prop × Ret)
 |[.sc (.ro .u8 p0)],[]=>some (True,⟨.tup [.ints .u64 20 (jg p0),.sc (.b (iA p0))],[]⟩)
 |_,_=>none
def Ou:KL Tryz.prog gD:=Zv K33 224 1 <|Zv Ll 720 0 <|Zv K16 768 2 <|Zv K30 672 1 <|Zv K30 752 1 <|Zv K30 1072 1 <|Zv K30 1232 1 <|Zv K30 1328 1 <|Zv K25 784 1 <|Zv K20 608 2 <|Zv K20 736 2 <|Zv K20 800 2 <|Zv K20 1376 2 <|Zv K32 1184 1 <|Zv K18 688 2 <|Zv K18 1264 2 <|Zc K23 64 [.ro .u8] [] [] <|Zv K34 816 1 <|Zv K29 1088 2 <|Zn
theorem NK:Known Tryz.prog gD 103 ⟨0,0,Mv⟩:=by
 refine Xw Tryz.f103 87 Ou mixed <|fun E args ks C r h hC hlen=>?_
 simp only at h
 unfold Mv at h
 split at h
 rotate_left
 cases h
 rename_i p0
 cases h
 simp only [bU] at hlen
 refine ⟨rfl,?_⟩
 refine Xt [Ep 2 16] [] [Mk 16 .u64 20 [0,0,0,0,0,0,0,0,0,0,0,0,0,0,0,0,0,0,0,0]] [] 48 (v2 pT) <|Xt [Eb 5 (lc p0),Ep 4 128] [] [Mk 128 .u64 5 (F23 p0)] [] 176 (v1 (pu (pa pz pT) (v4 (pu (Yz 5) (v1 pT))))) <|Tri.seq <|Xs [Eb 17 (!(lc p0))] [5] 208 (v2 pT) <|Xa (fun h1=>?_) (fun h1=>?_)
 exact Xt [Eb 3 false] [17,4,0] [] [128] 256 (v1 (pu (Yz 20) (v1 pT))) <|Xy [] (pa pT pz) (by simp only [jg,iA,h1,aH,aD] <;> rfl)
 refine Tri.skip <|Xt [Ep 6 240] [17] [Mi 240 32 (F33 (F23 p0))] [] 272 (v1 (pu pz (v1 (pu (Yz 32) pT)))) <|Tri.seq <|Tri.split (((iOr .u8 ((F33 (F23 p0)).getD 31 0) (aq .u8 (p0.getD 31 0) 128)):Int) != p0.getD 31 0) (fun h2=>?_) (fun h2=>?_)
 have h2':=cM h2
 refine Xu [Eb 32 true] (some [0,1,0,4,12,28,63,0,128,384,1023,2047,4095,8191,4095,20479,53247,131071,262143]) [Eb 39 true] [6] [] [240] 576 (pu (Yi 31 32) (pu (Yl 31 32) (v1 (pu (pl (show (0:Int)≤31∧31<(p0.length:Int) from by (have hl:=jm (p0:=p0) (by assumption);omega))) (pu (pl (show 31<p0.length from by (have hl:=jm (p0:=p0) (by assumption);omega))) (v3 (pu (pl (show (0:Int)≤31∧31<(p0.length:Int) from by (have hl:=jm (p0:=p0) (by assumption);omega))) (pu (pl (show 31<p0.length from by (have hl:=jm (p0:=p0) (by assumption);omega))) (v1 (pg h2 (v7 pT))))))))))) ?_
 exact Tri.cond_true (by kernel_rfl) <|Xt [Eb 3 false] [39,4,0] [] [128] 624 (v1 (pu (Yz 20) (v1 pT))) <|Xy [] (pa pT pz) (by simp only [jg,iA,h1,h2,aH,aD] <;> rfl)
 have h2':=bW h2
 refine Xu [Eb 32 false] (some [0,1,0,4,12,28,63,0,128,384,1023,2047,4095,8191,4095,20479,53247,131071,262143]) [Eb 39 (!(aB (aL (((F33 (F23 p0)).drop 0).take 31)) (aL ((p0.drop 0).take 31))))] [6] [] [240] 576 (pu (Yi 31 32) (pu (Yl 31 32) (v1 (pu (pl (show (0:Int)≤31∧31<(p0.length:Int) from by (have hl:=jm (p0:=p0) (by assumption);omega))) (pu (pl (show 31<p0.length from by (have hl:=jm (p0:=p0) (by assumption);omega))) (v3 (pu (pl (show (0:Int)≤31∧31<(p0.length:Int) from by (have hl:=jm (p0:=p0) (by assumption);omega))) (pu (pl (show 31<p0.length from by (have hl:=jm (p0:=p0) (by assumption);omega))) (v1 (pg h2 (pu (pa (lo ((0:Int)≤0∧(0:Int)≤31∧31≤((32:Nat):Int))) (Ye 32 32)) (pu (Ye (0+31) 32) (v1 (pu (pl (show (0:Int)≤0∧(0:Int)≤31∧31≤(p0.length:Int) from by (have hl:=jm (p0:=p0) (by assumption);omega))) (v3 pT))))))))))))))) ?_
 refine Xa (fun h3=>?_) (fun h3=>?_)
 exact Xt [Eb 3 false] [39,4,0] [] [128] 624 (v1 (pu (Yz 20) (v1 pT))) <|Xy [] (pa pT pz) (by simp only [jg,iA,h1,h2,h3,aH,aD] <;> rfl)
 refine Tri.skip <|Xt [Ep 7 624] [39] [Mk 624 .u64 5 (F20 (F23 p0) (F23 p0))] [] 656 (v2 (pu pz (v1 (pu (Yz 5) pT)))) <|Xu [] (some [0,0,3,0,7,31,63,127,255,511,1023,2047,4095,4095,0,24575,65535]) [Eb 9 (uW (F20 (F18 (F20 (F23 p0) (F23 p0)) (F30 1)) (F25 (F16 (F20 (F20 (F23 p0) (F23 p0)) (cN)) (F30 1))))),Ep 8 880] [7] [Mk 880 .u64 5 (F34 (F20 (F18 (F20 (F23 p0) (F23 p0)) (F30 1)) (F25 (F16 (F20 (F20 (F23 p0) (F23 p0)) (cN)) (F30 1)))))] [624] 928 (v1 (pu pz (pu pz (v1 (pu pz (pu pz (pu pz (pu pz (pu pz (pu pz (pu pz (v4 (pu (Yz 5) (v1 pT)))))))))))))) <|Xs [Eb 10 (decide ((p0.getD 31 0:Int) ≥ 128))] [0] 1008 (v1 (pu (pl (show (0:Int)≤31∧31<(p0.length:Int) from by (have hl:=jm (p0:=p0) (by assumption);omega))) (pu (pl (show 31<p0.length from by (have hl:=jm (p0:=p0) (by assumption);omega))) (v2 pT)))) ?_
 refine Tri.seq <|Tri.split (!(uW (F20 (F18 (F20 (F23 p0) (F23 p0)) (F30 1)) (F25 (F16 (F20 (F20 (F23 p0) (F23 p0)) (cN)) (F30 1)))))) (fun h4=>?_) (fun h4=>?_)
 exact Xu [Eb 64 true] (some [0,1,3,7,7,31,63,127,255,511]) [Eb 71 true] [9] [] [] 1168 (v2 (pg h4 (v7 pT))) <|Tri.cond_true (by kernel_rfl) <|Xt [Eb 3 false] [71,10,8,4] [] [880,128] 1216 (v1 (pu (Yz 20) (v1 pT))) <|Xy [] (pa pT pz) (by simp only [jg,iA,h1,h2,h3,h4,aH,aD] <;> rfl)
 refine Tri.split (F29 (F34 (F20 (F18 (F20 (F23 p0) (F23 p0)) (F30 1)) (F25 (F16 (F20 (F20 (F23 p0) (F23 p0)) (cN)) (F30 1))))) (F30 0)) (fun h5=>?_) (fun h5=>?_)
 refine Xu [Eb 64 false,Eb 68 true] (some [0,1,3,7,7,31,63,127,255,511]) [Eb 71 (decide ((p0.getD 31 0:Int) ≥ 128))] [9] [] [] 1168 (v2 (pg h4 (v1 (pu pz (pu pz (pg h5 (v3 pT))))))) <|Xb (fun h6 h6'=>?_) (fun h6 h6'=>?_)
 exact Xt [Eb 3 false] [71,10,8,4] [] [880,128] 1216 (v1 (pu (Yz 20) (v1 pT))) <|Xy [] (pa pT pz) (by simp only [jg,iA,h1,h2,h3,h4,h5,h6,aH,aD] <;> rfl)
 refine Tri.skip <|Tri.seq <|Xs [Eb 76 (!((F32 (F34 (F20 (F18 (F20 (F23 p0) (F23 p0)) (F30 1)) (F25 (F16 (F20 (F20 (F23 p0) (F23 p0)) (cN)) (F30 1))))))==(decide ((p0.getD 31 0:Int) ≥ 128))))] [71,10] 1232 (v1 (pu pz (v2 pT))) <|Xj (x:=(!((F32 (F34 (F20 (F18 (F20 (F23 p0) (F23 p0)) (F30 1)) (F25 (F16 (F20 (F20 (F23 p0) (F23 p0)) (cN)) (F30 1))))))==(decide ((p0.getD 31 0:Int) ≥ 128))))) (fun bb=>[]) [76] (fun bb=>[Mk 880 .u64 5 (sel bb (F18 (F30 0) (F34 (F20 (F18 (F20 (F23 p0) (F23 p0)) (F30 1)) (F25 (F16 (F20 (F20 (F23 p0) (F23 p0)) (cN)) (F30 1)))))) (F34 (F20 (F18 (F20 (F23 p0) (F23 p0)) (F30 1)) (F25 (F16 (F20 (F20 (F23 p0) (F23 p0)) (cN)) (F30 1))))))]) [880] 1296 (fun h7=>?_) (fun h7=>?_) ?_
 exact Wu [] (some [0,0,3,7]) [] [76] [Mk 880 .u64 5 (F18 (F30 0) (F34 (F20 (F18 (F20 (F23 p0) (F23 p0)) (F30 1)) (F25 (F16 (F20 (F20 (F23 p0) (F23 p0)) (cN)) (F30 1))))))] [880] 1296 (pu pz (v1 (pu pz (pu (Yz 5) pT)))) <|Xe [] [Mk 880 .u64 5 (F18 (F30 0) (F34 (F20 (F18 (F20 (F23 p0) (F23 p0)) (F30 1)) (F25 (F16 (F20 (F20 (F23 p0) (F23 p0)) (cN)) (F30 1))))))]
 exact Tri.skip <|Xe [] [Mk 880 .u64 5 (F34 (F20 (F18 (F20 (F23 p0) (F23 p0)) (F30 1)) (F25 (F16 (F20 (F20 (F23 p0) (F23 p0)) (cN)) (F30 1)))))]
 exact Xu [] (some [0,0,0,0,0,28,63,127,255]) [Eb 3 true] [8,4] [Mk 16 .u64 20 (ah (ah (ah (ah [0,0,0,0,0,0,0,0,0,0,0,0,0,0,0,0,0,0,0,0] 0 (sel (!((F32 (F34 (F20 (F18 (F20 (F23 p0) (F23 p0)) (F30 1)) (F25 (F16 (F20 (F20 (F23 p0) (F23 p0)) (cN)) (F30 1))))))==(decide ((p0.getD 31 0:Int) ≥ 128)))) (F18 (F30 0) (F34 (F20 (F18 (F20 (F23 p0) (F23 p0)) (F30 1)) (F25 (F16 (F20 (F20 (F23 p0) (F23 p0)) (cN)) (F30 1)))))) (F34 (F20 (F18 (F20 (F23 p0) (F23 p0)) (F30 1)) (F25 (F16 (F20 (F20 (F23 p0) (F23 p0)) (cN)) (F30 1))))))) 5 (F23 p0)) 10 (F30 1)) 15 (F20 (sel (!((F32 (F34 (F20 (F18 (F20 (F23 p0) (F23 p0)) (F30 1)) (F25 (F16 (F20 (F20 (F23 p0) (F23 p0)) (cN)) (F30 1))))))==(decide ((p0.getD 31 0:Int) ≥ 128)))) (F18 (F30 0) (F34 (F20 (F18 (F20 (F23 p0) (F23 p0)) (F30 1)) (F25 (F16 (F20 (F20 (F23 p0) (F23 p0)) (cN)) (F30 1)))))) (F34 (F20 (F18 (F20 (F23 p0) (F23 p0)) (F30 1)) (F25 (F16 (F20 (F20 (F23 p0) (F23 p0)) (cN)) (F30 1)))))) (F23 p0)))] [880,128,16] 1440 (v2 (pu pz (v2 (pu pz (pu (pa (pa (Ye (0+5) 20) (Yr 5)) (pa (pa (Ye (5+5) 20) (Yr 5)) (pa (pa (Ye (10+5) 20) (Yr 5)) (pa (pa (Ye (15+5) 20) (Yr 5)) pT)))) (pu (Yz 20) (v1 pT))))))) <|Xy (r':=⟨.tup [.ints .u64 20 (ah (ah (ah (ah [0,0,0,0,0,0,0,0,0,0,0,0,0,0,0,0,0,0,0,0] 0 (sel (!((F32 (F34 (F20 (F18 (F20 (F23 p0) (F23 p0)) (F30 1)) (F25 (F16 (F20 (F20 (F23 p0) (F23 p0)) (cN)) (F30 1))))))==(decide ((p0.getD 31 0:Int) ≥ 128)))) (F18 (F30 0) (F34 (F20 (F18 (F20 (F23 p0) (F23 p0)) (F30 1)) (F25 (F16 (F20 (F20 (F23 p0) (F23 p0)) (cN)) (F30 1)))))) (F34 (F20 (F18 (F20 (F23 p0) (F23 p0)) (F30 1)) (F25 (F16 (F20 (F20 (F23 p0) (F23 p0)) (cN)) (F30 1))))))) 5 (F23 p0)) 10 (F30 1)) 15 (F20 (sel (!((F32 (F34 (F20 (F18 (F20 (F23 p0) (F23 p0)) (F30 1)) (F25 (F16 (F20 (F20 (F23 p0) (F23 p0)) (cN)) (F30 1))))))==(decide ((p0.getD 31 0:Int) ≥ 128)))) (F18 (F30 0) (F34 (F20 (F18 (F20 (F23 p0) (F23 p0)) (F30 1)) (F25 (F16 (F20 (F20 (F23 p0) (F23 p0)) (cN)) (F30 1)))))) (F34 (F20 (F18 (F20 (F23 p0) (F23 p0)) (F30 1)) (F25 (F16 (F20 (F20 (F23 p0) (F23 p0)) (cN)) (F30 1)))))) (F23 p0))),.sc (.b true)],[]⟩) [] (pa pT pz) (by simp only [jg,iA,h1,h2,h3,h4,h5,h6,aH,aD])
 refine Xu [Eb 64 false,Eb 68 false] (some [0,1,3,7,7,31,63,127,255,511]) [Eb 71 false] [9] [] [] 1168 (v2 (pg h4 (v1 (pu pz (pu pz (pg h5 (v3 pT))))))) <|Tri.cond_false (by kernel_rfl) <|Tri.skip <|Tri.seq <|Xs [Eb 76 (!((F32 (F34 (F20 (F18 (F20 (F23 p0) (F23 p0)) (F30 1)) (F25 (F16 (F20 (F20 (F23 p0) (F23 p0)) (cN)) (F30 1))))))==(decide ((p0.getD 31 0:Int) ≥ 128))))] [71,10] 1232 (v1 (pu pz (v2 pT))) <|Xj (x:=(!((F32 (F34 (F20 (F18 (F20 (F23 p0) (F23 p0)) (F30 1)) (F25 (F16 (F20 (F20 (F23 p0) (F23 p0)) (cN)) (F30 1))))))==(decide ((p0.getD 31 0:Int) ≥ 128))))) (fun bb=>[]) [76] (fun bb=>[Mk 880 .u64 5 (sel bb (F18 (F30 0) (F34 (F20 (F18 (F20 (F23 p0) (F23 p0)) (F30 1)) (F25 (F16 (F20 (F20 (F23 p0) (F23 p0)) (cN)) (F30 1)))))) (F34 (F20 (F18 (F20 (F23 p0) (F23 p0)) (F30 1)) (F25 (F16 (F20 (F20 (F23 p0) (F23 p0)) (cN)) (F30 1))))))]) [880] 1296 (fun h8=>?_) (fun h8=>?_) ?_
 exact Wu [] (some [0,0,3,7]) [] [76] [Mk 880 .u64 5 (F18 (F30 0) (F34 (F20 (F18 (F20 (F23 p0) (F23 p0)) (F30 1)) (F25 (F16 (F20 (F20 (F23 p0) (F23 p0)) (cN)) (F30 1))))))] [880] 1296 (pu pz (v1 (pu pz (pu (Yz 5) pT)))) <|Xe [] [Mk 880 .u64 5 (F18 (F30 0) (F34 (F20 (F18 (F20 (F23 p0) (F23 p0)) (F30 1)) (F25 (F16 (F20 (F20 (F23 p0) (F23 p0)) (cN)) (F30 1))))))]
 exact Tri.skip <|Xe [] [Mk 880 .u64 5 (F34 (F20 (F18 (F20 (F23 p0) (F23 p0)) (F30 1)) (F25 (F16 (F20 (F20 (F23 p0) (F23 p0)) (cN)) (F30 1)))))]
 exact Xu [] (some [0,0,0,0,0,28,63,127,255]) [Eb 3 true] [8,4] [Mk 16 .u64 20 (ah (ah (ah (ah [0,0,0,0,0,0,0,0,0,0,0,0,0,0,0,0,0,0,0,0] 0 (sel (!((F32 (F34 (F20 (F18 (F20 (F23 p0) (F23 p0)) (F30 1)) (F25 (F16 (F20 (F20 (F23 p0) (F23 p0)) (cN)) (F30 1))))))==(decide ((p0.getD 31 0:Int) ≥ 128)))) (F18 (F30 0) (F34 (F20 (F18 (F20 (F23 p0) (F23 p0)) (F30 1)) (F25 (F16 (F20 (F20 (F23 p0) (F23 p0)) (cN)) (F30 1)))))) (F34 (F20 (F18 (F20 (F23 p0) (F23 p0)) (F30 1)) (F25 (F16 (F20 (F20 (F23 p0) (F23 p0)) (cN)) (F30 1))))))) 5 (F23 p0)) 10 (F30 1)) 15 (F20 (sel (!((F32 (F34 (F20 (F18 (F20 (F23 p0) (F23 p0)) (F30 1)) (F25 (F16 (F20 (F20 (F23 p0) (F23 p0)) (cN)) (F30 1))))))==(decide ((p0.getD 31 0:Int) ≥ 128)))) (F18 (F30 0) (F34 (F20 (F18 (F20 (F23 p0) (F23 p0)) (F30 1)) (F25 (F16 (F20 (F20 (F23 p0) (F23 p0)) (cN)) (F30 1)))))) (F34 (F20 (F18 (F20 (F23 p0) (F23 p0)) (F30 1)) (F25 (F16 (F20 (F20 (F23 p0) (F23 p0)) (cN)) (F30 1)))))) (F23 p0)))] [880,128,16] 1440 (v2 (pu pz (v2 (pu pz (pu (pa (pa (Ye (0+5) 20) (Yr 5)) (pa (pa (Ye (5+5) 20) (Yr 5)) (pa (pa (Ye (10+5) 20) (Yr 5)) (pa (pa (Ye (15+5) 20) (Yr 5)) pT)))) (pu (Yz 20) (v1 pT))))))) <|Xy [] (pa pT pz) (by simp only [jg,iA,h1,h2,h3,h4,h5,aH,aD] <;> rfl)
theorem qc {p0:List Int} (h:(!(iA p0))=false):p0.length=32:=by
 unfold iA at h
 cases hb:(!(lc p0))
 ·exact jm hb
 ·rw [hb,aH] at h
  cases h
def jQ (p0:List Int):List Int :=
 (sel (F32 (F20 ((p0.drop 0).take 5) (F25 ((p0.drop 10).take 5)))) ((F33 (F20 ((p0.drop 5).take 5) (F25 ((p0.drop 10).take 5)))).set 31 (iOr .u8 ((F33 (F20 ((p0.drop 5).take 5) (F25 ((p0.drop 10).take 5)))).getD 31 0) 128)) (F33 (F20 ((p0.drop 5).take 5) (F25 ((p0.drop 10).take 5)))))
def OX:List AV→List Blk→Option (Prop × Ret)
 |[.ints .u64 20 p0],[]=>some (True,⟨.sc (.sl 0 0 32 1 (some 32)),[some (.ints .u8 32 (jQ p0))]⟩)
 |_,_=>none
theorem Lh:Known Tryz.prog gD 63 ⟨0,1,OX⟩:=by
 refine Xw Tryz.f63 23 (Zv K33 192 1 <|Zv K25 80 1 <|Zv K20 176 2 <|Zv K20 288 2 <|Zv K32 304 1 <|Zn) mixed <|fun E args ks C r h hC hlen=>?_
 simp only at h
 unfold OX at h
 split at h
 rotate_left
 cases h
 rename_i p0
 cases h
 simp only [bU] at hlen
 refine ⟨rfl,?_⟩
 refine Xt [Ep 1 16] [0] [Mk 16 .u64 20 p0] [] 48 (v2 pT) <|Xt [Ep 3 96] [] [Mk 96 .u64 5 (F25 ((p0.drop 10).take 5))] [] 128 (v1 (pu (Ye (10+5) 20) (pu pz (v1 (pu (Yz 5) pT))))) <|Xt [Ep 4 208] [] [Mi 208 32 (F33 (F20 ((p0.drop 5).take 5) (F25 ((p0.drop 10).take 5))))] [] 240 (v1 (pu (Ye (5+5) 20) (v1 (pu pz (pu pz (v1 (pu (Yz 32) pT))))))) <|Tri.seq <|Xt [Eb 17 (F32 (F20 ((p0.drop 0).take 5) (F25 ((p0.drop 10).take 5))))] [3,1] [] [96,16] 320 (v1 (pu (Ye (0+5) 20) (v1 (pu pz (pu pz pT))))) <|Xj (x:=(F32 (F20 ((p0.drop 0).take 5) (F25 ((p0.drop 10).take 5))))) (fun bb=>[]) [17] (fun bb=>[Mi 208 32 (sel bb ((F33 (F20 ((p0.drop 5).take 5) (F25 ((p0.drop 10).take 5)))).set 31 (iOr .u8 ((F33 (F20 ((p0.drop 5).take 5) (F25 ((p0.drop 10).take 5)))).getD 31 0) 128)) (F33 (F20 ((p0.drop 5).take 5) (F25 ((p0.drop 10).take 5)))))]) [208] 400 (fun h1=>?_) (fun h1=>?_) ?_
 exact Wt [] [17] [Mi 208 32 ((F33 (F20 ((p0.drop 5).take 5) (F25 ((p0.drop 10).take 5)))).set 31 (iOr .u8 ((F33 (F20 ((p0.drop 5).take 5) (F25 ((p0.drop 10).take 5)))).getD 31 0) 128))] [208] 400 (pu (Yi 31 32) (pu (Yl 31 32) (v1 (pu (Yi 31 32) (pu (Ys 31 32) pT))))) <|Xe [] [Mi 208 32 ((F33 (F20 ((p0.drop 5).take 5) (F25 ((p0.drop 10).take 5)))).set 31 (iOr .u8 ((F33 (F20 ((p0.drop 5).take 5) (F25 ((p0.drop 10).take 5)))).getD 31 0) 128))]
 exact Tri.skip <|Xe [] [Mi 208 32 (F33 (F20 ((p0.drop 5).take 5) (F25 ((p0.drop 10).take 5))))]
 exact Xs [(2,.sc (.sl 208 0 32 1 (some 32)))] [4] 432 (pu (pa (lo ((0:Int)≤0∧(0:Int)≤32∧32≤((32:Nat):Int))) (Ye 32 32)) (v1 pT)) <|Xz [(208,0)] pz
def mU (p0:List Int) (p1:List Int) (p2:List Int):List Int :=
 ah (ah (ah (ah [0,0,0,0,0,0,0,0,0,0,0,0,0,0,0,0,0,0,0,0] 0 (F20 (F18 (F20 (F16 ((p0.drop 5).take 5) ((p0.drop 0).take 5)) (F16 ((p1.drop 5).take 5) ((p1.drop 0).take 5))) (F20 (F18 ((p0.drop 5).take 5) ((p0.drop 0).take 5)) (F18 ((p1.drop 5).take 5) ((p1.drop 0).take 5)))) (F18 (F16 (F20 ((p0.drop 10).take 5) ((p1.drop 10).take 5)) (F20 ((p0.drop 10).take 5) ((p1.drop 10).take 5))) (F20 (F20 ((p0.drop 15).take 5) ((p1.drop 15).take 5)) p2)))) 5 (F20 (F16 (F16 (F20 ((p0.drop 10).take 5) ((p1.drop 10).take 5)) (F20 ((p0.drop 10).take 5) ((p1.drop 10).take 5))) (F20 (F20 ((p0.drop 15).take 5) ((p1.drop 15).take 5)) p2)) (F16 (F20 (F16 ((p0.drop 5).take 5) ((p0.drop 0).take 5)) (F16 ((p1.drop 5).take 5) ((p1.drop 0).take 5))) (F20 (F18 ((p0.drop 5).take 5) ((p0.drop 0).take 5)) (F18 ((p1.drop 5).take 5) ((p1.drop 0).take 5)))))) 10 (F20 (F18 (F16 (F20 ((p0.drop 10).take 5) ((p1.drop 10).take 5)) (F20 ((p0.drop 10).take 5) ((p1.drop 10).take 5))) (F20 (F20 ((p0.drop 15).take 5) ((p1.drop 15).take 5)) p2)) (F16 (F16 (F20 ((p0.drop 10).take 5) ((p1.drop 10).take 5)) (F20 ((p0.drop 10).take 5) ((p1.drop 10).take 5))) (F20 (F20 ((p0.drop 15).take 5) ((p1.drop 15).take 5)) p2)))) 15 (F20 (F18 (F20 (F16 ((p0.drop 5).take 5) ((p0.drop 0).take 5)) (F16 ((p1.drop 5).take 5) ((p1.drop 0).take 5))) (F20 (F18 ((p0.drop 5).take 5) ((p0.drop 0).take 5)) (F18 ((p1.drop 5).take 5) ((p1.drop 0).take 5)))) (F16 (F20 (F16 ((p0.drop 5).take 5) ((p0.drop 0).take 5)) (F16 ((p1.drop 5).take 5) ((p1.drop 0).take 5))) (F20 (F18 ((p0.drop 5).take 5) ((p0.drop 0).take 5)) (F18 ((p1.drop 5).take 5) ((p1.drop 0).take 5)))))
def MQ:List AV→List Blk→Option (Prop × Ret)
 |[.ints .u64 20 p0,.ints .u64 20 p1,.ints .u64 5 p2],[]=>some (True,⟨.ints .u64 20 (mU p0 p1 p2),[]⟩)
 |_,_=>none
def Pe:KL Tryz.prog gD:=Zv K16 320 2 <|Zv K16 400 2 <|Zv K16 784 2 <|Zv K16 944 2 <|Zv K16 992 2 <|Zv K20 240 2 <|Zv K20 416 2 <|Zv K20 560 2 <|Zv K20 592 2 <|Zv K20 672 2 <|Zv K20 1168 2 <|Zv K20 1216 2 <|Zv K20 1264 2 <|Zv K20 1312 2 <|Zv K18 144 2 <|Zv K18 224 2 <|Zv K18 848 2 <|Zv K18 896 2 <|Zn
theorem Lw:Known Tryz.prog gD 107 ⟨0,0,MQ⟩:=by
 refine Xw Tryz.f107 77 Pe mixed <|fun E args ks C r h hC hlen=>?_
 simp only at h
 unfold MQ at h
 split at h
 rotate_left
 cases h
 rename_i p0 p1 p2
 cases h
 simp only [bU] at hlen
 refine ⟨rfl,?_⟩
 exact Xt [Ep 6 64,Ep 5 48,Ep 4 32,Ep 3 16] [0,1,2] [Mk 64 .u64 20 [0,0,0,0,0,0,0,0,0,0,0,0,0,0,0,0,0,0,0,0],Mk 48 .u64 5 p2,Mk 32 .u64 20 p1,Mk 16 .u64 20 p0] [] 80 (v4 pT) <|Xu [] (some [0,1,0,4,15,0,32,0,128,511,1023,0,2048,0,8192,32767,0,65536,0,262144,1048575,2097151,0,0,16777215,33554431]) [Ep 8 448,Ep 7 432] [] [Mk 448 .u64 5 (F20 (F16 ((p0.drop 5).take 5) ((p0.drop 0).take 5)) (F16 ((p1.drop 5).take 5) ((p1.drop 0).take 5))),Mk 432 .u64 5 (F20 (F18 ((p0.drop 5).take 5) ((p0.drop 0).take 5)) (F18 ((p1.drop 5).take 5) ((p1.drop 0).take 5)))] [] 496 (v1 (pu (Ye (5+5) 20) (v1 (pu (Ye (0+5) 20) (pu pz (v1 (pu (Ye (5+5) 20) (v1 (pu (Ye (0+5) 20) (pu pz (pu pz (v1 (pu (Ye (5+5) 20) (v1 (pu (Ye (0+5) 20) (pu pz (v1 (pu (Ye (5+5) 20) (v1 (pu (Ye (0+5) 20) (pu pz (pu pz (v2 (pu (Yz 5) (pu (Yz 5) pT))))))))))))))))))))))))) <|Xu [] (some [0,1,0,4,15,0,63,0,128,0,512,2047,0,0,16383,32767]) [Ep 10 704,Ep 9 688] [5,4,3] [Mk 704 .u64 5 (F20 ((p0.drop 10).take 5) ((p1.drop 10).take 5)),Mk 688 .u64 5 (F20 (F20 ((p0.drop 15).take 5) ((p1.drop 15).take 5)) p2)] [48,32,16] 752 (v1 (pu (Ye (15+5) 20) (v1 (pu (Ye (15+5) 20) (pu pz (v1 (pu pz (v1 (pu (Ye (10+5) 20) (v1 (pu (Ye (10+5) 20) (pu pz (v2 (pu (Yz 5) (pu (Yz 5) pT))))))))))))))) <|Xt [] [] [Mk 704 .u64 5 (F16 (F20 ((p0.drop 10).take 5) ((p1.drop 10).take 5)) (F20 ((p0.drop 10).take 5) ((p1.drop 10).take 5)))] [704] 816 (v2 (pu pz (pu (Yz 5) pT))) <|Xu [] (some [0,0,3,0,0,31,0,0,255,0,0,2047,0,0,0,0,65535,131071,262143,524287]) [Ep 14 1056,Ep 13 1040,Ep 12 1024,Ep 11 1008] [10,9,8,7] [Mk 1056 .u64 5 (F16 (F20 (F16 ((p0.drop 5).take 5) ((p0.drop 0).take 5)) (F16 ((p1.drop 5).take 5) ((p1.drop 0).take 5))) (F20 (F18 ((p0.drop 5).take 5) ((p0.drop 0).take 5)) (F18 ((p1.drop 5).take 5) ((p1.drop 0).take 5)))),Mk 1040 .u64 5 (F16 (F16 (F20 ((p0.drop 10).take 5) ((p1.drop 10).take 5)) (F20 ((p0.drop 10).take 5) ((p1.drop 10).take 5))) (F20 (F20 ((p0.drop 15).take 5) ((p1.drop 15).take 5)) p2)),Mk 1024 .u64 5 (F18 (F16 (F20 ((p0.drop 10).take 5) ((p1.drop 10).take 5)) (F20 ((p0.drop 10).take 5) ((p1.drop 10).take 5))) (F20 (F20 ((p0.drop 15).take 5) ((p1.drop 15).take 5)) p2)),Mk 1008 .u64 5 (F18 (F20 (F16 ((p0.drop 5).take 5) ((p0.drop 0).take 5)) (F16 ((p1.drop 5).take 5) ((p1.drop 0).take 5))) (F20 (F18 ((p0.drop 5).take 5) ((p0.drop 0).take 5)) (F18 ((p1.drop 5).take 5) ((p1.drop 0).take 5))))] [704,688,448,432] 1136 (v2 (pu pz (v2 (pu pz (v2 (pu pz (v2 (pu pz (v4 (pu (Yz 5) (pu (Yz 5) (pu (Yz 5) (pu (Yz 5) pT))))))))))))) <|Xu [] (some [0,0,3,0,0,31,0,0,255,0,0,2047,4095,8191]) [] [14,13,12,11] [Mk 64 .u64 20 (ah (ah (ah (ah [0,0,0,0,0,0,0,0,0,0,0,0,0,0,0,0,0,0,0,0] 0 (F20 (F18 (F20 (F16 ((p0.drop 5).take 5) ((p0.drop 0).take 5)) (F16 ((p1.drop 5).take 5) ((p1.drop 0).take 5))) (F20 (F18 ((p0.drop 5).take 5) ((p0.drop 0).take 5)) (F18 ((p1.drop 5).take 5) ((p1.drop 0).take 5)))) (F18 (F16 (F20 ((p0.drop 10).take 5) ((p1.drop 10).take 5)) (F20 ((p0.drop 10).take 5) ((p1.drop 10).take 5))) (F20 (F20 ((p0.drop 15).take 5) ((p1.drop 15).take 5)) p2)))) 5 (F20 (F16 (F16 (F20 ((p0.drop 10).take 5) ((p1.drop 10).take 5)) (F20 ((p0.drop 10).take 5) ((p1.drop 10).take 5))) (F20 (F20 ((p0.drop 15).take 5) ((p1.drop 15).take 5)) p2)) (F16 (F20 (F16 ((p0.drop 5).take 5) ((p0.drop 0).take 5)) (F16 ((p1.drop 5).take 5) ((p1.drop 0).take 5))) (F20 (F18 ((p0.drop 5).take 5) ((p0.drop 0).take 5)) (F18 ((p1.drop 5).take 5) ((p1.drop 0).take 5)))))) 10 (F20 (F18 (F16 (F20 ((p0.drop 10).take 5) ((p1.drop 10).take 5)) (F20 ((p0.drop 10).take 5) ((p1.drop 10).take 5))) (F20 (F20 ((p0.drop 15).take 5) ((p1.drop 15).take 5)) p2)) (F16 (F16 (F20 ((p0.drop 10).take 5) ((p1.drop 10).take 5)) (F20 ((p0.drop 10).take 5) ((p1.drop 10).take 5))) (F20 (F20 ((p0.drop 15).take 5) ((p1.drop 15).take 5)) p2)))) 15 (F20 (F18 (F20 (F16 ((p0.drop 5).take 5) ((p0.drop 0).take 5)) (F16 ((p1.drop 5).take 5) ((p1.drop 0).take 5))) (F20 (F18 ((p0.drop 5).take 5) ((p0.drop 0).take 5)) (F18 ((p1.drop 5).take 5) ((p1.drop 0).take 5)))) (F16 (F20 (F16 ((p0.drop 5).take 5) ((p0.drop 0).take 5)) (F16 ((p1.drop 5).take 5) ((p1.drop 0).take 5))) (F20 (F18 ((p0.drop 5).take 5) ((p0.drop 0).take 5)) (F18 ((p1.drop 5).take 5) ((p1.drop 0).take 5))))))] [1056,1040,1024,1008,64] 1360 (v2 (pu pz (v2 (pu pz (v2 (pu pz (v2 (pu pz (pu (pa (pa (Ye (0+5) 20) (Yr 5)) (pa (pa (Ye (5+5) 20) (Yr 5)) (pa (pa (Ye (10+5) 20) (Yr 5)) (pa (pa (Ye (15+5) 20) (Yr 5)) pT)))) (pu (Yz 20) pT)))))))))) <|Xz [] pz
def qH (p0:List Int) (p1:List Int) (k0:Nat) (z0:List Int):List Int :=
 (sel (((aq .u8 (ag .u8 (p1.getD (((8*p1.length)-1-k0)/8) 0) ((((8*p1.length)-1-k0) % 8:Nat):Int)) 1):Int)==1) (mU (mU z0 z0 (F16 (cN) (cN))) p0 (F16 (cN) (cN))) (mU z0 z0 (F16 (cN) (cN))))
def rv (p0:List Int) (p1:List Int):List Int :=
 (itr (qH p0 p1) (8*p1.length) (ah (ah [0,0,0,0,0,0,0,0,0,0,0,0,0,0,0,0,0,0,0,0] 5 (F30 1)) 10 (F30 1)))
def Nv:List AV→List Blk→Option (Prop × Ret)
 |[.ints .u64 20 p0,.sc (.ro .u8 p1)],[]=>some ((p1.length≤1000000),⟨.ints .u64 20 (rv p0 p1),[]⟩)
 |_,_=>none
theorem IS:Known Tryz.prog gD 62 ⟨0,0,Nv⟩:=by
 refine Xw Tryz.f62 42 (Zv Ll 48 0 <|Zv K16 128 2 <|Zv K30 160 1 <|Zv K30 176 1 <|Zv Lw 400 3 <|Zv Lw 640 3 <|Zn) mixed <|fun E args ks C r h hC hlen=>?_
 simp only at h
 unfold Nv at h
 split at h
 rotate_left
 cases h
 rename_i p0 p1
 cases h
 simp only [bU] at hlen
 refine ⟨rfl,?_⟩
 refine Xt [Ep 4 32,Ep 2 16] [0] [Mk 32 .u64 20 [0,0,0,0,0,0,0,0,0,0,0,0,0,0,0,0,0,0,0,0],Mk 16 .u64 20 p0] [] 48 (v2 pT) <|Xt [Ep 5 64] [] [Mk 64 .u64 5 (cN)] [] 96 (pu pz (v1 (pu (Yz 5) pT))) <|Xt [] [] [Mk 64 .u64 5 (F16 (cN) (cN))] [64] 160 (v2 (pu pz (pu (Yz 5) pT))) <|Xt [Ep 6 208] [] [Mk 208 .u64 20 (ah (ah [0,0,0,0,0,0,0,0,0,0,0,0,0,0,0,0,0,0,0,0] 5 (F30 1)) 10 (F30 1))] [] 240 (pu pz (pu pz (pu (pa (pa (Ye (5+5) 20) (Yr 5)) (pa (pa (Ye (10+5) 20) (Yr 5)) pT)) (v1 (pu (Yz 20) pT))))) <|Tri.seq <|Xu [Ej 17 (8*p1.length),Ei 18 (((8*p1.length:Nat):Int)-1-((0:Nat):Int))] none [Ei 7 (((8*p1.length:Nat):Int)-1-((0:Nat):Int))] [] [] [] 320 (v2 (pv pT (Yt 8 p1.length) (pv pT (pl (show (am .i64 ((8*p1.length:Nat):Int) 1)=(((8*p1.length:Nat):Int)-1-((0:Nat):Int)) from mg (by omega))) (v1 pT)))) <|Tri.block <|Xc (8*p1.length) (qH p0 p1) (ah (ah [0,0,0,0,0,0,0,0,0,0,0,0,0,0,0,0,0,0,0,0] 5 (F30 1)) 10 (F30 1)) (fun k0 z0=>True) (fun k0 z0=>[Ei 7 (((8*p1.length:Nat):Int)-1-((k0:Nat):Int))]) (fun k0 z0=>[Mk 208 .u64 20 z0]) trivial <|fun k0 z0 hk0 hz0 hJ0=>Tri.seq <|Xs [Eb 20 (decide (((((8*p1.length:Nat):Int)-1-((k0:Nat):Int)):Int) ≥ 0))] [] 352 (v2 pT) <|Xb (fun h1 h1'=>?_) (fun h1 h1'=>?_)
 refine Tri.skip <|Tri.seq <|Tri.block <|Xt [] [20] [Mk 208 .u64 20 (mU z0 z0 (F16 (cN) (cN)))] [208] 432 (v3 (pu pz (pu (Yz 20) pT))) <|Xu [Ej 29 (((8*p1.length)-1-k0)/8),Ej 33 (((8*p1.length)-1-k0) % 8)] none [Eb 36 (((aq .u8 (ag .u8 (p1.getD (((8*p1.length)-1-k0)/8) 0) ((((8*p1.length)-1-k0) % 8:Nat):Int)) 1):Int)==1)] [] [] [] 592 (v2 (pv (Yn 8) (pl (show (jl .i64 (((8*p1.length:Nat):Int)-1-((k0:Nat):Int)) 8)=((((8*p1.length)-1-k0)/8:Nat):Int) from by rw [ij (by omega)];exact dd (b:=8) (by omega))) (pu (Yj (((8*p1.length)-1-k0)/8) p1.length) (pu (Yl (((8*p1.length)-1-k0)/8) p1.length) (v1 (pv (Yn 8) (pl (show (bx (((8*p1.length:Nat):Int)-1-((k0:Nat):Int)) 8)=((((8*p1.length)-1-k0) % 8:Nat):Int) from by rw [ij (by omega)];exact eV (b:=8))) (pu (Y0 ((((8*p1.length)-1-k0) % 8:Nat):Int)) (v2 pT)))))))) ?_
 refine Xj (x:=(((aq .u8 (ag .u8 (p1.getD (((8*p1.length)-1-k0)/8) 0) ((((8*p1.length)-1-k0) % 8:Nat):Int)) 1):Int)==1)) (fun bb=>[]) [36] (fun bb=>[Mk 208 .u64 20 (sel bb (mU (mU z0 z0 (F16 (cN) (cN))) p0 (F16 (cN) (cN))) (mU z0 z0 (F16 (cN) (cN))))]) [208] 672 (fun h2=>?_) (fun h2=>?_) ?_
 have h2':=dM h2
 exact Wt [] [36] [Mk 208 .u64 20 (mU (mU z0 z0 (F16 (cN) (cN))) p0 (F16 (cN) (cN)))] [208] 672 (v3 (pu pz (pu (Yz 20) pT))) <|Xe [] [Mk 208 .u64 20 (mU (mU z0 z0 (F16 (cN) (cN))) p0 (F16 (cN) (cN)))]
 have h2':=co h2
 exact Tri.skip <|Xe [] [Mk 208 .u64 20 (mU z0 z0 (F16 (cN) (cN)))]
 exact Wu [Ei 22 (((8*p1.length:Nat):Int)-1-((k0+1:Nat):Int))] none [Ei 7 (((8*p1.length:Nat):Int)-1-((k0+1:Nat):Int))] [7] [] [] 720 (v1 (pv pT (pl (show (am .i64 (((8*p1.length:Nat):Int)-1-((k0:Nat):Int)) 1)=(((8*p1.length:Nat):Int)-1-((k0+1:Nat):Int)) from jt (by omega) (by omega))) (v1 pT))) <|Xo [] trivial
 refine Tri.exit <|?_
 obtain rfl:k0=(8*p1.length):=(by omega);subst hz0
 exact Xt [] [20,7,6,5,2,1] [Mk 32 .u64 20 (itr (qH p0 p1) (8*p1.length) (ah (ah [0,0,0,0,0,0,0,0,0,0,0,0,0,0,0,0,0,0,0,0] 5 (F30 1)) 10 (F30 1)))] [208,64,32,16] 384 (v1 (pu (Yz 20) pT)) <|Xz [] pz
def uf:List Int :=
 (jg (aC (F33 (sr 4 5)) 32 0 32))
def Nd:List AV→List Blk→Option (Prop × Ret)
 |[],[]=>some (True,⟨.ints .u64 20 (uf),[]⟩)
 |_,_=>none
theorem MI:Known Tryz.prog gD 61 ⟨0,0,Nd⟩:=by
 refine Xw Tryz.f61 12 (Zv ML 32 2 <|Zv K33 48 1 <|Zc NK 112 [.ro .u8] [64] [] <|Zn) mixed <|fun E args ks C r h hC hlen=>?_
 simp only at h
 unfold Nd at h
 split at h
 rotate_left
 cases h
 cases h
 simp only [bU] at hlen
 refine ⟨rfl,?_⟩
 exact Xt [Ep 0 16] [] [Mk 16 .u64 20 [0,0,0,0,0,0,0,0,0,0,0,0,0,0,0,0,0,0,0,0]] [] 32 (v1 pT) <|Xt [Ep 1 64] [] [Mi 64 32 (F33 (sr 4 5))] [] 96 (pu pz (pu pz (v1 (pu (Yz 32) pT)))) <|Tri.len 64 rfl <|fun hl1=>Xt [Ep 2 176] [1] [Mk 176 .u64 20 (jg (aC (F33 (sr 4 5)) 32 0 32))] [64] 224 (pu (pa (lo ((0:Int)≤0∧(0:Int)≤32∧32≤((32:Nat):Int))) (Ye 32 32)) (pu (pa (pa (Yw 32) pT) pT) (v4 (pu (Yz 20) (v1 pT))))) <|Tri.len 176 rfl <|fun hl2=>Xt [] [2] [Mk 16 .u64 20 (jg (aC (F33 (sr 4 5)) 32 0 32))] [176,16] 256 (v1 (pu (Yz 20) pT)) <|Xz [] pz
theorem gE (x y c:Int):0≤dY x y c∧dY x y c≤1:=by unfold dY;split <;> omega
theorem gI (x y c:Int):0≤gv x y c∧gv x y c<18446744073709551616:=Gq _
theorem lU {x y c:Int} (hx:0≤x∧x<18446744073709551616) (hy:0≤y∧y<18446744073709551616) (hc:0≤c∧c≤1):0≤cp x y c∧cp x y c≤1:=by unfold cp;omega
theorem wC:rng zz:=iM (by decide)
theorem tF:rng ((zz.drop 0).take 4):=wC
def zq (p0:List Int) (p1:List Int) (k0:Nat) (z0:Int):Int :=
 (dY (p0.getD k0 0) (p1.getD k0 0) z0)
def ur (p0:List Int) (p1:List Int):Bool :=
 (((itr (zq p0 p1) 4 0):Int)==1)
def Oe:List AV→List Blk→Option (Prop × Ret)
 |[.ints .u64 4 p0,.ints .u64 4 p1],[]=>some ((rng p0∧rng p1),⟨.sc (.b (ur p0 p1)),[]⟩)
 |_,_=>none
theorem OD:Known Tryz.prog gD 114 ⟨0,0,Oe⟩:=by
 refine Xw Tryz.f114 24 (Zv Ma 256 3 <|Zn) mixed <|fun E args ks C r h hC hlen=>?_
 simp only at h
 unfold Oe at h
 split at h
 rotate_left
 cases h
 rename_i p0 p1
 cases h
 simp only [bU] at hlen
 have hf1:=hC.1
 have hf2:=hC.2
 refine ⟨rfl,?_⟩
 refine Xt [Ep 3 32,Ep 2 16] [0,1] [Mk 32 .u64 4 p1,Mk 16 .u64 4 p0] [] 64 (v3 pT) <|Xs [Ek 5 .u64 0] [] 80 (v1 pT) <|Tri.seq <|Xs [Ei 7 0] [] 96 (v1 pT) <|Tri.block <|Xc 4 (zq p0 p1) 0 (fun k0 z0=>0≤z0∧z0≤1) (fun k0 z0=>[Ej 7 k0,Ek 5 .u64 z0]) (fun k0 z0=>[]) (by omega) <|fun k0 z0 hk0 hz0 hJ0=>Xs [Eb 8 (decide ((((k0:Nat):Int):Int)<4))] [] 112 (v1 pT) <|Tri.seq <|Xb (fun h1 h1'=>?_) (fun h1 h1'=>?_)
 exact Tri.skip <|Tri.seq <|Tri.block <|Xs [Ej 6 k0] [8] 144 (v2 pT) <|Wu [] (some [0,1,3,0,8,24,0,127,255,511,511,2047]) [Ek 5 .u64 (dY (p0.getD k0 0) (p1.getD k0 0) z0)] [6,5] [] [] 336 (v1 (pu (Yj k0 4) (pu (Yl k0 4) (v1 (pu (Yj k0 4) (pu (Yl k0 4) (v1 (pu (pa pT (pl (show ((0:Int)≤(p0.getD k0 0)∧((p0.getD k0 0):Int)<18446744073709551616)∧((0:Int)≤(p1.getD k0 0)∧((p1.getD k0 0):Int)<18446744073709551616)∧(0:Int)≤z0∧(z0:Int)≤1 from ⟨hf1 k0,hf2 k0,hJ0.1,hJ0.2⟩))) (v4 pT))))))))) <|Wu [Ej 21 (k0+1)] none [Ej 7 (k0+1)] [7] [] [] 368 (pv pT (Yp k0 1) (v1 pT)) <|Xo [] (gE _ _ _)
 refine Tri.exit <|?_
 obtain rfl:k0=4:=(by omega);subst hz0
 exact Xt [Eb 4 (((itr (zq p0 p1) 4 0):Int)==1)] [8,7,5,3,2] [] [32,16] 160 (v3 pT) <|Xz [] pz
def gM (k0:Nat) (z0:Int × List Int):Int × List Int :=
 ((ag .u64 (z0.2.getD k0 0) 63),z0.2.set k0 (iOr .u64 (dS .u64 (z0.2.getD k0 0) 1) z0.1))
def oX (k1:Nat) (z1:Int × List Int):Int × List Int :=
 ((dY (z1.2.getD k1 0) (zz.getD (0+k1) 0) z1.1),z1.2.set k1 (gv (z1.2.getD k1 0) (zz.getD (0+k1) 0) z1.1))
def np (p0:List Int) (p1:Int):List Int :=
 (sel (!(ur ((itr (gM) 4 (p1,p0)).2) ((zz.drop 0).take 4))) ((itr (oX) 4 (0,(itr (gM) 4 (p1,p0)).2)).2) ((itr (gM) 4 (p1,p0)).2))
def OH:List AV→List Blk→Option (Prop × Ret)
 |[.ints .u64 4 p0,.sc (.i .u64 p1)],[]=>some ((rng p0),⟨.ints .u64 4 (np p0 p1),[]⟩)
 |_,_=>none
theorem Mw:Known Tryz.prog gD 111 ⟨0,0,OH⟩:=by
 refine Xw Tryz.f111 46 (Zv OD 112 2 <|Zv Ma 352 3 <|Zn) mixed <|fun E args ks C r h hC hlen=>?_
 simp only at h
 unfold OH at h
 split at h
 rotate_left
 cases h
 rename_i p0 p1
 cases h
 simp only [bU] at hlen
 have hg:zz.length=4:=rfl
 refine ⟨rfl,?_⟩
 refine Xt [Ep 4 32,Ep 2 16] [0] [Mk 32 .u64 4 [0,0,0,0],Mk 16 .u64 4 p0] [] 48 (v2 pT) <|Tri.seq <|Xs [Ei 8 0] [] 64 (v1 pT) <|Tri.block <|Xc 4 (gM) (p1,p0) (fun k0 z0=>rng z0.2) (fun k0 z0=>[Ej 8 k0,Ek 1 .u64 z0.1]) (fun k0 z0=>[Mk 16 .u64 4 z0.2]) hC <|fun k0 z0 hk0 hz0 hJ0=>Xs [Eb 9 (decide ((((k0:Nat):Int):Int)<4))] [] 80 (v1 pT) <|Tri.seq <|Xb (fun h1 h1'=>?_) (fun h1 h1'=>?_)
 exact Tri.skip <|Tri.seq <|Tri.block <|Xs [Ej 5 k0] [9] 112 (v2 pT) <|Wu [] (some [0,0,2,6,14,0,62,0,128,384,896,1023,3071,8191]) [Ek 1 .u64 (ag .u64 (z0.2.getD k0 0) 63)] [5,1] [Mk 16 .u64 4 (z0.2.set k0 (iOr .u64 (dS .u64 (z0.2.getD k0 0) 1) z0.1))] [16] 336 (v2 (pu (Yj k0 4) (pu (Yl k0 4) (pu (Y0 1) (v3 (pu (Yj k0 4) (pu (Yl k0 4) (pu (Y0 63) (pu (Yj k0 4) (pu (Ys k0 4) (v1 pT))))))))))) <|Wu [Ej 23 (k0+1)] none [Ej 8 (k0+1)] [8] [] [] 368 (pv pT (Yp k0 1) (v1 pT)) <|Xo [] (show rng (List.set _ _ _) from kv hJ0 (iL _))
 refine Tri.exit <|?_
 obtain rfl:k0=4:=(by omega);subst hz0
 refine Tri.seq <|Xs [Eb 27 (!(ur ((itr (gM) 4 (p1,p0)).2) ((zz.drop 0).take 4)))] [9,8,1] 144 (v1 (pu (Ye (0+4) zz.length) (pu (pa pT (pl (show rng ((itr (gM) 4 (p1,p0)).2)∧rng ((zz.drop 0).take 4) from ⟨hJ0,tF⟩))) (v1 pT)))) <|Xj (x:=(!(ur ((itr (gM) 4 (p1,p0)).2) ((zz.drop 0).take 4)))) (fun bb=>[]) [27] (fun bb=>[Mk 32 .u64 4 [0,0,0,0],Mk 16 .u64 4 (sel bb ((itr (oX) 4 (0,(itr (gM) 4 (p1,p0)).2)).2) ((itr (gM) 4 (p1,p0)).2))]) [32,16] 192 (fun h2=>?_) (fun h2=>?_) ?_
 refine Xs [Ek 6 .u64 0] [27] 160 (v1 pT) <|Xs [Ei 28 0] [] 176 (v1 pT) <|Tri.block <|Xc 4 (oX) (0,(itr (gM) 4 (p1,p0)).2) (fun k1 z1=>rng z1.2∧0≤z1.1∧z1.1≤1) (fun k1 z1=>[Ej 28 k1,Ek 6 .u64 z1.1]) (fun k1 z1=>[Mk 16 .u64 4 z1.2]) (⟨hJ0,Int.le_refl 0,(show (0:Int)≤1 by decide)⟩) <|fun k1 z1 hk1 hz1 hJ1=>Xs [Eb 29 (decide ((((k1:Nat):Int):Int)<4))] [] 192 (v1 pT) <|Tri.seq <|Xb (fun h3 h3'=>?_) (fun h3 h3'=>?_)
 exact Tri.skip <|Tri.seq <|Tri.block <|Xs [Ej 7 k1] [29] 224 (v2 pT) <|Wu [] (some [0,0,2,6,0,16,48,0,254,510,1022,1022,2047,6143,16383]) [Ek 6 .u64 (dY (z1.2.getD k1 0) (zz.getD (0+k1) 0) z1.1)] [7,6] [Mk 16 .u64 4 (z1.2.set k1 (gv (z1.2.getD k1 0) (zz.getD (0+k1) 0) z1.1))] [16] 464 (v2 (pu (Yj k1 4) (pu (Yl k1 4) (v1 (pu (Yj k1 4) (pu (Yl (0+k1) zz.length) (v1 (pu (pa pT (pl (show ((0:Int)≤(z1.2.getD k1 0)∧((z1.2.getD k1 0):Int)<18446744073709551616)∧((0:Int)≤(zz.getD (0+k1) 0)∧((zz.getD (0+k1) 0):Int)<18446744073709551616)∧(0:Int)≤z1.1∧(z1.1:Int)≤1 from ⟨hJ1.1 _,wC _,hJ1.2⟩))) (v3 (pu (Yj k1 4) (pu (Ys k1 4) (v1 pT)))))))))))) <|Wu [Ej 44 (k1+1)] none [Ej 28 (k1+1)] [28] [] [] 496 (pv pT (Yp k1 1) (v1 pT)) <|Xo [] (show rng (List.set _ _ _)∧_∧_ from ⟨kv hJ1.1 (gI _ _ _),gE _ _ _⟩)
 refine Tri.exit <|?_
 obtain rfl:k1=4:=(by omega);subst hz1
 exact Xe [] [Mk 32 .u64 4 [0,0,0,0],Mk 16 .u64 4 ((itr (oX) 4 (0,(itr (gM) 4 (p1,p0)).2)).2)]
 exact Tri.skip <|Xe [] [Mk 32 .u64 4 [0,0,0,0],Mk 16 .u64 4 ((itr (gM) 4 (p1,p0)).2)]
 exact Xt [] [2] [Mk 32 .u64 4 (sel (!(ur ((itr (gM) 4 (p1,p0)).2) ((zz.drop 0).take 4))) ((itr (oX) 4 (0,(itr (gM) 4 (p1,p0)).2)).2) ((itr (gM) 4 (p1,p0)).2))] [32,16] 224 (v1 (pu (Yz 4) pT)) <|Xz [] pz
theorem zG {p0:List Int} (h:rng p0) (p1:Int):rng (np p0 p1):=by
 have h0:∀ n z,rng z.2→rng (itr gM n z).2:=by
  intro n z hz
  induction n with
  |zero=>rw [bJ];exact hz
  |succ n ih=>rw [bA];exact kv ih (iL _)
 have h1:∀ n z,rng z.2→rng (itr oX n z).2:=by
  intro n z hz
  induction n with
  |zero=>rw [bJ];exact hz
  |succ n ih=>rw [bA];exact kv ih (gI _ _ _)
 unfold np
 cases (!(ur ((itr (gM) 4 (p1,p0)).2) ((zz.drop 0).take 4)))
 ·exact h0 4 _ h
 ·exact h1 4 _ (h0 4 _ h)
theorem mi:rng [0,0,0,0]:=iM (by decide)
def oQ (p0:List Int) (k0:Nat) (z0:List Int):List Int :=
 (np z0 (IntKind.wrap .u64 (aq .u8 (ag .u8 (p0.getD (((8*p0.length)-1-k0)/8) 0) ((((8*p0.length)-1-k0) % 8:Nat):Int)) 1)))
def mV (p0:List Int):List Int :=
 (itr (oQ p0) (8*p0.length) [0,0,0,0])
def Ml:List AV→List Blk→Option (Prop × Ret)
 |[.sc (.ro .u8 p0)],[]=>some ((p0.length≤1000000),⟨.ints .u64 4 (mV p0),[]⟩)
 |_,_=>none
theorem HS:Known Tryz.prog gD 65 ⟨0,0,Ml⟩:=by
 refine Xw Tryz.f65 26 (Zv Mw 336 2 <|Zn) mixed <|fun E args ks C r h hC hlen=>?_
 simp only at h
 unfold Ml at h
 split at h
 rotate_left
 cases h
 rename_i p0
 cases h
 simp only [bU] at hlen
 refine ⟨rfl,?_⟩
 refine Xt [Ep 2 16] [] [Mk 16 .u64 4 [0,0,0,0]] [] 32 (v1 pT) <|Xt [Ep 3 32] [] [Mk 32 .u64 4 [0,0,0,0]] [] 48 (v1 pT) <|Tri.seq <|Xu [Ej 7 (8*p0.length),Ei 8 (((8*p0.length:Nat):Int)-1-((0:Nat):Int))] none [Ei 4 (((8*p0.length:Nat):Int)-1-((0:Nat):Int))] [] [] [] 128 (v2 (pv pT (Yt 8 p0.length) (pv pT (pl (show (am .i64 ((8*p0.length:Nat):Int) 1)=(((8*p0.length:Nat):Int)-1-((0:Nat):Int)) from mg (by omega))) (v1 pT)))) <|Tri.block <|Xc (8*p0.length) (oQ p0) [0,0,0,0] (fun k0 z0=>rng z0) (fun k0 z0=>[Ei 4 (((8*p0.length:Nat):Int)-1-((k0:Nat):Int))]) (fun k0 z0=>[Mk 32 .u64 4 z0]) mi <|fun k0 z0 hk0 hz0 hJ0=>Tri.seq <|Xs [Eb 10 (decide (((((8*p0.length:Nat):Int)-1-((k0:Nat):Int)):Int) ≥ 0))] [] 160 (v2 pT) <|Xb (fun h1 h1'=>?_) (fun h1 h1'=>?_)
 refine Tri.skip <|Tri.seq <|Tri.block <|Wu [Ej 16 (((8*p0.length)-1-k0)/8),Ej 20 (((8*p0.length)-1-k0) % 8)] (some [0,0,0,4,14,30,0,64,254,510,1022,2047,4095]) [] [10] [Mk 32 .u64 4 (np z0 (IntKind.wrap .u64 (aq .u8 (ag .u8 (p0.getD (((8*p0.length)-1-k0)/8) 0) ((((8*p0.length)-1-k0) % 8:Nat):Int)) 1)))] [32] 368 (v3 (pv (Yn 8) (pl (show (jl .i64 (((8*p0.length:Nat):Int)-1-((k0:Nat):Int)) 8)=((((8*p0.length)-1-k0)/8:Nat):Int) from by rw [ij (by omega)];exact dd (b:=8) (by omega))) (pu (Yj (((8*p0.length)-1-k0)/8) p0.length) (pu (Yl (((8*p0.length)-1-k0)/8) p0.length) (v1 (pv (Yn 8) (pl (show (bx (((8*p0.length:Nat):Int)-1-((k0:Nat):Int)) 8)=((((8*p0.length)-1-k0) % 8:Nat):Int) from by rw [ij (by omega)];exact eV (b:=8))) (pu (Y0 ((((8*p0.length)-1-k0) % 8:Nat):Int)) (v2 (pu (pa pT (pl hJ0)) (pu (Yz 4) pT)))))))))) ?_
 exact Wu [Ei 12 (((8*p0.length:Nat):Int)-1-((k0+1:Nat):Int))] none [Ei 4 (((8*p0.length:Nat):Int)-1-((k0+1:Nat):Int))] [4] [] [] 416 (v1 (pv pT (pl (show (am .i64 (((8*p0.length:Nat):Int)-1-((k0:Nat):Int)) 1)=(((8*p0.length:Nat):Int)-1-((k0+1:Nat):Int)) from jt (by omega) (by omega))) (v1 pT))) <|Xo [] (zG hJ0 _)
 refine Tri.exit <|?_
 obtain rfl:k0=(8*p0.length):=(by omega);subst hz0
 exact Xt [] [10,4,3,0] [Mk 16 .u64 4 (itr (oQ p0) (8*p0.length) [0,0,0,0])] [32,16] 192 (v1 (pu (Yz 4) pT)) <|Xz [] pz
theorem CB (p0:List Int):rng (mV p0):=by
 have h:∀ n,rng (itr (oQ p0) n [0,0,0,0]):=by
  intro n
  induction n with
  |zero=>rw [bJ];exact mi
  |succ n ih=>rw [bA];exact zG ih _
 exact h _
def hO (p0:List Int) (k0:Nat) (k1:Nat) (z1:Nat × List Int):Nat × List Int :=
 (z1.1+1,z1.2++[(IntKind.wrap .u8 (ag .u64 (p0.getD k0 0) ((8*k1:Nat):Int)))])
def iv (p0:List Int) (k0:Nat) (z0:Nat × List Int):Nat × List Int :=
 ((itr (hO p0 k0) 8 (z0.1,z0.2)).1,(itr (hO p0 k0) 8 (z0.1,z0.2)).2)
def lJ (p0:List Int):List Int :=
 (itr (iv p0) 4 (0,([]:List Int))).2
theorem PM (p0:List Int):(itr (iv p0) 4 (0,[])).1=32:=by
 have h1:∀ (j k:Nat) (z:Nat × List Int),(itr (hO p0 j) k z).1=z.1+k:=by
  intro j k z
  induction k with
  |zero=>rw [bJ];rfl
  |succ k ih=>rw [bA];show (itr (hO p0 j) k z).1+1=_;rw [ih];omega
 have h0:∀ (k:Nat),(itr (iv p0) k (0,[])).1=8*k:=by
  intro k
  induction k with
  |zero=>rw [bJ]
  |succ k ih=>rw [bA];show (itr (hO p0 k) 8 ((itr (iv p0) k (0,[])).1,(itr (iv p0) k (0,[])).2)).1=_;rw [h1,ih];show 8*k+8=_;omega
 rw [h0]
def ND:List AV→List Blk→Option (Prop × Ret)
 |[.ints .u64 4 p0],[]=>some (True,⟨.sc (.sl 0 0 32 1 none),[some (.ints .u8 32 (lJ p0))]⟩)
 |_,_=>none
theorem FR:Known Tryz.prog gD 66 ⟨0,1,ND⟩:=by
 refine Xw Tryz.f66 25 Zn mixed <|fun E args ks C r h hC hlen=>?_
 simp only at h
 unfold ND at h
 split at h
 rotate_left
 cases h
 rename_i p0
 cases h
 simp only [bU] at hlen
 refine ⟨rfl,?_⟩
 refine Xt [Ep 1 16] [0] [Mk 16 .u64 4 p0] [] 48 (v2 pT) <|Xs [(3,.sc (.nils))] [] 64 (v1 pT) <|Tri.seq <|Xt [Ei 8 0,(7,.ints .u64 4 p0)] [1] [] [16] 96 (v2 pT) <|Tri.block <|Tri.sub (Sub.openNil (U:=96) (U':=112) 3 96 1 .u8 none (.inl rfl) (by decide) (by decide) (by kernel_rfl) (by kernel_rfl)) <|Xc 4 (iv p0) (0,([]:List Int)) (fun k0 z0=>z0.1=8*k0) (fun k0 z0=>[El 3 96 z0.1,Ej 8 k0]) (fun k0 z0=>[Mi 96 z0.1 z0.2]) rfl <|fun k0 z0 hk0 hz0 hJ0=>Xs [Eb 9 (decide ((((k0:Nat):Int):Int)<4))] [] 128 (v1 pT) <|Tri.seq <|Xb (fun h1 h1'=>?_) (fun h1 h1'=>?_)
 refine Tri.skip <|Tri.seq <|Tri.block <|Xs [Ek 5 .u64 (p0.getD k0 0)] [9] 160 (pu (pa (Yj k0 4) (Yl k0 4)) (v1 pT)) <|Xs [Ei 11 0] [] 176 (v1 pT) <|Tri.block <|Xc 8 (hO p0 k0) (z0.1,z0.2) (fun k1 z1=>z1.1=z0.1+1*k1∧z1.1=8*k0+k1) (fun k1 z1=>[Ej 11 k1,El 3 96 z1.1]) (fun k1 z1=>[Mi 96 z1.1 z1.2]) (⟨(by simp),hJ0⟩) <|fun k1 z1 hk1 hz1 hJ1=>Xs [Eb 12 (decide ((((k1:Nat):Int):Int)<8))] [] 192 (v1 pT) <|Tri.seq <|Xb (fun h2 h2'=>?_) (fun h2 h2'=>?_)
 exact Tri.skip <|Tri.seq <|Tri.block <|Xs [Ej 6 k1] [12] 224 (v2 pT) <|Wu [Ej 17 (8*k1)] none [El 3 336 (z1.1+1)] [6,3] [Mi 336 (z1.1+1) (z1.2++[(IntKind.wrap .u8 (ag .u64 (p0.getD k0 0) ((8*k1:Nat):Int)))])] [96] 368 (v3 (pv pT (Yt 8 k1) (pu (Y0 ((8*k1:Nat):Int)) (v1 (pu (Yf 1) (pu (Ya (Yw 1) 1 (z1.1+1) 1 1 z1.1 z1.1) (v1 pT))))))) <|Wu [Ej 22 (k1+1)] none [Ej 11 (k1+1)] [11] [] [] 400 (pv pT (Yp k1 1) (v1 pT)) <|Xo [(96,336)] (⟨(show z1.1+1=z0.1+1*(k1+1) by omega),(show z1.1+1=8*k0+(k1+1) by omega)⟩)
 refine Tri.exit <|?_
 obtain rfl:k1=8:=(by omega);subst hz1
 exact Wu [Ej 23 (k0+1)] none [Ej 8 (k0+1)] [12,11,5,8] [] [] 224 (pv pT (Yp k0 1) (v1 pT)) <|Xo [] (show (itr (hO p0 k0) 8 (z0.1,z0.2)).1=8*(k0+1) by omega)
 refine Tri.exit <|?_
 obtain rfl:k0=4:=(by omega);subst hz0
 exact Xs [El 2 96 ((itr (iv p0) 4 (0,([]:List Int))).1)] [9,3,8,7] 160 (v2 pT) <|Xy (r':=⟨.sc (.sl 0 0 ((itr (iv p0) 4 (0,([]:List Int))).1) 1 none),[some (.ints .u8 ((itr (iv p0) 4 (0,([]:List Int))).1) ((itr (iv p0) 4 (0,([]:List Int))).2))]⟩) [(96,0)] pz (by simp only [lJ,PM,aH,aD])
theorem uT (p0:List Int):(lJ p0).length=32:=by
 have h1:∀ (j k:Nat) (z:Nat × List Int),(itr (hO p0 j) k z).2.length=z.2.length+k:=by
  intro j k z
  induction k with
  |zero=>rw [bJ];rfl
  |succ k ih=>rw [bA];show ((itr (hO p0 j) k z).2++[_]).length=_;rw [List.length_append,ih];rfl
 have h0:∀ (k:Nat),(itr (iv p0) k (0,[])).2.length=8*k:=by
  intro k
  induction k with
  |zero=>rw [bJ];rfl
  |succ k ih=>rw [bA];show (itr (hO p0 k) 8 ((itr (iv p0) k (0,[])).1,(itr (iv p0) k (0,[])).2)).2.length=_;rw [h1];show (itr (iv p0) k (0,[])).2.length+8=_;rw [ih];omega
 exact h0 4
def qI (p1:List Int) (k0:Nat) (z0:Int × List Int):Int × List Int :=
 ((cp (z0.2.getD k0 0) (p1.getD k0 0) z0.1),z0.2.set k0 (db (z0.2.getD k0 0) (p1.getD k0 0) z0.1))
def sa (p0:List Int) (p1:List Int):List Int :=
 (mV (aC (lJ ((itr (qI p1) 4 (0,p0)).2)) 32 0 32))
def NL:List AV→List Blk→Option (Prop × Ret)
 |[.ints .u64 4 p0,.ints .u64 4 p1],[]=>some ((rng p0∧rng p1),⟨.ints .u64 4 (sa p0 p1),[]⟩)
 |_,_=>none
theorem Oh:Known Tryz.prog gD 68 ⟨0,0,NL⟩:=by
 refine Xw Tryz.f68 27 (Zc HS 144 [.ro .u8] [128] [] <|Zv FR 128 1 <|Zv K48 272 3 <|Zn) mixed <|fun E args ks C r h hC hlen=>?_
 simp only at h
 unfold NL at h
 split at h
 rotate_left
 cases h
 rename_i p0 p1
 cases h
 simp only [bU] at hlen
 have hf1:=hC.1
 have hf2:=hC.2
 refine ⟨rfl,?_⟩
 refine Xt [Ep 4 48,Ep 3 32,Ep 2 16] [0,1] [Mk 48 .u64 4 [0,0,0,0],Mk 32 .u64 4 p1,Mk 16 .u64 4 p0] [] 64 (v3 pT) <|Xs [Ek 5 .u64 0] [] 80 (v1 pT) <|Tri.seq <|Xs [Ei 7 0] [] 96 (v1 pT) <|Tri.block <|Xc 4 (qI p1) (0,p0) (fun k0 z0=>rng z0.2∧0≤z0.1∧z0.1≤1) (fun k0 z0=>[Ej 7 k0,Ek 5 .u64 z0.1]) (fun k0 z0=>[Mk 16 .u64 4 z0.2]) (⟨hf1,Int.le_refl 0,(show (0:Int)≤1 by decide)⟩) <|fun k0 z0 hk0 hz0 hJ0=>Xs [Eb 8 (decide ((((k0:Nat):Int):Int)<4))] [] 112 (v1 pT) <|Tri.seq <|Xb (fun h1 h1'=>?_) (fun h1 h1'=>?_)
 exact Tri.skip <|Tri.seq <|Tri.block <|Xs [Ej 6 k0] [8] 144 (v2 pT) <|Wu [] (some [0,0,2,6,0,16,48,0,254,510,1022,1022,2047,6143,16383]) [Ek 5 .u64 (cp (z0.2.getD k0 0) (p1.getD k0 0) z0.1)] [6,5] [Mk 16 .u64 4 (z0.2.set k0 (db (z0.2.getD k0 0) (p1.getD k0 0) z0.1))] [16] 384 (v2 (pu (Yj k0 4) (pu (Yl k0 4) (v1 (pu (Yj k0 4) (pu (Yl k0 4) (v1 (pu (pa pT (pl (show (0:Int)≤(z0.2.getD k0 0)∧(0:Int)≤(p1.getD k0 0)∧(0:Int)≤z0.1∧(z0.1:Int)≤1 from ⟨(hJ0.1 _).1,(hf2 _).1,hJ0.2⟩))) (v3 (pu (Yj k0 4) (pu (Ys k0 4) (v1 pT)))))))))))) <|Wu [Ej 23 (k0+1)] none [Ej 7 (k0+1)] [7] [] [] 416 (pv pT (Yp k0 1) (v1 pT)) <|Xo [] (show rng (List.set _ _ _)∧_∧_ from ⟨kv hJ0.1 (jR _ _ _),lU (hJ0.1 _) (hf2 _) hJ0.2⟩)
 refine Tri.exit <|?_
 obtain rfl:k0=4:=(by omega);subst hz0
 refine Tri.len 32 rfl <|fun hl2=>Tri.len 16 rfl <|fun hl3=>Xt [] [8,7,5,3,2] [Mk 48 .u64 4 (mV (aC (lJ ((itr (qI p1) 4 (0,p0)).2)) 32 0 32))] [48,32,16] 176 (v1 (pu pz (pu (pa (pa (Yw 32) pT) (pl (show (aC (lJ ((itr (qI p1) 4 (0,p0)).2)) 32 0 32).length≤1000000 from by exact al (by decide) (by rw [uT];decide)))) (pu (Yz 4) pT)))) ?_
 exact Xz [] pz
theorem Jj (p0 p1:List Int):rng (sa p0 p1):=by unfold sa;exact CB _
theorem Bu {x y:List Int} (b:Bool) (h:rng x) (h':rng y):rng (sel b x y):=by cases b;exact h';exact h
def oe (p0:List Int) (p1:List Int) (k0:Nat) (z0:List Int):List Int :=
 (sel (((aq .u64 (ag .u64 (p1.getD ((256-1-k0)/64) 0) (((256-1-k0) % 64:Nat):Int)) 1):Int)==1) (sa (np z0 0) p0) (np z0 0))
def Gn (p0:List Int) (p1:List Int):List Int :=
 (itr (oe p0 p1) 256 [0,0,0,0])
def MK:List AV→List Blk→Option (Prop × Ret)
 |[.ints .u64 4 p0,.ints .u64 4 p1],[]=>some ((rng p0∧rng p1),⟨.ints .u64 4 (Gn p0 p1),[]⟩)
 |_,_=>none
theorem PZ:Known Tryz.prog gD 67 ⟨0,0,MK⟩:=by
 refine Xw Tryz.f67 26 (Zv Oh 352 2 <|Zv Mw 144 2 <|Zn) mixed <|fun E args ks C r h hC hlen=>?_
 simp only at h
 unfold MK at h
 split at h
 rotate_left
 cases h
 rename_i p0 p1
 cases h
 simp only [bU] at hlen
 have hf1:=hC.1
 have hf2:=hC.2
 refine ⟨rfl,?_⟩
 refine Xt [Ep 4 48,Ep 3 32,Ep 2 16] [0,1] [Mk 48 .u64 4 [0,0,0,0],Mk 32 .u64 4 p1,Mk 16 .u64 4 p0] [] 64 (v3 pT) <|Xt [Ep 5 64] [] [Mk 64 .u64 4 [0,0,0,0]] [] 80 (v1 pT) <|Tri.seq <|Xs [Ei 6 255] [] 96 (v1 pT) <|Tri.block <|Xc 256 (oe p0 p1) [0,0,0,0] (fun k0 z0=>rng z0) (fun k0 z0=>[Ei 6 (((256:Nat):Int)-1-((k0:Nat):Int))]) (fun k0 z0=>[Mk 64 .u64 4 z0]) mi <|fun k0 z0 hk0 hz0 hJ0=>Tri.seq <|Xs [Eb 8 (decide (((((256:Nat):Int)-1-((k0:Nat):Int)):Int) ≥ 0))] [] 128 (v2 pT) <|Xb (fun h1 h1'=>?_) (fun h1 h1'=>?_)
 refine Tri.skip <|Tri.seq <|Tri.block <|Xt [] [8] [Mk 64 .u64 4 (np z0 0)] [64] 176 (v1 (pu (pa pT (pl hJ0)) (pu (Yz 4) pT))) <|Xu [Ej 14 ((256-1-k0)/64),Ej 18 ((256-1-k0) % 64)] none [Eb 21 (((aq .u64 (ag .u64 (p1.getD ((256-1-k0)/64) 0) (((256-1-k0) % 64:Nat):Int)) 1):Int)==1)] [] [] [] 320 (v1 (pv (Yn 64) (pl (show (jl .i64 (((256:Nat):Int)-1-((k0:Nat):Int)) 64)=(((256-1-k0)/64:Nat):Int) from by rw [ij (by omega)];exact dd (b:=64) (by omega))) (pu (Yj ((256-1-k0)/64) 4) (pu (Yl ((256-1-k0)/64) 4) (v1 (pv (Yn 64) (pl (show (bx (((256:Nat):Int)-1-((k0:Nat):Int)) 64)=(((256-1-k0) % 64:Nat):Int) from by rw [ij (by omega)];exact eV (b:=64))) (pu (Y0 (((256-1-k0) % 64:Nat):Int)) (v2 pT)))))))) ?_
 refine Xj (x:=(((aq .u64 (ag .u64 (p1.getD ((256-1-k0)/64) 0) (((256-1-k0) % 64:Nat):Int)) 1):Int)==1)) (fun bb=>[]) [21] (fun bb=>[Mk 64 .u64 4 (sel bb (sa (np z0 0) p0) (np z0 0))]) [64] 384 (fun h2=>?_) (fun h2=>?_) ?_
 have h2':=dM h2
 exact Wt [] [21] [Mk 64 .u64 4 (sa (np z0 0) p0)] [64] 384 (v2 (pu (pa pT (pl (show rng (np z0 0)∧rng p0 from ⟨zG hJ0 _,hf1⟩))) (pu (Yz 4) pT))) <|Xe [] [Mk 64 .u64 4 (sa (np z0 0) p0)]
 have h2':=co h2
 exact Tri.skip <|Xe [] [Mk 64 .u64 4 (np z0 0)]
 exact Wu [Ei 10 (((256:Nat):Int)-1-((k0+1:Nat):Int))] none [Ei 6 (((256:Nat):Int)-1-((k0+1:Nat):Int))] [6] [] [] 432 (v1 (pv pT (pl (show (am .i64 (((256:Nat):Int)-1-((k0:Nat):Int)) 1)=(((256:Nat):Int)-1-((k0+1:Nat):Int)) from jt (by omega) (by omega))) (v1 pT))) <|Xo [] (show rng (sel _ _ _) from Bu _ (Jj _ _) (zG hJ0 _))
 refine Tri.exit <|?_
 obtain rfl:k0=256:=(by omega);subst hz0
 exact Xt [] [8,6,5,3,2] [Mk 48 .u64 4 (itr (oe p0 p1) 256 [0,0,0,0])] [64,48,32,16] 160 (v1 (pu (Yz 4) pT)) <|Xz [] pz
theorem Nh (p0 p1:List Int):rng (Gn p0 p1):=by
 have h:∀ n,rng (itr (oe p0 p1) n [0,0,0,0]):=by
  intro n
  induction n with
  |zero=>rw [bJ];exact mi
  |succ n ih=>rw [bA];show rng (sel _ _ _);exact Bu _ (Jj _ _) (zG ih _)
 exact h _
def bv (p:List (List Int)):Nat→Nat
 |0=>0
 |k+1=>bv p k+(p.getD k []).length
theorem DA (p:List (List Int)) {k n:Nat} (h:k≤n):bv p k≤bv p n:=by
 induction n with
 |zero=>rw [Nat.le_zero.1 h];exact Nat.le_refl _
 |succ n ih =>
  by_cases e:k=n+1
  ·rw [e];exact Nat.le_refl _
  ·exact Nat.le_trans (ih (by omega)) (Nat.le_add_right _ _)
theorem BS {p:List (List Int)} {k z c:Nat} (hz:z=c+bv p k) (hk:k<p.length):z+(p.getD k []).length≤c+bv p p.length:=by
 have h:bv p k+(p.getD k []).length≤bv p p.length:=DA p (show k+1≤p.length from hk)
 omega
def jS (p0:List (List Int)) (k0:Nat) (z0:Nat × List Int):Nat × List Int :=
 (z0.1+((p0.getD k0 []).length),z0.2++(p0.getD k0 []))
def mT (p0:List (List Int)):List Int :=
 (itr (jS p0) p0.length (0,([]:List Int))).2
theorem PN (p0:List (List Int)):(itr (jS p0) p0.length (0,[])).1=bv p0 p0.length:=by
 have h0:∀ k,(itr (jS p0) k (0,[])).1=bv p0 k:=by
  intro k
  induction k with
  |zero=>rw [bJ];rfl
  |succ k ih=>rw [bA];show (itr (jS p0) k (0,[])).1+(p0.getD k []).length=bv p0 k+(p0.getD k []).length;rw [ih]
 exact h0 _
def MN:List AV→List Blk→Option (Prop × Ret)
 |[.sc (.rob p0)],[]=>some ((bv p0 p0.length≤100000∧p0.length≤100000),⟨.sc (.sl 0 0 (bv p0 p0.length) 1 none),[some (.ints .u8 (bv p0 p0.length) (mT p0))]⟩)
 |_,_=>none
theorem Ld:Known Tryz.prog gD 64 ⟨0,1,MN⟩:=by
 refine Xw Tryz.f64 17 Zn mixed <|fun E args ks C r h hC hlen=>?_
 simp only at h
 unfold MN at h
 split at h
 rotate_left
 cases h
 rename_i p0
 cases h
 simp only [bU] at hlen
 refine ⟨rfl,?_⟩
 refine Xs [] [] 32 (v1 pT) <|Xs [(3,.sc (.nils))] [] 48 (v1 pT) <|Tri.seq <|Xs [Ei 8 0,Ej 7 p0.length,(6,.sc (.rob p0))] [0] 96 (v3 pT) <|Tri.block <|Tri.sub (Sub.openNil (U:=96) (U':=112) 3 96 1 .u8 none (.inl rfl) (by decide) (by decide) (by kernel_rfl) (by kernel_rfl)) <|Xc p0.length (jS p0) (0,([]:List Int)) (fun k0 z0=>z0.1=0+bv p0 k0) (fun k0 z0=>[El 3 96 z0.1,Ej 8 k0]) (fun k0 z0=>[Mi 96 z0.1 z0.2]) rfl <|fun k0 z0 hk0 hz0 hJ0=>Xs [Eb 9 (decide ((((k0:Nat):Int):Int)<((p0.length:Nat):Int)))] [] 128 (v1 pT) <|Tri.seq <|Xb (fun h1 h1'=>?_) (fun h1 h1'=>?_)
 refine Tri.skip <|Tri.seq <|Tri.block <|Xs [Er 5 (p0.getD k0 [])] [9] 176 (pu (Yj k0 p0.length) (v2 pT)) <|Wt [El 3 208 (z0.1+((p0.getD k0 []).length))] [5,3] [Mi 208 (z0.1+((p0.getD k0 []).length)) (z0.2++(p0.getD k0 []))] [96] 240 (v2 (pu (pa (pa (pa (Yz 1) (pa (Yl 0 1) (pa (pl (show (z0.1+((p0.getD k0 []).length))*1≤140737488355328 from by (have hq:=BS hJ0 (by omega);omega))) (pl (show z0.1+((p0.getD k0 []).length)≤140737488355328 from by (have hq:=BS hJ0 (by omega);omega)))))) (lo ((p0.getD k0 []).length=((p0.getD k0 []).length)*1))) (pa (Yr 1) (lo (0+z0.1*1=z0.1)))) (v1 pT))) ?_
 exact Wu [Ej 15 (k0+1)] none [Ej 8 (k0+1)] [8] [] [] 272 (pv pT (Yp k0 1) (v1 pT)) <|Xo [(96,208)] (show z0.1+(p0.getD k0 []).length=0+(bv p0 k0+(p0.getD k0 []).length) by omega)
 refine Tri.exit <|?_
 obtain rfl:k0=p0.length:=(by omega);subst hz0
 exact Xs [El 2 96 ((itr (jS p0) p0.length (0,([]:List Int))).1)] [9,3,8,7,6] 160 (v2 pT) <|Xy (r':=⟨.sc (.sl 0 0 ((itr (jS p0) p0.length (0,([]:List Int))).1) 1 none),[some (.ints .u8 ((itr (jS p0) p0.length (0,([]:List Int))).1) ((itr (jS p0) p0.length (0,([]:List Int))).2))]⟩) [(96,0)] pz (by simp only [mT,PN,aH,aD])
theorem zj (p0:List (List Int)):(mT p0).length=bv p0 p0.length:=by
 have h0:∀ k,(itr (jS p0) k (0,[])).2.length=bv p0 k:=by
  intro k
  induction k with
  |zero=>rw [bJ];rfl
  |succ k ih=>rw [bA];show ((itr (jS p0) k (0,[])).2++p0.getD k []).length=bv p0 k+(p0.getD k []).length;rw [List.length_append,ih]
 exact h0 _
end Go.Vm
namespace Go.Vm
open Go Go.Proofs
def FT9 (p0:List Int):Int :=
 (sel ((((p0.length:Nat):Int):Int) != 32) 2 0)
def gP (p0:List Int):List Int :=
 (sel ((((p0.length:Nat):Int):Int) != 32) ([]:List Int) (jQ (rv (uf) (aC (F43 (((fw p0).drop 0).take 32)) 32 0 32))))
def cq (p0:List Int):Nat :=
 (sel ((((p0.length:Nat):Int):Int) != 32) 0 32)
def ST9:List AV→List Blk→Option (Prop × Ret)
 |[.sc (.ro .u8 p0)],[]=>some (True,⟨.tup [.sc (.sl 0 0 (cq p0) 1 (some (cq p0))),.sc (.i .i64 (FT9 p0))],[some (.ints .u8 (cq p0) (gP p0))]⟩)
 |_,_=>none
theorem KT9:Known Tryz.prog gD 28 ⟨0,1,ST9⟩:=by
 refine Xw Tryz.f28 19 (Zc Hj 112 [.ro .u8] [] [] <|Zv K43 208 1 <|Zv MI 256 0 <|Zc IS 288 [.val,.ro .u8] [224] [] <|Zv Lh 304 1 <|Zn) mixed <|fun E args ks C r h hC hlen=>?_
 simp only at h
 unfold ST9 at h
 split at h
 rotate_left
 cases h
 rename_i p0
 cases h
 simp only [bU] at hlen
 refine ⟨rfl,?_⟩
 refine Xs [] [] 48 (v2 pT) <|Tri.seq <|Xs [Eb 8 ((((p0.length:Nat):Int):Int) != 32)] [] 96 (v3 pT) <|Xa (fun h1=>?_) (fun h1=>?_)
 have h1':=cM h1
 exact Xs [Ei 3 2,(2,.sc (.nils))] [8,0] 128 (v2 pT) <|Tri.sub (Sub.openNil (U:=128) (U':=144) 2 128 1 .u8 (some 0) (.inr rfl) (by decide) (by decide) (by kernel_rfl) (by kernel_rfl)) <|Xy [(128,0)] (pa pT pz) (by simp only [FT9,gP,cq,h1,aH,aD] <;> rfl)
 have h1':=bW h1
 exact Tri.skip <|Xt [Ep 4 128] [8,0] [Mi 128 64 (fw p0)] [] 160 (v1 (pu (pa pz (Ye p0.length 100000000)) (v1 (pu (Yz 64) pT)))) <|Xt [Ep 5 224] [4] [Mi 224 32 (F43 (((fw p0).drop 0).take 32))] [128] 256 (pu (pa (lo ((0:Int)≤0∧(0:Int)≤32∧32≤((64:Nat):Int))) (Ye 64 64)) (pu (lo (0<32∧32≤32)) (pu (Ye (0+32) 64) (pu pz (v1 (pu (Yz 32) pT)))))) <|Tri.len 224 rfl <|fun hl2=>Xu [] (some [0,0,3,7,15,31]) [Ei 3 0,(2,.sc (.sl 304 0 32 1 (some 32)))] [5] [Mi 304 32 (jQ (rv (uf) (aC (F43 (((fw p0).drop 0).take 32)) 32 0 32)))] [224] 352 (pu pz (pu (pa (lo ((0:Int)≤0∧(0:Int)≤32∧32≤((32:Nat):Int))) (Ye 32 32)) (pu (pa (pa (Yw 32) pT) (Ye ((aC (F43 (((fw p0).drop 0).take 32)) 32 0 32).length) 1000000)) (pu pz (v2 pT))))) <|Xy [(304,0)] (pa pT pz) (by simp only [FT9,gP,cq,h1,aH,aD] <;> rfl)
theorem GO {p0:List Int} (h:(((FT9 p0):Int) != 0)=false):p0.length=32:=by
 unfold FT9 at h
 cases hb:((((p0.length:Nat):Int):Int) != 32)
 ·have:=bW hb
  omega
 ·rw [hb,aH] at h
  cases h
theorem MF (p0:List Int):cq p0≤32:=by
 unfold cq
 cases ((((p0.length:Nat):Int):Int) != 32) <;> decide
theorem mp {a b:List Int} (h:a.length≤20000) (h':b.length≤20000):bv [a,b] [a,b].length≤100000∧[a,b].length≤100000:=⟨(show 0+a.length+b.length≤100000 by omega),(show 2≤100000 by omega)⟩
theorem iP {a b c:List Int} (h:a.length≤20000) (h':b.length≤20000) (h'':c.length≤20000):bv [a,b,c] [a,b,c].length≤100000∧[a,b,c].length≤100000:=⟨(show 0+a.length+b.length+c.length≤100000 by omega),(show 3≤100000 by omega)⟩
theorem mA {X:List (List Int)} (h:bv X X.length≤100000):(aC (mT X) (bv X X.length) 0 (bv X X.length)).length≤100000000:=al (Nat.le_trans h (by decide)) (by rw [zj];exact Nat.le_trans h (by decide))
theorem Kd {p0:List Int} (h:((((p0.length:Nat):Int):Int) != 32)=false):cq p0=32:=by
 unfold cq
 rw [h,aD]
def oL (p0:List Int) (p1:List Int):List Int :=
 (fw (aC (mT [aC (fw p0) 64 32 32,p1]) (bv [aC (fw p0) 64 32 32,p1] [aC (fw p0) 64 32 32,p1].length) 0 (bv [aC (fw p0) 64 32 32,p1] [aC (fw p0) 64 32 32,p1].length)))
def Az (p0:List Int) (p1:List Int):List Int :=
 (lJ (mV (aC (oL p0 p1) 64 0 64)))
def gK (p0:List Int) (p1:List Int):List Int :=
 (rv (uf) (aC (Az p0 p1) 32 0 32))
def Ax (p0:List Int) (p1:List Int):List Int :=
 (mT [aC (jQ (gK p0 p1)) 32 0 32,aC (gP p0) (cq p0) 0 (cq p0),p1])
def sS (p0:List Int) (p1:List Int):List Int :=
 (fw (aC (Ax p0 p1) (bv [aC (jQ (gK p0 p1)) 32 0 32,aC (gP p0) (cq p0) 0 (cq p0),p1] [aC (jQ (gK p0 p1)) 32 0 32,aC (gP p0) (cq p0) 0 (cq p0),p1].length) 0 (bv [aC (jQ (gK p0 p1)) 32 0 32,aC (gP p0) (cq p0) 0 (cq p0),p1] [aC (jQ (gK p0 p1)) 32 0 32,aC (gP p0) (cq p0) 0 (cq p0),p1].length)))
def zl (p0:List Int):List Int :=
 (mV (aC (F43 (((fw p0).drop 0).take 32)) 32 0 32))
def Ah (p0:List Int) (p1:List Int):List Int :=
 (Gn (mV (aC (sS p0 p1) 64 0 64)) (zl p0))
def AU (p0:List Int) (p1:List Int):List Int :=
 (sa (Ah p0 p1) (mV (aC (oL p0 p1) 64 0 64)))
def LY (p0:List Int) (p1:List Int):Int :=
 (sel (((FT9 p0):Int) != 0) (FT9 p0) 0)
def mf (p0:List Int) (p1:List Int):List Int :=
 (sel (((FT9 p0):Int) != 0) ([]:List Int) ((jQ (gK p0 p1))++(lJ (AU p0 p1))))
def OF:List AV→List Blk→Option (Prop × Ret)
 |[.sc (.ro .u8 p0),.sc (.ro .u8 p1)],[]=>some ((p1.length≤10000),⟨.tup [.sc (.sl 0 0 (sel (((FT9 p0):Int) != 0) 0 64) 1 none),.sc (.i .i64 (LY p0 p1))],[some (.ints .u8 (sel (((FT9 p0):Int) != 0) 0 64) (mf p0 p1))]⟩)
 |_,_=>none
def Pf:KL Tryz.prog gD:=Zc KT9 64 [.ro .u8] [] [] <|Zc Hj 208 [.ro .u8] [] [] <|Zc Hj 416 [.ro .u8] [400] [] <|Zc Hj 704 [.ro .u8] [688] [] <|Zv K43 304 1 <|Zv MI 528 0 <|Zc IS 576 [.val,.ro .u8] [560] [] <|Zv Lh 592 1 <|Zc Ld 400 [.rob] [384,224] [] <|Zc Ld 688 [.rob] [672,592,64] [] <|Zc HS 480 [.ro .u8] [432] [] <|Zc HS 784 [.ro .u8] [720] [] <|Zc HS 816 [.ro .u8] [320] [] <|Zv FR 560 1 <|Zv FR 880 1 <|Zv PZ 832 2 <|Zv Oh 864 2 <|Zn
theorem Oz:Known Tryz.prog gD 30 ⟨0,1,OF⟩:=by
 refine Xw Tryz.f30 56 Pf mixed <|fun E args ks C r h hC hlen=>?_
 simp only at h
 unfold OF at h
 split at h
 rotate_left
 cases h
 rename_i p0 p1
 cases h
 simp only [bU] at hlen
 have hn9:=MF p0
 refine ⟨rfl,?_⟩
 refine Xs [] [] 48 (v2 pT) <|Xt [Ei 7 (FT9 p0),(6,.sc (.sl 64 0 (cq p0) 1 (some (cq p0))))] [] [Mi 64 (cq p0) (gP p0)] [] 160 (v1 (pu (pa pz pT) (v5 pT))) <|Tri.seq <|Xs [Eb 20 (((FT9 p0):Int) != 0)] [] 192 (v2 pT) <|Xa (fun h1=>?_) (fun h1=>?_)
 have h1':=cM h1
 exact Xt [Ei 5 (FT9 p0),(4,.sc (.nils))] [20,7,6,0,1] [] [64] 240 (v3 pT) <|Tri.sub (Sub.openNil (U:=240) (U':=256) 4 240 1 .u8 none (.inl rfl) (by decide) (by decide) (by kernel_rfl) (by kernel_rfl)) <|Xy [(240,0)] (pa pT pz) (by simp only [LY,mf,h1,aH,aD] <;> rfl)
 have h1':=bW h1
 refine Tri.skip <|Tri.len 64 rfl <|fun hl2=>Xt [Ep 8 224] [20,7,0] [Mi 224 64 (fw p0)] [] 256 (v1 (pu (pa pz (pl (show p0.length≤100000000 from by first|omega|(have hl:=GO (p0:=p0) (by assumption);omega)|exact mA (mp (by first|omega|exact al (by omega) (by omega)|(rw [List.length_take];omega)) (by first|omega|exact al (by omega) (by omega)|(rw [List.length_take];omega))).1|exact mA (iP (by first|omega|exact al (by omega) (by omega)|(rw [List.length_take];omega)) (by first|omega|exact al (by omega) (by omega)|(rw [List.length_take];omega)) (by first|omega|exact al (by omega) (by omega)|(rw [List.length_take];omega))).1))) (v1 (pu (Yz 64) pT)))) ?_
 refine Xt [Ep 9 320] [] [Mi 320 32 (F43 (((fw p0).drop 0).take 32))] [] 352 (pu (pa (lo ((0:Int)≤0∧(0:Int)≤32∧32≤((64:Nat):Int))) (Ye 64 64)) (pu (lo (0<32∧32≤32)) (pu (Ye (0+32) 64) (pu pz (v1 (pu (Yz 32) pT)))))) <|Tri.len 320 rfl <|fun hl3=>Tri.len 224 rfl <|fun hl4=>Tri.len 64 rfl <|fun hl5=>Xt [Ep 10 432] [8] [Mi 432 64 (oL p0 p1)] [224] 464 (pu (pa (lo ((0:Int)≤32∧(32:Int)≤64∧64≤((64:Nat):Int))) (Ye 64 64)) (v1 (pu (Yf 2) (pu (pa (pa (pa (ld (0+2≤2)) (pa (Ye (32+32) 64) pz)) pT) (pl (show bv [aC (fw p0) 64 32 32,p1] [aC (fw p0) 64 32 32,p1].length≤100000∧[aC (fw p0) 64 32 32,p1].length≤100000 from by first|exact mp (by first|omega|exact al (by omega) (by omega)|(rw [List.length_take];omega)) (by first|omega|exact al (by omega) (by omega)|(rw [List.length_take];omega))|exact iP (by first|omega|exact al (by omega) (by omega)|(rw [List.length_take];omega)) (by first|omega|exact al (by omega) (by omega)|(rw [List.length_take];omega)) (by first|omega|exact al (by omega) (by omega)|(rw [List.length_take];omega))))) (pu (pa (pa (Yw (bv [aC (fw p0) 64 32 32,p1] [aC (fw p0) 64 32 32,p1].length)) pT) (pl (show (aC (mT [aC (fw p0) 64 32 32,p1]) (bv [aC (fw p0) 64 32 32,p1] [aC (fw p0) 64 32 32,p1].length) 0 (bv [aC (fw p0) 64 32 32,p1] [aC (fw p0) 64 32 32,p1].length)).length≤100000000 from by first|omega|(have hl:=GO (p0:=p0) (by assumption);omega)|exact mA (mp (by first|omega|exact al (by omega) (by omega)|(rw [List.length_take];omega)) (by first|omega|exact al (by omega) (by omega)|(rw [List.length_take];omega))).1|exact mA (iP (by first|omega|exact al (by omega) (by omega)|(rw [List.length_take];omega)) (by first|omega|exact al (by omega) (by omega)|(rw [List.length_take];omega)) (by first|omega|exact al (by omega) (by omega)|(rw [List.length_take];omega))).1))) (v1 (pu (Yz 64) pT))))))) ?_
 refine Tri.len 432 rfl <|fun hl6=>Tri.len 320 rfl <|fun hl7=>Tri.len 64 rfl <|fun hl8=>Xt [Ep 11 496] [10] [Mk 496 .u64 4 (mV (aC (oL p0 p1) 64 0 64))] [432] 528 (pu (pa (lo ((0:Int)≤0∧(0:Int)≤64∧64≤((64:Nat):Int))) (Ye 64 64)) (pu (pa (pa (Yw 64) pT) (Ye ((aC (oL p0 p1) 64 0 64).length) 1000000)) (v1 (pu (Yz 4) pT)))) <|Tri.len 496 rfl <|fun hl9=>Tri.len 320 rfl <|fun hl10=>Tri.len 64 rfl <|fun hl11=>Xu [] (some [0,0,3,7,15,31]) [(12,.sc (.sl 592 0 32 1 (some 32)))] [] [Mi 592 32 (jQ (gK p0 p1))] [] 624 (pu pz (v1 (pu pz (pu (pa (pa (Yw 32) pT) (pl (show (aC (Az p0 p1) 32 0 32).length≤1000000 from by exact al (by decide) (Nat.le_trans (Nat.le_of_eq (uT _)) (by decide))))) (pu pz (v1 pT)))))) ?_
 refine Tri.len 592 rfl <|fun hl12=>Tri.len 496 rfl <|fun hl13=>Tri.len 320 rfl <|fun hl14=>Tri.len 64 rfl <|fun hl15=>Xt [Ep 13 720] [6,1] [Mi 720 64 (sS p0 p1)] [64] 752 (v3 (pu (Yf 3) (pu (pa (pa (pa (ld (0+3≤3)) (pa (Yw 32) (pa (Yw (cq p0)) pz))) pT) (pl (show bv [aC (jQ (gK p0 p1)) 32 0 32,aC (gP p0) (cq p0) 0 (cq p0),p1] [aC (jQ (gK p0 p1)) 32 0 32,aC (gP p0) (cq p0) 0 (cq p0),p1].length≤100000∧[aC (jQ (gK p0 p1)) 32 0 32,aC (gP p0) (cq p0) 0 (cq p0),p1].length≤100000 from by first|exact mp (by first|omega|exact al (by omega) (by omega)|(rw [List.length_take];omega)) (by first|omega|exact al (by omega) (by omega)|(rw [List.length_take];omega))|exact iP (by first|omega|exact al (by omega) (by omega)|(rw [List.length_take];omega)) (by first|omega|exact al (by omega) (by omega)|(rw [List.length_take];omega)) (by first|omega|exact al (by omega) (by omega)|(rw [List.length_take];omega))))) (pu (pa (pa (Yw (bv [aC (jQ (gK p0 p1)) 32 0 32,aC (gP p0) (cq p0) 0 (cq p0),p1] [aC (jQ (gK p0 p1)) 32 0 32,aC (gP p0) (cq p0) 0 (cq p0),p1].length)) pT) (pl (show (aC (Ax p0 p1) (bv [aC (jQ (gK p0 p1)) 32 0 32,aC (gP p0) (cq p0) 0 (cq p0),p1] [aC (jQ (gK p0 p1)) 32 0 32,aC (gP p0) (cq p0) 0 (cq p0),p1].length) 0 (bv [aC (jQ (gK p0 p1)) 32 0 32,aC (gP p0) (cq p0) 0 (cq p0),p1] [aC (jQ (gK p0 p1)) 32 0 32,aC (gP p0) (cq p0) 0 (cq p0),p1].length)).length≤100000000 from by first|omega|(have hl:=GO (p0:=p0) (by assumption);omega)|exact mA (mp (by first|omega|exact al (by omega) (by omega)|(rw [List.length_take];omega)) (by first|omega|exact al (by omega) (by omega)|(rw [List.length_take];omega))).1|exact mA (iP (by first|omega|exact al (by omega) (by omega)|(rw [List.length_take];omega)) (by first|omega|exact al (by omega) (by omega)|(rw [List.length_take];omega)) (by first|omega|exact al (by omega) (by omega)|(rw [List.length_take];omega))).1))) (v1 (pu (Yz 64) pT)))))) ?_
 exact Tri.len 720 rfl <|fun hl16=>Tri.len 592 rfl <|fun hl17=>Tri.len 496 rfl <|fun hl18=>Tri.len 320 rfl <|fun hl19=>Xu [] (some [0,0,2,0,14,30,0,126,254,511,1023,2047]) [Ei 5 0,El 4 896 64] [13,12,11,9] [Mi 896 64 ((jQ (gK p0 p1))++(lJ (AU p0 p1)))] [720,592,496,320] 944 (v1 (pu (pa (lo ((0:Int)≤0∧(0:Int)≤64∧64≤((64:Nat):Int))) (Ye 64 64)) (pu (pa (pa (Yw 64) pT) (Ye ((aC (sS p0 p1) 64 0 64).length) 1000000)) (pu (pa (lo ((0:Int)≤0∧(0:Int)≤32∧32≤((32:Nat):Int))) (Ye 32 32)) (pu (pa (pa (Yw 32) pT) (Ye ((aC (F43 (((fw p0).drop 0).take 32)) 32 0 32).length) 1000000)) (pu (pa pT (pl (show rng (mV (aC (sS p0 p1) 64 0 64))∧rng (zl p0) from ⟨CB _,CB _⟩))) (v1 (pu (pa pT (pl (show rng (Ah p0 p1)∧rng (mV (aC (oL p0 p1) 64 0 64)) from ⟨Nh _ _,CB _⟩))) (pu pz (pu (pa (YN (pa (Yw 32) pT) 1 64 32 32) (pa (Yr 1) (pa (lo (32=32)) (Yl 0 32)))) (v2 pT))))))))))) <|Xy [(896,0)] (pa pT pz) (by simp only [LY,mf,h1,aH,aD] <;> rfl)
theorem sP (b:Bool):sel b 0 64≤64:=by cases b <;> decide
theorem wW {p0:List Int} (h:p0.length=32):FT9 p0=0∧cq p0=32:=by
 have e:((((p0.length:Nat):Int):Int) != 32)=false:=by rw [h];rfl
 exact ⟨by unfold FT9;rw [e,aD],Kd e⟩
def ip (p2:List Int) (k0:Nat) (z0:List Int):List Int :=
 z0.set (k0/8) (iOr .u64 (z0.getD (k0/8) 0) (dS .u64 (IntKind.wrap .u64 (p2.getD (32+k0) 0)) ((8*(k0 % 8):Nat):Int)))
def rl (p0:List Int) (p1:List Int) (p2:List Int):Bool :=
 (sel ((((p2.length:Nat):Int):Int) != 64) false (sel (!(iA p0)) false (sel (!(ur (itr (ip p2) 32 [0,0,0,0]) ((zz.drop 0).take 4))) false (aB (aL (((jQ (mU (rv (uf) (aC (lJ (itr (ip p2) 32 [0,0,0,0])) 32 0 32)) (rv (ah (ah (jg p0) 0 (F18 (F30 0) (((jg p0).drop 0).take 5))) 15 (F18 (F30 0) (((jg p0).drop 15).take 5))) (aC (lJ (mV (aC (fw (aC (mT [(p2.drop 0).take 32,p0,p1]) (bv [(p2.drop 0).take 32,p0,p1] [(p2.drop 0).take 32,p0,p1].length) 0 (bv [(p2.drop 0).take 32,p0,p1] [(p2.drop 0).take 32,p0,p1].length))) 64 0 64))) 32 0 32)) (F16 (cN) (cN)))).drop 0).take 32)) (aL ((p2.drop 0).take 32))))))
def Mx:List AV→List Blk→Option (Prop × Ret)
 |[.sc (.ro .u8 p0),.sc (.ro .u8 p1),.sc (.ro .u8 p2)],[]=>some ((p1.length≤10000),⟨.sc (.b (rl p0 p1 p2)),[]⟩)
 |_,_=>none
def PW:KL Tryz.prog gD:=Zc Hj 480 [.ro .u8] [464] [] <|Zv MI 768 0 <|Zc IS 816 [.val,.ro .u8] [800] [] <|Zc IS 896 [.val,.ro .u8] [880] [] <|Zv Lh 1024 1 <|Zc Ld 464 [.rob] [448] [] <|Zc HS 864 [.ro .u8] [496] [] <|Zv FR 800 1 <|Zv FR 880 1 <|Zc NK 96 [.ro .u8] [] [] <|Zv Ll 720 0 <|Zv K16 944 2 <|Zv K30 528 1 <|Zv K30 592 1 <|Zv Lw 960 3 <|Zv OD 336 2 <|Zv K18 576 2 <|Zv K18 640 2 <|Zn
theorem PQ:Known Tryz.prog gD 82 ⟨0,0,Mx⟩:=by
 refine Xw Tryz.f82 88 PW mixed <|fun E args ks C r h hC hlen=>?_
 simp only at h
 unfold Mx at h
 split at h
 rotate_left
 cases h
 rename_i p0 p1 p2
 cases h
 simp only [bU] at hlen
 refine ⟨rfl,?_⟩
 refine Xs [] [] 32 (v1 pT) <|Tri.seq <|Xs [Eb 16 ((((p2.length:Nat):Int):Int) != 64)] [] 80 (v3 pT) <|Xa (fun h1=>?_) (fun h1=>?_)
 have h1':=cM h1
 exact Xs [Eb 6 false] [16,0,1,2] 96 (v1 pT) <|Xy [] pz (by simp only [rl,h1,aH,aD] <;> rfl)
 have h1':=bW h1
 refine Tri.skip <|Xt [Eb 8 (iA p0),Ep 7 160] [16] [Mk 160 .u64 20 (jg p0)] [] 208 (v1 (pu (pa pz pT) (v4 (pu (Yz 20) (v1 pT))))) <|Xt [Ep 9 208] [] [Mk 208 .u64 4 [0,0,0,0]] [] 224 (v1 pT) <|Tri.seq <|Xs [Ei 22 0] [] 240 (v1 pT) <|Tri.block <|Xc 32 (ip p2) [0,0,0,0] (fun k0 z0=>rng z0) (fun k0 z0=>[Ej 22 k0]) (fun k0 z0=>[Mk 208 .u64 4 z0]) mi <|fun k0 z0 hk0 hz0 hJ0=>Xs [Eb 23 (decide ((((k0:Nat):Int):Int)<32))] [] 256 (v1 pT) <|Tri.seq <|Xb (fun h2 h2'=>?_) (fun h2 h2'=>?_)
 exact Tri.skip <|Tri.seq <|Tri.block <|Xs [Ej 10 k0] [23] 288 (v2 pT) <|Wu [Ej 26 (k0/8),Ej 31 (32+k0),Ej 36 (k0 % 8),Ej 37 (8*(k0 % 8))] (some [0,1,3,7,0,0,32,112,240,496,0,1024,3072,8176,16383,32767,65535]) [] [10] [Mk 208 .u64 4 (z0.set (k0/8) (iOr .u64 (z0.getD (k0/8) 0) (dS .u64 (IntKind.wrap .u64 (p2.getD (32+k0) 0)) ((8*(k0 % 8):Nat):Int))))] [208] 560 (v1 (pv (Yn 8) (pl (dd (a:=k0) (b:=8) (by omega))) (pu (Yj (k0/8) 4) (pu (Yl (k0/8) 4) (v2 (pv pT (Yp 32 k0) (pu (Yj (32+k0) p2.length) (pu (Yl (32+k0) p2.length) (v2 (pv (Yn 8) (pl (eV (a:=k0) (b:=8))) (pv pT (Yt 8 (k0 % 8)) (pu (Y0 ((8*(k0 % 8):Nat):Int)) (v1 (pu (Yj (k0/8) 4) (pu (Ys (k0/8) 4) pT))))))))))))))) <|Wu [Ej 41 (k0+1)] none [Ej 22 (k0+1)] [22] [] [] 592 (pv pT (Yp k0 1) (v1 pT)) <|Xo [] (show rng (List.set _ _ _) from kv hJ0 (iL _))
 refine Tri.exit <|?_
 obtain rfl:k0=32:=(by omega);subst hz0
 refine Tri.seq <|Tri.split (!(iA p0)) (fun h3=>?_) (fun h3=>?_)
 exact Xu [Eb 44 true] none [Eb 49 true] [23,22,8] [] [] 384 (v2 (pg h3 (v5 pT))) <|Tri.cond_true (by kernel_rfl) <|Xt [Eb 6 false] [49,9,7,0,1,2] [] [208,160] 400 (v1 pT) <|Xy [] pz (by simp only [rl,h1,h3,aH,aD] <;> rfl)
 refine Xu [Eb 44 false] none [Eb 49 (!(ur (itr (ip p2) 32 [0,0,0,0]) ((zz.drop 0).take 4)))] [23,22,8] [] [] 384 (v2 (pg h3 (v1 (pu (Ye (0+4) zz.length) (pu (pa pT (pl (show rng (itr (ip p2) 32 [0,0,0,0])∧rng ((zz.drop 0).take 4) from ⟨hJ0,tF⟩))) (v2 pT)))))) <|Xa (fun h4=>?_) (fun h4=>?_)
 exact Xt [Eb 6 false] [49,9,7,0,1,2] [] [208,160] 400 (v1 pT) <|Xy [] pz (by simp only [rl,h1,h3,h4,aH,aD] <;> rfl)
 refine Tri.skip <|Tri.len 208 rfl <|fun hl5=>Tri.len 160 rfl <|fun hl6=>Xt [Ep 11 496] [49,0,1] [Mi 496 64 (fw (aC (mT [(p2.drop 0).take 32,p0,p1]) (bv [(p2.drop 0).take 32,p0,p1] [(p2.drop 0).take 32,p0,p1].length) 0 (bv [(p2.drop 0).take 32,p0,p1] [(p2.drop 0).take 32,p0,p1].length)))] [] 528 (v1 (pu (lo ((0:Int)≤0∧(0:Int)≤32∧32≤(p2.length:Int))) (v2 (pu (Yf 3) (pu (pa (pa (pa (ld (0+3≤3)) (pa pT (pa pT pz))) pT) (pl (show bv [(p2.drop 0).take 32,p0,p1] [(p2.drop 0).take 32,p0,p1].length≤100000∧[(p2.drop 0).take 32,p0,p1].length≤100000 from by exact iP (by first|omega|(have hl:=qc (p0:=p0) (by assumption);omega)|exact al (by omega) (by omega)|(rw [List.length_take];omega)) (by first|omega|(have hl:=qc (p0:=p0) (by assumption);omega)|exact al (by omega) (by omega)|(rw [List.length_take];omega)) (by first|omega|(have hl:=qc (p0:=p0) (by assumption);omega)|exact al (by omega) (by omega)|(rw [List.length_take];omega))))) (pu (pa (pa (Yw (bv [(p2.drop 0).take 32,p0,p1] [(p2.drop 0).take 32,p0,p1].length)) pT) (pl (show (aC (mT [(p2.drop 0).take 32,p0,p1]) (bv [(p2.drop 0).take 32,p0,p1] [(p2.drop 0).take 32,p0,p1].length) 0 (bv [(p2.drop 0).take 32,p0,p1] [(p2.drop 0).take 32,p0,p1].length)).length≤100000000 from by exact mA (iP (by first|omega|(have hl:=qc (p0:=p0) (by assumption);omega)|exact al (by omega) (by omega)|(rw [List.length_take];omega)) (by first|omega|(have hl:=qc (p0:=p0) (by assumption);omega)|exact al (by omega) (by omega)|(rw [List.length_take];omega)) (by first|omega|(have hl:=qc (p0:=p0) (by assumption);omega)|exact al (by omega) (by omega)|(rw [List.length_take];omega))).1))) (v1 (pu (Yz 64) pT)))))))) ?_
 refine Xu [] (some [0,0,2,7,15,0,32,127,111,511,1023,2047]) [] [] [Mk 160 .u64 20 (ah (ah (jg p0) 0 (F18 (F30 0) (((jg p0).drop 0).take 5))) 15 (F18 (F30 0) (((jg p0).drop 15).take 5)))] [160] 720 (pu pz (v1 (pu (Ye (0+5) 20) (pu pz (pu pz (v1 (pu (Ye (15+5) 20) (pu pz (v1 (pu (pa (Ye (0+5) 20) (Yr 5)) (v1 (pu (pa (Ye (15+5) 20) (Yr 5)) pT)))))))))))) <|Xt [Ep 12 736] [] [Mk 736 .u64 5 (cN)] [] 768 (pu pz (v1 (pu (Yz 5) pT))) <|Tri.len 736 rfl <|fun hl7=>Tri.len 160 rfl <|fun hl8=>Tri.len 496 rfl <|fun hl9=>Tri.len 208 rfl <|fun hl10=>Xu [] (some [0,0,3,7,0,0,47,111,255,0,0,2047,4095,0,16383]) [Ep 13 976] [12,11,9,7] [Mk 976 .u64 20 (mU (rv (uf) (aC (lJ (itr (ip p2) 32 [0,0,0,0])) 32 0 32)) (rv (ah (ah (jg p0) 0 (F18 (F30 0) (((jg p0).drop 0).take 5))) 15 (F18 (F30 0) (((jg p0).drop 15).take 5))) (aC (lJ (mV (aC (fw (aC (mT [(p2.drop 0).take 32,p0,p1]) (bv [(p2.drop 0).take 32,p0,p1] [(p2.drop 0).take 32,p0,p1].length) 0 (bv [(p2.drop 0).take 32,p0,p1] [(p2.drop 0).take 32,p0,p1].length))) 64 0 64))) 32 0 32)) (F16 (cN) (cN)))] [736,160,496,208] 1008 (pu pz (v1 (pu pz (pu (pa (pa (Yw 32) pT) (pl (show (aC (lJ (itr (ip p2) 32 [0,0,0,0])) 32 0 32).length≤1000000 from by exact al (by decide) (by rw [uT];decide)))) (v1 (pu (pa (lo ((0:Int)≤0∧(0:Int)≤64∧64≤((64:Nat):Int))) (Ye 64 64)) (pu (pa (pa (Yw 64) pT) (Ye ((aC (fw (aC (mT [(p2.drop 0).take 32,p0,p1]) (bv [(p2.drop 0).take 32,p0,p1] [(p2.drop 0).take 32,p0,p1].length) 0 (bv [(p2.drop 0).take 32,p0,p1] [(p2.drop 0).take 32,p0,p1].length))) 64 0 64).length) 1000000)) (pu pz (pu (pa (pa (Yw 32) pT) (pl (show (aC (lJ (mV (aC (fw (aC (mT [(p2.drop 0).take 32,p0,p1]) (bv [(p2.drop 0).take 32,p0,p1] [(p2.drop 0).take 32,p0,p1].length) 0 (bv [(p2.drop 0).take 32,p0,p1] [(p2.drop 0).take 32,p0,p1].length))) 64 0 64))) 32 0 32).length≤1000000 from by exact al (by decide) (by rw [uT];decide)))) (v2 (pu pz (pu pz (v1 (pu (Yz 20) pT)))))))))))))) ?_
 exact Tri.len 976 rfl <|fun hl11=>Xu [] (some [0,1,3,0,8,24,63,127]) [Eb 6 (aB (aL (((jQ (mU (rv (uf) (aC (lJ (itr (ip p2) 32 [0,0,0,0])) 32 0 32)) (rv (ah (ah (jg p0) 0 (F18 (F30 0) (((jg p0).drop 0).take 5))) 15 (F18 (F30 0) (((jg p0).drop 15).take 5))) (aC (lJ (mV (aC (fw (aC (mT [(p2.drop 0).take 32,p0,p1]) (bv [(p2.drop 0).take 32,p0,p1] [(p2.drop 0).take 32,p0,p1].length) 0 (bv [(p2.drop 0).take 32,p0,p1] [(p2.drop 0).take 32,p0,p1].length))) 64 0 64))) 32 0 32)) (F16 (cN) (cN)))).drop 0).take 32)) (aL ((p2.drop 0).take 32)))] [13,2] [] [976] 1136 (v1 (pu pz (pu (Yw 32) (v1 (pu (lo ((0:Int)≤0∧(0:Int)≤32∧32≤(p2.length:Int))) (v3 pT)))))) <|Xy [] pz (by simp only [rl,h1,h3,h4,aH,aD] <;> rfl)
end Go.Vm
namespace Go.Vm
open Go Go.Proofs
theorem Gx {α:Type} (b:Bool) (x:α):sel b x x=x:=by cases b <;> rfl
theorem EN {a b c:Nat} (h:a≤20000) (h':b≤20000) (h'':c≤20000):a+b+c≤1000000:=by omega
theorem tU (p:List Int) (o:Nat) (h:o+32≤64):(aC (dV p) 64 o 32).length=32:=by
 rw [jc (lR p),List.length_take,List.length_drop,lR]
 omega
def dE (p0:List Int) (p1:List Int):List Int :=
 (F19 p0 p1)
def Of:List AV→List Blk→Option (Prop × Ret)
 |[.ints .i64 16 p0,.ints .i64 16 p1],[]=>some (True,⟨.ints .i64 16 (dE p0 p1),[]⟩)
 |_,_=>none
theorem Eh:Known Tryz.prog gD 89 ⟨0,0,Of⟩:=by
 refine Xw Tryz.f89 8 (Zv K19 96 2 <|Zn) mixed <|fun E args ks C r h hC hlen=>?_
 simp only at h
 unfold Of at h
 split at h
 rotate_left
 cases h
 rename_i p0 p1
 cases h
 simp only [bU] at hlen
 refine ⟨rfl,?_⟩
 exact Xt [Ep 4 48,Ep 3 32,Ep 2 16] [0,1] [Mk 48 .i64 16 [0,0,0,0,0,0,0,0,0,0,0,0,0,0,0,0],Mk 32 .i64 16 p1,Mk 16 .i64 16 p0] [] 64 (v3 pT) <|Xt [] [3,2] [Mk 48 .i64 16 (F19 p0 p1)] [48,32,16] 128 (v2 (pu pz (pu (Yz 16) pT))) <|Xz [] pz
def bO (p0:Int):List Int :=
 (F31 p0)
def MV:List AV→List Blk→Option (Prop × Ret)
 |[.sc (.i .i64 p0)],[]=>some (True,⟨.ints .i64 16 (bO p0),[]⟩)
 |_,_=>none
theorem qV:Known Tryz.prog gD 90 ⟨0,0,MV⟩:=by
 refine Xw Tryz.f90 5 (Zv K31 48 1 <|Zn) mixed <|fun E args ks C r h hC hlen=>?_
 simp only at h
 unfold MV at h
 split at h
 rotate_left
 cases h
 rename_i p0
 cases h
 simp only [bU] at hlen
 refine ⟨rfl,?_⟩
 exact Xt [Ep 2 16] [] [Mk 16 .i64 16 [0,0,0,0,0,0,0,0,0,0,0,0,0,0,0,0]] [] 32 (v1 pT) <|Xt [] [0] [Mk 16 .i64 16 (F31 p0)] [16] 80 (v1 (pu pz (pu (Yz 16) pT))) <|Xz [] pz
def aX (p0:List Int) (p1:List Int):List Int :=
 (F21 p0 p1)
def Mf:List AV→List Blk→Option (Prop × Ret)
 |[.ints .i64 16 p0,.ints .i64 16 p1],[]=>some (True,⟨.ints .i64 16 (aX p0 p1),[]⟩)
 |_,_=>none
theorem lg:Known Tryz.prog gD 95 ⟨0,0,Mf⟩:=by
 refine Xw Tryz.f95 8 (Zv K21 96 2 <|Zn) mixed <|fun E args ks C r h hC hlen=>?_
 simp only at h
 unfold Mf at h
 split at h
 rotate_left
 cases h
 rename_i p0 p1
 cases h
 simp only [bU] at hlen
 refine ⟨rfl,?_⟩
 exact Xt [Ep 4 48,Ep 3 32,Ep 2 16] [0,1] [Mk 48 .i64 16 [0,0,0,0,0,0,0,0,0,0,0,0,0,0,0,0],Mk 32 .i64 16 p1,Mk 16 .i64 16 p0] [] 64 (v3 pT) <|Xt [] [3,2] [Mk 48 .i64 16 (F21 p0 p1)] [48,32,16] 128 (v2 (pu pz (pu (Yz 16) pT))) <|Xz [] pz
def du (p0:List Int) (p1:List Int):List Int :=
 (F17 p0 p1)
def Nw:List AV→List Blk→Option (Prop × Ret)
 |[.ints .i64 16 p0,.ints .i64 16 p1],[]=>some (True,⟨.ints .i64 16 (du p0 p1),[]⟩)
 |_,_=>none
theorem Ih:Known Tryz.prog gD 119 ⟨0,0,Nw⟩:=by
 refine Xw Tryz.f119 8 (Zv K17 96 2 <|Zn) mixed <|fun E args ks C r h hC hlen=>?_
 simp only at h
 unfold Nw at h
 split at h
 rotate_left
 cases h
 rename_i p0 p1
 cases h
 simp only [bU] at hlen
 refine ⟨rfl,?_⟩
 exact Xt [Ep 4 48,Ep 3 32,Ep 2 16] [0,1] [Mk 48 .i64 16 [0,0,0,0,0,0,0,0,0,0,0,0,0,0,0,0],Mk 32 .i64 16 p1,Mk 16 .i64 16 p0] [] 64 (v3 pT) <|Xt [] [3,2] [Mk 48 .i64 16 (F17 p0 p1)] [48,32,16] 128 (v2 (pu pz (pu (Yz 16) pT))) <|Xz [] pz
def di:List Int :=
 (dE (bO 0) (aX (bO 121665) (F28 (bO 121666))))
def Nu:List AV→List Blk→Option (Prop × Ret)
 |[],[]=>some (True,⟨.ints .i64 16 (di),[]⟩)
 |_,_=>none
theorem Lp:Known Tryz.prog gD 92 ⟨0,0,Nu⟩:=by
 refine Xw Tryz.f92 7 (Zv Eh 112 2 <|Zv qV 32 1 <|Zv qV 48 1 <|Zv qV 64 1 <|Zv K28 80 1 <|Zv lg 96 2 <|Zn) mixed <|fun E args ks C r h hC hlen=>?_
 simp only at h
 unfold Nu at h
 split at h
 rotate_left
 cases h
 cases h
 simp only [bU] at hlen
 refine ⟨rfl,?_⟩
 exact Xt [Ep 0 16] [] [Mk 16 .i64 16 [0,0,0,0,0,0,0,0,0,0,0,0,0,0,0,0]] [] 32 (v1 pT) <|Xt [] [] [Mk 16 .i64 16 (dE (bO 0) (aX (bO 121665) (F28 (bO 121666))))] [16] 144 (pu pz (pu pz (pu pz (pu pz (pu pz (pu pz (pu (Yz 16) pT))))))) <|Xz [] pz
def ru (p0:List Int) (p1:List Int) (p2:List Int):List Int :=
 ah (ah (ah [0,0,0,0,0,0,0,0,0,0,0,0,0,0,0,0,0,0,0,0,0,0,0,0,0,0,0,0,0,0,0,0,0,0,0,0,0,0,0,0,0,0,0,0,0,0,0,0] 0 (aX (aX (du (aX ((p0.drop 0).take 16) ((p1.drop 16).take 16)) (aX ((p1.drop 0).take 16) ((p0.drop 16).take 16))) (aX ((p0.drop 32).take 16) ((p1.drop 32).take 16))) (dE (aX (aX ((p0.drop 32).take 16) ((p1.drop 32).take 16)) (aX ((p0.drop 32).take 16) ((p1.drop 32).take 16))) (aX p2 (aX (aX ((p0.drop 0).take 16) ((p1.drop 0).take 16)) (aX ((p0.drop 16).take 16) ((p1.drop 16).take 16))))))) 16 (aX (aX (du (aX ((p0.drop 16).take 16) ((p1.drop 16).take 16)) (aX ((p0.drop 0).take 16) ((p1.drop 0).take 16))) (aX ((p0.drop 32).take 16) ((p1.drop 32).take 16))) (du (aX (aX ((p0.drop 32).take 16) ((p1.drop 32).take 16)) (aX ((p0.drop 32).take 16) ((p1.drop 32).take 16))) (aX p2 (aX (aX ((p0.drop 0).take 16) ((p1.drop 0).take 16)) (aX ((p0.drop 16).take 16) ((p1.drop 16).take 16))))))) 32 (aX (du (aX (aX ((p0.drop 32).take 16) ((p1.drop 32).take 16)) (aX ((p0.drop 32).take 16) ((p1.drop 32).take 16))) (aX p2 (aX (aX ((p0.drop 0).take 16) ((p1.drop 0).take 16)) (aX ((p0.drop 16).take 16) ((p1.drop 16).take 16))))) (dE (aX (aX ((p0.drop 32).take 16) ((p1.drop 32).take 16)) (aX ((p0.drop 32).take 16) ((p1.drop 32).take 16))) (aX p2 (aX (aX ((p0.drop 0).take 16) ((p1.drop 0).take 16)) (aX ((p0.drop 16).take 16) ((p1.drop 16).take 16))))))
def Oc:List AV→List Blk→Option (Prop × Ret)
 |[.ints .i64 48 p0,.ints .i64 48 p1,.ints .i64 16 p2],[]=>some (True,⟨.ints .i64 48 (ru p0 p1 p2),[]⟩)
 |_,_=>none
def Pp:KL Tryz.prog gD:=Zv Eh 896 2 <|Zv lg 144 2 <|Zv lg 224 2 <|Zv lg 304 2 <|Zv lg 480 2 <|Zv lg 560 2 <|Zv lg 672 2 <|Zv lg 688 2 <|Zv lg 768 2 <|Zv lg 1008 2 <|Zv lg 1040 2 <|Zv lg 1120 2 <|Zv lg 1152 2 <|Zv lg 1200 2 <|Zv Ih 576 2 <|Zv Ih 848 2 <|Zv Ih 1088 2 <|Zn
theorem LK:Known Tryz.prog gD 91 ⟨0,0,Oc⟩:=by
 refine Xw Tryz.f91 71 Pp mixed <|fun E args ks C r h hC hlen=>?_
 simp only at h
 unfold Oc at h
 split at h
 rotate_left
 cases h
 rename_i p0 p1 p2
 cases h
 simp only [bU] at hlen
 refine ⟨rfl,?_⟩
 exact Xt [Ep 6 64,Ep 5 48,Ep 4 32,Ep 3 16] [0,1,2] [Mk 64 .i64 48 [0,0,0,0,0,0,0,0,0,0,0,0,0,0,0,0,0,0,0,0,0,0,0,0,0,0,0,0,0,0,0,0,0,0,0,0,0,0,0,0,0,0,0,0,0,0,0,0],Mk 48 .i64 16 p2,Mk 32 .i64 48 p1,Mk 16 .i64 48 p0] [] 80 (v4 pT) <|Xu [] (some [0,1,0,4,15,0,32,0,128,511,0,1024,0,4096,16383,0,0,0,262143,524287,1048575]) [Ep 9 352,Ep 8 336,Ep 7 320] [] [Mk 352 .i64 16 (aX ((p0.drop 32).take 16) ((p1.drop 32).take 16)),Mk 336 .i64 16 (aX ((p0.drop 16).take 16) ((p1.drop 16).take 16)),Mk 320 .i64 16 (aX ((p0.drop 0).take 16) ((p1.drop 0).take 16))] [] 416 (v1 (pu (Ye (0+16) 48) (v1 (pu (Ye (0+16) 48) (pu pz (v1 (pu (Ye (16+16) 48) (v1 (pu (Ye (16+16) 48) (pu pz (v1 (pu (Ye (32+16) 48) (v1 (pu (Ye (32+16) 48) (pu pz (v3 (pu (Yz 16) (pu (Yz 16) (pu (Yz 16) pT))))))))))))))))))) <|Xu [] (some [0,1,0,4,15,0,32,0,128,511,1023,0,4095]) [Ep 10 592] [4,3] [Mk 592 .i64 16 (du (aX ((p0.drop 0).take 16) ((p1.drop 16).take 16)) (aX ((p1.drop 0).take 16) ((p0.drop 16).take 16)))] [32,16] 624 (v1 (pu (Ye (0+16) 48) (v1 (pu (Ye (16+16) 48) (pu pz (v1 (pu (Ye (0+16) 48) (v1 (pu (Ye (16+16) 48) (pu pz (pu pz (v1 (pu (Yz 16) pT))))))))))))) <|Xu [] (some [0,0,0,6,15,0,63]) [Ep 11 704] [5] [Mk 704 .i64 16 (aX p2 (aX (aX ((p0.drop 0).take 16) ((p1.drop 0).take 16)) (aX ((p0.drop 16).take 16) ((p1.drop 16).take 16))))] [48] 736 (v3 (pu pz (pu pz (v1 (pu (Yz 16) pT))))) <|Xt [Ep 12 784] [] [Mk 784 .i64 16 (aX (aX ((p0.drop 32).take 16) ((p1.drop 32).take 16)) (aX ((p0.drop 32).take 16) ((p1.drop 32).take 16)))] [] 816 (v2 (pu pz (v1 (pu (Yz 16) pT)))) <|Xu [] (some [0,0,3,0,0,31,0,0,255,511]) [Ep 14 928,Ep 13 912] [12,11] [Mk 928 .i64 16 (dE (aX (aX ((p0.drop 32).take 16) ((p1.drop 32).take 16)) (aX ((p0.drop 32).take 16) ((p1.drop 32).take 16))) (aX p2 (aX (aX ((p0.drop 0).take 16) ((p1.drop 0).take 16)) (aX ((p0.drop 16).take 16) ((p1.drop 16).take 16))))),Mk 912 .i64 16 (du (aX (aX ((p0.drop 32).take 16) ((p1.drop 32).take 16)) (aX ((p0.drop 32).take 16) ((p1.drop 32).take 16))) (aX p2 (aX (aX ((p0.drop 0).take 16) ((p1.drop 0).take 16)) (aX ((p0.drop 16).take 16) ((p1.drop 16).take 16)))))] [784,704] 976 (v2 (pu pz (v2 (pu pz (v2 (pu (Yz 16) (pu (Yz 16) pT))))))) <|Xu [] (some [0,0,3,0,15,0,0,127,0,511,0,2047,0,0,16383,32767,65535]) [] [14,13,10,9,8,7] [Mk 64 .i64 48 (ah (ah (ah [0,0,0,0,0,0,0,0,0,0,0,0,0,0,0,0,0,0,0,0,0,0,0,0,0,0,0,0,0,0,0,0,0,0,0,0,0,0,0,0,0,0,0,0,0,0,0,0] 0 (aX (aX (du (aX ((p0.drop 0).take 16) ((p1.drop 16).take 16)) (aX ((p1.drop 0).take 16) ((p0.drop 16).take 16))) (aX ((p0.drop 32).take 16) ((p1.drop 32).take 16))) (dE (aX (aX ((p0.drop 32).take 16) ((p1.drop 32).take 16)) (aX ((p0.drop 32).take 16) ((p1.drop 32).take 16))) (aX p2 (aX (aX ((p0.drop 0).take 16) ((p1.drop 0).take 16)) (aX ((p0.drop 16).take 16) ((p1.drop 16).take 16))))))) 16 (aX (aX (du (aX ((p0.drop 16).take 16) ((p1.drop 16).take 16)) (aX ((p0.drop 0).take 16) ((p1.drop 0).take 16))) (aX ((p0.drop 32).take 16) ((p1.drop 32).take 16))) (du (aX (aX ((p0.drop 32).take 16) ((p1.drop 32).take 16)) (aX ((p0.drop 32).take 16) ((p1.drop 32).take 16))) (aX p2 (aX (aX ((p0.drop 0).take 16) ((p1.drop 0).take 16)) (aX ((p0.drop 16).take 16) ((p1.drop 16).take 16))))))) 32 (aX (du (aX (aX ((p0.drop 32).take 16) ((p1.drop 32).take 16)) (aX ((p0.drop 32).take 16) ((p1.drop 32).take 16))) (aX p2 (aX (aX ((p0.drop 0).take 16) ((p1.drop 0).take 16)) (aX ((p0.drop 16).take 16) ((p1.drop 16).take 16))))) (dE (aX (aX ((p0.drop 32).take 16) ((p1.drop 32).take 16)) (aX ((p0.drop 32).take 16) ((p1.drop 32).take 16))) (aX p2 (aX (aX ((p0.drop 0).take 16) ((p1.drop 0).take 16)) (aX ((p0.drop 16).take 16) ((p1.drop 16).take 16)))))))] [928,912,592,352,336,320,64] 1248 (v2 (pu pz (v1 (pu pz (v2 (pu pz (v1 (pu pz (v1 (pu pz (v2 (pu pz (pu (pa (pa (Ye (0+16) 48) (Yr 16)) (pa (pa (Ye (16+16) 48) (Yr 16)) (pa (pa (Ye (32+16) 48) (Yr 16)) pT))) (pu (Yz 48) pT)))))))))))))) <|Xz [] pz
def ob (p0:List Int) (k0:Nat) (z0:List Int × List Int):List Int × List Int :=
 ((sel (((bx (ag .u8 (p0.getD (k0/8) 0) ((k0 % 8:Nat):Int)) 2):Int)==1) (ru z0.1 z0.2 (di)) z0.1),(ru z0.2 z0.2 (di)))
def wZ (p0:List Int) (p1:List Int):List Int :=
 (itr (ob p0) (8*p0.length) (ah (ah [0,0,0,0,0,0,0,0,0,0,0,0,0,0,0,0,0,0,0,0,0,0,0,0,0,0,0,0,0,0,0,0,0,0,0,0,0,0,0,0,0,0,0,0,0,0,0,0] 16 (bO 1)) 32 (bO 1),p1)).1
def OT:List AV→List Blk→Option (Prop × Ret)
 |[.sc (.ro .u8 p0),.ints .i64 48 p1],[]=>some ((p0.length≤1000000),⟨.ints .i64 48 (wZ p0 p1),[]⟩)
 |_,_=>none
theorem LE:Known Tryz.prog gD 55 ⟨0,0,OT⟩:=by
 refine Xw Tryz.f55 38 (Zv qV 96 1 <|Zv qV 112 1 <|Zv LK 480 3 <|Zv LK 560 3 <|Zv Lp 48 0 <|Zn) mixed <|fun E args ks C r h hC hlen=>?_
 simp only at h
 unfold OT at h
 split at h
 rotate_left
 cases h
 rename_i p0 p1
 cases h
 simp only [bU] at hlen
 refine ⟨rfl,?_⟩
 refine Xt [Ep 4 32,Ep 3 16] [1] [Mk 32 .i64 48 [0,0,0,0,0,0,0,0,0,0,0,0,0,0,0,0,0,0,0,0,0,0,0,0,0,0,0,0,0,0,0,0,0,0,0,0,0,0,0,0,0,0,0,0,0,0,0,0],Mk 16 .i64 48 p1] [] 48 (v2 pT) <|Xt [Ep 5 64] [] [Mk 64 .i64 16 (di)] [] 96 (pu pz (v1 (pu (Yz 16) pT))) <|Xt [Ep 6 144] [] [Mk 144 .i64 48 (ah (ah [0,0,0,0,0,0,0,0,0,0,0,0,0,0,0,0,0,0,0,0,0,0,0,0,0,0,0,0,0,0,0,0,0,0,0,0,0,0,0,0,0,0,0,0,0,0,0,0] 16 (bO 1)) 32 (bO 1))] [] 176 (pu pz (pu pz (pu (pa (pa (Ye (16+16) 48) (Yr 16)) (pa (pa (Ye (32+16) 48) (Yr 16)) pT)) (v1 (pu (Yz 48) pT))))) <|Tri.seq <|Xs [Ei 7 0] [] 192 (v1 pT) <|Tri.block <|Xc (8*p0.length) (ob p0) (ah (ah [0,0,0,0,0,0,0,0,0,0,0,0,0,0,0,0,0,0,0,0,0,0,0,0,0,0,0,0,0,0,0,0,0,0,0,0,0,0,0,0,0,0,0,0,0,0,0,0] 16 (bO 1)) 32 (bO 1),p1) (fun k0 z0=>True) (fun k0 z0=>[Ej 7 k0]) (fun k0 z0=>[Mk 144 .i64 48 z0.1,Mk 16 .i64 48 z0.2]) trivial <|fun k0 z0 hk0 hz0 hJ0=>Tri.seq <|Xu [Ej 15 (8*p0.length)] none [Eb 16 (decide ((((k0:Nat):Int):Int)<((8*p0.length:Nat):Int)))] [] [] [] 272 (v3 (pv pT (Yt 8 p0.length) (v1 pT))) <|Xb (fun h1 h1'=>?_) (fun h1 h1'=>?_)
 refine Tri.skip <|Tri.seq <|Tri.block <|Tri.seq <|Xu [Ej 21 (k0/8),Ej 25 (k0 % 8)] none [Eb 28 (((bx (ag .u8 (p0.getD (k0/8) 0) ((k0 % 8:Nat):Int)) 2):Int)==1)] [16] [] [] 432 (v2 (pv (Yn 8) (pl (dd (a:=k0) (b:=8) (by omega))) (pu (Yj (k0/8) p0.length) (pu (Yl (k0/8) p0.length) (v1 (pv (Yn 8) (pl (eV (a:=k0) (b:=8))) (pu (Y0 ((k0 % 8:Nat):Int)) (pu (Yn 2) (v1 pT))))))))) <|Xj (x:=(((bx (ag .u8 (p0.getD (k0/8) 0) ((k0 % 8:Nat):Int)) 2):Int)==1)) (fun bb=>[]) [28] (fun bb=>[Mk 144 .i64 48 (sel bb (ru z0.1 z0.2 (di)) z0.1)]) [144] 512 (fun h2=>?_) (fun h2=>?_) ?_
 have h2':=dM h2
 exact Wt [] [28] [Mk 144 .i64 48 (ru z0.1 z0.2 (di))] [144] 512 (v3 (pu pz (pu (Yz 48) pT))) <|Xe [] [Mk 144 .i64 48 (ru z0.1 z0.2 (di))]
 have h2':=co h2
 exact Tri.skip <|Xe [] [Mk 144 .i64 48 z0.1]
 exact Wt [] [] [Mk 16 .i64 48 (ru z0.2 z0.2 (di))] [16] 592 (v3 (pu pz (pu (Yz 48) pT))) <|Wu [Ej 18 (k0+1)] none [Ej 7 (k0+1)] [7] [] [] 640 (v1 (pv pT (Yp k0 1) (v1 pT))) <|Xo [] trivial
 refine Tri.exit <|?_
 obtain rfl:k0=(8*p0.length):=(by omega);subst hz0
 exact Xt [] [16,7,6,5,3,0] [Mk 32 .i64 48 ((itr (ob p0) (8*p0.length) (ah (ah [0,0,0,0,0,0,0,0,0,0,0,0,0,0,0,0,0,0,0,0,0,0,0,0,0,0,0,0,0,0,0,0,0,0,0,0,0,0,0,0,0,0,0,0,0,0,0,0] 16 (bO 1)) 32 (bO 1),p1)).1)] [144,64,32,16] 304 (v1 (pu (Yz 48) pT)) <|Xz [] pz
def yc (p0:List Int):List Int :=
 (sel (((bx ((aX ((p0.drop 0).take 16) (F28 ((p0.drop 32).take 16))).getD 0 0) 2):Int)==1) ((F49 (aX ((p0.drop 16).take 16) (F28 ((p0.drop 32).take 16)))).set 31 (aP .u8 ((F49 (aX ((p0.drop 16).take 16) (F28 ((p0.drop 32).take 16)))).getD 31 0) 128)) (F49 (aX ((p0.drop 16).take 16) (F28 ((p0.drop 32).take 16)))))
def OL:List AV→List Blk→Option (Prop × Ret)
 |[.ints .i64 48 p0],[]=>some (True,⟨.sc (.sl 0 0 32 1 none),[some (.ints .u8 32 (yc p0))]⟩)
 |_,_=>none
theorem Mp:Known Tryz.prog gD 54 ⟨0,1,OL⟩:=by
 refine Xw Tryz.f54 26 (Zv K28 80 1 <|Zv K49 192 1 <|Zv lg 176 2 <|Zv lg 272 2 <|Zn) mixed <|fun E args ks C r h hC hlen=>?_
 simp only at h
 unfold OL at h
 split at h
 rotate_left
 cases h
 rename_i p0
 cases h
 simp only [bU] at hlen
 refine ⟨rfl,?_⟩
 refine Xt [Ep 1 16] [0] [Mk 16 .i64 48 p0] [] 48 (v2 pT) <|Xt [Ep 3 96] [] [Mk 96 .i64 16 (F28 ((p0.drop 32).take 16))] [] 128 (v1 (pu (Ye (32+16) 48) (pu pz (v1 (pu (Yz 16) pT))))) <|Xt [El 4 192 32] [] [Mi 192 32 (F49 (aX ((p0.drop 16).take 16) (F28 ((p0.drop 32).take 16))))] [] 224 (v1 (pu (Ye (16+16) 48) (v1 (pu pz (pu pz (v1 pT)))))) <|Tri.seq <|Xt [Eb 19 (((bx ((aX ((p0.drop 0).take 16) (F28 ((p0.drop 32).take 16))).getD 0 0) 2):Int)==1)] [3,1] [] [96,16] 336 (v1 (pu (Ye (0+16) 48) (v1 (pu pz (pu (pa (Yi 0 16) (Yl 0 16)) (pu (Yn 2) (v1 pT))))))) <|Xj (x:=(((bx ((aX ((p0.drop 0).take 16) (F28 ((p0.drop 32).take 16))).getD 0 0) 2):Int)==1)) (fun bb=>[]) [19] (fun bb=>[Mi 192 32 (sel bb ((F49 (aX ((p0.drop 16).take 16) (F28 ((p0.drop 32).take 16)))).set 31 (aP .u8 ((F49 (aX ((p0.drop 16).take 16) (F28 ((p0.drop 32).take 16)))).getD 31 0) 128)) (F49 (aX ((p0.drop 16).take 16) (F28 ((p0.drop 32).take 16)))))]) [192] 432 (fun h1=>?_) (fun h1=>?_) ?_
 have h1':=dM h1
 exact Wt [] [19] [Mi 192 32 ((F49 (aX ((p0.drop 16).take 16) (F28 ((p0.drop 32).take 16)))).set 31 (aP .u8 ((F49 (aX ((p0.drop 16).take 16) (F28 ((p0.drop 32).take 16)))).getD 31 0) 128))] [192] 432 (v1 (pu (Yi 31 32) (pu (Yl 31 32) (v1 (pu (Yi 31 32) (pu (Ys 31 32) pT)))))) <|Xe [] [Mi 192 32 ((F49 (aX ((p0.drop 16).take 16) (F28 ((p0.drop 32).take 16)))).set 31 (aP .u8 ((F49 (aX ((p0.drop 16).take 16) (F28 ((p0.drop 32).take 16)))).getD 31 0) 128))]
 have h1':=co h1
 exact Tri.skip <|Xe [] [Mi 192 32 (F49 (aX ((p0.drop 16).take 16) (F28 ((p0.drop 32).take 16))))]
 exact Xs [El 2 192 32] [4] 464 (v2 pT) <|Xz [(192,0)] pz
def ln (p0:List Int):List Int :=
 (sel ((((p0.length:Nat):Int):Int) != 32) [0,0,0,0,0,0,0,0,0,0,0,0,0,0,0,0,0,0,0,0,0,0,0,0,0,0,0,0,0,0,0,0,0,0,0,0,0,0,0,0,0,0,0,0,0,0,0,0] (sel (!(aB (aL (((sel (decide ((p0.getD 31 0:Int) ≥ 128)) ((F49 (F24 p0)).set 31 (aP .u8 ((F49 (F24 p0)).getD 31 0) 128)) (F49 (F24 p0))).drop 0).take 32)) (aL p0))) [0,0,0,0,0,0,0,0,0,0,0,0,0,0,0,0,0,0,0,0,0,0,0,0,0,0,0,0,0,0,0,0,0,0,0,0,0,0,0,0,0,0,0,0,0,0,0,0] (sel (!(uV (aX (dE (aX (F24 p0) (F24 p0)) (bO 1)) (F28 (du (aX (di) (aX (F24 p0) (F24 p0))) (bO 1)))))) [0,0,0,0,0,0,0,0,0,0,0,0,0,0,0,0,0,0,0,0,0,0,0,0,0,0,0,0,0,0,0,0,0,0,0,0,0,0,0,0,0,0,0,0,0,0,0,0] (sel (((F35 (aX (dE (aX (F24 p0) (F24 p0)) (bO 1)) (F28 (du (aX (di) (aX (F24 p0) (F24 p0))) (bO 1))))):List Int)==(bO 0)) (sel (decide ((p0.getD 31 0:Int) ≥ 128)) [0,0,0,0,0,0,0,0,0,0,0,0,0,0,0,0,0,0,0,0,0,0,0,0,0,0,0,0,0,0,0,0,0,0,0,0,0,0,0,0,0,0,0,0,0,0,0,0] (ah (ah (ah [0,0,0,0,0,0,0,0,0,0,0,0,0,0,0,0,0,0,0,0,0,0,0,0,0,0,0,0,0,0,0,0,0,0,0,0,0,0,0,0,0,0,0,0,0,0,0,0] 0 (sel (!((((bx ((F35 (aX (dE (aX (F24 p0) (F24 p0)) (bO 1)) (F28 (du (aX (di) (aX (F24 p0) (F24 p0))) (bO 1))))).getD 0 0) 2):Int)==1)==(decide ((p0.getD 31 0:Int) ≥ 128)))) (dE (bO 0) (F35 (aX (dE (aX (F24 p0) (F24 p0)) (bO 1)) (F28 (du (aX (di) (aX (F24 p0) (F24 p0))) (bO 1)))))) (F35 (aX (dE (aX (F24 p0) (F24 p0)) (bO 1)) (F28 (du (aX (di) (aX (F24 p0) (F24 p0))) (bO 1))))))) 16 (F24 p0)) 32 (bO 1))) (ah (ah (ah [0,0,0,0,0,0,0,0,0,0,0,0,0,0,0,0,0,0,0,0,0,0,0,0,0,0,0,0,0,0,0,0,0,0,0,0,0,0,0,0,0,0,0,0,0,0,0,0] 0 (sel (!((((bx ((F35 (aX (dE (aX (F24 p0) (F24 p0)) (bO 1)) (F28 (du (aX (di) (aX (F24 p0) (F24 p0))) (bO 1))))).getD 0 0) 2):Int)==1)==(decide ((p0.getD 31 0:Int) ≥ 128)))) (dE (bO 0) (F35 (aX (dE (aX (F24 p0) (F24 p0)) (bO 1)) (F28 (du (aX (di) (aX (F24 p0) (F24 p0))) (bO 1)))))) (F35 (aX (dE (aX (F24 p0) (F24 p0)) (bO 1)) (F28 (du (aX (di) (aX (F24 p0) (F24 p0))) (bO 1))))))) 16 (F24 p0)) 32 (bO 1))))))
def iB (p0:List Int):Bool :=
 (sel ((((p0.length:Nat):Int):Int) != 32) false (sel (!(aB (aL (((sel (decide ((p0.getD 31 0:Int) ≥ 128)) ((F49 (F24 p0)).set 31 (aP .u8 ((F49 (F24 p0)).getD 31 0) 128)) (F49 (F24 p0))).drop 0).take 32)) (aL p0))) false (sel (!(uV (aX (dE (aX (F24 p0) (F24 p0)) (bO 1)) (F28 (du (aX (di) (aX (F24 p0) (F24 p0))) (bO 1)))))) false (sel (((F35 (aX (dE (aX (F24 p0) (F24 p0)) (bO 1)) (F28 (du (aX (di) (aX (F24 p0) (F24 p0))) (bO 1))))):List Int)==(bO 0)) (sel (decide ((p0.getD 31 0:Int) ≥ 128)) false true) true))))
def OA:List AV→List Blk→Option (Prop × Ret)
 |[.sc (.ro .u8 p0)],[]=>some (True,⟨.tup [.ints .i64 48 (ln p0),.sc (.b (iB p0))],[]⟩)
 |_,_=>none
def Ow:KL Tryz.prog gD:=Zv Eh 592 2 <|Zv Eh 1120 2 <|Zv qV 576 1 <|Zv qV 656 1 <|Zv qV 896 1 <|Zv qV 1088 1 <|Zv qV 1184 1 <|Zv Lp 608 0 <|Zv K28 688 1 <|Zv K49 176 1 <|Zv lg 512 2 <|Zv lg 640 2 <|Zv lg 704 2 <|Zc K24 112 [.ro .u8] [] [] <|Zv K35 720 1 <|Zv Ih 672 2 <|Zn
theorem NZ:Known Tryz.prog gD 86 ⟨0,0,OA⟩:=by
 refine Xw Tryz.f86 75 Ow mixed <|fun E args ks C r h hC hlen=>?_
 simp only at h
 unfold OA at h
 split at h
 rotate_left
 cases h
 rename_i p0
 cases h
 simp only [bU] at hlen
 refine ⟨rfl,?_⟩
 refine Xt [Ep 2 16] [] [Mk 16 .i64 48 [0,0,0,0,0,0,0,0,0,0,0,0,0,0,0,0,0,0,0,0,0,0,0,0,0,0,0,0,0,0,0,0,0,0,0,0,0,0,0,0,0,0,0,0,0,0,0,0]] [] 48 (v2 pT) <|Tri.seq <|Xs [Eb 12 ((((p0.length:Nat):Int):Int) != 32)] [] 96 (v3 pT) <|Xa (fun h1=>?_) (fun h1=>?_)
 have h1':=cM h1
 exact Xs [Eb 3 false] [12,0] 144 (v1 (pu (Yz 48) (v1 pT))) <|Tri.ret <|rt <|qo.conv (r':=⟨.tup [.ints .i64 48 [0,0,0,0,0,0,0,0,0,0,0,0,0,0,0,0,0,0,0,0,0,0,0,0,0,0,0,0,0,0,0,0,0,0,0,0,0,0,0,0,0,0,0,0,0,0,0,0],.sc (.b false)],[]⟩) (by simp only [ln,iB];try simp only [h1,aH,aD]) <|er [] (pa pT pz)
 have h1':=bW h1
 refine Tri.skip <|Xt [Ep 4 128] [12] [Mk 128 .i64 16 (F24 p0)] [] 160 (v1 (pu (pa pz (lo (p0.length=32))) (v1 (pu (Yz 16) pT)))) <|Xt [El 5 176 32] [] [Mi 176 32 (F49 (F24 p0))] [] 208 (v1 (pu pz (v1 pT))) <|Xs [Eb 6 (decide ((p0.getD 31 0:Int) ≥ 128))] [] 288 (v1 (pu (Yi 31 p0.length) (pu (Yl 31 p0.length) (v2 pT)))) <|Tri.seq <|Xs [Eb 22 (decide ((p0.getD 31 0:Int) ≥ 128))] [] 304 (v1 pT) <|Xj (x:=(decide ((p0.getD 31 0:Int) ≥ 128))) (fun bb=>[]) [22] (fun bb=>[Mi 176 32 (sel bb ((F49 (F24 p0)).set 31 (aP .u8 ((F49 (F24 p0)).getD 31 0) 128)) (F49 (F24 p0)))]) [176] 400 (fun h2=>?_) (fun h2=>?_) ?_
 have h2':=of_decide_eq_true h2
 exact Wt [] [22] [Mi 176 32 ((F49 (F24 p0)).set 31 (aP .u8 ((F49 (F24 p0)).getD 31 0) 128))] [176] 400 (v1 (pu (Yi 31 32) (pu (Yl 31 32) (v1 (pu (Yi 31 32) (pu (Ys 31 32) pT)))))) <|Xe [] [Mi 176 32 ((F49 (F24 p0)).set 31 (aP .u8 ((F49 (F24 p0)).getD 31 0) 128))]
 have h2':=of_decide_eq_false h2
 exact Tri.skip <|Xe [] [Mi 176 32 (F49 (F24 p0))]
 refine Tri.seq <|Xt [Eb 32 (!(aB (aL (((sel (decide ((p0.getD 31 0:Int) ≥ 128)) ((F49 (F24 p0)).set 31 (aP .u8 ((F49 (F24 p0)).getD 31 0) 128)) (F49 (F24 p0))).drop 0).take 32)) (aL p0)))] [5,0] [] [176] 480 (v1 (pu (Yw 32) (v3 pT))) <|Xa (fun h3=>?_) (fun h3=>?_)
 exact Xt [Eb 3 false] [32,6,4] [] [128] 528 (v1 (pu (Yz 48) (v1 pT))) <|Tri.ret <|rt <|qo.conv (r':=⟨.tup [.ints .i64 48 [0,0,0,0,0,0,0,0,0,0,0,0,0,0,0,0,0,0,0,0,0,0,0,0,0,0,0,0,0,0,0,0,0,0,0,0,0,0,0,0,0,0,0,0,0,0,0,0],.sc (.b false)],[]⟩) (by simp only [ln,iB];try simp only [h1,aH,aD];try simp only [h3,aH,aD]) <|er [] (pa pT pz)
 refine Tri.skip <|Xt [Ep 7 528] [32] [Mk 528 .i64 16 (aX (F24 p0) (F24 p0))] [] 560 (v2 (pu pz (v1 (pu (Yz 16) pT)))) <|Xu [] (some [0,0,3,7,0,31,63,127,255,511,1023,2047,4095,4095,0,24575,65535]) [Eb 9 (uV (aX (dE (aX (F24 p0) (F24 p0)) (bO 1)) (F28 (du (aX (di) (aX (F24 p0) (F24 p0))) (bO 1))))),Ep 8 784] [7] [Mk 784 .i64 16 (F35 (aX (dE (aX (F24 p0) (F24 p0)) (bO 1)) (F28 (du (aX (di) (aX (F24 p0) (F24 p0))) (bO 1)))))] [528] 832 (v1 (pu pz (pu pz (pu pz (v1 (pu pz (pu pz (pu pz (pu pz (pu pz (pu pz (v4 (pu (Yz 16) (v1 pT)))))))))))))) <|Tri.seq <|Tri.split (!(uV (aX (dE (aX (F24 p0) (F24 p0)) (bO 1)) (F28 (du (aX (di) (aX (F24 p0) (F24 p0))) (bO 1)))))) (fun h4=>?_) (fun h4=>?_)
 exact Xu [Eb 53 true] (some [0,1,3,7,7,31,63,127,255,511]) [Eb 60 true] [9] [] [] 992 (v2 (pg h4 (v7 pT))) <|Tri.cond_true (by kernel_rfl) <|Xt [Eb 3 false] [60,8,6,4] [] [784,128] 1040 (v1 (pu (Yz 48) (v1 pT))) <|Tri.ret <|rt <|qo.conv (r':=⟨.tup [.ints .i64 48 [0,0,0,0,0,0,0,0,0,0,0,0,0,0,0,0,0,0,0,0,0,0,0,0,0,0,0,0,0,0,0,0,0,0,0,0,0,0,0,0,0,0,0,0,0,0,0,0],.sc (.b false)],[]⟩) (by simp only [ln,iB];try simp only [h1,aH,aD];try simp only [h3,aH,aD];try simp only [h4,aH,aD]) <|er [] (pa pT pz)
 refine Tri.split (((F35 (aX (dE (aX (F24 p0) (F24 p0)) (bO 1)) (F28 (du (aX (di) (aX (F24 p0) (F24 p0))) (bO 1))))):List Int)==(bO 0)) (fun h5=>?_) (fun h5=>?_)
 refine Xu [Eb 53 false,Eb 57 true] (some [0,1,3,7,7,31,63,127,255,511]) [Eb 60 (decide ((p0.getD 31 0:Int) ≥ 128))] [9] [] [] 992 (v2 (pg h4 (v1 (pu pz (v1 (pg h5 (v3 pT))))))) <|Xb (fun h6 h6'=>?_) (fun h6 h6'=>?_)
 exact Xt [Eb 3 false] [60,8,6,4] [] [784,128] 1040 (v1 (pu (Yz 48) (v1 pT))) <|Tri.ret <|rt <|qo.conv (r':=⟨.tup [.ints .i64 48 [0,0,0,0,0,0,0,0,0,0,0,0,0,0,0,0,0,0,0,0,0,0,0,0,0,0,0,0,0,0,0,0,0,0,0,0,0,0,0,0,0,0,0,0,0,0,0,0],.sc (.b false)],[]⟩) (by simp only [ln,iB];try simp only [h1,aH,aD];try simp only [h3,aH,aD];try simp only [h4,aH,aD];try simp only [h5,aH,aD];try simp only [h6,aH,aD]) <|er [] (pa pT pz)
 refine Tri.skip <|Tri.seq <|Xs [Eb 67 (!((((bx ((F35 (aX (dE (aX (F24 p0) (F24 p0)) (bO 1)) (F28 (du (aX (di) (aX (F24 p0) (F24 p0))) (bO 1))))).getD 0 0) 2):Int)==1)==(decide ((p0.getD 31 0:Int) ≥ 128))))] [60,6] 1088 (pu (Yi 0 16) (pu (Yl 0 16) (pu (Yn 2) (v3 pT)))) <|Xj (x:=(!((((bx ((F35 (aX (dE (aX (F24 p0) (F24 p0)) (bO 1)) (F28 (du (aX (di) (aX (F24 p0) (F24 p0))) (bO 1))))).getD 0 0) 2):Int)==1)==(decide ((p0.getD 31 0:Int) ≥ 128))))) (fun bb=>[]) [67] (fun bb=>[Mk 784 .i64 16 (sel bb (dE (bO 0) (F35 (aX (dE (aX (F24 p0) (F24 p0)) (bO 1)) (F28 (du (aX (di) (aX (F24 p0) (F24 p0))) (bO 1)))))) (F35 (aX (dE (aX (F24 p0) (F24 p0)) (bO 1)) (F28 (du (aX (di) (aX (F24 p0) (F24 p0))) (bO 1))))))]) [784] 1152 (fun h7=>?_) (fun h7=>?_) ?_
 exact Wu [] (some [0,0,3,7]) [] [67] [Mk 784 .i64 16 (dE (bO 0) (F35 (aX (dE (aX (F24 p0) (F24 p0)) (bO 1)) (F28 (du (aX (di) (aX (F24 p0) (F24 p0))) (bO 1))))))] [784] 1152 (pu pz (v1 (pu pz (pu (Yz 16) pT)))) <|Xe [] [Mk 784 .i64 16 (dE (bO 0) (F35 (aX (dE (aX (F24 p0) (F24 p0)) (bO 1)) (F28 (du (aX (di) (aX (F24 p0) (F24 p0))) (bO 1))))))]
 exact Tri.skip <|Xe [] [Mk 784 .i64 16 (F35 (aX (dE (aX (F24 p0) (F24 p0)) (bO 1)) (F28 (du (aX (di) (aX (F24 p0) (F24 p0))) (bO 1)))))]
 exact Xu [] (some [0,0,0,7,15,31]) [Eb 3 true] [8,4] [Mk 16 .i64 48 (ah (ah (ah [0,0,0,0,0,0,0,0,0,0,0,0,0,0,0,0,0,0,0,0,0,0,0,0,0,0,0,0,0,0,0,0,0,0,0,0,0,0,0,0,0,0,0,0,0,0,0,0] 0 (sel (!((((bx ((F35 (aX (dE (aX (F24 p0) (F24 p0)) (bO 1)) (F28 (du (aX (di) (aX (F24 p0) (F24 p0))) (bO 1))))).getD 0 0) 2):Int)==1)==(decide ((p0.getD 31 0:Int) ≥ 128)))) (dE (bO 0) (F35 (aX (dE (aX (F24 p0) (F24 p0)) (bO 1)) (F28 (du (aX (di) (aX (F24 p0) (F24 p0))) (bO 1)))))) (F35 (aX (dE (aX (F24 p0) (F24 p0)) (bO 1)) (F28 (du (aX (di) (aX (F24 p0) (F24 p0))) (bO 1))))))) 16 (F24 p0)) 32 (bO 1))] [784,128,16] 1248 (v2 (pu pz (pu (pa (pa (Ye (0+16) 48) (Yr 16)) (pa (pa (Ye (16+16) 48) (Yr 16)) (pa (pa (Ye (32+16) 48) (Yr 16)) pT))) (pu (Yz 48) (v1 pT))))) <|Tri.ret <|rt <|qo.conv (r':=⟨.tup [.ints .i64 48 (ah (ah (ah [0,0,0,0,0,0,0,0,0,0,0,0,0,0,0,0,0,0,0,0,0,0,0,0,0,0,0,0,0,0,0,0,0,0,0,0,0,0,0,0,0,0,0,0,0,0,0,0] 0 (sel (!((((bx ((F35 (aX (dE (aX (F24 p0) (F24 p0)) (bO 1)) (F28 (du (aX (di) (aX (F24 p0) (F24 p0))) (bO 1))))).getD 0 0) 2):Int)==1)==(decide ((p0.getD 31 0:Int) ≥ 128)))) (dE (bO 0) (F35 (aX (dE (aX (F24 p0) (F24 p0)) (bO 1)) (F28 (du (aX (di) (aX (F24 p0) (F24 p0))) (bO 1)))))) (F35 (aX (dE (aX (F24 p0) (F24 p0)) (bO 1)) (F28 (du (aX (di) (aX (F24 p0) (F24 p0))) (bO 1))))))) 16 (F24 p0)) 32 (bO 1)),.sc (.b true)],[]⟩) (by simp only [ln,iB];try simp only [h1,aH,aD];try simp only [h3,aH,aD];try simp only [h4,aH,aD];try simp only [h5,aH,aD];try simp only [h6,aH,aD]) <|er [] (pa pT pz)
 refine Xu [Eb 53 false,Eb 57 false] (some [0,1,3,7,7,31,63,127,255,511]) [Eb 60 false] [9] [] [] 992 (v2 (pg h4 (v1 (pu pz (v1 (pg h5 (v3 pT))))))) <|Tri.cond_false (by kernel_rfl) <|Tri.skip <|Tri.seq <|Xs [Eb 67 (!((((bx ((F35 (aX (dE (aX (F24 p0) (F24 p0)) (bO 1)) (F28 (du (aX (di) (aX (F24 p0) (F24 p0))) (bO 1))))).getD 0 0) 2):Int)==1)==(decide ((p0.getD 31 0:Int) ≥ 128))))] [60,6] 1088 (pu (Yi 0 16) (pu (Yl 0 16) (pu (Yn 2) (v3 pT)))) <|Xj (x:=(!((((bx ((F35 (aX (dE (aX (F24 p0) (F24 p0)) (bO 1)) (F28 (du (aX (di) (aX (F24 p0) (F24 p0))) (bO 1))))).getD 0 0) 2):Int)==1)==(decide ((p0.getD 31 0:Int) ≥ 128))))) (fun bb=>[]) [67] (fun bb=>[Mk 784 .i64 16 (sel bb (dE (bO 0) (F35 (aX (dE (aX (F24 p0) (F24 p0)) (bO 1)) (F28 (du (aX (di) (aX (F24 p0) (F24 p0))) (bO 1)))))) (F35 (aX (dE (aX (F24 p0) (F24 p0)) (bO 1)) (F28 (du (aX (di) (aX (F24 p0) (F24 p0))) (bO 1))))))]) [784] 1152 (fun h8=>?_) (fun h8=>?_) ?_
 exact Wu [] (some [0,0,3,7]) [] [67] [Mk 784 .i64 16 (dE (bO 0) (F35 (aX (dE (aX (F24 p0) (F24 p0)) (bO 1)) (F28 (du (aX (di) (aX (F24 p0) (F24 p0))) (bO 1))))))] [784] 1152 (pu pz (v1 (pu pz (pu (Yz 16) pT)))) <|Xe [] [Mk 784 .i64 16 (dE (bO 0) (F35 (aX (dE (aX (F24 p0) (F24 p0)) (bO 1)) (F28 (du (aX (di) (aX (F24 p0) (F24 p0))) (bO 1))))))]
 exact Tri.skip <|Xe [] [Mk 784 .i64 16 (F35 (aX (dE (aX (F24 p0) (F24 p0)) (bO 1)) (F28 (du (aX (di) (aX (F24 p0) (F24 p0))) (bO 1)))))]
 exact Xu [] (some [0,0,0,7,15,31]) [Eb 3 true] [8,4] [Mk 16 .i64 48 (ah (ah (ah [0,0,0,0,0,0,0,0,0,0,0,0,0,0,0,0,0,0,0,0,0,0,0,0,0,0,0,0,0,0,0,0,0,0,0,0,0,0,0,0,0,0,0,0,0,0,0,0] 0 (sel (!((((bx ((F35 (aX (dE (aX (F24 p0) (F24 p0)) (bO 1)) (F28 (du (aX (di) (aX (F24 p0) (F24 p0))) (bO 1))))).getD 0 0) 2):Int)==1)==(decide ((p0.getD 31 0:Int) ≥ 128)))) (dE (bO 0) (F35 (aX (dE (aX (F24 p0) (F24 p0)) (bO 1)) (F28 (du (aX (di) (aX (F24 p0) (F24 p0))) (bO 1)))))) (F35 (aX (dE (aX (F24 p0) (F24 p0)) (bO 1)) (F28 (du (aX (di) (aX (F24 p0) (F24 p0))) (bO 1))))))) 16 (F24 p0)) 32 (bO 1))] [784,128,16] 1248 (v2 (pu pz (pu (pa (pa (Ye (0+16) 48) (Yr 16)) (pa (pa (Ye (16+16) 48) (Yr 16)) (pa (pa (Ye (32+16) 48) (Yr 16)) pT))) (pu (Yz 48) (v1 pT))))) <|Tri.ret <|rt <|qo.conv (r':=⟨.tup [.ints .i64 48 (ah (ah (ah [0,0,0,0,0,0,0,0,0,0,0,0,0,0,0,0,0,0,0,0,0,0,0,0,0,0,0,0,0,0,0,0,0,0,0,0,0,0,0,0,0,0,0,0,0,0,0,0] 0 (sel (!((((bx ((F35 (aX (dE (aX (F24 p0) (F24 p0)) (bO 1)) (F28 (du (aX (di) (aX (F24 p0) (F24 p0))) (bO 1))))).getD 0 0) 2):Int)==1)==(decide ((p0.getD 31 0:Int) ≥ 128)))) (dE (bO 0) (F35 (aX (dE (aX (F24 p0) (F24 p0)) (bO 1)) (F28 (du (aX (di) (aX (F24 p0) (F24 p0))) (bO 1)))))) (F35 (aX (dE (aX (F24 p0) (F24 p0)) (bO 1)) (F28 (du (aX (di) (aX (F24 p0) (F24 p0))) (bO 1))))))) 16 (F24 p0)) 32 (bO 1)),.sc (.b true)],[]⟩) (by simp only [ln,iB];try simp only [h1,aH,aD];try simp only [h3,aH,aD];try simp only [h4,aH,aD];try simp only [h5,aH,aD]) <|er [] (pa pT pz)
theorem BB {p0:List Int} (h:(!(iB p0))=false):p0.length=32:=by
 unfold iB at h
 cases hb:((((p0.length:Nat):Int):Int) != 32)
 ·have:=bW hb
  omega
 ·rw [hb,aH] at h
  cases h
def yS:List Int :=
 (ln (aC (F49 (aX (bO 4) (F28 (bO 5)))) 32 0 32))
def NT:List AV→List Blk→Option (Prop × Ret)
 |[],[]=>some (True,⟨.ints .i64 48 (yS),[]⟩)
 |_,_=>none
theorem Nc:Known Tryz.prog gD 58 ⟨0,0,NT⟩:=by
 refine Xw Tryz.f58 13 (Zc NZ 112 [.ro .u8] [96] [] <|Zv qV 32 1 <|Zv qV 48 1 <|Zv K28 64 1 <|Zv K49 96 1 <|Zv lg 80 2 <|Zn) mixed <|fun E args ks C r h hC hlen=>?_
 simp only at h
 unfold NT at h
 split at h
 rotate_left
 cases h
 cases h
 simp only [bU] at hlen
 refine ⟨rfl,?_⟩
 exact Xt [Ep 0 16] [] [Mk 16 .i64 48 [0,0,0,0,0,0,0,0,0,0,0,0,0,0,0,0,0,0,0,0,0,0,0,0,0,0,0,0,0,0,0,0,0,0,0,0,0,0,0,0,0,0,0,0,0,0,0,0]] [] 32 (v1 pT) <|Xt [Ep 1 176] [] [Mk 176 .i64 48 (ln (aC (F49 (aX (bO 4) (F28 (bO 5)))) 32 0 32))] [] 224 (pu pz (pu pz (pu pz (pu pz (pu pz (pu (pa (pa (Yw 32) pT) pT) (v4 (pu (Yz 48) (v1 pT))))))))) <|Tri.len 176 rfl <|fun hl1=>Xt [] [1] [Mk 16 .i64 48 (ln (aC (F49 (aX (bO 4) (F28 (bO 5)))) 32 0 32))] [176,16] 256 (v1 (pu (Yz 48) pT)) <|Xz [] pz
def Ob:List AV→List Blk→Option (Prop × Ret)
 |[],[]=>some (True,⟨.sc (.sl 0 0 32 1 none),[some (.ints .u8 32 [237,211,245,92,26,99,18,88,214,156,247,162,222,249,222,20,0,0,0,0,0,0,0,0,0,0,0,0,0,0,0,16])]⟩)
 |_,_=>none
theorem Nr:Known Tryz.prog gD 88 ⟨0,1,Ob⟩:=by
 refine Xw Tryz.f88 2 Zn mixed <|fun E args ks C r h hC hlen=>?_
 simp only at h
 unfold Ob at h
 split at h
 rotate_left
 cases h
 cases h
 simp only [bU] at hlen
 refine ⟨rfl,?_⟩
 exact Xs [] [] 32 (v1 pT) <|Xt [El 0 32 32] [] [Mi 32 32 [237,211,245,92,26,99,18,88,214,156,247,162,222,249,222,20,0,0,0,0,0,0,0,0,0,0,0,0,0,0,0,16]] [] 64 (pu (Yf 32) (v1 pT)) <|Xz [(32,0)] pz
def KO (k0:Nat) (z0:Unit):Unit :=
 ()
def dK (p0:List Int) (p1:List Int) (k0:Nat):Bool :=
 (sel ((p0.getD (32-1-k0) 0:Int) != p1.getD (32-1-k0) 0) true false)
def zO (p0:List Int) (p1:List Int):Bool :=
 (sel (Nat.blt (cv (dK p0 p1) 32) 32) (decide ((p0.getD (32-1-(cv (dK p0 p1) 32)) 0:Int)<p1.getD (32-1-(cv (dK p0 p1) 32)) 0)) false)
def OQ:List AV→List Blk→Option (Prop × Ret)
 |[.sc (.ro .u8 p0),.sc (.ro .u8 p1)],[]=>some ((p0.length=32∧p1.length=32),⟨.sc (.b (zO p0 p1)),[]⟩)
 |_,_=>none
theorem Ot:Known Tryz.prog gD 87 ⟨0,0,OQ⟩:=by
 refine Xw Tryz.f87 28 Zn mixed <|fun E args ks C r h hC hlen=>?_
 simp only at h
 unfold OQ at h
 split at h
 rotate_left
 cases h
 rename_i p0 p1
 cases h
 simp only [bU] at hlen
 refine ⟨rfl,?_⟩
 refine Xs [] [] 32 (v1 pT) <|Tri.seq <|Xs [Ei 5 31] [] 48 (v1 pT) <|Tri.block <|Xc 32 (KO) (()) (fun k0 z0=>(∀ j,j<k0→(dK p0 p1) j=false)) (fun k0 z0=>[Ei 5 (((32:Nat):Int)-1-((k0:Nat):Int))]) (fun k0 z0=>[]) (fun j hj=>absurd hj (Nat.not_lt_zero j)) <|fun k0 z0 hk0 hz0 hJ0=>Tri.seq <|Xs [Eb 7 (decide (((((32:Nat):Int)-1-((k0:Nat):Int)):Int) ≥ 0))] [] 80 (v2 pT) <|Xb (fun h1 h1'=>?_) (fun h1 h1'=>?_)
 refine Tri.skip <|Tri.seq <|Tri.block <|Xu [Ej 11 (32-1-k0),Ej 15 (32-1-k0)] (some [0,0,3,7,0,0,48,112,255]) [Eb 18 ((p0.getD (32-1-k0) 0:Int) != p1.getD (32-1-k0) 0)] [7] [] [] 224 (v1 (pv pT (pl (show (((32:Nat):Int)-1-((k0:Nat):Int))=((32-1-k0:Nat):Int) from ij (by omega))) (pu (Yj (32-1-k0) p0.length) (pu (Yl (32-1-k0) p0.length) (v1 (pv pT (pl (show (((32:Nat):Int)-1-((k0:Nat):Int))=((32-1-k0:Nat):Int) from ij (by omega))) (pu (Yj (32-1-k0) p1.length) (pu (Yl (32-1-k0) p1.length) (v1 pT))))))))) <|Xa (fun h2=>?_) (fun h2=>?_)
 have h2':=cM h2
 refine Xu [Ej 20 (32-1-k0),Ej 24 (32-1-k0)] (some [0,0,3,7,0,0,48,112,255,511]) [Eb 4 (decide ((p0.getD (32-1-k0) 0:Int)<p1.getD (32-1-k0) 0))] [18,5,0,1] [] [] 384 (v1 (pv pT (pl (show (((32:Nat):Int)-1-((k0:Nat):Int))=((32-1-k0:Nat):Int) from ij (by omega))) (pu (Yj (32-1-k0) p0.length) (pu (Yl (32-1-k0) p0.length) (v1 (pv pT (pl (show (((32:Nat):Int)-1-((k0:Nat):Int))=((32-1-k0:Nat):Int) from ij (by omega))) (pu (Yj (32-1-k0) p1.length) (pu (Yl (32-1-k0) p1.length) (v2 pT))))))))) <|?_
 subst hz0
 have hf0:cv (dK p0 p1) 32=k0:=fW (by omega) hJ0 (by simp only [dK,h1,h2,aH,aD])
 have hb0:Nat.blt k0 32=true:=fZ (by omega)
 have hq0:Nat.blt (cv (dK p0 p1) 32) 32=true:=by rw [hf0];exact hb0
 exact Xy [] pz (by simp only [zO,hq0,hf0,hb0,aH,aD] <;> rfl)
 have h2':=bW h2
 exact Tri.skip <|Wu [Ei 9 (((32:Nat):Int)-1-((k0+1:Nat):Int))] none [Ei 5 (((32:Nat):Int)-1-((k0+1:Nat):Int))] [18,5] [] [] 272 (v1 (pv pT (pl (show (am .i64 (((32:Nat):Int)-1-((k0:Nat):Int)) 1)=(((32:Nat):Int)-1-((k0+1:Nat):Int)) from jt (by omega) (by omega))) (v1 pT))) <|Xo [] (iO hJ0 (by subst hz0;simp only [dK,h1,h2,aH,aD]))
 refine Tri.exit <|?_
 obtain rfl:k0=32:=(by omega);subst hz0
 have hf0:cv (dK p0 p1) 32=32:=jK hJ0
 have hb0:Nat.blt 32 32=false:=kc _
 have hq0:Nat.blt (cv (dK p0 p1) 32) 32=false:=by rw [hf0];exact hb0
 exact Xs [Eb 4 false] [7,5,0,1] 96 (v1 pT) <|Xy [] pz (by simp only [zO,hq0,hf0,hb0,aH,aD] <;> rfl)
end Go.Vm
namespace Go.Vm
open Go Go.Proofs
def ce (k2:Nat) (z2:Int × List Int):Int × List Int :=
 ((jl .i64 (aP .i64 (bh .i64 2 (z2.2.getD k2 0)) z2.1) 256),z2.2.set k2 (bx (aP .i64 (bh .i64 2 (z2.2.getD k2 0)) z2.1) 256))
def oR (p0:List Int) (k0:Nat) (k1:Nat) (z1:Nat × List Int) (k3:Nat) (z3:Int × List Int):Int × List Int :=
 ((sel (decide (((sel (decide ((((k3:Nat):Int):Int)<32)) (am .i64 (am .i64 (((itr (ce) 33 ((bx (ag .i64 (IntKind.wrap .i64 (p0.getD (p0.length-1-k0) 0)) (((8:Nat):Int)-1-((k1:Nat):Int))) 2),z1.2)).2).getD k3 0) z3.1) (IntKind.wrap .i64 ([237,211,245,92,26,99,18,88,214,156,247,162,222,249,222,20,0,0,0,0,0,0,0,0,0,0,0,0,0,0,0,16].getD k3 0))) (am .i64 (((itr (ce) 33 ((bx (ag .i64 (IntKind.wrap .i64 (p0.getD (p0.length-1-k0) 0)) (((8:Nat):Int)-1-((k1:Nat):Int))) 2),z1.2)).2).getD k3 0) z3.1)):Int)<0)) 1 0),z3.2.set k3 (sel (decide (((sel (decide ((((k3:Nat):Int):Int)<32)) (am .i64 (am .i64 (((itr (ce) 33 ((bx (ag .i64 (IntKind.wrap .i64 (p0.getD (p0.length-1-k0) 0)) (((8:Nat):Int)-1-((k1:Nat):Int))) 2),z1.2)).2).getD k3 0) z3.1) (IntKind.wrap .i64 ([237,211,245,92,26,99,18,88,214,156,247,162,222,249,222,20,0,0,0,0,0,0,0,0,0,0,0,0,0,0,0,16].getD k3 0))) (am .i64 (((itr (ce) 33 ((bx (ag .i64 (IntKind.wrap .i64 (p0.getD (p0.length-1-k0) 0)) (((8:Nat):Int)-1-((k1:Nat):Int))) 2),z1.2)).2).getD k3 0) z3.1)):Int)<0)) (aP .i64 (sel (decide ((((k3:Nat):Int):Int)<32)) (am .i64 (am .i64 (((itr (ce) 33 ((bx (ag .i64 (IntKind.wrap .i64 (p0.getD (p0.length-1-k0) 0)) (((8:Nat):Int)-1-((k1:Nat):Int))) 2),z1.2)).2).getD k3 0) z3.1) (IntKind.wrap .i64 ([237,211,245,92,26,99,18,88,214,156,247,162,222,249,222,20,0,0,0,0,0,0,0,0,0,0,0,0,0,0,0,16].getD k3 0))) (am .i64 (((itr (ce) 33 ((bx (ag .i64 (IntKind.wrap .i64 (p0.getD (p0.length-1-k0) 0)) (((8:Nat):Int)-1-((k1:Nat):Int))) 2),z1.2)).2).getD k3 0) z3.1)) 256) (sel (decide ((((k3:Nat):Int):Int)<32)) (am .i64 (am .i64 (((itr (ce) 33 ((bx (ag .i64 (IntKind.wrap .i64 (p0.getD (p0.length-1-k0) 0)) (((8:Nat):Int)-1-((k1:Nat):Int))) 2),z1.2)).2).getD k3 0) z3.1) (IntKind.wrap .i64 ([237,211,245,92,26,99,18,88,214,156,247,162,222,249,222,20,0,0,0,0,0,0,0,0,0,0,0,0,0,0,0,16].getD k3 0))) (am .i64 (((itr (ce) 33 ((bx (ag .i64 (IntKind.wrap .i64 (p0.getD (p0.length-1-k0) 0)) (((8:Nat):Int)-1-((k1:Nat):Int))) 2),z1.2)).2).getD k3 0) z3.1))))
def kY (p0:List Int) (k0:Nat) (k1:Nat) (z1:Nat × List Int):Nat × List Int :=
 ((sel (((itr (oR p0 k0 k1 z1) 33 (0,List.replicate 33 0)).1:Int)==0) 33 z1.1),(sel (((itr (oR p0 k0 k1 z1) 33 (0,List.replicate 33 0)).1:Int)==0) ((itr (oR p0 k0 k1 z1) 33 (0,List.replicate 33 0)).2) ((itr (ce) 33 ((bx (ag .i64 (IntKind.wrap .i64 (p0.getD (p0.length-1-k0) 0)) (((8:Nat):Int)-1-((k1:Nat):Int))) 2),z1.2)).2)))
def nE (p0:List Int) (k0:Nat) (z0:Nat × List Int):Nat × List Int :=
 ((itr (kY p0 k0) 8 (z0.1,z0.2)).1,(itr (kY p0 k0) 8 (z0.1,z0.2)).2)
def qM (p0:List Int) (k4:Nat) (z4:List Int):List Int :=
 z4.set k4 (IntKind.wrap .u8 (((itr (nE p0) p0.length (33,List.replicate 33 0)).2).getD k4 0))
def zo (p0:List Int):List Int :=
 (itr (qM p0) 32 (List.replicate 32 0))
def OJ:List AV→List Blk→Option (Prop × Ret)
 |[.sc (.ro .u8 p0)],[]=>some ((p0.length≤1000),⟨.sc (.sl 0 0 32 1 none),[some (.ints .u8 32 (zo p0))]⟩)
 |_,_=>none
theorem Ph:Known Tryz.prog gD 72 ⟨0,1,OJ⟩:=by
 refine Xw Tryz.f72 100 (Zv Nr 64 0 <|Zn) mixed <|fun E args ks C r h hC hlen=>?_
 simp only at h
 unfold OJ at h
 split at h
 rotate_left
 cases h
 rename_i p0
 cases h
 simp only [bU] at hlen
 refine ⟨rfl,?_⟩
 refine Xs [] [] 32 (v1 pT) <|Xt [El 3 32 33] [] [Mk 32 .i64 33 (List.replicate 33 0)] [] 64 (pu (pa (lo ((0:Int)≤33∧(33:Int)=33)) (pa (lo (33≤(140737488355328:Int))) (lo (((8:Nat):Int)*33≤281474976710656)))) (v1 pT)) <|Xt [El 4 64 32] [] [Mi 64 32 [237,211,245,92,26,99,18,88,214,156,247,162,222,249,222,20,0,0,0,0,0,0,0,0,0,0,0,0,0,0,0,16]] [] 96 (pu pz (v1 pT)) <|Tri.seq <|Xu [Ei 20 (((p0.length:Nat):Int)-1-((0:Nat):Int))] none [Ei 5 (((p0.length:Nat):Int)-1-((0:Nat):Int))] [] [] [] 160 (v2 (pv pT (pl (show (am .i64 ((p0.length:Nat):Int) 1)=(((p0.length:Nat):Int)-1-((0:Nat):Int)) from mg (by omega))) (v1 pT))) <|Tri.block <|Xc p0.length (nE p0) (33,List.replicate 33 0) (fun k0 z0=>z0.1=33) (fun k0 z0=>[Ei 5 (((p0.length:Nat):Int)-1-((k0:Nat):Int)),El 3 32 z0.1]) (fun k0 z0=>[Mk 32 .i64 z0.1 z0.2]) rfl <|fun k0 z0 hk0 hz0 hJ0=>Tri.seq <|Xs [Eb 22 (decide (((((p0.length:Nat):Int)-1-((k0:Nat):Int)):Int) ≥ 0))] [] 192 (v2 pT) <|Xb (fun h1 h1'=>?_) (fun h1 h1'=>?_)
 refine Tri.skip <|Tri.seq <|Tri.block <|Xs [Ei 6 7] [22] 208 (v1 pT) <|Tri.block <|Xc 8 (kY p0 k0) (z0.1,z0.2) (fun k1 z1=>z1.1=33) (fun k1 z1=>[Ei 6 (((8:Nat):Int)-1-((k1:Nat):Int)),El 3 32 z1.1]) (fun k1 z1=>[Mk 32 .i64 z1.1 z1.2]) hJ0 <|fun k1 z1 hk1 hz1 hJ1=>Tri.seq <|Xs [Eb 26 (decide (((((8:Nat):Int)-1-((k1:Nat):Int)):Int) ≥ 0))] [] 240 (v2 pT) <|Xb (fun h2 h2'=>?_) (fun h2 h2'=>?_)
 refine Tri.skip <|Tri.seq <|Tri.block <|Xu [Ej 30 (p0.length-1-k0)] none [Ei 7 (bx (ag .i64 (IntKind.wrap .i64 (p0.getD (p0.length-1-k0) 0)) (((8:Nat):Int)-1-((k1:Nat):Int))) 2)] [26] [] [] 384 (v1 (pv pT (pl (show (((p0.length:Nat):Int)-1-((k0:Nat):Int))=((p0.length-1-k0:Nat):Int) from ij (by omega))) (pu (Yj (p0.length-1-k0) p0.length) (pu (Yl (p0.length-1-k0) p0.length) (v2 (pu (Y0 (((8:Nat):Int)-1-((k1:Nat):Int))) (pu (Yn 2) (v1 pT)))))))) <|Tri.seq <|Xs [Ei 8 0] [] 400 (v1 pT) <|Tri.block <|Xc 33 (ce) ((bx (ag .i64 (IntKind.wrap .i64 (p0.getD (p0.length-1-k0) 0)) (((8:Nat):Int)-1-((k1:Nat):Int))) 2),z1.2) (fun k2 z2=>True) (fun k2 z2=>[Ej 8 k2,Ei 7 z2.1]) (fun k2 z2=>[Mk 32 .i64 z1.1 z2.2]) trivial <|fun k2 z2 hk2 hz2 hJ2=>Tri.seq <|Xs [Eb 38 (decide ((((k2:Nat):Int):Int)<33))] [] 432 (v2 pT) <|Xb (fun h3 h3'=>?_) (fun h3 h3'=>?_)
 exact Tri.skip <|Tri.seq <|Tri.block <|Xs [Ei 9 (aP .i64 (bh .i64 2 (z2.2.getD k2 0)) z2.1)] [38,7] 560 (v2 (pu (Yj k2 z1.1) (pu (Yl k2 z1.1) (v4 pT)))) <|Xt [] [] [Mk 32 .i64 z1.1 (z2.2.set k2 (bx (aP .i64 (bh .i64 2 (z2.2.getD k2 0)) z2.1) 256))] [32] 656 (v3 (pu (Yn 256) (pu (Yj k2 z1.1) (pu (Ys k2 z1.1) pT)))) <|Ws [Ei 7 (jl .i64 (aP .i64 (bh .i64 2 (z2.2.getD k2 0)) z2.1) 256)] [9] 704 (v1 (pu (Yn 256) (v1 pT))) <|Wu [Ej 40 (k2+1)] none [Ej 8 (k2+1)] [8] [] [] 752 (v1 (pv pT (Yp k2 1) (v1 pT))) <|Xo [] trivial
 refine Tri.exit <|?_
 obtain rfl:k2=33:=(by omega);subst hz2
 refine Xt [El 10 432 33] [38,8,7] [Mk 432 .i64 33 (List.replicate 33 0)] [] 464 (pu (pa (lo ((0:Int)≤33∧(33:Int)=33)) (pa (lo (33≤(140737488355328:Int))) (lo (((8:Nat):Int)*33≤281474976710656)))) (v1 pT)) <|Xs [Ei 11 0] [] 480 (v1 pT) <|Tri.seq <|Xs [Ei 12 0] [] 496 (v1 pT) <|Tri.block <|Xc 33 (oR p0 k0 k1 z1) (0,List.replicate 33 0) (fun k3 z3=>True) (fun k3 z3=>[Ej 12 k3,Ei 11 z3.1]) (fun k3 z3=>[Mk 432 .i64 33 z3.2]) trivial <|fun k3 z3 hk3 hz3 hJ3=>Tri.seq <|Xs [Eb 57 (decide ((((k3:Nat):Int):Int)<33))] [] 528 (v2 pT) <|Xb (fun h4 h4'=>?_) (fun h4 h4'=>?_)
 refine Tri.skip <|Tri.seq <|Tri.block <|Xs [Ei 13 (am .i64 (((itr (ce) 33 ((bx (ag .i64 (IntKind.wrap .i64 (p0.getD (p0.length-1-k0) 0)) (((8:Nat):Int)-1-((k1:Nat):Int))) 2),z1.2)).2).getD k3 0) z3.1)] [57,11] 640 (v2 (pu (Yj k3 z1.1) (pu (Yl k3 z1.1) (v3 pT)))) <|Tri.seq <|Xs [Eb 67 (decide ((((k3:Nat):Int):Int)<32))] [] 672 (v2 pT) <|Xj (x:=(decide ((((k3:Nat):Int):Int)<32))) (fun bb=>[Ei 13 (sel bb (am .i64 (am .i64 (((itr (ce) 33 ((bx (ag .i64 (IntKind.wrap .i64 (p0.getD (p0.length-1-k0) 0)) (((8:Nat):Int)-1-((k1:Nat):Int))) 2),z1.2)).2).getD k3 0) z3.1) (IntKind.wrap .i64 ([237,211,245,92,26,99,18,88,214,156,247,162,222,249,222,20,0,0,0,0,0,0,0,0,0,0,0,0,0,0,0,16].getD k3 0))) (am .i64 (((itr (ce) 33 ((bx (ag .i64 (IntKind.wrap .i64 (p0.getD (p0.length-1-k0) 0)) (((8:Nat):Int)-1-((k1:Nat):Int))) 2),z1.2)).2).getD k3 0) z3.1))]) [67,13] (fun bb=>[]) [] 800 (fun h5=>?_) (fun h5=>?_) ?_
 have h5':=of_decide_eq_true h5
 exact Ws [Ei 13 (am .i64 (am .i64 (((itr (ce) 33 ((bx (ag .i64 (IntKind.wrap .i64 (p0.getD (p0.length-1-k0) 0)) (((8:Nat):Int)-1-((k1:Nat):Int))) 2),z1.2)).2).getD k3 0) z3.1) (IntKind.wrap .i64 ([237,211,245,92,26,99,18,88,214,156,247,162,222,249,222,20,0,0,0,0,0,0,0,0,0,0,0,0,0,0,0,16].getD k3 0)))] [67,13] 800 (v3 (pu (Yj k3 32) (pu (Yl k3 32) (v3 pT)))) <|Xe [Ei 13 (am .i64 (am .i64 (((itr (ce) 33 ((bx (ag .i64 (IntKind.wrap .i64 (p0.getD (p0.length-1-k0) 0)) (((8:Nat):Int)-1-((k1:Nat):Int))) 2),z1.2)).2).getD k3 0) z3.1) (IntKind.wrap .i64 ([237,211,245,92,26,99,18,88,214,156,247,162,222,249,222,20,0,0,0,0,0,0,0,0,0,0,0,0,0,0,0,16].getD k3 0)))] []
 have h5':=of_decide_eq_false h5
 exact Tri.skip <|Xe [Ei 13 (am .i64 (((itr (ce) 33 ((bx (ag .i64 (IntKind.wrap .i64 (p0.getD (p0.length-1-k0) 0)) (((8:Nat):Int)-1-((k1:Nat):Int))) 2),z1.2)).2).getD k3 0) z3.1)] []
 refine Xs [Ei 11 0] [] 816 (v1 pT) <|Tri.seq <|Xs [Eb 76 (decide (((sel (decide ((((k3:Nat):Int):Int)<32)) (am .i64 (am .i64 (((itr (ce) 33 ((bx (ag .i64 (IntKind.wrap .i64 (p0.getD (p0.length-1-k0) 0)) (((8:Nat):Int)-1-((k1:Nat):Int))) 2),z1.2)).2).getD k3 0) z3.1) (IntKind.wrap .i64 ([237,211,245,92,26,99,18,88,214,156,247,162,222,249,222,20,0,0,0,0,0,0,0,0,0,0,0,0,0,0,0,16].getD k3 0))) (am .i64 (((itr (ce) 33 ((bx (ag .i64 (IntKind.wrap .i64 (p0.getD (p0.length-1-k0) 0)) (((8:Nat):Int)-1-((k1:Nat):Int))) 2),z1.2)).2).getD k3 0) z3.1)):Int)<0))] [] 848 (v2 pT) <|Xj (x:=(decide (((sel (decide ((((k3:Nat):Int):Int)<32)) (am .i64 (am .i64 (((itr (ce) 33 ((bx (ag .i64 (IntKind.wrap .i64 (p0.getD (p0.length-1-k0) 0)) (((8:Nat):Int)-1-((k1:Nat):Int))) 2),z1.2)).2).getD k3 0) z3.1) (IntKind.wrap .i64 ([237,211,245,92,26,99,18,88,214,156,247,162,222,249,222,20,0,0,0,0,0,0,0,0,0,0,0,0,0,0,0,16].getD k3 0))) (am .i64 (((itr (ce) 33 ((bx (ag .i64 (IntKind.wrap .i64 (p0.getD (p0.length-1-k0) 0)) (((8:Nat):Int)-1-((k1:Nat):Int))) 2),z1.2)).2).getD k3 0) z3.1)):Int)<0))) (fun bb=>[Ei 11 (sel bb 1 0),Ei 13 (sel bb (aP .i64 (sel (decide ((((k3:Nat):Int):Int)<32)) (am .i64 (am .i64 (((itr (ce) 33 ((bx (ag .i64 (IntKind.wrap .i64 (p0.getD (p0.length-1-k0) 0)) (((8:Nat):Int)-1-((k1:Nat):Int))) 2),z1.2)).2).getD k3 0) z3.1) (IntKind.wrap .i64 ([237,211,245,92,26,99,18,88,214,156,247,162,222,249,222,20,0,0,0,0,0,0,0,0,0,0,0,0,0,0,0,16].getD k3 0))) (am .i64 (((itr (ce) 33 ((bx (ag .i64 (IntKind.wrap .i64 (p0.getD (p0.length-1-k0) 0)) (((8:Nat):Int)-1-((k1:Nat):Int))) 2),z1.2)).2).getD k3 0) z3.1)) 256) (sel (decide ((((k3:Nat):Int):Int)<32)) (am .i64 (am .i64 (((itr (ce) 33 ((bx (ag .i64 (IntKind.wrap .i64 (p0.getD (p0.length-1-k0) 0)) (((8:Nat):Int)-1-((k1:Nat):Int))) 2),z1.2)).2).getD k3 0) z3.1) (IntKind.wrap .i64 ([237,211,245,92,26,99,18,88,214,156,247,162,222,249,222,20,0,0,0,0,0,0,0,0,0,0,0,0,0,0,0,16].getD k3 0))) (am .i64 (((itr (ce) 33 ((bx (ag .i64 (IntKind.wrap .i64 (p0.getD (p0.length-1-k0) 0)) (((8:Nat):Int)-1-((k1:Nat):Int))) 2),z1.2)).2).getD k3 0) z3.1)))]) [76,11,13] (fun bb=>[]) [] 912 (fun h6=>?_) (fun h6=>?_) ?_
 have h6':=of_decide_eq_true h6
 exact Xs [Ei 13 (aP .i64 (sel (decide ((((k3:Nat):Int):Int)<32)) (am .i64 (am .i64 (((itr (ce) 33 ((bx (ag .i64 (IntKind.wrap .i64 (p0.getD (p0.length-1-k0) 0)) (((8:Nat):Int)-1-((k1:Nat):Int))) 2),z1.2)).2).getD k3 0) z3.1) (IntKind.wrap .i64 ([237,211,245,92,26,99,18,88,214,156,247,162,222,249,222,20,0,0,0,0,0,0,0,0,0,0,0,0,0,0,0,16].getD k3 0))) (am .i64 (((itr (ce) 33 ((bx (ag .i64 (IntKind.wrap .i64 (p0.getD (p0.length-1-k0) 0)) (((8:Nat):Int)-1-((k1:Nat):Int))) 2),z1.2)).2).getD k3 0) z3.1)) 256)] [76,11,13] 896 (v3 pT) <|Ws [Ei 11 1] [] 912 (v1 pT) <|Xe [Ei 11 1,Ei 13 (aP .i64 (sel (decide ((((k3:Nat):Int):Int)<32)) (am .i64 (am .i64 (((itr (ce) 33 ((bx (ag .i64 (IntKind.wrap .i64 (p0.getD (p0.length-1-k0) 0)) (((8:Nat):Int)-1-((k1:Nat):Int))) 2),z1.2)).2).getD k3 0) z3.1) (IntKind.wrap .i64 ([237,211,245,92,26,99,18,88,214,156,247,162,222,249,222,20,0,0,0,0,0,0,0,0,0,0,0,0,0,0,0,16].getD k3 0))) (am .i64 (((itr (ce) 33 ((bx (ag .i64 (IntKind.wrap .i64 (p0.getD (p0.length-1-k0) 0)) (((8:Nat):Int)-1-((k1:Nat):Int))) 2),z1.2)).2).getD k3 0) z3.1)) 256)] []
 have h6':=of_decide_eq_false h6
 exact Tri.skip <|Xe [Ei 11 0,Ei 13 (sel (decide ((((k3:Nat):Int):Int)<32)) (am .i64 (am .i64 (((itr (ce) 33 ((bx (ag .i64 (IntKind.wrap .i64 (p0.getD (p0.length-1-k0) 0)) (((8:Nat):Int)-1-((k1:Nat):Int))) 2),z1.2)).2).getD k3 0) z3.1) (IntKind.wrap .i64 ([237,211,245,92,26,99,18,88,214,156,247,162,222,249,222,20,0,0,0,0,0,0,0,0,0,0,0,0,0,0,0,16].getD k3 0))) (am .i64 (((itr (ce) 33 ((bx (ag .i64 (IntKind.wrap .i64 (p0.getD (p0.length-1-k0) 0)) (((8:Nat):Int)-1-((k1:Nat):Int))) 2),z1.2)).2).getD k3 0) z3.1))] []
 exact Wt [] [13] [Mk 432 .i64 33 (z3.2.set k3 (sel (decide (((sel (decide ((((k3:Nat):Int):Int)<32)) (am .i64 (am .i64 (((itr (ce) 33 ((bx (ag .i64 (IntKind.wrap .i64 (p0.getD (p0.length-1-k0) 0)) (((8:Nat):Int)-1-((k1:Nat):Int))) 2),z1.2)).2).getD k3 0) z3.1) (IntKind.wrap .i64 ([237,211,245,92,26,99,18,88,214,156,247,162,222,249,222,20,0,0,0,0,0,0,0,0,0,0,0,0,0,0,0,16].getD k3 0))) (am .i64 (((itr (ce) 33 ((bx (ag .i64 (IntKind.wrap .i64 (p0.getD (p0.length-1-k0) 0)) (((8:Nat):Int)-1-((k1:Nat):Int))) 2),z1.2)).2).getD k3 0) z3.1)):Int)<0)) (aP .i64 (sel (decide ((((k3:Nat):Int):Int)<32)) (am .i64 (am .i64 (((itr (ce) 33 ((bx (ag .i64 (IntKind.wrap .i64 (p0.getD (p0.length-1-k0) 0)) (((8:Nat):Int)-1-((k1:Nat):Int))) 2),z1.2)).2).getD k3 0) z3.1) (IntKind.wrap .i64 ([237,211,245,92,26,99,18,88,214,156,247,162,222,249,222,20,0,0,0,0,0,0,0,0,0,0,0,0,0,0,0,16].getD k3 0))) (am .i64 (((itr (ce) 33 ((bx (ag .i64 (IntKind.wrap .i64 (p0.getD (p0.length-1-k0) 0)) (((8:Nat):Int)-1-((k1:Nat):Int))) 2),z1.2)).2).getD k3 0) z3.1)) 256) (sel (decide ((((k3:Nat):Int):Int)<32)) (am .i64 (am .i64 (((itr (ce) 33 ((bx (ag .i64 (IntKind.wrap .i64 (p0.getD (p0.length-1-k0) 0)) (((8:Nat):Int)-1-((k1:Nat):Int))) 2),z1.2)).2).getD k3 0) z3.1) (IntKind.wrap .i64 ([237,211,245,92,26,99,18,88,214,156,247,162,222,249,222,20,0,0,0,0,0,0,0,0,0,0,0,0,0,0,0,16].getD k3 0))) (am .i64 (((itr (ce) 33 ((bx (ag .i64 (IntKind.wrap .i64 (p0.getD (p0.length-1-k0) 0)) (((8:Nat):Int)-1-((k1:Nat):Int))) 2),z1.2)).2).getD k3 0) z3.1))))] [432] 992 (v3 (pu (Yj k3 33) (pu (Ys k3 33) pT))) <|Wu [Ej 59 (k3+1)] none [Ej 12 (k3+1)] [12] [] [] 1040 (v1 (pv pT (Yp k3 1) (v1 pT))) <|Xo [] trivial
 refine Tri.exit <|?_
 obtain rfl:k3=33:=(by omega);subst hz3
 refine Xs [Eb 84 (((itr (oR p0 k0 k1 z1) 33 (0,List.replicate 33 0)).1:Int)==0)] [57,12,11] 560 (v2 pT) <|Xa (fun h7=>?_) (fun h7=>?_)
 have h7':=dM h7
 exact Wt [El 3 432 33] [84,10,3] [] [32] 592 (v2 pT) <|Wu [Ei 28 (((8:Nat):Int)-1-((k1+1:Nat):Int))] none [Ei 6 (((8:Nat):Int)-1-((k1+1:Nat):Int))] [6] [] [] 640 (v1 (pv pT (pl (show (am .i64 (((8:Nat):Int)-1-((k1:Nat):Int)) 1)=(((8:Nat):Int)-1-((k1+1:Nat):Int)) from jt (by omega) (by omega))) (v1 pT))) <|Xp (show sel _ 33 z1.1=33 by rw [hJ1];exact Gx _ _) [(32,432)] [Ei 6 (((8:Nat):Int)-1-((k1+1:Nat):Int)),El 3 32 33] [Mk 32 .i64 33 ((itr (oR p0 k0 k1 z1) 33 (0,List.replicate 33 0)).2)] (by simp only [kY,h1,h2,h7,aH,aD]) (by simp only [kY,h1,h2,h7,aH,aD])
 have h7':=co h7
 exact Tri.skip <|Wu [Ei 28 (((8:Nat):Int)-1-((k1+1:Nat):Int))] none [Ei 6 (((8:Nat):Int)-1-((k1+1:Nat):Int))] [84,10,6] [] [432] 608 (v1 (pv pT (pl (show (am .i64 (((8:Nat):Int)-1-((k1:Nat):Int)) 1)=(((8:Nat):Int)-1-((k1+1:Nat):Int)) from jt (by omega) (by omega))) (v1 pT))) <|Xp (show sel _ 33 z1.1=33 by rw [hJ1];exact Gx _ _) [] [Ei 6 (((8:Nat):Int)-1-((k1+1:Nat):Int)),El 3 32 z1.1] [Mk 32 .i64 z1.1 ((itr (ce) 33 ((bx (ag .i64 (IntKind.wrap .i64 (p0.getD (p0.length-1-k0) 0)) (((8:Nat):Int)-1-((k1:Nat):Int))) 2),z1.2)).2)] (by simp only [kY,h1,h2,h7,aH,aD]) (by simp only [kY,h1,h2,h7,aH,aD])
 refine Tri.exit <|?_
 obtain rfl:k1=8:=(by omega);subst hz1
 exact Wu [Ei 24 (((p0.length:Nat):Int)-1-((k0+1:Nat):Int))] none [Ei 5 (((p0.length:Nat):Int)-1-((k0+1:Nat):Int))] [26,6,5] [] [] 288 (v1 (pv pT (pl (show (am .i64 (((p0.length:Nat):Int)-1-((k0:Nat):Int)) 1)=(((p0.length:Nat):Int)-1-((k0+1:Nat):Int)) from jt (by omega) (by omega))) (v1 pT))) <|Xo [] (show (itr (kY p0 k0) 8 (z0.1,z0.2)).1=33 from hJ1)
 refine Tri.exit <|?_
 obtain rfl:k0=p0.length:=(by omega);subst hz0
 refine Xt [El 14 192 32] [22,5,4,0] [Mi 192 32 (List.replicate 32 0)] [64] 224 (pu (pa (lo ((0:Int)≤32∧(32:Int)=32)) (pa (lo (32≤(140737488355328:Int))) (lo (((1:Nat):Int)*32≤281474976710656)))) (v1 pT)) <|Tri.seq <|Xs [Ei 15 0] [] 240 (v1 pT) <|Tri.block <|Xc 32 (qM p0) (List.replicate 32 0) (fun k4 z4=>True) (fun k4 z4=>[Ej 15 k4]) (fun k4 z4=>[Mi 192 32 z4]) trivial <|fun k4 z4 hk4 hz4 hJ4=>Tri.seq <|Xs [Eb 88 (decide ((((k4:Nat):Int):Int)<32))] [] 272 (v2 pT) <|Xb (fun h8 h8'=>?_) (fun h8 h8'=>?_)
 exact Tri.skip <|Tri.seq <|Tri.block <|Wt [] [88] [Mi 192 32 (z4.set k4 (IntKind.wrap .u8 (((itr (nE p0) p0.length (33,List.replicate 33 0)).2).getD k4 0)))] [192] 416 (v4 (pu (Yj k4 ((itr (nE p0) p0.length (33,List.replicate 33 0)).1)) (pu (Yl k4 ((itr (nE p0) p0.length (33,List.replicate 33 0)).1)) (v1 (pu (Yj k4 32) (pu (Ys k4 32) pT)))))) <|Wu [Ej 90 (k4+1)] none [Ej 15 (k4+1)] [15] [] [] 464 (v1 (pv pT (Yp k4 1) (v1 pT))) <|Xo [] trivial
 refine Tri.exit <|?_
 obtain rfl:k4=32:=(by omega);subst hz4
 exact Xt [El 2 192 32] [88,15,14,3] [] [32] 304 (v2 pT) <|Xz [(192,0)] pz
theorem Kz (p0:List Int):(zo p0).length=32:=by
 have h:∀ n,(itr (qM p0) n (List.replicate 32 0)).length=32:=by
  intro n
  induction n with
  |zero=>rw [bJ];rfl
  |succ n ih=>rw [bA];show (List.set _ _ _).length=32;rw [List.length_set];exact ih
 exact h _
def AZ (p0:List Int) (p1:List Int) (p2:List Int):List Int :=
 (zo (aC (dV (aC ((p0++p1)++p2) ((p0.length+p1.length)+p2.length) 0 ((p0.length+p1.length)+p2.length))) 64 0 64))
def OE:List AV→List Blk→Option (Prop × Ret)
 |[.sc (.ro .u8 p0),.sc (.ro .u8 p1),.sc (.ro .u8 p2)],[]=>some ((p0.length+p1.length+p2.length≤1000000),⟨.sc (.sl 0 0 32 1 none),[some (.ints .u8 32 (AZ p0 p1 p2))]⟩)
 |_,_=>none
theorem Pn:Known Tryz.prog gD 71 ⟨0,1,OE⟩:=by
 refine Xw Tryz.f71 15 (Zc Ch 128 [.ro .u8,.val] [112] [] <|Zc Ph 144 [.ro .u8] [128] [] <|Zn) mixed <|fun E args ks C r h hC hlen=>?_
 simp only at h
 unfold OE at h
 split at h
 rotate_left
 cases h
 rename_i p0 p1 p2
 cases h
 simp only [bU] at hlen
 refine ⟨rfl,?_⟩
 refine Xs [] [] 32 (v1 pT) <|Xt [El 6 144 32] [0,1,2] [Mi 144 32 (zo (aC (dV (aC ((p0++p1)++p2) ((p0.length+p1.length)+p2.length) 0 ((p0.length+p1.length)+p2.length))) 64 0 64))] [] 176 (v1 (pu (YN pT 1 p0.length p0.length p0.length) (v1 (pu (Ya pT 1 (p0.length+p1.length) p1.length p1.length p0.length p0.length) (v1 (pu (Ya pT 1 ((p0.length+p1.length)+p2.length) p2.length p2.length (p0.length+p1.length) (p0.length+p1.length)) (pu (pa (pa (Yw ((p0.length+p1.length)+p2.length)) pT) (pa (Yr (64:Int)) (Ye ((aC ((p0++p1)++p2) ((p0.length+p1.length)+p2.length) 0 ((p0.length+p1.length)+p2.length)).length) 100000000))) (pu (pa (pa (Yw 64) pT) (pl (show (aC (dV (aC ((p0++p1)++p2) ((p0.length+p1.length)+p2.length) 0 ((p0.length+p1.length)+p2.length))) 64 0 64).length≤1000 from by exact al (by decide) (by rw [lR];decide)))) (v1 pT))))))))) ?_
 exact Xz [(144,0)] pz
theorem Ga (p0 p1 p2:List Int):(AZ p0 p1 p2).length=32:=Kz _
def DG (p0:List Int):List Int :=
 (yc (wZ (aC (F44 (aC (dV p0) 64 0 32)) ((aC (dV p0) 64 0 32).length) 0 ((aC (dV p0) 64 0 32).length)) (yS)))
def OU:List AV→List Blk→Option (Prop × Ret)
 |[.sc (.ro .u8 p0)],[]=>some ((p0.length=32),⟨.sc (.sl 0 0 32 1 none),[some (.ints .u8 32 (DG p0))]⟩)
 |_,_=>none
theorem NV:Known Tryz.prog gD 24 ⟨0,1,OU⟩:=by
 refine Xw Tryz.f24 10 (Zv Mp 128 1 <|Zc LE 112 [.ro .u8,.val] [80] [] <|Zc K44 80 [.ro .u8] [48] [] <|Zc Ch 48 [.ro .u8,.val] [] [] <|Zv Nc 96 0 <|Zn) mixed <|fun E args ks C r h hC hlen=>?_
 simp only at h
 unfold OU at h
 split at h
 rotate_left
 cases h
 rename_i p0
 cases h
 simp only [bU] at hlen
 have hh:=tU p0 0 (by decide)
 have hh2:=tU p0 32 (by decide)
 refine ⟨rfl,?_⟩
 refine Xs [] [] 32 (v1 pT) <|Xt [El 2 128 32] [0] [Mi 128 32 (yc (wZ (aC (F44 (aC (dV p0) 64 0 32)) ((aC (dV p0) 64 0 32).length) 0 ((aC (dV p0) 64 0 32).length)) (yS)))] [] 160 (v1 (pu (pa pz (pa (Yr (64:Int)) (Ye p0.length 100000000))) (pu (lo ((0:Int)≤0∧(0:Int)≤32∧32≤((64:Nat):Int))) (pu (pa (pa (Ye (0+32) 64) pT) (pl (show (aC (dV p0) 64 0 32).length=32 from hh))) (pu pz (pu (pa (pa (Yw ((aC (dV p0) 64 0 32).length)) pT) (pl (show (aC (F44 (aC (dV p0) 64 0 32)) ((aC (dV p0) 64 0 32).length) 0 ((aC (dV p0) 64 0 32).length)).length≤1000000 from by exact al (by omega) (by rw [Mr];omega)))) (pu pz (v1 pT)))))))) ?_
 exact Xz [(128,0)] pz
def pV (p0:List Int) (p1:List Int) (p2:List Int):Bool :=
 (sel (!(iB p0)) false (sel ((((p2.length:Nat):Int):Int) != 64) false (sel (!(zO ((p2.drop 32).take (p2.length-32)) (aC [237,211,245,92,26,99,18,88,214,156,247,162,222,249,222,20,0,0,0,0,0,0,0,0,0,0,0,0,0,0,0,16] 32 0 32))) false (aB (aL (((yc (ru (wZ ((p2.drop 32).take (p2.length-32)) (yS)) (wZ (aC (AZ ((p2.drop 0).take 32) p0 p1) 32 0 32) (ah (ln p0) 0 (dE (bO 0) (((ln p0).drop 0).take 16)))) (di))).drop 0).take 32)) (aL ((p2.drop 0).take 32))))))
def Mt:List AV→List Blk→Option (Prop × Ret)
 |[.sc (.ro .u8 p0),.sc (.ro .u8 p1),.sc (.ro .u8 p2)],[]=>some ((p1.length≤10000),⟨.sc (.b (pV p0 p1 p2)),[]⟩)
 |_,_=>none
theorem PD:Known Tryz.prog gD 51 ⟨0,0,Mt⟩:=by
 refine Xw Tryz.f51 52 (Zv Mp 688 1 <|Zc LE 528 [.ro .u8,.val] [] [] <|Zc LE 640 [.ro .u8,.val] [608] [] <|Zv Nc 512 0 <|Zc Pn 608 [.ro .u8,.ro .u8,.ro .u8] [] [] <|Zc NZ 48 [.ro .u8] [] [] <|Zc Ot 336 [.ro .u8,.ro .u8] [320] [] <|Zv Nr 320 0 <|Zv Eh 432 2 <|Zv qV 384 1 <|Zv LK 672 3 <|Zv Lp 656 0 <|Zn) mixed <|fun E args ks C r h hC hlen=>?_
 simp only at h
 unfold Mt at h
 split at h
 rotate_left
 cases h
 rename_i p0 p1 p2
 cases h
 simp only [bU] at hlen
 refine ⟨rfl,?_⟩
 refine Xs [] [] 32 (v1 pT) <|Xt [Eb 8 (iB p0),Ep 7 112] [] [Mk 112 .i64 48 (ln p0)] [] 160 (v1 (pu (pa pz pT) (v4 (pu (Yz 48) (v1 pT))))) <|Tri.seq <|Tri.split (!(iB p0)) (fun h1=>?_) (fun h1=>?_)
 exact Xu [Eb 16 true] (some [0,1,3,7,15,31,63,127,255,511,255,2047,4095,8191]) [Eb 27 true] [8] [] [] 384 (v2 (pg h1 (v2 (v9 pT)))) <|Tri.cond_true (by kernel_rfl) <|Xt [Eb 6 false] [27,7,0,1,2] [] [112] 400 (v1 pT) <|Xy [] pz (by simp only [pV,h1,aH,aD] <;> rfl)
 refine Tri.split ((((p2.length:Nat):Int):Int) != 64) (fun h2=>?_) (fun h2=>?_)
 have h2':=cM h2
 exact Xu [Eb 16 false,Eb 21 true] (some [0,1,3,7,15,31,63,127,255,511,255,2047,4095,8191]) [Eb 27 true] [8] [] [] 384 (v2 (pg h1 (v4 (pg h2 (v6 pT))))) <|Tri.cond_true (by kernel_rfl) <|Xt [Eb 6 false] [27,7,0,1,2] [] [112] 400 (v1 pT) <|Xy [] pz (by simp only [pV,h1,h2,aH,aD] <;> rfl)
 have h2':=bW h2
 refine Tri.len 112 rfl <|fun hl3=>Xu [Eb 16 false,Eb 21 false] (some [0,1,3,7,15,31,63,127,255,511,255,2047,4095,8191]) [Eb 27 (!(zO ((p2.drop 32).take (p2.length-32)) (aC [237,211,245,92,26,99,18,88,214,156,247,162,222,249,222,20,0,0,0,0,0,0,0,0,0,0,0,0,0,0,0,16] 32 0 32)))] [8] [] [] 384 (v2 (pg h1 (v4 (pg h2 (v1 (pu (lo ((0:Int)≤32∧(32:Int)≤((p2.length:Nat):Int)∧((p2.length:Nat):Int)≤(p2.length:Int))) (pu pz (pu (pa (pa pT (pa (Yw 32) pT)) (pl (show ((p2.drop 32).take (p2.length-32)).length=32∧(aC [237,211,245,92,26,99,18,88,214,156,247,162,222,249,222,20,0,0,0,0,0,0,0,0,0,0,0,0,0,0,0,16] 32 0 32).length=32 from ⟨by rw [List.length_take,List.length_drop];omega,by rw [bF (n:=32) rfl];rfl⟩))) (v2 pT))))))))) <|Xa (fun h4=>?_) (fun h4=>?_)
 exact Xt [Eb 6 false] [27,7,0,1,2] [] [112] 400 (v1 pT) <|Xy [] pz (by simp only [pV,h1,h2,h4,aH,aD] <;> rfl)
 refine Tri.skip <|Xu [] (some [0,0,2,7,15,31]) [] [27] [Mk 112 .i64 48 (ah (ln p0) 0 (dE (bO 0) (((ln p0).drop 0).take 16)))] [112] 480 (pu pz (v1 (pu (Ye (0+16) 48) (pu pz (v1 (pu (pa (Ye (0+16) 48) (Yr 16)) pT)))))) <|Tri.len 112 rfl <|fun hl5=>Xu [] (some [0,1,0,7,0,16,0,0,255,0,1023,2047,4095,8191,16383,0,32768,98304,262143,524287]) [Eb 6 (aB (aL (((yc (ru (wZ ((p2.drop 32).take (p2.length-32)) (yS)) (wZ (aC (AZ ((p2.drop 0).take 32) p0 p1) 32 0 32) (ah (ln p0) 0 (dE (bO 0) (((ln p0).drop 0).take 16)))) (di))).drop 0).take 32)) (aL ((p2.drop 0).take 32)))] [7,0,1,2] [] [112] 800 (v1 (pu (lo ((0:Int)≤32∧(32:Int)≤((p2.length:Nat):Int)∧((p2.length:Nat):Int)≤(p2.length:Int))) (pu pz (pu (pa pz (pl (show ((p2.drop 32).take (p2.length-32)).length≤1000000 from by first|(rw [List.length_take,List.length_drop];omega)|exact al (by decide) (by rw [Ga];decide)))) (v1 (pu (lo ((0:Int)≤0∧(0:Int)≤32∧32≤(p2.length:Int))) (v2 (pu (pa (pa pT (pa pT pz)) (pl (show ((p2.drop 0).take 32).length+p0.length+p1.length≤1000000 from by exact EN (by first|omega|(rw [List.length_take];omega)|(have hl:=BB (p0:=p0) h1;omega)) (by first|omega|(rw [List.length_take];omega)|(have hl:=BB (p0:=p0) h1;omega)) (by first|omega|(rw [List.length_take];omega)|(have hl:=BB (p0:=p0) h1;omega))))) (v1 (pu (pa (pa (Yw 32) pT) (pl (show (aC (AZ ((p2.drop 0).take 32) p0 p1) 32 0 32).length≤1000000 from by first|(rw [List.length_take,List.length_drop];omega)|exact al (by decide) (by rw [Ga];decide)))) (pu pz (pu pz (pu pz (pu (Yw 32) (v1 (pu (lo ((0:Int)≤0∧(0:Int)≤32∧32≤(p2.length:Int))) (v3 pT))))))))))))))))) ?_
 exact Xy [] pz (by simp only [pV,h1,h2,h4,aH,aD] <;> rfl)
end Go.Vm
namespace Go.Vm
open Go Go.Proofs
def Fc:List AV→List Blk→Option (Prop × Ret)
 |[.sc (.ro .u8 p0)],[]=>some (True,⟨.sc (.p 0 0),[some (.cells [.ro .u8 p0,.b false])]⟩)
 |_,_=>none
theorem Kv:Known Tryz.prog gD 41 ⟨0,1,Fc⟩:=by
 refine Xw Tryz.f41 6 Zn mixed <|fun E args ks C r h hC hlen=>?_
 simp only at h
 unfold Fc at h
 split at h
 rotate_left
 cases h
 rename_i p0
 cases h
 simp only [bU] at hlen
 refine ⟨rfl,?_⟩
 exact Xs [] [] 32 (v1 pT) <|Xt [Ep 2 64] [0] [Mc 64 [.ro .u8 p0,.b false]] [] 96 (v1 (pu (pa (Ys 0 2) pT) (v2 pT))) <|Xz [(64,0)] pz
def fY (p0:List Int) (p1:Bool) (p2:Int):List Int :=
 (p0.drop 0).take (((p2).toNat)-0)
def iQ (p0:List Int) (p1:Bool) (p2:Int):List Int :=
 (p0.drop ((p2).toNat)).take (p0.length-((p2).toNat))
def yj:List AV→List Blk→Option (Prop × Ret)
 |[.sc (.p 0 0),.sc (.i .i64 p2)],[.cells [.ro .u8 p0,.b p1]]=>some (((p1=false)∧(((decide ((p2:Int)>((p0.length:Nat):Int)))=false)∧((0:Int)≤p2))),⟨.sc (.ro .u8 (fY p0 p1 p2)),[some (.cells [.ro .u8 (iQ p0 p1 p2),.b p1])]⟩)
 |_,_=>none
theorem HG:Known Tryz.prog gD 74 ⟨1,0,yj⟩:=by
 refine Xw Tryz.f74 48 Zn mixed <|fun E args ks C r h hC hlen=>?_
 simp only at h
 unfold yj at h
 split at h
 rotate_left
 cases h
 rename_i p2 p0 p1
 cases h
 simp only [bU] at hlen
 have hG0:=hC.1
 have hG1:=hC.2.1
 have hG1':=of_decide_eq_false hG1
 have hC:=hC.2.2
 refine ⟨rfl,?_⟩
 refine Xs [] [] 32 (v1 pT) <|Tri.seq <|Xu [Eb 14 false] none [Eb 22 (decide ((p2:Int)>((p0.length:Nat):Int)))] [] [] [] 304 (v6 (pu (Yl 1 2) (v1 (pg hG0 (v4 (pu (Yl 0 2) (v3 pT))))))) <|Tri.cond (x:=(decide ((p2:Int)>((p0.length:Nat):Int)))) (by kernel_rfl) (fun h=>absurd (h.symm.trans hG1) (by decide)) (fun h=>?_)
 exact Tri.skip <|Xs [Er 5 ((p0.drop 0).take (((p2).toNat)-0))] [22] 432 (v3 (pu (Yl 0 2) (v2 (pu (lo ((0:Int)≤0∧(0:Int)≤p2∧(p2:Int)≤p2∧(p2:Int)≤(p0.length:Int))) (v1 pT))))) <|Xt [] [0,1] [Mc 0 [.ro .u8 ((p0.drop ((p2).toNat)).take (p0.length-((p2).toNat))),.b p1]] [0] 592 (v4 (pu (Yl 0 2) (v1 (pu (lo ((0:Int)≤p2∧(p2:Int)≤((p0.length:Nat):Int)∧((p0.length:Nat):Int)≤(p0.length:Int))) (v2 (pu (Ys 0 2) pT)))))) <|Xs [Er 4 ((p0.drop 0).take (((p2).toNat)-0))] [5] 624 (v2 pT) <|Xz [(0,0)] pz
theorem mL {p0:List Int} {p1:Bool} {p2:Int} (h:(decide ((p2:Int)>((p0.length:Nat):Int)))=false) (h0:0≤p2):((fY p0 p1 p2).length:Int)=p2:=by
 have:=of_decide_eq_false h
 unfold fY
 simp only [List.length_take,List.length_drop]
 omega
def yF:List AV→List Blk→Option (Prop × Ret)
 |[.sc (.p 0 0),.sc (.i .i64 p2)],[.cells [.ro .u8 p0,.b p1]]=>some (((p1=false)∧(((decide ((p2:Int)>((p0.length:Nat):Int)))=true)∧True)),⟨.sc (.nils),[some (.cells [.ro .u8 ([]:List Int),.b true])]⟩)
 |_,_=>none
theorem ET:Known Tryz.prog gD 74 ⟨1,0,yF⟩:=by
 refine Xw Tryz.f74 48 Zn mixed <|fun E args ks C r h hC hlen=>?_
 simp only at h
 unfold yF at h
 split at h
 rotate_left
 cases h
 rename_i p2 p0 p1
 cases h
 simp only [bU] at hlen
 have hG0:=hC.1
 have hG1:=hC.2.1
 have hG1':=of_decide_eq_true hG1
 have hC:=hC.2.2
 refine ⟨rfl,?_⟩
 refine Xs [] [] 32 (v1 pT) <|Tri.seq <|Xu [Eb 14 false] none [Eb 22 (decide ((p2:Int)>((p0.length:Nat):Int)))] [] [] [] 304 (v6 (pu (Yl 1 2) (v1 (pg hG0 (v4 (pu (Yl 0 2) (v3 pT))))))) <|Tri.cond (x:=(decide ((p2:Int)>((p0.length:Nat):Int)))) (by kernel_rfl) (fun h=>?_) (fun h=>absurd (h.symm.trans hG1) (by decide))
 exact Tri.seq <|Xs [Eb 24 true] [22,1] 336 (v2 pT) <|Tri.cond_true (by kernel_rfl) <|Wt [] [24,0] [Mc 0 [.nils,.b true]] [0] 464 (v4 (pu (Ys 1 2) (v2 (pu (Ys 0 2) pT)))) <|Xs [(4,.sc (.nils))] [] 480 (v1 pT) <|Tri.sub (Sub.nilCell (l:=[.nils,.b true]) 0 0 .u8 (by kernel_rfl) (by kernel_rfl)) <|Xz [(0,0)] pz
def vW:List AV→List Blk→Option (Prop × Ret)
 |[.sc (.p 0 0),.sc (.i .i64 p2)],[.cells [.ro .u8 p0,.b p1]]=>some (((p1=true)∧True),⟨.sc (.nils),[some (.cells [.ro .u8 ([]:List Int),.b true])]⟩)
 |_,_=>none
theorem Db:Known Tryz.prog gD 74 ⟨1,0,vW⟩:=by
 refine Xw Tryz.f74 48 Zn mixed <|fun E args ks C r h hC hlen=>?_
 simp only at h
 unfold vW at h
 split at h
 rotate_left
 cases h
 rename_i p2 p0 p1
 cases h
 simp only [bU] at hlen
 have hG0:=hC.1
 have hC:=hC.2
 refine ⟨rfl,?_⟩
 exact Xs [] [] 32 (v1 pT) <|Tri.seq <|Xu [Eb 14 true] none [Eb 22 true] [] [] [] 304 (v6 (pu (Yl 1 2) (v1 (pg hG0 (v8 pT))))) <|Tri.cond_true (by kernel_rfl) <|Tri.seq <|Xs [Eb 24 true] [22,1] 336 (v2 pT) <|Tri.cond_true (by kernel_rfl) <|Wt [] [24,0] [Mc 0 [.nils,.b true]] [0] 464 (v4 (pu (Ys 1 2) (v2 (pu (Ys 0 2) pT)))) <|Xs [(4,.sc (.nils))] [] 480 (v1 pT) <|Tri.sub (Sub.nilCell (l:=[.nils,.b true]) 0 0 .u8 (by kernel_rfl) (by kernel_rfl)) <|Xz [(0,0)] pz
def dR (p0:List Int) (p1:Bool) (p2:Int):List Int :=
 (sel p1 ([]:List Int) (sel (decide ((p2:Int)>((p0.length:Nat):Int))) ([]:List Int) ((p0.drop 0).take (((p2).toNat)-0))))
def eM (p0:List Int) (p1:Bool) (p2:Int):List Int :=
 (sel p1 ([]:List Int) (sel (decide ((p2:Int)>((p0.length:Nat):Int))) ([]:List Int) ((p0.drop ((p2).toNat)).take (p0.length-((p2).toNat)))))
def fG (p0:List Int) (p1:Bool) (p2:Int):Bool :=
 (sel p1 true (sel (decide ((p2:Int)>((p0.length:Nat):Int))) true p1))
def Bj:List AV→List Blk→Option (Prop × Ret)
 |[.sc (.p 0 0),.sc (.i .i64 p2)],[.cells [.ro .u8 p0,.b p1]]=>some (((0:Int)≤p2),⟨.sc (.ro .u8 (dR p0 p1 p2)),[some (.cells [.ro .u8 (eM p0 p1 p2),.b (fG p0 p1 p2)])]⟩)
 |_,_=>none
theorem xe:Known Tryz.prog gD 74 ⟨1,0,Bj⟩:=by
 refine Xw Tryz.f74 48 Zn mixed <|fun E args ks C r h hC hlen=>?_
 simp only at h
 unfold Bj at h
 split at h
 rotate_left
 cases h
 rename_i p2 p0 p1
 cases h
 simp only [bU] at hlen
 refine ⟨rfl,?_⟩
 refine Xs [] [] 32 (v1 pT) <|Tri.seq <|Tri.split p1 (fun h1=>?_) (fun h1=>?_)
 exact Xu [Eb 14 true] none [Eb 22 true] [] [] [] 304 (v6 (pu (Yl 1 2) (v1 (pg h1 (v8 pT))))) <|Tri.cond_true (by kernel_rfl) <|Tri.seq <|Xs [Eb 24 true] [22,1] 336 (v2 pT) <|Tri.cond_true (by kernel_rfl) <|Wt [] [24,0] [Mc 0 [.nils,.b true]] [0] 464 (v4 (pu (Ys 1 2) (v2 (pu (Ys 0 2) pT)))) <|Xs [(4,.sc (.nils))] [] 480 (v1 pT) <|Tri.sub (Sub.nilRo 4 .u8 (by kernel_rfl)) <|Tri.sub (Sub.nilCell (l:=[.nils,.b true]) 0 0 .u8 (by kernel_rfl) (by kernel_rfl)) <|Xy [(0,0)] pz (by simp only [dR,eM,fG,h1,aH,aD] <;> rfl)
 refine Xu [Eb 14 false] none [Eb 22 (decide ((p2:Int)>((p0.length:Nat):Int)))] [] [] [] 304 (v6 (pu (Yl 1 2) (v1 (pg h1 (v4 (pu (Yl 0 2) (v3 pT))))))) <|Xb (fun h2 h2'=>?_) (fun h2 h2'=>?_)
 exact Tri.seq <|Xs [Eb 24 true] [22,1] 336 (v2 pT) <|Tri.cond_true (by kernel_rfl) <|Wt [] [24,0] [Mc 0 [.nils,.b true]] [0] 464 (v4 (pu (Ys 1 2) (v2 (pu (Ys 0 2) pT)))) <|Xs [(4,.sc (.nils))] [] 480 (v1 pT) <|Tri.sub (Sub.nilRo 4 .u8 (by kernel_rfl)) <|Tri.sub (Sub.nilCell (l:=[.nils,.b true]) 0 0 .u8 (by kernel_rfl) (by kernel_rfl)) <|Xy [(0,0)] pz (by simp only [dR,eM,fG,h1,h2,aH,aD] <;> rfl)
 exact Tri.skip <|Xs [Er 5 ((p0.drop 0).take (((p2).toNat)-0))] [22] 432 (v3 (pu (Yl 0 2) (v2 (pu (lo ((0:Int)≤0∧(0:Int)≤p2∧(p2:Int)≤p2∧(p2:Int)≤(p0.length:Int))) (v1 pT))))) <|Xt [] [0,1] [Mc 0 [.ro .u8 ((p0.drop ((p2).toNat)).take (p0.length-((p2).toNat))),.b p1]] [0] 592 (v4 (pu (Yl 0 2) (v1 (pu (lo ((0:Int)≤p2∧(p2:Int)≤((p0.length:Nat):Int)∧((p0.length:Nat):Int)≤(p0.length:Int))) (v2 (pu (Ys 0 2) pT)))))) <|Xs [Er 4 ((p0.drop 0).take (((p2).toNat)-0))] [5] 624 (v2 pT) <|Xy (r':=⟨.sc (.ro .u8 ((p0.drop 0).take (((p2).toNat)-0))),[some (.cells [.ro .u8 ((p0.drop ((p2).toNat)).take (p0.length-((p2).toNat))),.b p1])]⟩) [(0,0)] pz (by simp only [dR,eM,fG,h1,h2,aH,aD])
theorem tB (p0:List Int) (p1:Bool) (p2:Int):(dR p0 p1 p2).length≤p2.toNat:=by
 unfold dR
 cases p1
 ·simp only [aD]
  cases (decide ((p2:Int)>((p0.length:Nat):Int)))
  ·simp only [aD,List.length_take,List.length_drop];omega
  ·simp only [aH,List.length_nil];omega
 ·simp only [aH,List.length_nil];omega
def eC (p0:List Int) (p1:Bool):Int :=
 (sel p1 0 (sel (decide ((1:Int)>((p0.length:Nat):Int))) 0 ((fY p0 p1 1).getD 0 0)))
def bc (p0:List Int) (p1:Bool):List Int :=
 (sel p1 ([]:List Int) (sel (decide ((1:Int)>((p0.length:Nat):Int))) ([]:List Int) (iQ p0 p1 1)))
def bl (p0:List Int) (p1:Bool):Bool :=
 (sel p1 true (sel (decide ((1:Int)>((p0.length:Nat):Int))) true p1))
def Fp:List AV→List Blk→Option (Prop × Ret)
 |[.sc (.p 0 0)],[.cells [.ro .u8 p0,.b p1]]=>some (True,⟨.sc (.i .u8 (eC p0 p1)),[some (.cells [.ro .u8 (bc p0 p1),.b (bl p0 p1)])]⟩)
 |_,_=>none
theorem FL:Known Tryz.prog gD 42 ⟨1,0,Fp⟩:=by
 refine Xw Tryz.f42 11 (Zc Db 48 [.io,.val] [] [0] <|Zc ET 144 [.io,.val] [] [0] <|Zc HG 240 [.io,.val] [] [0] <|Zn) mixed <|fun E args ks C r h hC hlen=>?_
 simp only at h
 unfold Fp at h
 split at h
 rotate_left
 cases h
 rename_i p0 p1
 cases h
 simp only [bU] at hlen
 refine ⟨rfl,?_⟩
 refine Xs [] [] 32 (v1 pT) <|Tri.seq <|Tri.split p1 (fun h1=>?_) (fun h1=>?_)
 exact Xt [(3,.sc (.nils))] [0] [Mc 0 [.ro .u8 ([]:List Int),.b true]] [0] 80 (v1 (pu (pa pT (pa (pl h1) pT)) (v1 pT))) <|Xs [Eb 7 false] [] 112 (v2 pT) <|Tri.cond_false (by kernel_rfl) <|Tri.skip <|Xs [Ek 2 .u8 0] [7,3] 128 (v1 pT) <|Xy [(0,0)] pz (by simp only [eC,bc,bl,h1,aH,aD] <;> rfl)
 refine Tri.sub (Sub.up (U':=128) (by decide)) <|Tri.split (decide ((1:Int)>((p0.length:Nat):Int))) (fun h2=>?_) (fun h2=>?_)
 have h2':=of_decide_eq_true h2
 exact Xt [(3,.sc (.nils))] [0] [Mc 0 [.ro .u8 ([]:List Int),.b true]] [0] 176 (v1 (pu (pa pT (pa (pl h1) (pa (pl h2) pT))) (v1 pT))) <|Xs [Eb 7 false] [] 208 (v2 pT) <|Tri.cond_false (by kernel_rfl) <|Tri.skip <|Xs [Ek 2 .u8 0] [7,3] 224 (v1 pT) <|Xy [(0,0)] pz (by simp only [eC,bc,bl,h1,h2,aH,aD] <;> rfl)
 have h2':=of_decide_eq_false h2
 refine Tri.sub (Sub.up (U':=224) (by decide)) <|Xt [Er 3 (fY p0 p1 1)] [0] [Mc 0 [.ro .u8 (iQ p0 p1 1),.b p1]] [0] 272 (v1 (pu (pa pT (pa (pl h1) (pa (pl h2) (Y0 1)))) (v1 pT))) <|Xs [Eb 7 true] [] 304 (v1 (pu (pl (show 0<(fY p0 p1 1).length from by (have hq:=mL (p0:=p0) (p1:=p1) (p2:=1) (by assumption) (by decide);omega))) pT)) ?_
 refine Tri.cond_true (by kernel_rfl) <|Xs [Ek 2 .u8 ((fY p0 p1 1).getD 0 0)] [7,3] 368 (v1 (pu (pl (show (0:Int)≤0∧0<((fY p0 p1 1).length:Int) from by (have hq:=mL (p0:=p0) (p1:=p1) (p2:=1) (by assumption) (by decide);omega))) (pu (pl (show 0<(fY p0 p1 1).length from by (have hq:=mL (p0:=p0) (p1:=p1) (p2:=1) (by assumption) (by decide);omega))) (v1 pT)))) ?_
 exact Xy (r':=⟨.sc (.i .u8 ((fY p0 p1 1).getD 0 0)),[some (.cells [.ro .u8 (iQ p0 p1 1),.b p1])]⟩) [(0,0)] pz (by simp only [eC,bc,bl,h1,h2,aH,aD])
def gb (p0:List Int) (p1:Bool):Bool :=
 (((eC p0 p1):Int) != 0)
def bn (p0:List Int) (p1:Bool):List Int :=
 (bc p0 p1)
def cD (p0:List Int) (p1:Bool):Bool :=
 (bl p0 p1)
def GY:List AV→List Blk→Option (Prop × Ret)
 |[.sc (.p 0 0)],[.cells [.ro .u8 p0,.b p1]]=>some (True,⟨.sc (.b (gb p0 p1)),[some (.cells [.ro .u8 (bn p0 p1),.b (cD p0 p1)])]⟩)
 |_,_=>none
theorem HX:Known Tryz.prog gD 78 ⟨1,0,GY⟩:=by
 refine Xw Tryz.f78 6 (Zc FL 48 [.io] [] [0] <|Zn) mixed <|fun E args ks C r h hC hlen=>?_
 simp only at h
 unfold GY at h
 split at h
 rotate_left
 cases h
 rename_i p0 p1
 cases h
 simp only [bU] at hlen
 refine ⟨rfl,?_⟩
 exact Xs [] [] 32 (v1 pT) <|Xt [Eb 2 (((eC p0 p1):Int) != 0)] [0] [Mc 0 [.ro .u8 (bc p0 p1),.b (bl p0 p1)]] [0] 96 (v1 (pu pz (v2 pT))) <|Xz [(0,0)] pz
def EU (p0:List Int) (p1:Bool):Bool :=
 (!p1)
def Mb:List AV→List Blk→Option (Prop × Ret)
 |[.sc (.p 0 0)],[.cells [.ro .u8 p0,.b p1]]=>some (True,⟨.sc (.b (EU p0 p1)),[some (.cells [.ro .u8 p0,.b p1])]⟩)
 |_,_=>none
theorem Ms:Known Tryz.prog gD 76 ⟨1,0,Mb⟩:=by
 refine Xw Tryz.f76 12 Zn mixed <|fun E args ks C r h hC hlen=>?_
 simp only at h
 unfold Mb at h
 split at h
 rotate_left
 cases h
 rename_i p0 p1
 cases h
 simp only [bU] at hlen
 refine ⟨rfl,?_⟩
 exact Xs [] [] 32 (v1 pT) <|Xs [Eb 2 (!p1)] [0] 192 (v6 (pu (Yl 1 2) (v3 pT))) <|Xz [(0,0)] pz
def gN (p0:List Int) (p1:Bool):Bool :=
 (sel (EU p0 p1) ((((p0.length:Nat):Int):Int)==0) false)
def Jp:List AV→List Blk→Option (Prop × Ret)
 |[.sc (.p 0 0)],[.cells [.ro .u8 p0,.b p1]]=>some (True,⟨.sc (.b (gN p0 p1)),[some (.cells [.ro .u8 p0,.b p1])]⟩)
 |_,_=>none
theorem mR:Known Tryz.prog gD 44 ⟨1,0,Jp⟩:=by
 refine Xw Tryz.f44 13 (Zc Ms 48 [.io] [] [0] <|Zn) mixed <|fun E args ks C r h hC hlen=>?_
 simp only at h
 unfold Jp at h
 split at h
 rotate_left
 cases h
 rename_i p0 p1
 cases h
 simp only [bU] at hlen
 refine ⟨rfl,?_⟩
 refine Xs [] [] 32 (v1 pT) <|Tri.split (EU p0 p1) (fun h1=>?_) (fun h1=>?_)
 exact Xu [Eb 5 true] none [Eb 2 ((((p0.length:Nat):Int):Int)==0)] [0] [] [] 208 (v1 (pu pz (pg h1 (v3 (pu (Yl 0 2) (v4 pT)))))) <|Xy [(0,0)] pz (by simp only [gN,h1,aH,aD] <;> rfl)
 exact Xu [Eb 5 false] none [Eb 2 false] [0] [] [] 208 (v1 (pu pz (pg h1 (v8 pT)))) <|Xy [(0,0)] pz (by simp only [gN,h1,aH,aD] <;> rfl)
def lA (p0:List Int) (p1:Bool) (k0:Nat) (z0:Int):Int :=
 (iOr .u32 (dS .u32 z0 8) (IntKind.wrap .u32 ((dR p0 p1 4).getD k0 0)))
def hI (p0:List Int) (p1:Bool):Int :=
 (itr (lA p0 p1) ((dR p0 p1 4).length) 0)
def fJ (p0:List Int) (p1:Bool):List Int :=
 (eM p0 p1 4)
def fq (p0:List Int) (p1:Bool):Bool :=
 (fG p0 p1 4)
def Jh:List AV→List Blk→Option (Prop × Ret)
 |[.sc (.p 0 0)],[.cells [.ro .u8 p0,.b p1]]=>some (True,⟨.sc (.i .u32 (hI p0 p1)),[some (.cells [.ro .u8 (fJ p0 p1),.b (fq p0 p1)])]⟩)
 |_,_=>none
theorem NG:Known Tryz.prog gD 75 ⟨1,0,Jh⟩:=by
 refine Xw Tryz.f75 20 (Zc xe 64 [.io,.val] [] [0] <|Zn) mixed <|fun E args ks C r h hC hlen=>?_
 simp only at h
 unfold Jh at h
 split at h
 rotate_left
 cases h
 rename_i p0 p1
 cases h
 simp only [bU] at hlen
 have hf0:(dR p0 p1 4).length≤4:=tB p0 p1 4
 refine ⟨rfl,?_⟩
 refine Xs [] [] 32 (v1 pT) <|Xs [Ek 3 .u32 0] [] 48 (v1 pT) <|Tri.seq <|Xt [Ei 9 0,Ej 8 ((dR p0 p1 4).length),Er 7 (dR p0 p1 4)] [0] [Mc 0 [.ro .u8 (eM p0 p1 4),.b (fG p0 p1 4)]] [0] 112 (v1 (pu (pa pT (Y0 4)) (v2 pT))) <|Tri.block <|Xc ((dR p0 p1 4).length) (lA p0 p1) 0 (fun k0 z0=>True) (fun k0 z0=>[Ej 9 k0,Ek 3 .u32 z0]) (fun k0 z0=>[]) trivial <|fun k0 z0 hk0 hz0 hJ0=>Xs [Eb 10 (decide ((((k0:Nat):Int):Int)<(((dR p0 p1 4).length:Nat):Int)))] [] 128 (v1 pT) <|Tri.seq <|Xb (fun h1 h1'=>?_) (fun h1 h1'=>?_)
 exact Tri.skip <|Tri.seq <|Tri.block <|Xs [Ek 5 .u8 ((dR p0 p1 4).getD k0 0)] [10] 176 (pu (Yj k0 ((dR p0 p1 4).length)) (pu (Yl k0 ((dR p0 p1 4).length)) (v1 pT))) <|Ws [Ek 3 .u32 (iOr .u32 (dS .u32 z0 8) (IntKind.wrap .u32 ((dR p0 p1 4).getD k0 0)))] [5,3] 272 (v1 (pu (Y0 8) (v4 pT))) <|Wu [Ej 18 (k0+1)] none [Ej 9 (k0+1)] [9] [] [] 304 (pv pT (Yp k0 1) (v1 pT)) <|Xo [] trivial
 refine Tri.exit <|?_
 obtain rfl:k0=((dR p0 p1 4).length):=(by omega);subst hz0
 exact Xs [Ek 2 .u32 (itr (lA p0 p1) ((dR p0 p1 4).length) 0)] [10,9,8,7,3] 160 (v2 pT) <|Xz [(0,0)] pz
theorem yw (p0:List Int) (p1:Bool):0≤hI p0 p1∧hI p0 p1<4294967296:=by
 have h0:∀ n,0≤itr (lA p0 p1) n 0∧itr (lA p0 p1) n 0<4294967296:=by
  intro n
  cases n with
  |zero=>rw [bJ];decide
  |succ k=>rw [bA];unfold lA iOr;rw [ma];omega
 exact h0 _
theorem EI (p0:List Int) (p1:Bool):0≤IntKind.wrap .i64 (hI p0 p1):=by
 have:=yw p0 p1
 rw [cG (by omega) (by omega)]
 exact this.1
def bB (p0:List Int) (p1:Bool):ByteArray :=
 (sel (decide (((hI p0 p1):Int)>16384)) (⟨#[]⟩:ByteArray) (aL (dR (fJ p0 p1) (fq p0 p1) (IntKind.wrap .i64 (hI p0 p1)))))
def bI (p0:List Int) (p1:Bool):List Int :=
 (sel (decide (((hI p0 p1):Int)>16384)) (eM (fJ p0 p1) (fq p0 p1) 1073741824) (eM (fJ p0 p1) (fq p0 p1) (IntKind.wrap .i64 (hI p0 p1))))
def bM (p0:List Int) (p1:Bool):Bool :=
 (sel (decide (((hI p0 p1):Int)>16384)) (fG (fJ p0 p1) (fq p0 p1) 1073741824) (fG (fJ p0 p1) (fq p0 p1) (IntKind.wrap .i64 (hI p0 p1))))
def FC:List AV→List Blk→Option (Prop × Ret)
 |[.sc (.p 0 0)],[.cells [.ro .u8 p0,.b p1]]=>some (True,⟨.sc (.s (bB p0 p1)),[some (.cells [.ro .u8 (bI p0 p1),.b (bM p0 p1)])]⟩)
 |_,_=>none
theorem gS:Known Tryz.prog gD 43 ⟨1,0,FC⟩:=by
 refine Xw Tryz.f43 15 (Zc xe 128 [.io,.val] [] [0] <|Zc xe 160 [.io,.val] [] [0] <|Zc NG 48 [.io] [] [0] <|Zn) mixed <|fun E args ks C r h hC hlen=>?_
 simp only at h
 unfold FC at h
 split at h
 rotate_left
 cases h
 rename_i p0 p1
 cases h
 simp only [bU] at hlen
 refine ⟨rfl,?_⟩
 refine Xs [] [] 32 (v1 pT) <|Xt [Ek 3 .u32 (hI p0 p1)] [] [Mc 0 [.ro .u8 (fJ p0 p1),.b (fq p0 p1)]] [0] 80 (v1 (pu pz (v1 pT))) <|Tri.seq <|Xs [Eb 7 (decide (((hI p0 p1):Int)>16384))] [] 112 (v2 pT) <|Xb (fun h1 h1'=>?_) (fun h1 h1'=>?_)
 exact Xt [] [7,3,0] [Mc 0 [.ro .u8 (eM (fJ p0 p1) (fq p0 p1) 1073741824),.b (fG (fJ p0 p1) (fq p0 p1) 1073741824)]] [0] 144 (v1 (pu (pa pT (Y0 1073741824)) pT)) <|Xs [Es 2 (⟨#[]⟩:ByteArray)] [] 160 (v1 pT) <|Xy [(0,0)] pz (by simp only [bB,bI,bM,h1,aH,aD] <;> rfl)
 exact Tri.skip <|Xt [Es 2 (aL (dR (fJ p0 p1) (fq p0 p1) (IntKind.wrap .i64 (hI p0 p1))))] [7,3,0] [Mc 0 [.ro .u8 (eM (fJ p0 p1) (fq p0 p1) (IntKind.wrap .i64 (hI p0 p1))),.b (fG (fJ p0 p1) (fq p0 p1) (IntKind.wrap .i64 (hI p0 p1)))]] [0] 208 (v3 (pu (pa pT (pl (show (0:Int)≤(IntKind.wrap .i64 (hI p0 p1)) from EI _ _))) (v2 pT))) <|Xy [(0,0)] pz (by simp only [bB,bI,bM,h1,aH,aD] <;> rfl)
theorem ef (p0:List Int) (p1:Bool):(bB p0 p1).size≤16384:=by
 unfold bB
 cases h:(decide (((hI p0 p1):Int)>16384))
 ·have h0:=of_decide_eq_false h
  have h1:=yw p0 p1
  have h2:=tB (fJ p0 p1) (fq p0 p1) (IntKind.wrap .i64 (hI p0 p1))
  rw [cG (by omega) (by omega)] at h2 ⊢
  rw [aD]
  have h3:∀ xs:List Int,(aL xs).size=xs.length:=fun xs=>by simp [aL,ByteArray.size]
  rw [h3]
  omega
 ·rw [aH];decide
end Go.Vm
namespace Go.Vm
open Go Go.Proofs
def cC (p0:List Int) (p1:Int) (p2:Bool) (p3:Int):List Int :=
 (sel p2 ([]:List Int) (sel (decide ((p3:Int)<0)) ([]:List Int) (sel (decide ((p3:Int)>(am .i64 ((p0.length:Nat):Int) p1))) ([]:List Int) ((p0.drop (((am .i64 (aP .i64 p1 p3) p3)).toNat)).take ((((aP .i64 p1 p3)).toNat)-(((am .i64 (aP .i64 p1 p3) p3)).toNat))))))
def cX (p0:List Int) (p1:Int) (p2:Bool) (p3:Int):Int :=
 (sel p2 p1 (sel (decide ((p3:Int)<0)) p1 (sel (decide ((p3:Int)>(am .i64 ((p0.length:Nat):Int) p1))) p1 (aP .i64 p1 p3))))
def cF (p0:List Int) (p1:Int) (p2:Bool) (p3:Int):Bool :=
 (sel p2 true (sel (decide ((p3:Int)<0)) true (sel (decide ((p3:Int)>(am .i64 ((p0.length:Nat):Int) p1))) true p2)))
def Bn:List AV→List Blk→Option (Prop × Ret)
 |[.sc (.p 0 0),.sc (.i .i64 p3)],[.cells [.ro .u8 p0,.i .i64 p1,.b p2]]=>some ((p0.length≤1000000000∧(0:Int)≤p1∧p1≤(p0.length:Int)),⟨.sc (.ro .u8 (cC p0 p1 p2 p3)),[some (.cells [.ro .u8 p0,.i .i64 (cX p0 p1 p2 p3),.b (cF p0 p1 p2 p3)])]⟩)
 |_,_=>none
theorem xc:Known Tryz.prog gD 84 ⟨1,0,Bn⟩:=by
 refine Xw Tryz.f84 53 Zn mixed <|fun E args ks C r h hC hlen=>?_
 simp only at h
 unfold Bn at h
 split at h
 rotate_left
 cases h
 rename_i p3 p0 p1 p2
 cases h
 simp only [bU] at hlen
 refine ⟨rfl,?_⟩
 refine Xs [] [] 32 (v1 pT) <|Tri.seq <|Tri.split p2 (fun h1=>?_) (fun h1=>?_)
 exact Xu [Eb 9 true] (some [0,1,3,7,15,31,63,127,255,511,511,1535,3583,7679,15871,511,33279,98815,229887,523775,1048575,2097151]) [Eb 26 true] [] [] [] 384 (v3 (pu (Yl 2 3) (pg h1 (v8 (v9 pT))))) <|Tri.cond_true (by kernel_rfl) <|Xt [] [26,0,1] [Mc 0 [.ro .u8 p0,.i .i64 p1,.b true]] [0] 448 (v3 (pu (Ys 2 3) pT)) <|Xs [(4,.sc (.nils))] [] 464 (v1 pT) <|Tri.sub (Sub.nilRo 4 .u8 (by kernel_rfl)) <|Xy [(0,0)] pz (by simp only [cC,cX,cF,h1,aH,aD] <;> rfl)
 refine Tri.split (decide ((p3:Int)<0)) (fun h2=>?_) (fun h2=>?_)
 have h2':=of_decide_eq_true h2
 exact Xu [Eb 9 false,Eb 13 true] (some [0,1,3,7,15,31,63,127,255,511,511,1535,3583,7679,15871,511,33279,98815,229887,523775,1048575,2097151]) [Eb 26 true] [] [] [] 384 (v3 (pu (Yl 2 3) (pg h1 (v3 (pg h2 (v4 (v9 pT))))))) <|Tri.cond_true (by kernel_rfl) <|Xt [] [26,0,1] [Mc 0 [.ro .u8 p0,.i .i64 p1,.b true]] [0] 448 (v3 (pu (Ys 2 3) pT)) <|Xs [(4,.sc (.nils))] [] 464 (v1 pT) <|Tri.sub (Sub.nilRo 4 .u8 (by kernel_rfl)) <|Xy [(0,0)] pz (by simp only [cC,cX,cF,h1,h2,aH,aD] <;> rfl)
 have h2':=of_decide_eq_false h2
 refine Xu [Eb 9 false,Eb 13 false] (some [0,1,3,7,15,31,63,127,255,511,511,1535,3583,7679,15871,511,33279,98815,229887,523775,1048575,2097151]) [Eb 26 (decide ((p3:Int)>(am .i64 ((p0.length:Nat):Int) p1)))] [] [] [] 384 (v3 (pu (Yl 2 3) (pg h1 (v3 (pg h2 (v4 (pu (Yl 0 3) (v4 (pu (Yl 1 3) (v3 pT)))))))))) <|Xb (fun h3 h3'=>?_) (fun h3 h3'=>?_)
 exact Xt [] [26,0,1] [Mc 0 [.ro .u8 p0,.i .i64 p1,.b true]] [0] 448 (v3 (pu (Ys 2 3) pT)) <|Xs [(4,.sc (.nils))] [] 464 (v1 pT) <|Tri.sub (Sub.nilRo 4 .u8 (by kernel_rfl)) <|Xy [(0,0)] pz (by simp only [cC,cX,cF,h1,h2,h3,aH,aD] <;> rfl)
 refine Tri.skip <|Xt [] [26] [Mc 0 [.ro .u8 p0,.i .i64 (aP .i64 p1 p3),.b p2]] [0] 528 (v3 (pu (Yl 1 3) (v4 (pu (Ys 1 3) pT)))) <|Xu [] (some [0,1,3,7,0,16,48,112,0,496,0,1024,3072,7168,16383,32767]) [Er 4 ((p0.drop (((am .i64 (aP .i64 p1 p3) p3)).toNat)).take ((((aP .i64 p1 p3)).toNat)-(((am .i64 (aP .i64 p1 p3) p3)).toNat)))] [0,1] [] [] 784 (v3 (pu (Yl 0 3) (v3 (pu (Yl 1 3) (v5 (pu (Yl 1 3) (pu (pl (show (0:Int)≤(am .i64 (aP .i64 p1 p3) p3)∧((am .i64 (aP .i64 p1 p3) p3):Int)≤(aP .i64 p1 p3)∧(aP .i64 p1 p3)≤(p0.length:Int) from by (have a1:am .i64 ((p0.length:Nat):Int) p1=(p0.length:Int)-p1:=dB (by omega) (by omega);have a2:aP .i64 p1 p3=p1+p3:=cR (by omega) (by omega);have a3:am .i64 (aP .i64 p1 p3) p3=aP .i64 p1 p3-p3:=dB (by omega) (by omega);omega))) (v1 pT)))))))) ?_
 exact Xy (r':=⟨.sc (.ro .u8 ((p0.drop (((am .i64 (aP .i64 p1 p3) p3)).toNat)).take ((((aP .i64 p1 p3)).toNat)-(((am .i64 (aP .i64 p1 p3) p3)).toNat)))),[some (.cells [.ro .u8 p0,.i .i64 (aP .i64 p1 p3),.b p2])]⟩) [(0,0)] pz (by simp only [cC,cX,cF,h1,h2,h3,aH,aD])
theorem jZ {p0:List Int} {p1:Int} (p2:Bool) (n:Int) (h:p0.length≤1000000000∧(0:Int)≤p1∧p1≤(p0.length:Int)) :
  (p2=false∧0≤n∧p1+n≤(p0.length:Int)∧cC p0 p1 p2 n=(p0.drop p1.toNat).take n.toNat∧cX p0 p1 p2 n=p1+n∧cF p0 p1 p2 n=false) ∨
  (¬ (p2=false∧0≤n∧p1+n≤(p0.length:Int))∧cC p0 p1 p2 n=[]∧cX p0 p1 p2 n=p1∧cF p0 p1 p2 n=true):=by
 obtain ⟨h1,h2,h3⟩:=h
 unfold cC cX cF
 cases p2
 ·simp only [aD]
  cases h4:decide (n<0)
  ·have h4':=of_decide_eq_false h4
   simp only [aD]
   have a1:am .i64 ((p0.length:Nat):Int) p1=(p0.length:Int)-p1:=dB (by omega) (by omega)
   rw [a1]
   cases h5:decide (n>(p0.length:Int)-p1)
   ·have h5':=of_decide_eq_false h5
    simp only [aD]
    have a2:aP .i64 p1 n=p1+n:=cR (by omega) (by omega)
    have a3:am .i64 (p1+n) n=p1:=by rw [dB (by omega) (by omega)];omega
    rw [a2,a3]
    have a4:(p1+n).toNat-p1.toNat=n.toNat:=by omega
    rw [a4]
    first|exact .inl ⟨rfl,by omega,by omega,rfl,rfl,rfl⟩|exact .inl ⟨trivial,by omega,by omega,rfl,rfl,trivial⟩|exact .inl ⟨trivial,by omega,by omega,trivial,trivial,trivial⟩
   ·have h5':=of_decide_eq_true h5
    simp only [aH]
    exact .inr ⟨fun ⟨_,_,h⟩=>by omega,trivial,trivial,trivial⟩
  ·have h4':=of_decide_eq_true h4
   simp only [aH]
   exact .inr ⟨fun ⟨_,h,_⟩=>by omega,trivial,trivial,trivial⟩
 ·simp only [aH]
  exact .inr ⟨fun ⟨h,_⟩=>(by cases h),trivial,trivial,trivial⟩
theorem om {p0:List Int} {p1:Int} (p2:Bool) (n:Int) (h:p0.length≤1000000000∧(0:Int)≤p1∧p1≤(p0.length:Int)):0≤cX p0 p1 p2 n∧cX p0 p1 p2 n≤(p0.length:Int):=by
 rcases jZ p2 n h with ⟨_,_,_,_,h1,_⟩|⟨_,_,h1,_⟩ <;> rw [h1] <;> omega
theorem gF {p0:List Int} {p1:Int} {p2:Bool} {n:Int} (h:p0.length≤1000000000∧(0:Int)≤p1∧p1≤(p0.length:Int)) (hb:cF p0 p1 p2 n=false):((cC p0 p1 p2 n).length:Int)=n:=by
 rcases jZ p2 n h with ⟨_,_,_,h1,_⟩|⟨_,_,_,h1⟩
 ·rw [h1,List.length_take,List.length_drop];omega
 ·rw [h1] at hb;cases hb
def fM (p0:List Int) (p1:Int) (p2:Bool):Int :=
 (sel (cF p0 p1 p2 1) 0 (IntKind.wrap .i64 ((cC p0 p1 p2 1).getD 0 0)))
def aE (p0:List Int) (p1:Int) (p2:Bool):Int :=
 (cX p0 p1 p2 1)
def aF (p0:List Int) (p1:Int) (p2:Bool):Bool :=
 (cF p0 p1 p2 1)
def By:List AV→List Blk→Option (Prop × Ret)
 |[.sc (.p 0 0)],[.cells [.ro .u8 p0,.i .i64 p1,.b p2]]=>some ((p0.length≤1000000000∧(0:Int)≤p1∧p1≤(p0.length:Int)),⟨.sc (.i .i64 (fM p0 p1 p2)),[some (.cells [.ro .u8 p0,.i .i64 (aE p0 p1 p2),.b (aF p0 p1 p2)])]⟩)
 |_,_=>none
theorem wQ:Known Tryz.prog gD 47 ⟨1,0,By⟩:=by
 refine Xw Tryz.f47 14 (Zc xc 48 [.io,.val] [] [0] <|Zn) mixed <|fun E args ks C r h hC hlen=>?_
 simp only at h
 unfold By at h
 split at h
 rotate_left
 cases h
 rename_i p0 p1 p2
 cases h
 simp only [bU] at hlen
 refine ⟨rfl,?_⟩
 refine Xs [] [] 32 (v1 pT) <|Xt [Er 3 (cC p0 p1 p2 1)] [] [Mc 0 [.ro .u8 p0,.i .i64 (cX p0 p1 p2 1),.b (cF p0 p1 p2 1)]] [0] 80 (v1 (pu (pa pT (lo (p0.length≤1000000000∧(0:Int)≤p1∧p1≤(p0.length:Int)))) (v1 pT))) <|Tri.seq <|Xs [Eb 9 (cF p0 p1 p2 1)] [0] 144 (v3 (pu (Yl 2 3) pT)) <|Xa (fun h1=>?_) (fun h1=>?_)
 exact Xs [Ei 2 0] [9,3] 160 (v1 pT) <|Xy (r':=⟨.sc (.i .i64 0),[some (.cells [.ro .u8 p0,.i .i64 (cX p0 p1 p2 1),.b (cF p0 p1 p2 1)])]⟩) [(0,0)] pz (by simp only [fM,aE,aF,h1,aH,aD])
 refine Tri.skip <|Xs [Ei 2 (IntKind.wrap .i64 ((cC p0 p1 p2 1).getD 0 0))] [9,3] 224 (v1 (pu (pl (show (0:Int)≤0∧0<((cC p0 p1 p2 1).length:Int) from by (have hq:=gF hC (n:=1) (by assumption);omega))) (pu (pl (show 0<(cC p0 p1 p2 1).length from by (have hq:=gF hC (n:=1) (by assumption);omega))) (v2 pT)))) ?_
 exact Xy (r':=⟨.sc (.i .i64 (IntKind.wrap .i64 ((cC p0 p1 p2 1).getD 0 0))),[some (.cells [.ro .u8 p0,.i .i64 (cX p0 p1 p2 1),.b (cF p0 p1 p2 1)])]⟩) [(0,0)] pz (by simp only [fM,aE,aF,h1,aH,aD])
theorem xz {p0:List Int} {p1:Int} (p2:Bool) (h:p0.length≤1000000000∧(0:Int)≤p1∧p1≤(p0.length:Int)):0≤aE p0 p1 p2∧aE p0 p1 p2≤(p0.length:Int):=om p2 1 h
def dP (p0:List Int) (p1:Int) (p2:Bool):Int :=
 (sel (cF p0 p1 p2 4) 0 (aP .i64 (aP .i64 (aP .i64 (bh .i64 (IntKind.wrap .i64 ((cC p0 p1 p2 4).getD 0 0)) 16777216) (bh .i64 (IntKind.wrap .i64 ((cC p0 p1 p2 4).getD 1 0)) 65536)) (bh .i64 (IntKind.wrap .i64 ((cC p0 p1 p2 4).getD 2 0)) 256)) (IntKind.wrap .i64 ((cC p0 p1 p2 4).getD 3 0))))
def dF (p0:List Int) (p1:Int) (p2:Bool):Int :=
 (cX p0 p1 p2 4)
def de (p0:List Int) (p1:Int) (p2:Bool):Bool :=
 (cF p0 p1 p2 4)
def Gh:List AV→List Blk→Option (Prop × Ret)
 |[.sc (.p 0 0)],[.cells [.ro .u8 p0,.i .i64 p1,.b p2]]=>some ((p0.length≤1000000000∧(0:Int)≤p1∧p1≤(p0.length:Int)),⟨.sc (.i .i64 (dP p0 p1 p2)),[some (.cells [.ro .u8 p0,.i .i64 (dF p0 p1 p2),.b (de p0 p1 p2)])]⟩)
 |_,_=>none
theorem Kw:Known Tryz.prog gD 85 ⟨1,0,Gh⟩:=by
 refine Xw Tryz.f85 32 (Zc xc 48 [.io,.val] [] [0] <|Zn) mixed <|fun E args ks C r h hC hlen=>?_
 simp only at h
 unfold Gh at h
 split at h
 rotate_left
 cases h
 rename_i p0 p1 p2
 cases h
 simp only [bU] at hlen
 refine ⟨rfl,?_⟩
 refine Xs [] [] 32 (v1 pT) <|Xt [Er 3 (cC p0 p1 p2 4)] [] [Mc 0 [.ro .u8 p0,.i .i64 (cX p0 p1 p2 4),.b (cF p0 p1 p2 4)]] [0] 80 (v1 (pu (pa pT (lo (p0.length≤1000000000∧(0:Int)≤p1∧p1≤(p0.length:Int)))) (v1 pT))) <|Tri.seq <|Xs [Eb 9 (cF p0 p1 p2 4)] [0] 144 (v3 (pu (Yl 2 3) pT)) <|Xa (fun h1=>?_) (fun h1=>?_)
 exact Xs [Ei 2 0] [9,3] 160 (v1 pT) <|Xy (r':=⟨.sc (.i .i64 0),[some (.cells [.ro .u8 p0,.i .i64 (cX p0 p1 p2 4),.b (cF p0 p1 p2 4)])]⟩) [(0,0)] pz (by simp only [dP,dF,de,h1,aH,aD])
 refine Tri.skip <|Xu [] (some [0,1,3,7,15,0,32,96,224,480,1023,0,2048,6144,14336,30720,65535,0,131072,393216,917504,2097151,4194303]) [Ei 2 (aP .i64 (aP .i64 (aP .i64 (bh .i64 (IntKind.wrap .i64 ((cC p0 p1 p2 4).getD 0 0)) 16777216) (bh .i64 (IntKind.wrap .i64 ((cC p0 p1 p2 4).getD 1 0)) 65536)) (bh .i64 (IntKind.wrap .i64 ((cC p0 p1 p2 4).getD 2 0)) 256)) (IntKind.wrap .i64 ((cC p0 p1 p2 4).getD 3 0)))] [9,3] [] [] 512 (v1 (pu (pl (show (0:Int)≤0∧0<((cC p0 p1 p2 4).length:Int) from by (have hq:=gF hC (n:=4) (by assumption);omega))) (pu (pl (show 0<(cC p0 p1 p2 4).length from by (have hq:=gF hC (n:=4) (by assumption);omega))) (v3 (pu (pl (show (0:Int)≤1∧1<((cC p0 p1 p2 4).length:Int) from by (have hq:=gF hC (n:=4) (by assumption);omega))) (pu (pl (show 1<(cC p0 p1 p2 4).length from by (have hq:=gF hC (n:=4) (by assumption);omega))) (v4 (pu (pl (show (0:Int)≤2∧2<((cC p0 p1 p2 4).length:Int) from by (have hq:=gF hC (n:=4) (by assumption);omega))) (pu (pl (show 2<(cC p0 p1 p2 4).length from by (have hq:=gF hC (n:=4) (by assumption);omega))) (v4 (pu (pl (show (0:Int)≤3∧3<((cC p0 p1 p2 4).length:Int) from by (have hq:=gF hC (n:=4) (by assumption);omega))) (pu (pl (show 3<(cC p0 p1 p2 4).length from by (have hq:=gF hC (n:=4) (by assumption);omega))) (v3 pT))))))))))))) ?_
 exact Xy (r':=⟨.sc (.i .i64 (aP .i64 (aP .i64 (aP .i64 (bh .i64 (IntKind.wrap .i64 ((cC p0 p1 p2 4).getD 0 0)) 16777216) (bh .i64 (IntKind.wrap .i64 ((cC p0 p1 p2 4).getD 1 0)) 65536)) (bh .i64 (IntKind.wrap .i64 ((cC p0 p1 p2 4).getD 2 0)) 256)) (IntKind.wrap .i64 ((cC p0 p1 p2 4).getD 3 0)))),[some (.cells [.ro .u8 p0,.i .i64 (cX p0 p1 p2 4),.b (cF p0 p1 p2 4)])]⟩) [(0,0)] pz (by simp only [dP,dF,de,h1,aH,aD])
theorem nU {p0:List Int} {p1:Int} (p2:Bool) (h:p0.length≤1000000000∧(0:Int)≤p1∧p1≤(p0.length:Int)):0≤dF p0 p1 p2∧dF p0 p1 p2≤(p0.length:Int):=om p2 4 h
def aA (p0:List Int) (p1:Int) (p2:Bool):ByteArray :=
 (aL (cC p0 (dF p0 p1 p2) (sel (decide (((dP p0 p1 p2):Int)>16384)) true (de p0 p1 p2)) (dP p0 p1 p2)))
def aj (p0:List Int) (p1:Int) (p2:Bool):Int :=
 (cX p0 (dF p0 p1 p2) (sel (decide (((dP p0 p1 p2):Int)>16384)) true (de p0 p1 p2)) (dP p0 p1 p2))
def aW (p0:List Int) (p1:Int) (p2:Bool):Bool :=
 (cF p0 (dF p0 p1 p2) (sel (decide (((dP p0 p1 p2):Int)>16384)) true (de p0 p1 p2)) (dP p0 p1 p2))
def Bz:List AV→List Blk→Option (Prop × Ret)
 |[.sc (.p 0 0)],[.cells [.ro .u8 p0,.i .i64 p1,.b p2]]=>some ((p0.length≤1000000000∧(0:Int)≤p1∧p1≤(p0.length:Int)),⟨.sc (.s (aA p0 p1 p2)),[some (.cells [.ro .u8 p0,.i .i64 (aj p0 p1 p2),.b (aW p0 p1 p2)])]⟩)
 |_,_=>none
theorem jr:Known Tryz.prog gD 48 ⟨1,0,Bz⟩:=by
 refine Xw Tryz.f48 15 (Zc xc 208 [.io,.val] [] [0] <|Zc Kw 48 [.io] [] [0] <|Zn) mixed <|fun E args ks C r h hC hlen=>?_
 simp only at h
 unfold Bz at h
 split at h
 rotate_left
 cases h
 rename_i p0 p1 p2
 cases h
 simp only [bU] at hlen
 refine ⟨rfl,?_⟩
 refine Xs [] [] 32 (v1 pT) <|Xt [Ei 3 (dP p0 p1 p2)] [] [Mc 0 [.ro .u8 p0,.i .i64 (dF p0 p1 p2),.b (de p0 p1 p2)]] [0] 80 (v1 (pu (pa pT (lo (p0.length≤1000000000∧(0:Int)≤p1∧p1≤(p0.length:Int)))) (v1 pT))) <|Tri.seq <|Xs [Eb 7 (decide (((dP p0 p1 p2):Int)>16384))] [] 112 (v2 pT) <|Xj (x:=(decide (((dP p0 p1 p2):Int)>16384))) (fun bb=>[]) [7] (fun bb=>[Mc 0 [.ro .u8 p0,.i .i64 (dF p0 p1 p2),.b (sel bb true (de p0 p1 p2))]]) [0] 176 (fun h1=>?_) (fun h1=>?_) ?_
 have h1':=of_decide_eq_true h1
 exact Wt [] [7] [Mc 0 [.ro .u8 p0,.i .i64 (dF p0 p1 p2),.b true]] [0] 176 (v3 (pu (Ys 2 3) pT)) <|Xe [] [Mc 0 [.ro .u8 p0,.i .i64 (dF p0 p1 p2),.b true]]
 have h1':=of_decide_eq_false h1
 exact Tri.skip <|Xe [] [Mc 0 [.ro .u8 p0,.i .i64 (dF p0 p1 p2),.b (de p0 p1 p2)]]
 refine Xt [Es 2 (aL (cC p0 (dF p0 p1 p2) (sel (decide (((dP p0 p1 p2):Int)>16384)) true (de p0 p1 p2)) (dP p0 p1 p2)))] [3,0] [Mc 0 [.ro .u8 p0,.i .i64 (cX p0 (dF p0 p1 p2) (sel (decide (((dP p0 p1 p2):Int)>16384)) true (de p0 p1 p2)) (dP p0 p1 p2)),.b (cF p0 (dF p0 p1 p2) (sel (decide (((dP p0 p1 p2):Int)>16384)) true (de p0 p1 p2)) (dP p0 p1 p2))]] [0] 256 (v2 (pu (pa pT (pl (show p0.length≤1000000000∧(0:Int)≤(dF p0 p1 p2)∧(dF p0 p1 p2)≤(p0.length:Int) from by (have hq:=nU p2 hC;exact ⟨hC.1,hq.1,hq.2⟩)))) (v2 pT))) ?_
 exact Xz [(0,0)] pz
theorem pq {p0:List Int} {p1:Int} (p2:Bool) (h:p0.length≤1000000000∧(0:Int)≤p1∧p1≤(p0.length:Int)):0≤aj p0 p1 p2∧aj p0 p1 p2≤(p0.length:Int):=by
 have hc:=nU p2 h
 exact om _ _ ⟨h.1,hc.1,hc.2⟩
theorem uU {p0:List Int} {p1:Int} (p2:Bool) (h:p0.length≤1000000000∧(0:Int)≤p1∧p1≤(p0.length:Int)):(aA p0 p1 p2).size≤16384:=by
 have hc:=nU p2 h
 unfold aA
 rw [bS]
 rcases jZ (sel (decide (((dP p0 p1 p2):Int)>16384)) true (de p0 p1 p2)) (dP p0 p1 p2) ⟨h.1,hc.1,hc.2⟩ with ⟨hb,_,_,h1,_⟩|⟨_,h1,_⟩
 ·rw [h1,List.length_take]
  cases hd:decide (dP p0 p1 p2>16384)
  ·have:=of_decide_eq_false hd
   omega
  ·rw [hd,aH] at hb;cases hb
 ·rw [h1];exact Nat.zero_le _
def lF (p0:List Int) (p1:Int) (p2:Bool):Bool :=
 (sel (!p2) ((p1:Int)==((p0.length:Nat):Int)) false)
def GG:List AV→List Blk→Option (Prop × Ret)
 |[.sc (.p 0 0)],[.cells [.ro .u8 p0,.i .i64 p1,.b p2]]=>some (True,⟨.sc (.b (lF p0 p1 p2)),[some (.cells [.ro .u8 p0,.i .i64 p1,.b p2])]⟩)
 |_,_=>none
theorem wl:Known Tryz.prog gD 49 ⟨1,0,GG⟩:=by
 refine Xw Tryz.f49 20 Zn mixed <|fun E args ks C r h hC hlen=>?_
 simp only at h
 unfold GG at h
 split at h
 rotate_left
 cases h
 rename_i p0 p1 p2
 cases h
 simp only [bU] at hlen
 refine ⟨rfl,?_⟩
 refine Xs [] [] 32 (v1 pT) <|Tri.split (!p2) (fun h1=>?_) (fun h1=>?_)
 exact Xu [Eb 8 true] (some [0,1,3,7,15,31,63,127,255,511,63,1087,3135,7231,15423,32767,65535,131071]) [Eb 2 ((p1:Int)==((p0.length:Nat):Int))] [0] [] [] 320 (v3 (pu (Yl 2 3) (v1 (pg h1 (v3 (pu (Yl 1 3) (v3 (pu (Yl 0 3) (v4 pT))))))))) <|Xy (r':=⟨.sc (.b ((p1:Int)==((p0.length:Nat):Int))),[some (.cells [.ro .u8 p0,.i .i64 p1,.b p2])]⟩) [(0,0)] pz (by simp only [lF,h1,aH,aD])
 exact Xu [Eb 8 false] (some [0,1,3,7,15,31,63,127,255,511,63,1087,3135,7231,15423,32767,65535,131071]) [Eb 2 false] [0] [] [] 320 (v3 (pu (Yl 2 3) (v1 (pg h1 (v3 (v9 pT)))))) <|Xy (r':=⟨.sc (.b false),[some (.cells [.ro .u8 p0,.i .i64 p1,.b p2])]⟩) [(0,0)] pz (by simp only [lF,h1,aH,aD])
def tn (p0:Int):List Int :=
 [(IntKind.wrap .u8 (jl .i64 p0 16777216)),(IntKind.wrap .u8 (jl .i64 p0 65536)),(IntKind.wrap .u8 (jl .i64 p0 256)),(IntKind.wrap .u8 p0)]
def Em:List AV→List Blk→Option (Prop × Ret)
 |[.sc (.i .i64 p0)],[]=>some (True,⟨.sc (.sl 0 0 4 1 none),[some (.ints .u8 4 (tn p0))]⟩)
 |_,_=>none
theorem Ke:Known Tryz.prog gD 113 ⟨0,1,Em⟩:=by
 refine Xw Tryz.f113 15 Zn mixed <|fun E args ks C r h hC hlen=>?_
 simp only at h
 unfold Em at h
 split at h
 rotate_left
 cases h
 rename_i p0
 cases h
 simp only [bU] at hlen
 refine ⟨rfl,?_⟩
 exact Xs [] [] 32 (v1 pT) <|Xt [El 2 208 4] [0] [Mi 208 4 [(IntKind.wrap .u8 (jl .i64 p0 16777216)),(IntKind.wrap .u8 (jl .i64 p0 65536)),(IntKind.wrap .u8 (jl .i64 p0 256)),(IntKind.wrap .u8 p0)]] [] 240 (v1 (pu (Yn 16777216) (v2 (pu (Yn 65536) (v2 (pu (Yn 256) (v3 (pu (Yf 4) (v1 pT))))))))) <|Xz [(208,0)] pz
def ig (p0:ByteArray):List Int :=
 (tn ((p0.size:Nat):Int))++(aN p0)
def Cn:List AV→List Blk→Option (Prop × Ret)
 |[.sc (.s p0)],[]=>some ((p0.size≤1000000000),⟨.sc (.sl 0 0 (4+p0.size) 1 none),[some (.ints .u8 (4+p0.size) (ig p0))]⟩)
 |_,_=>none
theorem CI:Known Tryz.prog gD 70 ⟨0,1,Cn⟩:=by
 refine Xw Tryz.f70 8 (Zv Ke 64 1 <|Zn) mixed <|fun E args ks C r h hC hlen=>?_
 simp only at h
 unfold Cn at h
 split at h
 rotate_left
 cases h
 rename_i p0
 cases h
 simp only [bU] at hlen
 refine ⟨rfl,?_⟩
 exact Xs [] [] 32 (v1 pT) <|Xt [El 2 96 (4+p0.size)] [0] [Mi 96 (4+p0.size) ((tn ((p0.size:Nat):Int))++(aN p0))] [] 128 (v2 (pu pz (v1 (pu (Ya pT 1 (4+p0.size) p0.size p0.size 4 4) (v1 pT))))) <|Xz [(96,0)] pz
theorem rS (s:ByteArray):(ig s).length=4+s.size:=by
 unfold ig
 rw [List.length_append,bD]
 rfl
theorem gY:∀ (p:List ByteArray) (k:Nat),k<p.length→(lH (p.take k)+(p.getD k (⟨#[]⟩:ByteArray)).size=lH (p.take (k+1))∧lH (p.take (k+1))≤lH p)
 |[],k,h=>absurd h (Nat.not_lt_zero k)
 |x :: p,0,_=>⟨by simp [lH],by simp [lH]⟩
 |x :: p,k+1,h=>by
  obtain ⟨h1,h2⟩:=gY p k (by simpa using h)
  refine ⟨?_,?_⟩
  ·simp only [List.take_succ_cons,lH,List.getD_cons_succ];omega
  ·simp only [List.take_succ_cons,lH] at h2 ⊢;omega
theorem iS {b:Bool} {x y:ByteArray} {n:Nat} (hx:x.size≤n) (hy:y.size≤n):(sel b x y).size≤n:=by
 cases b
 ·rw [aD];exact hy
 ·rw [aH];exact hx
def eP (p0:List ByteArray) (k0:Nat) (z0:ByteArray):ByteArray :=
 ((sel (decide ((((k0:Nat):Int):Int)>0)) (z0++(⟨#[44]⟩:ByteArray)) z0)++p0.getD k0 ⟨#[]⟩)
def oz (p0:List ByteArray):List Int :=
 (ig (itr (eP p0) p0.length (⟨#[]⟩:ByteArray)))
def bQ (p0:List ByteArray):Nat :=
 4+(itr (eP p0) p0.length (⟨#[]⟩:ByteArray)).size
def yG:List AV→List Blk→Option (Prop × Ret)
 |[.sc (.ros p0)],[]=>some ((lH p0≤500000000∧p0.length≤500000000),⟨.sc (.sl 0 0 (bQ p0) 1 none),[some (.ints .u8 (bQ p0) (oz p0))]⟩)
 |_,_=>none
theorem xl:Known Tryz.prog gD 53 ⟨0,1,yG⟩:=by
 refine Xw Tryz.f53 23 (Zv CI 144 1 <|Zn) mixed <|fun E args ks C r h hC hlen=>?_
 simp only at h
 unfold yG at h
 split at h
 rotate_left
 cases h
 rename_i p0
 cases h
 simp only [bU] at hlen
 refine ⟨rfl,?_⟩
 refine Xs [] [] 32 (v1 pT) <|Xs [Es 3 (⟨#[]⟩:ByteArray)] [] 48 (v1 pT) <|Tri.seq <|Xs [Ei 4 0] [] 64 (v1 pT) <|Tri.block <|Xc p0.length (eP p0) (⟨#[]⟩:ByteArray) (fun k0 z0=>z0.size≤lH (p0.take k0)+k0) (fun k0 z0=>[Ej 4 k0,Es 3 z0]) (fun k0 z0=>[]) (Nat.zero_le _) <|fun k0 z0 hk0 hz0 hJ0=>Tri.seq <|Xs [Eb 8 (decide ((((k0:Nat):Int):Int)<((p0.length:Nat):Int)))] [] 128 (v4 pT) <|Xb (fun h1 h1'=>?_) (fun h1 h1'=>?_)
 refine Tri.skip <|Tri.seq <|Tri.block <|Tri.seq <|Xs [Eb 12 (decide ((((k0:Nat):Int):Int)>0))] [8] 160 (v2 pT) <|Xj (x:=(decide ((((k0:Nat):Int):Int)>0))) (fun bb=>[Es 3 (sel bb (z0++(⟨#[44]⟩:ByteArray)) z0)]) [12,3] (fun bb=>[]) [] 208 (fun h2=>?_) (fun h2=>?_) ?_
 have h2':=of_decide_eq_true h2
 refine Ws [Es 3 (z0++(⟨#[44]⟩:ByteArray))] [12,3] 208 (v1 (pu (pl (show z0.size+(⟨#[44]⟩:ByteArray).size≤9223372036854775807 from by first|omega|decide|(have hq:=gY p0 k0 (by omega);have hz:(sel (decide (((k0:Nat):Int)>0)) (z0++(⟨#[44]⟩:ByteArray)) z0).size≤lH (p0.take k0)+k0+1:=iS (by rw [ByteArray.size_append];show _+1≤_;omega) (by omega);first|omega|(show _+1≤_;omega))|(have hq:=gY p0 k0 (by omega);show _+1≤_;omega)|(rw [List.take_length] at hJ0;omega))) (v1 pT))) ?_
 exact Xe [Es 3 (z0++(⟨#[44]⟩:ByteArray))] []
 have h2':=of_decide_eq_false h2
 exact Tri.skip <|Xe [Es 3 z0] []
 refine Ws [Es 3 ((sel (decide ((((k0:Nat):Int):Int)>0)) (z0++(⟨#[44]⟩:ByteArray)) z0)++p0.getD k0 ⟨#[]⟩)] [3] 320 (v3 (pu (pl (show (0:Int)≤((k0:Nat):Int)∧((k0:Nat):Int)<(p0.length:Int) from by first|omega|decide|(have hq:=gY p0 k0 (by omega);have hz:(sel (decide (((k0:Nat):Int)>0)) (z0++(⟨#[44]⟩:ByteArray)) z0).size≤lH (p0.take k0)+k0+1:=iS (by rw [ByteArray.size_append];show _+1≤_;omega) (by omega);first|omega|(show _+1≤_;omega))|(have hq:=gY p0 k0 (by omega);show _+1≤_;omega)|(rw [List.take_length] at hJ0;omega))) (v1 (pu (pl (show (sel (decide ((((k0:Nat):Int):Int)>0)) (z0++(⟨#[44]⟩:ByteArray)) z0).size+(p0.getD k0 ⟨#[]⟩).size≤9223372036854775807 from by first|omega|decide|(have hq:=gY p0 k0 (by omega);have hz:(sel (decide (((k0:Nat):Int)>0)) (z0++(⟨#[44]⟩:ByteArray)) z0).size≤lH (p0.take k0)+k0+1:=iS (by rw [ByteArray.size_append];show _+1≤_;omega) (by omega);first|omega|(show _+1≤_;omega))|(have hq:=gY p0 k0 (by omega);show _+1≤_;omega)|(rw [List.take_length] at hJ0;omega))) (v1 pT))))) ?_
 exact Wu [Ej 10 (k0+1)] none [Ej 4 (k0+1)] [4] [] [] 368 (v1 (pv pT (Yp k0 1) (v1 pT))) <|Xo [] (by have hq:=(gY p0 k0 (by omega)).1;unfold eP;rw [ByteArray.size_append];have hz:(sel (decide (((k0:Nat):Int)>0)) (z0++(⟨#[44]⟩:ByteArray)) z0).size≤lH (p0.take k0)+k0+1:=iS (by rw [ByteArray.size_append];show _+1≤_;omega) (by omega);omega)
 refine Tri.exit <|?_
 obtain rfl:k0=p0.length:=(by omega);subst hz0
 refine Xt [El 2 144 (4+(itr (eP p0) p0.length (⟨#[]⟩:ByteArray)).size)] [8,4,3,0] [Mi 144 (4+(itr (eP p0) p0.length (⟨#[]⟩:ByteArray)).size) (ig (itr (eP p0) p0.length (⟨#[]⟩:ByteArray)))] [] 176 (v1 (pu (pa pT (pl (show (itr (eP p0) p0.length (⟨#[]⟩:ByteArray)).size≤1000000000 from by first|omega|decide|(have hq:=gY p0 k0 (by omega);have hz:(sel (decide (((k0:Nat):Int)>0)) (z0++(⟨#[44]⟩:ByteArray)) z0).size≤lH (p0.take k0)+k0+1:=iS (by rw [ByteArray.size_append];show _+1≤_;omega) (by omega);first|omega|(show _+1≤_;omega))|(have hq:=gY p0 k0 (by omega);show _+1≤_;omega)|(rw [List.take_length] at hJ0;omega)))) (v1 pT))) ?_
 exact Xz [(144,0)] pz
theorem yz (p:List ByteArray):∀ k,k≤p.length→(itr (eP p) k (⟨#[]⟩:ByteArray)).size≤lH (p.take k)+k:=by
 intro k
 induction k with
 |zero=>intro _;rw [bJ];exact Nat.zero_le _
 |succ k ih =>
  intro hk
  have h1:=ih (by omega)
  have h2:=(gY p k (by omega)).1
  rw [bA]
  unfold eP
  rw [ByteArray.size_append]
  have hz:∀ z:ByteArray,(sel (decide (((k:Nat):Int)>0)) (z++(⟨#[44]⟩:ByteArray)) z).size≤z.size+1:=fun z=>iS (by rw [ByteArray.size_append];exact Nat.le_refl _) (by omega)
  have:=hz (itr (eP p) k (⟨#[]⟩:ByteArray))
  unfold eP at this h1
  omega
theorem kw (p:List ByteArray):(oz p).length≤4+lH p+p.length∧bQ p≤4+lH p+p.length:=by
 have h:=yz p p.length (Nat.le_refl _)
 rw [List.take_length] at h
 unfold oz bQ
 rw [rS]
 omega
theorem lM {α:Type}:∀ (p:List (List α)) (k:Nat),k<p.length→((p.take k).flatten.length+(p.getD k []).length≤p.flatten.length∧(p.take (k+1)).flatten=(p.take k).flatten++p.getD k [])
 |[],k,h=>absurd h (Nat.not_lt_zero k)
 |x :: p,0,_=>⟨by simp,by simp⟩
 |x :: p,k+1,h=>by
  obtain ⟨h1,h2⟩:=lM p k (by simpa using h)
  refine ⟨?_,?_⟩
  ·simp only [List.take_succ_cons,List.flatten_cons,List.length_append,List.getD_cons_succ];omega
  ·rw [List.take_succ_cons,List.take_succ_cons,List.flatten_cons,List.flatten_cons,h2,List.getD_cons_succ,List.append_assoc]
def gq (p0:List (List Int)) (k0:Nat) (z0:List Int):List Int :=
 z0++(p0.getD k0 [])
def pf (p0:List (List Int)):List Int :=
 (itr (gq p0) p0.length ([]:List Int))
def ck (p0:List (List Int)):Nat :=
 (itr (gq p0) p0.length ([]:List Int)).length
def BH:List AV→List Blk→Option (Prop × Ret)
 |[.sc (.rob p0)],[]=>some ((p0.flatten.length≤1000000000∧p0.length≤1000000000),⟨.sc (.sl 0 0 (ck p0) 1 none),[some (.ints .u8 (ck p0) (pf p0))]⟩)
 |_,_=>none
theorem Ib:Known Tryz.prog gD 73 ⟨0,1,BH⟩:=by
 refine Xw Tryz.f73 18 Zn mixed <|fun E args ks C r h hC hlen=>?_
 simp only at h
 unfold BH at h
 split at h
 rotate_left
 cases h
 rename_i p0
 cases h
 simp only [bU] at hlen
 refine ⟨rfl,?_⟩
 refine Xs [] [] 32 (v1 pT) <|Xs [(3,.sc (.nils))] [] 48 (v1 pT) <|Tri.seq <|Xs [Ei 4 0] [] 64 (v1 pT) <|Tri.block <|Tri.sub (Sub.openNil (U:=64) (U':=80) 3 64 1 .u8 none (.inl rfl) (by decide) (by decide) (by kernel_rfl) (by kernel_rfl)) <|Xc p0.length (gq p0) ([]:List Int) (fun k0 z0=>z0=(p0.take k0).flatten) (fun k0 z0=>[El 3 64 z0.length,Ej 4 k0]) (fun k0 z0=>[Mi 64 z0.length z0]) rfl <|fun k0 z0 hk0 hz0 hJ0=>Tri.seq <|Xs [Eb 8 (decide ((((k0:Nat):Int):Int)<((p0.length:Nat):Int)))] [] 144 (v4 pT) <|Xb (fun h1 h1'=>?_) (fun h1 h1'=>?_)
 refine Tri.skip <|Tri.seq <|Tri.block <|Wt [El 3 224 (z0.length+((p0.getD k0 []).length))] [8,3] [Mi 224 (z0.length+((p0.getD k0 []).length)) (z0++(p0.getD k0 []))] [64] 256 (v3 (pu (Yj k0 p0.length) (v1 (pu (pa (pa (pa (Yz 1) (pa (Yl 0 1) (pa (pl (show (z0.length+((p0.getD k0 []).length))*1≤140737488355328 from by (have hq:=(lM p0 k0 (by omega)).1;rw [hJ0];omega))) (pl (show z0.length+((p0.getD k0 []).length)≤140737488355328 from by (have hq:=(lM p0 k0 (by omega)).1;rw [hJ0];omega)))))) (lo ((p0.getD k0 []).length=((p0.getD k0 []).length)*1))) (pa (Yr 1) (lo (0+z0.length*1=z0.length)))) (v1 pT))))) ?_
 exact Wu [Ej 10 (k0+1)] none [Ej 4 (k0+1)] [4] [] [] 304 (v1 (pv pT (Yp k0 1) (v1 pT))) <|Xp (by unfold gq;rw [hJ0,(lM p0 k0 (by omega)).2]) [(64,224)] [El 3 64 (z0.length+((p0.getD k0 []).length)),Ej 4 (k0+1)] [Mi 64 (z0.length+((p0.getD k0 []).length)) (z0++(p0.getD k0 []))] (by simp only [gq,h1,aH,aD,List.length_append,List.length_set,List.length_cons,List.length_nil,Nat.zero_add,Nat.reduceAdd]) (by simp only [gq,h1,aH,aD,List.length_append,List.length_set,List.length_cons,List.length_nil,Nat.zero_add,Nat.reduceAdd])
 refine Tri.exit <|?_
 obtain rfl:k0=p0.length:=(by omega);subst hz0
 exact Xs [El 2 64 ((itr (gq p0) p0.length ([]:List Int)).length)] [8,3,4,0] 176 (v2 pT) <|Xz [(64,0)] pz
theorem yU (p0:List (List Int)):pf p0=p0.flatten:=by
 have h:∀ k,k≤p0.length→itr (gq p0) k []=(p0.take k).flatten:=by
  intro k
  induction k with
  |zero=>intro _;rw [bJ];rfl
  |succ k ih=>intro hk;rw [bA,ih (by omega)];unfold gq;rw [(lM p0 k (by omega)).2]
 unfold pf
 rw [h p0.length (Nat.le_refl _),List.take_length]
def sR (p0:Nat) (p2:List Int) (p3:Int):List Int :=
 p2++[(IntKind.wrap .u8 (ag .u32 p3 24)),(IntKind.wrap .u8 (ag .u32 p3 16)),(IntKind.wrap .u8 (ag .u32 p3 8)),(IntKind.wrap .u8 p3)]
def Fu:List AV→List Blk→Option (Prop × Ret)
 |[.sc (.sl 0 0 p0 1 none),.sc (.i .u32 p3)],[.ints .u8 p1 p2]=>some (((p0=p1)∧(p0≤1000000000)),⟨.sc (.sl 1 0 (p0+4) 1 none),[none,some (.ints .u8 (p0+4) (sR p0 p2 p3))]⟩)
 |_,_=>none
theorem Kk:Known Tryz.prog gD 69 ⟨1,1,Fu⟩:=by
 refine Xw Tryz.f69 19 Zn mixed <|fun E args ks C r h hC hlen=>?_
 simp only at h
 unfold Fu at h
 split at h
 rotate_left
 cases h
 rename_i p0 p3 p1 p2
 cases h
 simp only [bU] at hlen
 obtain ⟨hEp1,hC⟩:=hC
 subst hEp1
 refine ⟨rfl,?_⟩
 exact Xs [] [] 32 (v1 pT) <|Xt [El 4 240 (p0+4)] [0,1] [Mi 240 (p0+4) (p2++[(IntKind.wrap .u8 (ag .u32 p3 24)),(IntKind.wrap .u8 (ag .u32 p3 16)),(IntKind.wrap .u8 (ag .u32 p3 8)),(IntKind.wrap .u8 p3)])] [0] 272 (v2 (pu (Y0 24) (v2 (pu (Y0 16) (v2 (pu (Y0 8) (v3 (pu (Yf 4) (pu (Ya (Yw 4) 1 (p0+4) 4 4 p0 p0) (v1 pT)))))))))) <|Xz [(240,1)] pz
def pC (p3:Int):List Int :=
 [(IntKind.wrap .u8 (ag .u32 p3 24)),(IntKind.wrap .u8 (ag .u32 p3 16)),(IntKind.wrap .u8 (ag .u32 p3 8)),(IntKind.wrap .u8 p3)]
def BO:List AV→List Blk→Option (Prop × Ret)
 |[.sc (.nils),.sc (.i .u32 p3)],[]=>some (True,⟨.sc (.sl 0 0 4 1 none),[some (.ints .u8 4 (pC p3))]⟩)
 |_,_=>none
theorem JK:Known Tryz.prog gD 69 ⟨0,1,BO⟩:=by
 refine Xw Tryz.f69 19 Zn mixed <|fun E args ks C r h hC hlen=>?_
 simp only at h
 unfold BO at h
 split at h
 rotate_left
 cases h
 rename_i p3
 cases h
 simp only [bU] at hlen
 refine ⟨rfl,?_⟩
 exact Xs [] [] 32 (v1 pT) <|Xt [El 4 240 4] [0,1] [Mi 240 4 [(IntKind.wrap .u8 (ag .u32 p3 24)),(IntKind.wrap .u8 (ag .u32 p3 16)),(IntKind.wrap .u8 (ag .u32 p3 8)),(IntKind.wrap .u8 p3)]] [] 272 (v2 (pu (Y0 24) (v2 (pu (Y0 16) (v2 (pu (Y0 8) (v3 (pu (Yf 4) (pu (YN (Yw 4) 1 4 4 4) (v1 pT)))))))))) <|Xz [(240,0)] pz
def dW (p0:Nat) (p2:List Int) (p3:ByteArray):List Int :=
 (sR p0 p2 (IntKind.wrap .u32 ((p3.size:Nat):Int)))++(aN p3)
def Cc:List AV→List Blk→Option (Prop × Ret)
 |[.sc (.sl 0 0 p0 1 none),.sc (.s p3)],[.ints .u8 p1 p2]=>some (((p0=p1)∧(p0≤1000000000∧p3.size≤1000000000)),⟨.sc (.sl 1 0 ((p0+4)+p3.size) 1 none),[none,some (.ints .u8 ((p0+4)+p3.size) (dW p0 p2 p3))]⟩)
 |_,_=>none
theorem fV:Known Tryz.prog gD 32 ⟨1,1,Cc⟩:=by
 refine Xw Tryz.f32 12 (Zc Kk 96 [.io,.val] [] [0] <|Zn) mixed <|fun E args ks C r h hC hlen=>?_
 simp only at h
 unfold Cc at h
 split at h
 rotate_left
 cases h
 rename_i p0 p3 p1 p2
 cases h
 simp only [bU] at hlen
 obtain ⟨hEp1,hC⟩:=hC
 subst hEp1
 refine ⟨rfl,?_⟩
 exact Xs [] [] 32 (v1 pT) <|Xt [El 4 128 ((p0+4)+p3.size)] [0,1] [Mi 128 ((p0+4)+p3.size) ((sR p0 p2 (IntKind.wrap .u32 ((p3.size:Nat):Int)))++(aN p3))] [0] 160 (v4 (pu (pa pT (pa (Yr p0) (Ye p0 1000000000))) (v1 (pu (Ya pT 1 ((p0+4)+p3.size) p3.size p3.size (p0+4) (p0+4)) (v1 pT))))) <|Xz [(128,1)] pz
def gW (p3:ByteArray):List Int :=
 (pC (IntKind.wrap .u32 ((p3.size:Nat):Int)))++(aN p3)
def yR:List AV→List Blk→Option (Prop × Ret)
 |[.sc (.nils),.sc (.s p3)],[]=>some ((p3.size≤1000000000),⟨.sc (.sl 0 0 (4+p3.size) 1 none),[some (.ints .u8 (4+p3.size) (gW p3))]⟩)
 |_,_=>none
theorem ud:Known Tryz.prog gD 32 ⟨0,1,yR⟩:=by
 refine Xw Tryz.f32 12 (Zv JK 96 2 <|Zn) mixed <|fun E args ks C r h hC hlen=>?_
 simp only at h
 unfold yR at h
 split at h
 rotate_left
 cases h
 rename_i p3
 cases h
 simp only [bU] at hlen
 refine ⟨rfl,?_⟩
 exact Xs [] [] 32 (v1 pT) <|Xt [El 4 128 (4+p3.size)] [0,1] [Mi 128 (4+p3.size) ((pC (IntKind.wrap .u32 ((p3.size:Nat):Int)))++(aN p3))] [] 160 (v4 (pu pz (v1 (pu (Ya pT 1 (4+p3.size) p3.size p3.size 4 4) (v1 pT))))) <|Xz [(128,0)] pz
def xk (p0:Nat) (p2:List Int) (p3:List ByteArray):List Int :=
 (dW p0 p2 (mO p3 (⟨#[44]⟩:ByteArray)))
def gR (p0:Nat) (p2:List Int) (p3:List ByteArray):Nat :=
 (p0+4)+(mO p3 (⟨#[44]⟩:ByteArray)).size
def yo:List AV→List Blk→Option (Prop × Ret)
 |[.sc (.sl 0 0 p0 1 none),.sc (.ros p3)],[.ints .u8 p1 p2]=>some (((p0=p1)∧(p0≤1000000000∧p3.length≤1000000000∧(mO p3 (⟨#[44]⟩:ByteArray)).size≤1000000000)),⟨.sc (.sl 1 0 (gR p0 p2 p3) 1 none),[none,some (.ints .u8 (gR p0 p2 p3) (xk p0 p2 p3))]⟩)
 |_,_=>none
theorem Gk:Known Tryz.prog gD 83 ⟨1,1,yo⟩:=by
 refine Xw Tryz.f83 9 (Zc fV 80 [.io,.val] [] [0] <|Zc Ny 64 [.ros,.val] [] [] <|Zn) mixed <|fun E args ks C r h hC hlen=>?_
 simp only at h
 unfold yo at h
 split at h
 rotate_left
 cases h
 rename_i p0 p3 p1 p2
 cases h
 simp only [bU] at hlen
 obtain ⟨hEp1,hC⟩:=hC
 subst hEp1
 refine ⟨rfl,?_⟩
 exact Xs [] [] 32 (v1 pT) <|Xt [El 4 80 ((p0+4)+(mO p3 (⟨#[44]⟩:ByteArray)).size)] [0,1] [Mi 80 ((p0+4)+(mO p3 (⟨#[44]⟩:ByteArray)).size) (dW p0 p2 (mO p3 (⟨#[44]⟩:ByteArray)))] [0] 112 (v2 (pu (pa pT (lo (p3.length≤1000000000∧(mO p3 (⟨#[44]⟩:ByteArray)).size≤1000000000))) (pu (pa pT (pa (Yr p0) (lo (p0≤1000000000∧(mO p3 (⟨#[44]⟩:ByteArray)).size≤1000000000)))) (v1 pT)))) <|Xz [(80,1)] pz
def jW (p0:Nat) (p2:List Int) (p3:Bool):List Int :=
 (sel p3 (p2++[1]) (p2++[0]))
def Cq:List AV→List Blk→Option (Prop × Ret)
 |[.sc (.sl 0 0 p0 1 none),.sc (.b p3)],[.ints .u8 p1 p2]=>some (((p0=p1)∧(p0≤1000000000)),⟨.sc (.sl 1 0 (p0+1) 1 none),[none,some (.ints .u8 (p0+1) (jW p0 p2 p3))]⟩)
 |_,_=>none
theorem sK:Known Tryz.prog gD 33 ⟨1,1,Cq⟩:=by
 refine Xw Tryz.f33 12 Zn mixed <|fun E args ks C r h hC hlen=>?_
 simp only at h
 unfold Cq at h
 split at h
 rotate_left
 cases h
 rename_i p0 p3 p1 p2
 cases h
 simp only [bU] at hlen
 obtain ⟨hEp1,hC⟩:=hC
 subst hEp1
 refine ⟨rfl,?_⟩
 refine Xs [] [] 32 (v1 pT) <|Tri.seq <|Xs [Eb 5 p3] [1] 48 (v1 pT) <|Xa (fun h1=>?_) (fun h1=>?_)
 exact Xt [El 4 80 (p0+1)] [5,0] [Mi 80 (p0+1) (p2++[1])] [0] 112 (v1 (pu (Yf 1) (pu (Ya (Yw 1) 1 (p0+1) 1 1 p0 p0) (v1 pT)))) <|Xy [(80,1)] pz (by simp only [jW,h1,aH,aD] <;> rfl)
 exact Tri.skip <|Xt [El 4 80 (p0+1)] [5,0] [Mi 80 (p0+1) (p2++[0])] [0] 112 (v1 (pu (Yf 1) (pu (Ya (Yw 1) 1 (p0+1) 1 1 p0 p0) (v1 pT)))) <|Xy [(80,1)] pz (by simp only [jW,h1,aH,aD] <;> rfl)
end Go.Vm
namespace Go.Vm
open Go Go.Proofs
def bq (p0:Nat) (p2:List Int):List Int :=
 aC p2 p0 0 p0
def CO:List AV→List Blk→Option (Prop × Ret)
 |[.sc (.sl 0 0 p0 1 none)],[.ints .u8 p1 p2]=>some (((p0=p1)∧True),⟨.sc (.p 1 0),[none,some (.cells [.ro .u8 (bq p0 p2),.b false])]⟩)
 |_,_=>none
theorem wc:Known Tryz.prog gD 41 ⟨1,1,CO⟩:=by
 refine Xw Tryz.f41 6 Zn mixed <|fun E args ks C r h hC hlen=>?_
 simp only at h
 unfold CO at h
 split at h
 rotate_left
 cases h
 rename_i p0 p1 p2
 cases h
 simp only [bU] at hlen
 obtain ⟨hEp1,hC⟩:=hC
 subst hEp1
 refine ⟨rfl,?_⟩
 refine Tri.sub (Xf 0 (.ints .u8 p0 p2) (show 0+p0≤p0 from by first|omega|(rw [ea];omega)|exact ed _ _|exact ec _ _|exact al (by omega) (by first|omega|(simp only [List.length_append];omega))|decide)) ?_
 exact Xs [] [] 32 (v1 pT) <|Xt [Ep 2 64] [0] [Mc 64 [.ro .u8 (aC p2 p0 0 p0),.b false]] [] 96 (v1 (pu (pa (Ys 0 2) pT) (v2 pT))) <|Xz [(64,1)] pz
def tu:List Int :=
 (gW (⟨#[115,115,104,45,101,100,50,53,53,49,57]⟩:ByteArray))
def pB (p0:ByteArray):List Int :=
 (dW (4+(⟨#[115,115,104,45,101,100,50,53,53,49,57]⟩:ByteArray).size) (tu) p0)
def cE (p0:ByteArray):ByteArray :=
 (aL (((pB p0).drop 0).take (((4+(⟨#[115,115,104,45,101,100,50,53,53,49,57]⟩:ByteArray).size)+4)+p0.size)))
def Gj:List AV→List Blk→Option (Prop × Ret)
 |[.sc (.s p0)],[]=>some ((p0.size≤1000000000),⟨.sc (.s (cE p0)),[]⟩)
 |_,_=>none
theorem Lt:Known Tryz.prog gD 29 ⟨0,0,Gj⟩:=by
 refine Xw Tryz.f29 7 (Zv ud 32 2 <|Zc fV 64 [.io,.val] [] [32] <|Zn) mixed <|fun E args ks C r h hC hlen=>?_
 simp only at h
 unfold Gj at h
 split at h
 rotate_left
 cases h
 rename_i p0
 cases h
 simp only [bU] at hlen
 have sz:(⟨#[115,115,104,45,101,100,50,53,53,49,57]⟩:ByteArray).size=11:=rfl
 refine ⟨rfl,?_⟩
 exact Xs [] [] 32 (v1 pT) <|Xs [Es 2 (aL (((pB p0).drop 0).take (((4+(⟨#[115,115,104,45,101,100,50,53,53,49,57]⟩:ByteArray).size)+4)+p0.size)))] [0] 112 (pu (pa pT (Ye ((⟨#[115,115,104,45,101,100,50,53,53,49,57]⟩:ByteArray).size) 1000000000)) (v1 (pu (pa pT (pa (Yr (4+(⟨#[115,115,104,45,101,100,50,53,53,49,57]⟩:ByteArray).size)) (lo ((4+(⟨#[115,115,104,45,101,100,50,53,53,49,57]⟩:ByteArray).size)≤1000000000∧p0.size≤1000000000)))) (pu (Yw (((4+(⟨#[115,115,104,45,101,100,50,53,53,49,57]⟩:ByteArray).size)+4)+p0.size)) (v1 pT))))) <|Xz [] pz
theorem js (s:ByteArray):(cE s).size≤s.size+19:=by
 have sz:(⟨#[115,115,104,45,101,100,50,53,53,49,57]⟩:ByteArray).size=11:=rfl
 unfold cE
 rw [bS,List.length_take,sz]
 omega
def vH:List Int :=
 (ig (⟨#[115,115,104,45,101,100,50,53,53,49,57]⟩:ByteArray))
def pU (p0:ByteArray):ByteArray :=
 (aL ((((vH)++(aC (ig p0) (4+p0.size) 0 (4+p0.size))).drop 0).take ((4+(⟨#[115,115,104,45,101,100,50,53,53,49,57]⟩:ByteArray).size)+(4+p0.size))))
def BJ:List Int :=
 (gW (⟨#[115,115,104,45,101,100,50,53,53,49,57]⟩:ByteArray))
def xO (p0:List Int):List Int :=
 (dW (4+(⟨#[115,115,104,45,101,100,50,53,53,49,57]⟩:ByteArray).size) (BJ) (aL p0))
def tf (p0:List Int):ByteArray :=
 (aL (((xO p0).drop 0).take (((4+(⟨#[115,115,104,45,101,100,50,53,53,49,57]⟩:ByteArray).size)+4)+(aL p0).size)))
def Jt:List AV→List Blk→Option (Prop × Ret)
 |[.sc (.ro .u8 p0)],[]=>some ((p0.length≤1000000000),⟨.sc (.s (tf p0)),[]⟩)
 |_,_=>none
theorem OB:Known Tryz.prog gD 35 ⟨0,0,Jt⟩:=by
 refine Xw Tryz.f35 8 (Zv ud 32 2 <|Zc fV 80 [.io,.val] [] [32] <|Zn) mixed <|fun E args ks C r h hC hlen=>?_
 simp only at h
 unfold Jt at h
 split at h
 rotate_left
 cases h
 rename_i p0
 cases h
 simp only [bU] at hlen
 have sz:(⟨#[115,115,104,45,101,100,50,53,53,49,57]⟩:ByteArray).size=11:=rfl
 refine ⟨rfl,?_⟩
 refine Xs [] [] 32 (v1 pT) <|Xu [] (some [0,0,2,7,15,31]) [Es 2 (aL (((xO p0).drop 0).take (((4+(⟨#[115,115,104,45,101,100,50,53,53,49,57]⟩:ByteArray).size)+4)+(aL p0).size)))] [0] [] [] 128 (pu (pa pT (Ye ((⟨#[115,115,104,45,101,100,50,53,53,49,57]⟩:ByteArray).size) 1000000000)) (v2 (pu (pa pT (pa (Yr (4+(⟨#[115,115,104,45,101,100,50,53,53,49,57]⟩:ByteArray).size)) (pl (show (4+(⟨#[115,115,104,45,101,100,50,53,53,49,57]⟩:ByteArray).size)≤1000000000∧(aL p0).size≤1000000000 from by (rw [bS];omega))))) (pu (Yw (((4+(⟨#[115,115,104,45,101,100,50,53,53,49,57]⟩:ByteArray).size)+4)+(aL p0).size)) (v1 pT))))) ?_
 exact Xz [] pz
def gm (p0:ByteArray):ByteArray :=
 (bB (bI (bq p0.size (aN p0)) false) (bM (bq p0.size (aN p0)) false))
def jq (p0:ByteArray):List Int :=
 (bI (bI (bq p0.size (aN p0)) false) (bM (bq p0.size (aN p0)) false))
def ju (p0:ByteArray):Bool :=
 (bM (bI (bq p0.size (aN p0)) false) (bM (bq p0.size (aN p0)) false))
def cB (p0:ByteArray):ByteArray :=
 (sel (!(gN (jq p0) (ju p0))) (⟨#[]⟩:ByteArray) (sel (!(aB (bB (bq p0.size (aN p0)) false) (⟨#[115,115,104,45,101,100,50,53,53,49,57]⟩:ByteArray))) (⟨#[]⟩:ByteArray) (sel (((((gm p0).size:Nat):Int):Int) != 32) (⟨#[]⟩:ByteArray) (gm p0))))
def tV:List AV→List Blk→Option (Prop × Ret)
 |[.sc (.s p0)],[]=>some ((p0.size≤1000000000),⟨.sc (.s (cB p0)),[]⟩)
 |_,_=>none
theorem AL:Known Tryz.prog gD 80 ⟨0,0,tV⟩:=by
 refine Xw Tryz.f80 26 (Zc wc 64 [.io] [] [48] <|Zc gS 112 [.io] [] [64] <|Zc gS 144 [.io] [] [64] <|Zc mR 208 [.io] [] [64] <|Zn) mixed <|fun E args ks C r h hC hlen=>?_
 simp only at h
 unfold tV at h
 split at h
 rotate_left
 cases h
 rename_i p0
 cases h
 simp only [bU] at hlen
 refine ⟨rfl,?_⟩
 refine Xs [] [] 32 (v1 pT) <|Xt [Ep 3 64] [0] [Mc 64 [.ro .u8 (bq p0.size (aN p0)),.b false]] [] 96 (v2 (pu (pa pT (pa (Yr p0.size) pT)) (v1 pT))) <|Xt [Es 5 (gm p0),Es 4 (bB (bq p0.size (aN p0)) false)] [] [Mc 64 [.ro .u8 (jq p0),.b (ju p0)]] [64] 192 (v1 (pu pz (v1 (pu pz (v2 pT))))) <|Tri.seq <|Tri.split (!(gN (jq p0) (ju p0))) (fun h1=>?_) (fun h1=>?_)
 exact Xu [Eb 16 true] none [Eb 24 true] [4,3] [] [64] 384 (v1 (pu pz (v1 (pg h1 (v8 pT))))) <|Tri.cond_true (by kernel_rfl) <|Xs [Es 2 (⟨#[]⟩:ByteArray)] [24,5] 400 (v1 pT) <|Xy [] pz (by simp only [cB,h1,aH,aD] <;> rfl)
 refine Tri.split (!(aB (bB (bq p0.size (aN p0)) false) (⟨#[115,115,104,45,101,100,50,53,53,49,57]⟩:ByteArray))) (fun h2=>?_) (fun h2=>?_)
 exact Xu [Eb 16 false,Eb 20 true] none [Eb 24 true] [4,3] [] [64] 384 (v1 (pu pz (v1 (pg h1 (v3 (pg h2 (v4 pT))))))) <|Tri.cond_true (by kernel_rfl) <|Xs [Es 2 (⟨#[]⟩:ByteArray)] [24,5] 400 (v1 pT) <|Xy [] pz (by simp only [cB,h1,h2,aH,aD] <;> rfl)
 refine Xu [Eb 16 false,Eb 20 false] none [Eb 24 (((((gm p0).size:Nat):Int):Int) != 32)] [4,3] [] [64] 384 (v1 (pu pz (v1 (pg h1 (v3 (pg h2 (v4 pT))))))) <|Xa (fun h3=>?_) (fun h3=>?_)
 have h3':=cM h3
 exact Xs [Es 2 (⟨#[]⟩:ByteArray)] [24,5] 400 (v1 pT) <|Xy [] pz (by simp only [cB,h1,h2,h3,aH,aD] <;> rfl)
 have h3':=bW h3
 exact Tri.skip <|Xs [Es 2 (gm p0)] [24,5] 416 (v2 pT) <|Xy [] pz (by simp only [cB,h1,h2,h3,aH,aD] <;> rfl)
def da (p:List Int) (i:Int):Prop:=p.length≤1000000000∧(0:Int)≤i∧i≤(p.length:Int)
theorem LL {p:List Int} (h:p.length≤1000000000):da p 0:=⟨h,by omega,by omega⟩
theorem dh {p:List Int} {i:Int} {b:Bool} (h:da p i):da p (aj p i b):=⟨h.1,pq b h⟩
theorem fu {p:List Int} {i:Int} {b:Bool} (h:da p i):da p (aE p i b):=⟨h.1,xz b h⟩
theorem Fq {p:List Int} {i:Int} {b:Bool} (h:da p i):da p (dF p i b):=⟨h.1,nU b h⟩
theorem BN {p:List Int} {i n:Int} {b:Bool} (h:da p i):da p (cX p i b n):=⟨h.1,om b n h⟩
theorem Kj {p:ByteArray} (h:p.size≤1000000000):(aC (aN p) p.size 0 p.size).length≤1000000000:=al h (by rw [bD];exact h)
def jU (p0:ByteArray):ByteArray :=
 (aA (aC (aN p0) p0.size 0 p0.size) (aj (aC (aN p0) p0.size 0 p0.size) 0 false) (aW (aC (aN p0) p0.size 0 p0.size) 0 false))
def oP (p0:ByteArray):Bool :=
 (aW (aC (aN p0) p0.size 0 p0.size) (aj (aC (aN p0) p0.size 0 p0.size) 0 false) (aW (aC (aN p0) p0.size 0 p0.size) 0 false))
def oK (p0:ByteArray):Bool :=
 (lF (aC (aN p0) p0.size 0 p0.size) (aj (aC (aN p0) p0.size 0 p0.size) (aj (aC (aN p0) p0.size 0 p0.size) 0 false) (aW (aC (aN p0) p0.size 0 p0.size) 0 false)) (oP p0))
def aM (p0:ByteArray) (p1:Int):ByteArray :=
 (sel (!(oK p0)) (⟨#[]⟩:ByteArray) (sel (!(aB (aA (aC (aN p0) p0.size 0 p0.size) 0 false) (⟨#[115,115,104,45,101,100,50,53,53,49,57]⟩:ByteArray))) (⟨#[]⟩:ByteArray) (sel (((((jU p0).size:Nat):Int):Int) != p1) (⟨#[]⟩:ByteArray) (jU p0))))
def zE:List AV→List Blk→Option (Prop × Ret)
 |[.sc (.s p0),.sc (.i .i64 p1)],[]=>some ((p0.size≤1000000000),⟨.sc (.s (aM p0 p1)),[]⟩)
 |_,_=>none
theorem yy:Known Tryz.prog gD 50 ⟨0,0,zE⟩:=by
 refine Xw Tryz.f50 30 (Zc jr 128 [.io] [] [80] <|Zc jr 176 [.io] [] [80] <|Zc wl 224 [.io] [] [80] <|Zn) mixed <|fun E args ks C r h hC hlen=>?_
 simp only at h
 unfold zE at h
 split at h
 rotate_left
 cases h
 rename_i p0 p1
 cases h
 simp only [bU] at hlen
 have cs:=LL (Kj hC)
 refine ⟨rfl,?_⟩
 refine Xs [] [] 32 (v1 pT) <|Xt [Ep 5 80] [0] [Mc 80 [.sl 48 0 p0.size 1 none,.i .i64 0,.b false],Mi 48 p0.size (aN p0)] [] 112 (v2 (pu (pa (Ys 0 3) pT) (v2 pT))) <|Tri.sub (Xf 48 (.ints .u8 p0.size (aN p0)) (show 0+p0.size≤p0.size from by first|omega|(rw [ea];omega)|exact ed _ _|exact ec _ _|exact al (by omega) (by first|omega|(simp only [List.length_append];omega))|decide)) ?_
 refine Xt [Es 6 (aA (aC (aN p0) p0.size 0 p0.size) 0 false)] [] [Mc 80 [.ro .u8 (aC (aN p0) p0.size 0 p0.size),.i .i64 (aj (aC (aN p0) p0.size 0 p0.size) 0 false),.b (aW (aC (aN p0) p0.size 0 p0.size) 0 false)]] [80] 160 (v1 (pu (pa pT (pl (show (aC (aN p0) p0.size 0 p0.size).length≤1000000000∧(0:Int)≤0∧0≤((aC (aN p0) p0.size 0 p0.size).length:Int) from by (show da _ _;repeat (first|exact cs|refine dh ?_|refine fu ?_|refine Fq ?_|refine BN ?_))))) (v1 pT))) ?_
 refine Xt [Es 7 (jU p0)] [] [Mc 80 [.ro .u8 (aC (aN p0) p0.size 0 p0.size),.i .i64 (aj (aC (aN p0) p0.size 0 p0.size) (aj (aC (aN p0) p0.size 0 p0.size) 0 false) (aW (aC (aN p0) p0.size 0 p0.size) 0 false)),.b (oP p0)]] [80] 208 (v1 (pu (pa pT (pl (show (aC (aN p0) p0.size 0 p0.size).length≤1000000000∧(0:Int)≤(aj (aC (aN p0) p0.size 0 p0.size) 0 false)∧(aj (aC (aN p0) p0.size 0 p0.size) 0 false)≤((aC (aN p0) p0.size 0 p0.size).length:Int) from by (show da _ _;repeat (first|exact cs|refine dh ?_|refine fu ?_|refine Fq ?_|refine BN ?_))))) (v1 pT))) ?_
 refine Tri.seq <|Tri.split (!(oK p0)) (fun h1=>?_) (fun h1=>?_)
 exact Xu [Eb 19 true] none [Eb 28 true] [6,5,1] [] [80] 416 (v1 (pu pz (v1 (pg h1 (v9 pT))))) <|Tri.cond_true (by kernel_rfl) <|Xs [Es 4 (⟨#[]⟩:ByteArray)] [28,7] 432 (v1 pT) <|Xy [] pz (by simp only [aM,h1,aH,aD] <;> rfl)
 refine Tri.split (!(aB (aA (aC (aN p0) p0.size 0 p0.size) 0 false) (⟨#[115,115,104,45,101,100,50,53,53,49,57]⟩:ByteArray))) (fun h2=>?_) (fun h2=>?_)
 exact Xu [Eb 19 false,Eb 23 true] none [Eb 28 true] [6,5,1] [] [80] 416 (v1 (pu pz (v1 (pg h1 (v3 (pg h2 (v5 pT))))))) <|Tri.cond_true (by kernel_rfl) <|Xs [Es 4 (⟨#[]⟩:ByteArray)] [28,7] 432 (v1 pT) <|Xy [] pz (by simp only [aM,h1,h2,aH,aD] <;> rfl)
 refine Xu [Eb 19 false,Eb 23 false] none [Eb 28 (((((jU p0).size:Nat):Int):Int) != p1)] [6,5,1] [] [80] 416 (v1 (pu pz (v1 (pg h1 (v3 (pg h2 (v5 pT))))))) <|Xa (fun h3=>?_) (fun h3=>?_)
 have h3':=cM h3
 exact Xs [Es 4 (⟨#[]⟩:ByteArray)] [28,7] 432 (v1 pT) <|Xy [] pz (by simp only [aM,h1,h2,h3,aH,aD] <;> rfl)
 have h3':=bW h3
 exact Tri.skip <|Xs [Es 4 (jU p0)] [28,7] 448 (v2 pT) <|Xy [] pz (by simp only [aM,h1,h2,h3,aH,aD] <;> rfl)
def fe (p0:ByteArray):ByteArray :=
 (bB (bI (bq p0.size (aN p0)) false) (bM (bq p0.size (aN p0)) false))
def ib (p0:ByteArray):List Int :=
 (bI (bI (bq p0.size (aN p0)) false) (bM (bq p0.size (aN p0)) false))
def iX (p0:ByteArray):Bool :=
 (bM (bI (bq p0.size (aN p0)) false) (bM (bq p0.size (aN p0)) false))
def kr (p0:ByteArray):Bool:=sel (!(gN (ib p0) (iX p0))) true (sel (!(aB (bB (bq p0.size (aN p0)) false) (⟨#[115,115,104,45,101,100,50,53,53,49,57]⟩:ByteArray))) true (((((fe p0).size:Nat):Int):Int) != 64))
theorem Bg {p0:ByteArray} (h:kr p0=false):(!(gN (ib p0) (iX p0)))=false∧(!(aB (bB (bq p0.size (aN p0)) false) (⟨#[115,115,104,45,101,100,50,53,53,49,57]⟩:ByteArray)))=false∧(((((fe p0).size:Nat):Int):Int) != 64)=false:=by
 unfold kr at h
 revert h
 generalize (!(gN (ib p0) (iX p0)))=a
 generalize (!(aB (bB (bq p0.size (aN p0)) false) (⟨#[115,115,104,45,101,100,50,53,53,49,57]⟩:ByteArray)))=b
 generalize (((((fe p0).size:Nat):Int):Int) != 64)=c
 intro h
 cases a
 ·cases b
  ·rw [aD,aD] at h;exact ⟨rfl,rfl,h⟩
  ·rw [aD,aH] at h;cases h
 ·rw [aH] at h;cases h
theorem Hy {p0:ByteArray} (h:kr p0=true) (h1:(!(gN (ib p0) (iX p0)))=false) (h2:(!(aB (bB (bq p0.size (aN p0)) false) (⟨#[115,115,104,45,101,100,50,53,53,49,57]⟩:ByteArray)))=false):(((((fe p0).size:Nat):Int):Int) != 64)=true:=by
 unfold kr at h
 rw [h1,h2,aD,aD] at h
 exact h
def bV (p0:ByteArray):ByteArray :=
 (bB (bI (bq p0.size (aN p0)) false) (bM (bq p0.size (aN p0)) false))
def oF (p0:ByteArray):List Int :=
 (bI (bI (bq p0.size (aN p0)) false) (bM (bq p0.size (aN p0)) false))
def oB (p0:ByteArray):Bool :=
 (bM (bI (bq p0.size (aN p0)) false) (bM (bq p0.size (aN p0)) false))
def dg (p0:ByteArray):List Int :=
 aN (bV p0)
def re:List AV→List Blk→Option (Prop × Ret)
 |[.sc (.s p0)],[]=>some ((((kr p0)=false)∧(p0.size≤1000000000)),⟨.sc (.sl 0 0 ((bV p0).size) 1 none),[some (.ints .u8 ((bV p0).size) (dg p0))]⟩)
 |_,_=>none
theorem mh:Known Tryz.prog gD 81 ⟨0,1,re⟩:=by
 refine Xw Tryz.f81 27 (Zc wc 64 [.io] [] [48] <|Zc gS 112 [.io] [] [64] <|Zc gS 144 [.io] [] [64] <|Zc mR 208 [.io] [] [64] <|Zn) mixed <|fun E args ks C r h hC hlen=>?_
 simp only at h
 unfold re at h
 split at h
 rotate_left
 cases h
 rename_i p0
 cases h
 simp only [bU] at hlen
 have hG0:=hC.1
 have hC:=hC.2
 have hsig:=Bg hG0
 refine ⟨rfl,?_⟩
 refine Xs [] [] 32 (v1 pT) <|Xt [Ep 3 64] [0] [Mc 64 [.ro .u8 (bq p0.size (aN p0)),.b false]] [] 96 (v2 (pu (pa pT (pa (Yr p0.size) pT)) (v1 pT))) <|Xt [Es 5 (bV p0),Es 4 (bB (bq p0.size (aN p0)) false)] [] [Mc 64 [.ro .u8 (oF p0),.b (oB p0)]] [64] 192 (v1 (pu pz (v1 (pu pz (v2 pT))))) <|Tri.seq <|Xu [Eb 16 false,Eb 20 false] none [Eb 24 (((((bV p0).size:Nat):Int):Int) != 64)] [4,3] [] [64] 384 (v1 (pu pz (v1 (pv pT (pl (show (!(gN (oF p0) (oB p0)))=false from hsig.1)) (v3 (pv pT (pl (show (!(aB (bB (bq p0.size (aN p0)) false) (⟨#[115,115,104,45,101,100,50,53,53,49,57]⟩:ByteArray)))=false from hsig.2.1)) (v4 pT))))))) <|Tri.cond (x:=(((((bV p0).size:Nat):Int):Int) != 64)) (by kernel_rfl) (fun h=>absurd (h.symm.trans hsig.2.2) (by decide)) (fun h=>?_)
 exact Tri.skip <|Xt [El 2 400 ((bV p0).size)] [24,5] [Mi 400 ((bV p0).size) (aN (bV p0))] [] 432 (v3 pT) <|Xz [(400,0)] pz
theorem ID {p0:ByteArray} (h:kr p0=false):0<(bV p0).size:=by
 have h3:=bW (Bg h).2.2
 have e:(bV p0).size=(fe p0).size:=rfl
 omega
def lG (p0:ByteArray):ByteArray :=
 (bB (bI (bq p0.size (aN p0)) false) (bM (bq p0.size (aN p0)) false))
def oA (p0:ByteArray):List Int :=
 (bI (bI (bq p0.size (aN p0)) false) (bM (bq p0.size (aN p0)) false))
def oG (p0:ByteArray):Bool :=
 (bM (bI (bq p0.size (aN p0)) false) (bM (bq p0.size (aN p0)) false))
def rf:List AV→List Blk→Option (Prop × Ret)
 |[.sc (.s p0)],[]=>some ((((kr p0)=true)∧(p0.size≤1000000000)),⟨.sc (.nils),[]⟩)
 |_,_=>none
theorem xn:Known Tryz.prog gD 81 ⟨0,0,rf⟩:=by
 refine Xw Tryz.f81 27 (Zc wc 64 [.io] [] [48] <|Zc gS 112 [.io] [] [64] <|Zc gS 144 [.io] [] [64] <|Zc mR 208 [.io] [] [64] <|Zn) mixed <|fun E args ks C r h hC hlen=>?_
 simp only at h
 unfold rf at h
 split at h
 rotate_left
 cases h
 rename_i p0
 cases h
 simp only [bU] at hlen
 have hG0:=hC.1
 have hC:=hC.2
 refine ⟨rfl,?_⟩
 refine Xs [] [] 32 (v1 pT) <|Xt [Ep 3 64] [0] [Mc 64 [.ro .u8 (bq p0.size (aN p0)),.b false]] [] 96 (v2 (pu (pa pT (pa (Yr p0.size) pT)) (v1 pT))) <|Xt [Es 5 (lG p0),Es 4 (bB (bq p0.size (aN p0)) false)] [] [Mc 64 [.ro .u8 (oA p0),.b (oG p0)]] [64] 192 (v1 (pu pz (v1 (pu pz (v2 pT))))) <|Tri.seq <|Tri.split (!(gN (oA p0) (oG p0))) (fun h1=>?_) (fun h1=>?_)
 exact Xu [Eb 16 true] none [Eb 24 true] [4,3] [] [64] 384 (v1 (pu pz (v1 (pg h1 (v8 pT))))) <|Tri.cond_true (by kernel_rfl) <|Xs [(2,.sc (.nils))] [24,5] 400 (v1 pT) <|Xy [] pz rfl
 refine Tri.split (!(aB (bB (bq p0.size (aN p0)) false) (⟨#[115,115,104,45,101,100,50,53,53,49,57]⟩:ByteArray))) (fun h2=>?_) (fun h2=>?_)
 exact Xu [Eb 16 false,Eb 20 true] none [Eb 24 true] [4,3] [] [64] 384 (v1 (pu pz (v1 (pg h1 (v3 (pg h2 (v4 pT))))))) <|Tri.cond_true (by kernel_rfl) <|Xs [(2,.sc (.nils))] [24,5] 400 (v1 pT) <|Xy [] pz rfl
 refine Xu [Eb 16 false,Eb 20 false] none [Eb 24 (((((lG p0).size:Nat):Int):Int) != 64)] [4,3] [] [64] 384 (v1 (pu pz (v1 (pg h1 (v3 (pg h2 (v4 pT))))))) <|Tri.cond (x:=(((((lG p0).size:Nat):Int):Int) != 64)) (by kernel_rfl) (fun h=>?_) (fun h=>absurd (h.symm.trans (Hy hG0 h1 h2)) (by decide))
 exact Xs [(2,.sc (.nils))] [24,5] 400 (v1 pT) <|Xy [] pz rfl
end Go.Vm
namespace Go.Vm
open Go Go.Proofs
def sZ (p0:Int) (k0:Nat) (z0:List Int):List Int :=
 z0.set k0 p0
def oo (p0:Int):List Int :=
 (itr (sZ p0) 32 (List.replicate 32 0))
def aR (p0:Int):ByteArray :=
 (aL (((oo p0).drop 0).take 32))
def Et:List AV→List Blk→Option (Prop × Ret)
 |[.sc (.i .u8 p0)],[]=>some (True,⟨.sc (.s (aR p0)),[]⟩)
 |_,_=>none
theorem xS:Known Tryz.prog gD 25 ⟨0,0,Et⟩:=by
 refine Xw Tryz.f25 18 Zn mixed <|fun E args ks C r h hC hlen=>?_
 simp only at h
 unfold Et at h
 split at h
 rotate_left
 cases h
 rename_i p0
 cases h
 simp only [bU] at hlen
 refine ⟨rfl,?_⟩
 refine Xs [] [] 32 (v1 pT) <|Xt [El 3 32 32] [] [Mi 32 32 (List.replicate 32 0)] [] 64 (pu (pa (lo ((0:Int)≤32∧(32:Int)=32)) (pa (lo (32≤(140737488355328:Int))) (lo (((1:Nat):Int)*32≤281474976710656)))) (v1 pT)) <|Tri.seq <|Xs [Ei 8 0,Ei 7 32] [] 112 (v3 pT) <|Tri.block <|Xc 32 (sZ p0) (List.replicate 32 0) (fun k0 z0=>True) (fun k0 z0=>[Ej 8 k0]) (fun k0 z0=>[Mi 32 32 z0]) trivial <|fun k0 z0 hk0 hz0 hJ0=>Xs [Eb 9 (decide ((((k0:Nat):Int):Int)<32))] [] 128 (v1 pT) <|Tri.seq <|Xb (fun h1 h1'=>?_) (fun h1 h1'=>?_)
 exact Tri.skip <|Tri.seq <|Tri.block <|Xs [Ej 4 k0] [9] 160 (v2 pT) <|Wt [] [4] [Mi 32 32 (z0.set k0 p0)] [32] 240 (v3 (pu (Yj k0 32) (pu (Ys k0 32) pT))) <|Wu [Ej 15 (k0+1)] none [Ej 8 (k0+1)] [8] [] [] 272 (pv pT (Yp k0 1) (v1 pT)) <|Xo [] trivial
 refine Tri.exit <|?_
 obtain rfl:k0=32:=(by omega);obtain rfl:z0=(oo p0):=hz0
 exact Xt [Es 2 (aL (((oo p0).drop 0).take 32))] [9,8,7,3,0] [] [32] 176 (v1 (pu (Yw 32) (v1 pT))) <|Xz [] pz
theorem nV (c:Int):(aR c).size=32:=by
 have h:∀ (f:Nat→List Int→List Int) (hf:∀ k z,(f k z).length=z.length) (n:Nat) (z:List Int),(itr f n z).length=z.length:=by
  intro f hf n z
  induction n with
  |zero=>rw [bJ]
  |succ n ih=>rw [bA,hf,ih]
 unfold aR oo
 rw [bS,List.length_take,List.drop_zero,h _ (fun k z=>by unfold sZ;rw [List.length_set])]
 decide
theorem zI (c:Int):(aC (aN (aR c)) (aR c).size 0 (aR c).size).length=32:=by rw [bF (bD _),bD,nV]
def nR:List Int :=
 (DG (aC (aN (aR 107)) ((aR 107).size) 0 ((aR 107).size)))
def uz:List Int :=
 (DG (aC (aN (aR 99)) ((aR 99).size) 0 ((aR 99).size)))
def bG:ByteArray :=
 (aL (((nR).drop 0).take 32))
def ak:ByteArray :=
 (aL (((uz).drop 0).take 32))
def UA:List Sc:=[.s (⟨#[97,110,110]⟩:ByteArray),.s (⟨#[115,101,99,114,101,116]⟩:ByteArray),.s (⟨#[]⟩:ByteArray),.nils,.s (⟨#[98,111,98]⟩:ByteArray),.s (⟨#[]⟩:ByteArray),.s (bG),.nils,.s (⟨#[99,121]⟩:ByteArray),.s (⟨#[119,111,114,100]⟩:ByteArray),.s (ak),.nils,.s (⟨#[110,105,108]⟩:ByteArray),.s (⟨#[]⟩:ByteArray),.s (⟨#[]⟩:ByteArray),.nils]
def Bl:List AV→List Blk→Option (Prop × Ret)
 |[],[]=>some (True,⟨.sc (.sl 0 0 4 4 none),[some (.cells UA)]⟩)
 |_,_=>none
theorem pe:Known Tryz.prog gD 19 ⟨0,1,Bl⟩:=by
 refine Xw Tryz.f19 16 (Zc NV 64 [.ro .u8] [48] [] <|Zc NV 192 [.ro .u8] [176] [] <|Zv xS 32 1 <|Zv xS 160 1 <|Zn) mixed <|fun E args ks C r h hC hlen=>?_
 simp only at h
 unfold Bl at h
 split at h
 rotate_left
 cases h
 cases h
 simp only [bU] at hlen
 refine ⟨rfl,?_⟩
 exact Xs [] [] 32 (v1 pT) <|Xs [Es 1 (aL (((nR).drop 0).take 32))] [] 112 (pu pz (v1 (pu (pa (pa (Yw ((aR 107).size)) pT) (pl (show (aC (aN (aR 107)) ((aR 107).size) 0 ((aR 107).size)).length=32 from zI _))) (pu (Yw 32) (v1 pT))))) <|Xt [(0,.sc (.sl 256 0 4 4 none))] [1] [Mc 256 [.s (⟨#[97,110,110]⟩:ByteArray),.s (⟨#[115,101,99,114,101,116]⟩:ByteArray),.s (⟨#[]⟩:ByteArray),.nils,.s (⟨#[98,111,98]⟩:ByteArray),.s (⟨#[]⟩:ByteArray),.s (aL (((nR).drop 0).take 32)),.nils,.s (⟨#[99,121]⟩:ByteArray),.s (⟨#[119,111,114,100]⟩:ByteArray),.s (aL (((uz).drop 0).take 32)),.nils,.s (⟨#[110,105,108]⟩:ByteArray),.s (⟨#[]⟩:ByteArray),.s (⟨#[]⟩:ByteArray),.nils]] [] 288 (pu (pa (Ys 0 4) (pa (Ys 1 4) pT)) (v1 (pu (pa (Ys 0 4) (pa (Ys 2 4) pT)) (pu pz (v1 (pu (pa (pa (Yw ((aR 99).size)) pT) (pl (show (aC (aN (aR 99)) ((aR 99).size) 0 ((aR 99).size)).length=32 from zI _))) (pu (Yw 32) (pu (pa (Ys 0 4) (pa (Ys 1 4) (pa (Ys 2 4) pT))) (pu (pa (Ys 0 4) pT) (pu (pa (pa (pa (Ye (0+4) 16) (Yr 4)) (pa (pa (Ye (4+4) 16) (Yr 4)) (pa (pa (Ye (8+4) 16) (Yr 4)) (pa (pa (Ye (12+4) 16) (Yr 4)) pT)))) (pa (Ye (4*4) 16777216) (Yr 4))) (v1 pT))))))))))) <|Xz [(256,0)] pz
def KJ:List AV→List Blk→Option (Prop × Ret)
 |[.sc (.sl 0 0 4 4 none),.sc (.ro .u8 p1),.sc (.i .i64 p2)],[.cells p9]=>some (((UA=p9)∧(p1.length≤100000)),⟨.sc (.p 1 0),[some (.cells UA),some (.cells [.sl 0 0 4 4 none,.sl 2 0 p1.length 1 none,.i .i64 p2,.b false,.s (⟨#[]⟩:ByteArray),.b false]),some (.ints .u8 p1.length p1)]⟩)
 |_,_=>none
theorem Ce:Known Tryz.prog gD 18 ⟨1,2,KJ⟩:=by
 refine Xw Tryz.f18 13 Zn mixed <|fun E args ks C r h hC hlen=>?_
 simp only at h
 unfold KJ at h
 split at h
 rotate_left
 cases h
 rename_i p1 p2 p9
 cases h
 simp only [bU] at hlen
 obtain ⟨hEp9,hC⟩:=hC
 subst hEp9
 refine ⟨rfl,?_⟩
 exact Xs [] [] 32 (v1 pT) <|Xt [Ep 6 112] [0,1,2] [Mc 112 [.sl 0 0 4 4 none,.sl 64 0 p1.length 1 none,.i .i64 p2,.b false,.s (⟨#[]⟩:ByteArray),.b false],Mi 64 p1.length p1] [] 144 (v2 (pu (YN pT 1 p1.length p1.length p1.length) (v1 (pu (pa (Ys 0 6) (pa (Ys 1 6) (pa (Ys 2 6) pT))) (v2 pT))))) <|Xz [(0,0),(112,1),(64,2)] pz
def ga (p3:ByteArray) (p4:Bool):ByteArray :=
 (sel (!p4) (⟨#[]⟩:ByteArray) p3)
def Hi:List AV→List Blk→Option (Prop × Ret)
 |[.sc (.p 0 0)],[.cells [.sl 1 0 4 4 none,.sl 2 0 p10 1 none,.i .i64 p1,.b p2,.s p3,.b p4],.cells p9,.ints .u8 p11 p0]=>some (((p10=p11)∧((UA=p9)∧True)),⟨.sc (.s (ga p3 p4)),[some (.cells [.sl 1 0 4 4 none,.sl 2 0 p10 1 none,.i .i64 p1,.b p2,.s p3,.b p4]),some (.cells UA),some (.ints .u8 p10 p0)]⟩)
 |_,_=>none
theorem sV:Known Tryz.prog gD 21 ⟨3,0,Hi⟩:=by
 refine Xw Tryz.f21 16 Zn mixed <|fun E args ks C r h hC hlen=>?_
 simp only at h
 unfold Hi at h
 split at h
 rotate_left
 cases h
 rename_i p10 p1 p2 p3 p4 p9 p11 p0
 cases h
 simp only [bU] at hlen
 obtain ⟨hEp11,hC⟩:=hC
 obtain ⟨hEp9,hC⟩:=hC
 subst hEp11
 subst hEp9
 refine ⟨rfl,?_⟩
 refine Xs [] [] 32 (v1 pT) <|Tri.seq <|Xs [Eb 11 (!p4)] [] 176 (v6 (pu (Yl 5 6) (v2 pT))) <|Xa (fun h1=>?_) (fun h1=>?_)
 exact Xs [Es 2 (⟨#[]⟩:ByteArray)] [11,0] 192 (v1 pT) <|Xy (r':=⟨.sc (.s (⟨#[]⟩:ByteArray)),[some (.cells [.sl 1 0 4 4 none,.sl 2 0 p10 1 none,.i .i64 p1,.b p2,.s p3,.b p4]),some (.cells UA),some (.ints .u8 p10 p0)]⟩) [(0,0),(1,1),(2,2)] pz (by simp only [ga,h1,aH,aD])
 exact Tri.skip <|Xs [Es 2 p3] [11,0] 256 (v3 (pu (Yl 4 6) (v1 pT))) <|Xy (r':=⟨.sc (.s p3),[some (.cells [.sl 1 0 4 4 none,.sl 2 0 p10 1 none,.i .i64 p1,.b p2,.s p3,.b p4]),some (.cells UA),some (.ints .u8 p10 p0)]⟩) [(0,0),(1,1),(2,2)] pz (by simp only [ga,h1,aH,aD])
def oM (p5:ByteArray):ByteArray :=
 (sel (aB (⟨#[97,110,110]⟩:ByteArray) p5) (⟨#[97,110,110]⟩:ByteArray) (sel (aB (⟨#[98,111,98]⟩:ByteArray) p5) (⟨#[98,111,98]⟩:ByteArray) (sel (aB (⟨#[99,121]⟩:ByteArray) p5) (⟨#[99,121]⟩:ByteArray) (sel (aB (⟨#[110,105,108]⟩:ByteArray) p5) (⟨#[110,105,108]⟩:ByteArray) (⟨#[]⟩:ByteArray)))))
def fK (p5:ByteArray):ByteArray :=
 (sel (aB (⟨#[97,110,110]⟩:ByteArray) p5) (⟨#[115,101,99,114,101,116]⟩:ByteArray) (sel (aB (⟨#[98,111,98]⟩:ByteArray) p5) (⟨#[]⟩:ByteArray) (sel (aB (⟨#[99,121]⟩:ByteArray) p5) (⟨#[119,111,114,100]⟩:ByteArray) (⟨#[]⟩:ByteArray))))
def dC (p5:ByteArray):ByteArray :=
 (sel (aB (⟨#[97,110,110]⟩:ByteArray) p5) (⟨#[]⟩:ByteArray) (sel (aB (⟨#[98,111,98]⟩:ByteArray) p5) (bG) (sel (aB (⟨#[99,121]⟩:ByteArray) p5) (ak) (⟨#[]⟩:ByteArray))))
def FG:List AV→List Blk→Option (Prop × Ret)
 |[.sc (.p 0 0),.sc (.s p5)],[.cells [.sl 1 0 4 4 none,.sl 2 0 p10 1 none,.i .i64 p1,.b p2,.s p3,.b p4],.cells p9,.ints .u8 p11 p0]=>some (((p10=p11)∧((UA=p9)∧True)),⟨.agg [.s (oM p5),.s (fK p5),.s (dC p5),.nils],[some (.cells [.sl 1 0 4 4 none,.sl 2 0 p10 1 none,.i .i64 p1,.b p2,.s p3,.b p4]),some (.cells UA),some (.ints .u8 p10 p0)]⟩)
 |_,_=>none
theorem LR:Known Tryz.prog gD 77 ⟨3,0,FG⟩:=by
 refine Xw Tryz.f77 23 Zn mixed <|fun E args ks C r h hC hlen=>?_
 simp only at h
 unfold FG at h
 split at h
 rotate_left
 cases h
 rename_i p5 p10 p1 p2 p3 p4 p9 p11 p0
 cases h
 simp only [bU] at hlen
 obtain ⟨hEp11,hC⟩:=hC
 obtain ⟨hEp9,hC⟩:=hC
 subst hEp11
 subst hEp9
 refine ⟨rfl,?_⟩
 refine Xt [Ep 4 16] [] [Mc 16 [.s (⟨#[]⟩:ByteArray),.s (⟨#[]⟩:ByteArray),.s (⟨#[]⟩:ByteArray),.nils]] [] 32 (v1 pT) <|Tri.seq <|Xs [Ei 12 0,Ei 11 4,(10,.sc (.sl 1 0 4 4 none))] [0] 128 (v3 (pu (Yl 0 6) (v2 pT))) <|Tri.block <|Tri.rounds 4 <|Xs [Eb 13 true] [] 144 (v1 pT) <|Tri.seq <|Tri.cond_true (by kernel_rfl) <|Tri.skip <|Tri.seq <|Tri.block <|Xt [Ep 6 176] [13] [Mc 176 [.s (⟨#[97,110,110]⟩:ByteArray),.s (⟨#[115,101,99,114,101,116]⟩:ByteArray),.s (⟨#[]⟩:ByteArray),.nils]] [] 208 (pu (Yi 0 4) (pu (Ye (0+4) 16) (v1 (pu (pa (Yw 4) (Yr 4)) pT)))) <|Xs [Eb 19 (aB (⟨#[97,110,110]⟩:ByteArray) p5)] [] 272 (v1 (pu (Yl 0 4) (v2 pT))) <|Xa (fun h1=>?_) (fun h1=>?_)
 exact Xt [] [19,6,12,11,10,1] [Mc 16 [.s (⟨#[97,110,110]⟩:ByteArray),.s (⟨#[115,101,99,114,101,116]⟩:ByteArray),.s (⟨#[]⟩:ByteArray),.nils]] [176,16] 304 (pu (Yw 4) (pu (pa (Yw 4) (Yr 4)) pT)) <|Xy [(0,0),(1,1),(2,2)] (pa (Yw 4) pT) (by simp only [oM,fK,dC,h1,aH,aD] <;> rfl)
 refine Tri.skip <|Wt [Ei 12 1] [19,6,12] [] [176] 304 (v2 pT) <|Xs [Eb 13 true] [] 320 (v1 pT) <|Tri.seq <|Tri.cond_true (by kernel_rfl) <|Tri.skip <|Tri.seq <|Tri.block <|Xt [Ep 6 352] [13] [Mc 352 [.s (⟨#[98,111,98]⟩:ByteArray),.s (⟨#[]⟩:ByteArray),.s (bG),.nils]] [] 384 (pu (Yi 1 4) (pu (Ye (4+4) 16) (v1 (pu (pa (Yw 4) (Yr 4)) pT)))) <|Xs [Eb 19 (aB (⟨#[98,111,98]⟩:ByteArray) p5)] [] 448 (v1 (pu (Yl 0 4) (v2 pT))) <|Xa (fun h2=>?_) (fun h2=>?_)
 exact Xt [] [19,6,12,11,10,1] [Mc 16 [.s (⟨#[98,111,98]⟩:ByteArray),.s (⟨#[]⟩:ByteArray),.s (bG),.nils]] [352,16] 480 (pu (Yw 4) (pu (pa (Yw 4) (Yr 4)) pT)) <|Xy [(0,0),(1,1),(2,2)] (pa (Yw 4) pT) (by simp only [oM,fK,dC,h1,h2,aH,aD] <;> rfl)
 refine Tri.skip <|Wt [Ei 12 2] [19,6,12] [] [352] 480 (v2 pT) <|Xs [Eb 13 true] [] 496 (v1 pT) <|Tri.seq <|Tri.cond_true (by kernel_rfl) <|Tri.skip <|Tri.seq <|Tri.block <|Xt [Ep 6 528] [13] [Mc 528 [.s (⟨#[99,121]⟩:ByteArray),.s (⟨#[119,111,114,100]⟩:ByteArray),.s (ak),.nils]] [] 560 (pu (Yi 2 4) (pu (Ye (8+4) 16) (v1 (pu (pa (Yw 4) (Yr 4)) pT)))) <|Xs [Eb 19 (aB (⟨#[99,121]⟩:ByteArray) p5)] [] 624 (v1 (pu (Yl 0 4) (v2 pT))) <|Xa (fun h3=>?_) (fun h3=>?_)
 exact Xt [] [19,6,12,11,10,1] [Mc 16 [.s (⟨#[99,121]⟩:ByteArray),.s (⟨#[119,111,114,100]⟩:ByteArray),.s (ak),.nils]] [528,16] 656 (pu (Yw 4) (pu (pa (Yw 4) (Yr 4)) pT)) <|Xy [(0,0),(1,1),(2,2)] (pa (Yw 4) pT) (by simp only [oM,fK,dC,h1,h2,h3,aH,aD] <;> rfl)
 refine Tri.skip <|Wt [Ei 12 3] [19,6,12] [] [528] 656 (v2 pT) <|Xs [Eb 13 true] [] 672 (v1 pT) <|Tri.seq <|Tri.cond_true (by kernel_rfl) <|Tri.skip <|Tri.seq <|Tri.block <|Xt [Ep 6 704] [13] [Mc 704 [.s (⟨#[110,105,108]⟩:ByteArray),.s (⟨#[]⟩:ByteArray),.s (⟨#[]⟩:ByteArray),.nils]] [] 736 (pu (Yi 3 4) (pu (Ye (12+4) 16) (v1 (pu (pa (Yw 4) (Yr 4)) pT)))) <|Xs [Eb 19 (aB (⟨#[110,105,108]⟩:ByteArray) p5)] [] 800 (v1 (pu (Yl 0 4) (v2 pT))) <|Xa (fun h4=>?_) (fun h4=>?_)
 exact Xt [] [19,6,12,11,10,1] [Mc 16 [.s (⟨#[110,105,108]⟩:ByteArray),.s (⟨#[]⟩:ByteArray),.s (⟨#[]⟩:ByteArray),.nils]] [704,16] 832 (pu (Yw 4) (pu (pa (Yw 4) (Yr 4)) pT)) <|Xy [(0,0),(1,1),(2,2)] (pa (Yw 4) pT) (by simp only [oM,fK,dC,h1,h2,h3,h4,aH,aD] <;> rfl)
 exact Tri.skip <|Wt [Ei 12 4] [19,6,12] [] [704] 832 (v2 pT) <|Xs [Eb 13 false] [] 848 (v1 pT) <|Tri.seq <|Tri.cond_false (by kernel_rfl) <|Tri.exit <|Xs [] [13,12,11,10,1] 880 (v1 (pu (pa (Yw 4) (Yr 4)) pT)) <|Xy [(0,0),(1,1),(2,2)] (pa (Yw 4) pT) (by simp only [oM,fK,dC,h1,h2,h3,h4,aH,aD] <;> rfl)
def qa (p0:ByteArray):List Int :=
 (dW 1 [5] p0)
def uv:List AV→List Blk→Option (Prop × Ret)
 |[.sc (.s p0)],[]=>some ((p0.size≤100000),⟨.sc (.sl 0 0 ((1+4)+p0.size) 1 none),[some (.ints .u8 ((1+4)+p0.size) (qa p0))]⟩)
 |_,_=>none
theorem nn:Known Tryz.prog gD 22 ⟨0,1,uv⟩:=by
 refine Xw Tryz.f22 6 (Zc fV 64 [.io,.val] [] [32] <|Zn) mixed <|fun E args ks C r h hC hlen=>?_
 simp only at h
 unfold uv at h
 split at h
 rotate_left
 cases h
 rename_i p0
 cases h
 simp only [bU] at hlen
 refine ⟨rfl,?_⟩
 exact Xs [] [] 32 (v1 pT) <|Xt [El 2 64 ((1+4)+p0.size)] [0] [Mi 64 ((1+4)+p0.size) (dW 1 [5] p0)] [] 96 (pu (Yf 1) (v1 (pu (pa pT (pa (Yr 1) (lo (1≤1000000000∧p0.size≤1000000000)))) (v1 pT)))) <|Xz [(64,0)] pz
def tK (p0:ByteArray):List Int :=
 (dW 1 [6] p0)
def zB:List AV→List Blk→Option (Prop × Ret)
 |[.sc (.s p0)],[]=>some ((p0.size≤100000),⟨.sc (.sl 0 0 ((1+4)+p0.size) 1 none),[some (.ints .u8 ((1+4)+p0.size) (tK p0))]⟩)
 |_,_=>none
theorem yE:Known Tryz.prog gD 27 ⟨0,1,zB⟩:=by
 refine Xw Tryz.f27 6 (Zc fV 64 [.io,.val] [] [32] <|Zn) mixed <|fun E args ks C r h hC hlen=>?_
 simp only at h
 unfold zB at h
 split at h
 rotate_left
 cases h
 rename_i p0
 cases h
 simp only [bU] at hlen
 refine ⟨rfl,?_⟩
 exact Xs [] [] 32 (v1 pT) <|Xt [El 2 64 ((1+4)+p0.size)] [0] [Mi 64 ((1+4)+p0.size) (dW 1 [6] p0)] [] 96 (pu (Yf 1) (v1 (pu (pa pT (pa (Yr 1) (lo (1≤1000000000∧p0.size≤1000000000)))) (v1 pT)))) <|Xz [(64,0)] pz
def tH (p0:ByteArray):List Int :=
 (dW ((1+4)+p0.size) (dW 1 [50] p0) (⟨#[115,115,104,45,99,111,110,110,101,99,116,105,111,110]⟩:ByteArray))
def pF (p0:ByteArray) (p1:ByteArray):List Int :=
 (dW ((((1+4)+p0.size)+4)+(⟨#[115,115,104,45,99,111,110,110,101,99,116,105,111,110]⟩:ByteArray).size) (tH p0) p1)
def mv (p0:ByteArray) (p1:ByteArray):List Int :=
 (pF p0 p1)
def az (p0:ByteArray) (p1:ByteArray):Nat :=
 (((((1+4)+p0.size)+4)+(⟨#[115,115,104,45,99,111,110,110,101,99,116,105,111,110]⟩:ByteArray).size)+4)+p1.size
def FQ:List AV→List Blk→Option (Prop × Ret)
 |[.sc (.s p0),.sc (.s p1)],[]=>some ((p0.size≤100000∧p1.size≤100000),⟨.sc (.sl 0 0 (az p0 p1) 1 none),[some (.ints .u8 (az p0 p1) (mv p0 p1))]⟩)
 |_,_=>none
theorem Aa:Known Tryz.prog gD 34 ⟨0,1,FQ⟩:=by
 refine Xw Tryz.f34 11 (Zc fV 64 [.io,.val] [] [32] <|Zc fV 80 [.io,.val] [] [64] <|Zc fV 112 [.io,.val] [] [80] <|Zn) mixed <|fun E args ks C r h hC hlen=>?_
 simp only at h
 unfold FQ at h
 split at h
 rotate_left
 cases h
 rename_i p0 p1
 cases h
 simp only [bU] at hlen
 have sz0:(⟨#[115,115,104,45,99,111,110,110,101,99,116,105,111,110]⟩:ByteArray).size=14:=rfl
 refine ⟨rfl,?_⟩
 exact Xs [] [] 32 (v1 pT) <|Xt [El 4 112 ((((((1+4)+p0.size)+4)+(⟨#[115,115,104,45,99,111,110,110,101,99,116,105,111,110]⟩:ByteArray).size)+4)+p1.size)] [0,1] [Mi 112 ((((((1+4)+p0.size)+4)+(⟨#[115,115,104,45,99,111,110,110,101,99,116,105,111,110]⟩:ByteArray).size)+4)+p1.size) (pF p0 p1)] [] 144 (pu (Yf 1) (v1 (pu (pa pT (pa (Yr 1) (lo (1≤1000000000∧p0.size≤1000000000)))) (pu (pa pT (pa (Yr ((1+4)+p0.size)) (lo (((1+4)+p0.size)≤1000000000∧(⟨#[115,115,104,45,99,111,110,110,101,99,116,105,111,110]⟩:ByteArray).size≤1000000000)))) (v1 (pu (pa pT (pa (Yr ((((1+4)+p0.size)+4)+(⟨#[115,115,104,45,99,111,110,110,101,99,116,105,111,110]⟩:ByteArray).size)) (lo (((((1+4)+p0.size)+4)+(⟨#[115,115,104,45,99,111,110,110,101,99,116,105,111,110]⟩:ByteArray).size)≤1000000000∧p1.size≤1000000000)))) (v1 pT))))))) <|Xz [(112,0)] pz
theorem ia (k:Nat) (xs:List Int) (s:ByteArray):(dW k xs s).length=xs.length+4+s.size:=by unfold dW sR;simp only [List.length_append,bD,List.length_cons,List.length_nil]
theorem vJ (k:Nat) (xs:List Int) (b:Bool):(jW k xs b).length=xs.length+1:=by cases b <;> (unfold jW;simp only [aH,aD,List.length_append,List.length_cons,List.length_nil])
theorem AA (s:ByteArray):(gW s).length=4+s.size:=by unfold gW pC;simp only [List.length_append,bD,List.length_cons,List.length_nil]
theorem pM (a b:ByteArray):(mv a b).length=az a b:=by
 unfold mv pF tH az
 rw [ia,ia,ia]
 rfl
def xd (p0:ByteArray):List Int :=
 (jW (az p0 (⟨#[112,97,115,115,119,111,114,100]⟩:ByteArray)) (mv p0 (⟨#[112,97,115,115,119,111,114,100]⟩:ByteArray)) false)
def qD (p0:ByteArray) (p1:ByteArray):List Int :=
 (dW ((az p0 (⟨#[112,97,115,115,119,111,114,100]⟩:ByteArray))+1) (xd p0) p1)
def lq (p0:ByteArray) (p1:ByteArray):List Int :=
 (qD p0 p1)
def aG (p0:ByteArray) (p1:ByteArray):Nat :=
 (((az p0 (⟨#[112,97,115,115,119,111,114,100]⟩:ByteArray))+1)+4)+p1.size
def tr:List AV→List Blk→Option (Prop × Ret)
 |[.sc (.s p0),.sc (.s p1)],[]=>some ((p0.size≤100000∧p1.size≤100000),⟨.sc (.sl 0 0 (aG p0 p1) 1 none),[some (.ints .u8 (aG p0 p1) (lq p0 p1))]⟩)
 |_,_=>none
theorem iN:Known Tryz.prog gD 11 ⟨0,1,tr⟩:=by
 refine Xw Tryz.f11 10 (Zc fV 96 [.io,.val] [] [64] <|Zc sK 64 [.io,.val] [] [48] <|Zv Aa 48 2 <|Zn) mixed <|fun E args ks C r h hC hlen=>?_
 simp only at h
 unfold tr at h
 split at h
 rotate_left
 cases h
 rename_i p0 p1
 cases h
 simp only [bU] at hlen
 have sz0:(⟨#[115,115,104,45,99,111,110,110,101,99,116,105,111,110]⟩:ByteArray).size=14:=rfl
 have sz1:(⟨#[112,97,115,115,119,111,114,100]⟩:ByteArray).size=8:=rfl
 refine ⟨rfl,?_⟩
 refine Xs [] [] 32 (v1 pT) <|Xt [El 4 96 ((((az p0 (⟨#[112,97,115,115,119,111,114,100]⟩:ByteArray))+1)+4)+p1.size)] [0,1] [Mi 96 ((((az p0 (⟨#[112,97,115,115,119,111,114,100]⟩:ByteArray))+1)+4)+p1.size) (qD p0 p1)] [] 128 (v1 (pu (pa pT (lo (p0.size≤100000∧(⟨#[112,97,115,115,119,111,114,100]⟩:ByteArray).size≤100000))) (pu (pa pT (pa (Yr (az p0 (⟨#[112,97,115,115,119,111,114,100]⟩:ByteArray))) (pl (show (az p0 (⟨#[112,97,115,115,119,111,114,100]⟩:ByteArray))≤1000000000 from by (unfold az;omega))))) (v1 (pu (pa pT (pa (Yr ((az p0 (⟨#[112,97,115,115,119,111,114,100]⟩:ByteArray))+1)) (pl (show ((az p0 (⟨#[112,97,115,115,119,111,114,100]⟩:ByteArray))+1)≤1000000000∧p1.size≤1000000000 from by (unfold az;omega))))) (v1 pT)))))) ?_
 exact Xz [(96,0)] pz
def yb:List Int :=
 (xk 1 [51] ([(⟨#[112,117,98,108,105,99,107,101,121]⟩:ByteArray),(⟨#[112,97,115,115,119,111,114,100]⟩:ByteArray)]))
def rI:List Int :=
 (jW (gR 1 [51] ([(⟨#[112,117,98,108,105,99,107,101,121]⟩:ByteArray),(⟨#[112,97,115,115,119,111,114,100]⟩:ByteArray)])) (yb) false)
def iW:List Int :=
 (rI)
def dG:Nat :=
 (gR 1 [51] ([(⟨#[112,117,98,108,105,99,107,101,121]⟩:ByteArray),(⟨#[112,97,115,115,119,111,114,100]⟩:ByteArray)]))+1
def vX:List AV→List Blk→Option (Prop × Ret)
 |[],[]=>some (True,⟨.sc (.sl 0 0 (dG) 1 none),[some (.ints .u8 (dG) (iW))]⟩)
 |_,_=>none
theorem vp:Known Tryz.prog gD 46 ⟨0,1,vX⟩:=by
 refine Xw Tryz.f46 5 (Zc sK 80 [.io,.val] [] [64] <|Zc Gk 64 [.io,.ros] [48] [32] <|Zn) mixed <|fun E args ks C r h hC hlen=>?_
 simp only at h
 unfold vX at h
 split at h
 rotate_left
 cases h
 cases h
 simp only [bU] at hlen
 refine ⟨rfl,?_⟩
 exact Xs [] [] 32 (v1 pT) <|Xt [El 0 80 ((gR 1 [51] ([(⟨#[112,117,98,108,105,99,107,101,121]⟩:ByteArray),(⟨#[112,97,115,115,119,111,114,100]⟩:ByteArray)]))+1)] [] [Mi 80 ((gR 1 [51] ([(⟨#[112,117,98,108,105,99,107,101,121]⟩:ByteArray),(⟨#[112,97,115,115,119,111,114,100]⟩:ByteArray)]))+1) (rI)] [] 112 (pu (Yf 1) (pu (Yf 2) (pu (pa (pa (ld (0+2≤2)) pT) (pa (Yr 1) (lo (1≤1000000000∧([(⟨#[112,117,98,108,105,99,107,101,121]⟩:ByteArray),(⟨#[112,97,115,115,119,111,114,100]⟩:ByteArray)]).length≤1000000000∧(mO ([(⟨#[112,117,98,108,105,99,107,101,121]⟩:ByteArray),(⟨#[112,97,115,115,119,111,114,100]⟩:ByteArray)]) (⟨#[44]⟩:ByteArray)).size≤1000000000)))) (pu (pa pT (pa (Yr (gR 1 [51] ([(⟨#[112,117,98,108,105,99,107,101,121]⟩:ByteArray),(⟨#[112,97,115,115,119,111,114,100]⟩:ByteArray)]))) (Ye (gR 1 [51] ([(⟨#[112,117,98,108,105,99,107,101,121]⟩:ByteArray),(⟨#[112,97,115,115,119,111,114,100]⟩:ByteArray)])) 1000000000))) (v1 pT))))) <|Xz [(80,0)] pz
def lv (p1:ByteArray):List Int :=
 (mv p1 (⟨#[112,117,98,108,105,99,107,101,121]⟩:ByteArray))
def oO (p0:List Int) (p1:ByteArray):List Int :=
 (jW ((4+(aL p0).size)+(az p1 (⟨#[112,117,98,108,105,99,107,101,121]⟩:ByteArray))) ((gW (aL p0))++(aC (lv p1) (az p1 (⟨#[112,117,98,108,105,99,107,101,121]⟩:ByteArray)) 0 (az p1 (⟨#[112,117,98,108,105,99,107,101,121]⟩:ByteArray)))) true)
def oJ (p0:List Int) (p1:ByteArray):List Int :=
 (dW (((4+(aL p0).size)+(az p1 (⟨#[112,117,98,108,105,99,107,101,121]⟩:ByteArray)))+1) (oO p0 p1) (⟨#[115,115,104,45,101,100,50,53,53,49,57]⟩:ByteArray))
def mH (p0:List Int) (p1:ByteArray) (p2:ByteArray):List Int :=
 (dW (((((4+(aL p0).size)+(az p1 (⟨#[112,117,98,108,105,99,107,101,121]⟩:ByteArray)))+1)+4)+(⟨#[115,115,104,45,101,100,50,53,53,49,57]⟩:ByteArray).size) (oJ p0 p1) p2)
def iE (p0:List Int) (p1:ByteArray) (p2:ByteArray):List Int :=
 (mH p0 p1 p2)
def cn (p0:List Int) (p1:ByteArray) (p2:ByteArray):Nat :=
 ((((((4+(aL p0).size)+(az p1 (⟨#[112,117,98,108,105,99,107,101,121]⟩:ByteArray)))+1)+4)+(⟨#[115,115,104,45,101,100,50,53,53,49,57]⟩:ByteArray).size)+4)+p2.size
def yK:List AV→List Blk→Option (Prop × Ret)
 |[.sc (.ro .u8 p0),.sc (.s p1),.sc (.s p2)],[]=>some ((p0.length≤20000∧p1.size≤20000∧p2.size≤20000),⟨.sc (.sl 0 0 (cn p0 p1 p2) 1 none),[some (.ints .u8 (cn p0 p1 p2) (iE p0 p1 p2))]⟩)
 |_,_=>none
theorem yI:Known Tryz.prog gD 31 ⟨0,1,yK⟩:=by
 refine Xw Tryz.f31 20 (Zv ud 64 2 <|Zc fV 208 [.io,.val] [] [192] <|Zc fV 240 [.io,.val] [] [208] <|Zc sK 192 [.io,.val] [] [144] <|Zv Aa 128 2 <|Zn) mixed <|fun E args ks C r h hC hlen=>?_
 simp only at h
 unfold yK at h
 split at h
 rotate_left
 cases h
 rename_i p0 p1 p2
 cases h
 simp only [bU] at hlen
 have sz0:(⟨#[115,115,104,45,99,111,110,110,101,99,116,105,111,110]⟩:ByteArray).size=14:=rfl
 have sz1:(⟨#[112,117,98,108,105,99,107,101,121]⟩:ByteArray).size=9:=rfl
 have sz2:(⟨#[115,115,104,45,101,100,50,53,53,49,57]⟩:ByteArray).size=11:=rfl
 refine ⟨rfl,?_⟩
 refine Xs [] [] 32 (v1 pT) <|Xt [El 7 64 (4+(aL p0).size)] [0] [Mi 64 (4+(aL p0).size) (gW (aL p0))] [] 96 (v2 (pu (pa pT (pl (show (aL p0).size≤1000000000 from by (rw [bS];omega)))) (v1 pT))) ?_
 refine Tri.len 64 rfl <|fun hl1=>Xt [El 7 144 ((4+(aL p0).size)+(az p1 (⟨#[112,117,98,108,105,99,107,101,121]⟩:ByteArray)))] [7,1] [Mi 144 ((4+(aL p0).size)+(az p1 (⟨#[112,117,98,108,105,99,107,101,121]⟩:ByteArray))) ((gW (aL p0))++(aC (lv p1) (az p1 (⟨#[112,117,98,108,105,99,107,101,121]⟩:ByteArray)) 0 (az p1 (⟨#[112,117,98,108,105,99,107,101,121]⟩:ByteArray))))] [64] 176 (v2 (pu (pa pT (lo (p1.size≤100000∧(⟨#[112,117,98,108,105,99,107,101,121]⟩:ByteArray).size≤100000))) (pu (pa (pa (pa (pa (Yw (az p1 (⟨#[112,117,98,108,105,99,107,101,121]⟩:ByteArray))) (Yr 1)) (pa (Yl 0 1) (pa (pl (show ((4+(aL p0).size)+(az p1 (⟨#[112,117,98,108,105,99,107,101,121]⟩:ByteArray)))*1≤140737488355328 from by (simp only [bS];unfold az;omega))) (pl (show (4+(aL p0).size)+(az p1 (⟨#[112,117,98,108,105,99,107,101,121]⟩:ByteArray))≤140737488355328 from by (simp only [bS];unfold az;omega)))))) (lo ((az p1 (⟨#[112,117,98,108,105,99,107,101,121]⟩:ByteArray))=(az p1 (⟨#[112,117,98,108,105,99,107,101,121]⟩:ByteArray))*1))) (pa (Yr 1) (lo (0+(4+(aL p0).size)*1=4+(aL p0).size)))) (v1 pT)))) ?_
 refine Xt [El 6 240 (((((((4+(aL p0).size)+(az p1 (⟨#[112,117,98,108,105,99,107,101,121]⟩:ByteArray)))+1)+4)+(⟨#[115,115,104,45,101,100,50,53,53,49,57]⟩:ByteArray).size)+4)+p2.size)] [7,2] [Mi 240 (((((((4+(aL p0).size)+(az p1 (⟨#[112,117,98,108,105,99,107,101,121]⟩:ByteArray)))+1)+4)+(⟨#[115,115,104,45,101,100,50,53,53,49,57]⟩:ByteArray).size)+4)+p2.size) (mH p0 p1 p2)] [144] 272 (v1 (pu (pa pT (pa (Yr ((4+(aL p0).size)+(az p1 (⟨#[112,117,98,108,105,99,107,101,121]⟩:ByteArray)))) (pl (show ((4+(aL p0).size)+(az p1 (⟨#[112,117,98,108,105,99,107,101,121]⟩:ByteArray)))≤1000000000 from by (simp only [bS];unfold az;omega))))) (pu (pa pT (pa (Yr (((4+(aL p0).size)+(az p1 (⟨#[112,117,98,108,105,99,107,101,121]⟩:ByteArray)))+1)) (pl (show (((4+(aL p0).size)+(az p1 (⟨#[112,117,98,108,105,99,107,101,121]⟩:ByteArray)))+1)≤1000000000∧(⟨#[115,115,104,45,101,100,50,53,53,49,57]⟩:ByteArray).size≤1000000000 from by (simp only [bS];unfold az;omega))))) (v1 (pu (pa pT (pa (Yr (((((4+(aL p0).size)+(az p1 (⟨#[112,117,98,108,105,99,107,101,121]⟩:ByteArray)))+1)+4)+(⟨#[115,115,104,45,101,100,50,53,53,49,57]⟩:ByteArray).size)) (pl (show (((((4+(aL p0).size)+(az p1 (⟨#[112,117,98,108,105,99,107,101,121]⟩:ByteArray)))+1)+4)+(⟨#[115,115,104,45,101,100,50,53,53,49,57]⟩:ByteArray).size)≤1000000000∧p2.size≤1000000000 from by (simp only [bS];unfold az;omega))))) (v1 pT)))))) ?_
 exact Xz [(240,0)] pz
theorem qr (p0:List Int) (p1 p2:ByteArray):cn p0 p1 p2≤p0.length+p1.size+p2.size+200:=by
 have sz0:(⟨#[115,115,104,45,99,111,110,110,101,99,116,105,111,110]⟩:ByteArray).size=14:=rfl;have sz1:(⟨#[112,117,98,108,105,99,107,101,121]⟩:ByteArray).size=9:=rfl;have sz2:(⟨#[115,115,104,45,101,100,50,53,53,49,57]⟩:ByteArray).size=11:=rfl
 unfold cn
 try unfold az
 simp only [bS]
 omega
theorem lu (p0:List Int) (p1 p2:ByteArray):(iE p0 p1 p2).length=cn p0 p1 p2:=by
 unfold iE mH oJ oO lv cn
 rw [ia,ia,vJ,List.length_append,AA,bF (pM _ _),pM]
end Go.Vm
namespace Go.Vm
open Go Go.Proofs
def Ac (p0:List Int) (p1:List Int) (k0:Nat) (z0:Int):Int :=
 (iOr .i64 z0 (IntKind.wrap .i64 (bZ .u8 (p0.getD k0 0) (p1.getD k0 0))))
def OC (p0:List Int) (p1:List Int):Bool :=
 (((itr (Ac p0 p1) (min p0.length p1.length) (bZ .i64 ((p0.length:Nat):Int) ((p1.length:Nat):Int))):Int)==0)
def Nn:List AV→List Blk→Option (Prop × Ret)
 |[.sc (.ro .u8 p0),.sc (.ro .u8 p1)],[]=>some ((p0.length≤100000),⟨.sc (.b (OC p0 p1)),[]⟩)
 |_,_=>none
theorem Om:Known Tryz.prog gD 79 ⟨0,0,Nn⟩:=by
 refine Xw Tryz.f79 35 Zn mixed <|fun E args ks C r h hC hlen=>?_
 simp only at h
 unfold Nn at h
 split at h
 rotate_left
 cases h
 rename_i p0 p1
 cases h
 simp only [bU] at hlen
 refine ⟨rfl,?_⟩
 refine Xs [] [] 32 (v1 pT) <|Xs [Ei 5 (bZ .i64 ((p0.length:Nat):Int) ((p1.length:Nat):Int))] [] 128 (v6 pT) <|Tri.seq <|Xu [Ej 16 (min p0.length p1.length)] none [Ei 17 0,Ej 16 (min p0.length p1.length)] [] [] [] 224 (v4 (pv pT (pl (show (uj ((p0.length:Nat):Int) ((p1.length:Nat):Int))=((min p0.length p1.length:Nat):Int) from FO p0.length p1.length)) (v1 pT))) <|Tri.block <|Xc (min p0.length p1.length) (Ac p0 p1) (bZ .i64 ((p0.length:Nat):Int) ((p1.length:Nat):Int)) (fun k0 z0=>True) (fun k0 z0=>[Ej 17 k0,Ei 5 z0]) (fun k0 z0=>[]) trivial <|fun k0 z0 hk0 hz0 hJ0=>Xs [Eb 18 (decide ((((k0:Nat):Int):Int)<((min p0.length p1.length:Nat):Int)))] [] 240 (v1 pT) <|Tri.seq <|Xb (fun h1 h1'=>?_) (fun h1 h1'=>?_)
 exact Tri.skip <|Tri.seq <|Tri.block <|Xs [Ej 6 k0] [18] 272 (v2 pT) <|Wu [] (some [0,0,0,6,14,0,0,96,224,510,1022,2047,4095]) [Ei 5 (iOr .i64 z0 (IntKind.wrap .i64 (bZ .u8 (p0.getD k0 0) (p1.getD k0 0))))] [6,5] [] [] 480 (v3 (pu (Yj k0 p0.length) (pu (Yl k0 p0.length) (v2 (pu (Yj k0 p1.length) (pu (Yl k0 p1.length) (v4 pT))))))) <|Wu [Ej 32 (k0+1)] none [Ej 17 (k0+1)] [17] [] [] 512 (pv pT (Yp k0 1) (v1 pT)) <|Xo [] trivial
 refine Tri.exit <|?_
 obtain rfl:k0=(min p0.length p1.length):=(by omega);subst hz0
 exact Xs [Eb 4 (((itr (Ac p0 p1) (min p0.length p1.length) (bZ .i64 ((p0.length:Nat):Int) ((p1.length:Nat):Int))):Int)==0)] [18,17,16,5,0,1] 288 (v3 pT) <|Xz [] pz
theorem tA (p:List Int) (b:Bool) (n:Int):(dR p b n).length+(eM p b n).length≤p.length:=by
 unfold dR eM
 cases b
 ·rw [aD,aD]
  cases decide ((n:Int)>((p.length:Nat):Int))
  ·rw [aD,aD,List.length_take,List.length_take,List.length_drop,List.length_drop];omega
  ·rw [aH,aH];exact Nat.zero_le _
 ·rw [aH,aH];exact Nat.zero_le _
theorem lh (p:List Int) (b:Bool):(bB p b).size+(bI p b).length≤p.length:=by
 have h1:=tA p b 4
 have h2:=fun n=>tA (fJ p b) (fq p b) n
 have h3:(fJ p b).length≤p.length:=by unfold fJ;omega
 unfold bB bI
 cases decide (((hI p b):Int)>16384)
 ·rw [aD,aD,bS];have:=h2 (IntKind.wrap .i64 (hI p b));omega
 ·rw [aH,aH];have:=h2 1073741824;show 0+_≤_;omega
theorem vw (p:List Int) (b:Bool):(bn p b).length≤p.length:=by
 unfold bn bc iQ
 cases b
 ·rw [aD]
  cases decide ((1:Int)>((p.length:Nat):Int))
  ·rw [aD,List.length_take,List.length_drop];omega
  ·rw [aH];exact Nat.zero_le _
 ·rw [aH];exact Nat.zero_le _
def wk (p5:List Int) (p6:Bool) (p7:ByteArray):Bool :=
 (OC (aC (aN (bB (bn p5 p6) (cD p5 p6))) ((bB (bn p5 p6) (cD p5 p6)).size) 0 ((bB (bn p5 p6) (cD p5 p6)).size)) (aC (aN (fK p7)) ((fK p7).size) 0 ((fK p7).size)))
def oh (p5:List Int) (p6:Bool):Bool :=
 (gN (bI (bn p5 p6) (cD p5 p6)) (bM (bn p5 p6) (cD p5 p6)))
def cU (p5:List Int) (p6:Bool):ByteArray :=
 (bB (bI (bn p5 p6) (cD p5 p6)) (bM (bn p5 p6) (cD p5 p6)))
def bY (p5:List Int) (p6:Bool):List Int :=
 (bI (bI (bn p5 p6) (cD p5 p6)) (bM (bn p5 p6) (cD p5 p6)))
def bX (p5:List Int) (p6:Bool):Bool :=
 (bM (bI (bn p5 p6) (cD p5 p6)) (bM (bn p5 p6) (cD p5 p6)))
def jI (p5:List Int) (p6:Bool):Bool :=
 (gN (bI (bY p5 p6) (bX p5 p6)) (bM (bY p5 p6) (bX p5 p6)))
def xT (p10:Nat) (p0:List Int) (p5:List Int) (p6:Bool) (p7:ByteArray):Bool :=
 (rl (aC (aN (cB (cU p5 p6))) ((cB (cU p5 p6)).size) 0 ((cB (cU p5 p6)).size)) (aC (iE (aC p0 p10 0 p10) p7 (cU p5 p6)) (cn (aC p0 p10 0 p10) p7 (cU p5 p6)) 0 (cn (aC p0 p10 0 p10) p7 (cU p5 p6))) (aC (dg (bB (bY p5 p6) (bX p5 p6))) ((bV (bB (bY p5 p6) (bX p5 p6))).size) 0 ((bV (bB (bY p5 p6) (bX p5 p6))).size)))
def iT (p10:Nat) (p0:List Int) (p5:List Int) (p6:Bool) (p7:ByteArray) (p8:ByteArray):Bool :=
 (sel (aB p8 (⟨#[110,111,110,101]⟩:ByteArray)) false (sel (aB p8 (⟨#[112,97,115,115,119,111,114,100]⟩:ByteArray)) (sel (!(aB (fK p7) (⟨#[]⟩:ByteArray))) (wk p5 p6 p7) false) (sel (aB p8 (⟨#[112,117,98,108,105,99,107,101,121]⟩:ByteArray)) (sel (aB (bB (bn p5 p6) (cD p5 p6)) (⟨#[115,115,104,45,101,100,50,53,53,49,57]⟩:ByteArray)) (sel (!(aB (cB (cU p5 p6)) (⟨#[]⟩:ByteArray))) (sel (!(gb p5 p6)) false (sel (kr (bB (bY p5 p6) (bX p5 p6))) false (sel (aB (cB (cU p5 p6)) (dC p7)) (xT p10 p0 p5 p6 p7) false))) false) false) false)))
def dw (p5:List Int) (p6:Bool) (p7:ByteArray) (p8:ByteArray):ByteArray :=
 (sel (aB p8 (⟨#[110,111,110,101]⟩:ByteArray)) (⟨#[]⟩:ByteArray) (sel (aB p8 (⟨#[112,97,115,115,119,111,114,100]⟩:ByteArray)) (⟨#[]⟩:ByteArray) (sel (aB p8 (⟨#[112,117,98,108,105,99,107,101,121]⟩:ByteArray)) (sel (aB (bB (bn p5 p6) (cD p5 p6)) (⟨#[115,115,104,45,101,100,50,53,53,49,57]⟩:ByteArray)) (sel (!(aB (cB (cU p5 p6)) (⟨#[]⟩:ByteArray))) (sel (!(gb p5 p6)) (sel (aB (cB (cU p5 p6)) (dC p7)) (cU p5 p6) (⟨#[]⟩:ByteArray)) (⟨#[]⟩:ByteArray)) (⟨#[]⟩:ByteArray)) (⟨#[]⟩:ByteArray)) (⟨#[]⟩:ByteArray))))
def eJ (p5:List Int) (p6:Bool) (p8:ByteArray):Bool :=
 (sel (aB p8 (⟨#[110,111,110,101]⟩:ByteArray)) (gN p5 p6) (sel (aB p8 (⟨#[112,97,115,115,119,111,114,100]⟩:ByteArray)) (sel (oh p5 p6) (!(gb p5 p6)) false) (sel (aB p8 (⟨#[112,117,98,108,105,99,107,101,121]⟩:ByteArray)) (sel (!(gb p5 p6)) (gN (bY p5 p6) (bX p5 p6)) (jI p5 p6)) (EU p5 p6))))
def fD (p5:List Int) (p6:Bool) (p8:ByteArray):List Int :=
 (sel (aB p8 (⟨#[110,111,110,101]⟩:ByteArray)) p5 (sel (aB p8 (⟨#[112,97,115,115,119,111,114,100]⟩:ByteArray)) (bI (bn p5 p6) (cD p5 p6)) (sel (aB p8 (⟨#[112,117,98,108,105,99,107,101,121]⟩:ByteArray)) (sel (!(gb p5 p6)) (bY p5 p6) (bI (bY p5 p6) (bX p5 p6))) p5)))
def fC (p5:List Int) (p6:Bool) (p8:ByteArray):Bool :=
 (sel (aB p8 (⟨#[110,111,110,101]⟩:ByteArray)) p6 (sel (aB p8 (⟨#[112,97,115,115,119,111,114,100]⟩:ByteArray)) (bM (bn p5 p6) (cD p5 p6)) (sel (aB p8 (⟨#[112,117,98,108,105,99,107,101,121]⟩:ByteArray)) (sel (!(gb p5 p6)) (bX p5 p6) (bM (bY p5 p6) (bX p5 p6))) p6)))
theorem Gm (p5:List Int) (p6:Bool):(cU p5 p6).size≤p5.length:=by
 have h1:=vw p5 p6
 have h2:=lh (bn p5 p6) (cD p5 p6)
 have h3:=lh (bI (bn p5 p6) (cD p5 p6)) (bM (bn p5 p6) (cD p5 p6))
 unfold cU
 omega
theorem uR {p0:List Int} {n:Nat} {a b:ByteArray} (h:p0.length=n):cn (aC p0 n 0 n) a b≤n+a.size+b.size+200:=by
 rw [bF h]
 have:=qr p0 a b
 omega
theorem yC {s:ByteArray} {n:Nat} (h:s.size≤n):(aC (aN s) s.size 0 s.size).length≤n:=by rw [bF (bD s),bD];exact h
def KG:List AV→List Blk→Option (Prop × Ret)
 |[.sc (.p 0 0),.sc (.p 3 0),.sc (.s p7),.sc (.s p8)],[.cells [.sl 1 0 4 4 none,.sl 2 0 p10 1 none,.i .i64 p1,.b p2,.s p3,.b p4],.cells p9,.ints .u8 p11 p0,.cells [.ro .u8 p5,.b p6]]=>some (((p10=p11)∧((UA=p9)∧(p5.length+p7.size≤6000∧p10≤1000))),⟨.tup [.sc (.b (iT p10 p0 p5 p6 p7 p8)),.sc (.s (dw p5 p6 p7 p8)),.sc (.b (eJ p5 p6 p8))],[some (.cells [.sl 1 0 4 4 none,.sl 2 0 p10 1 none,.i .i64 p1,.b p2,.s p3,.b p4]),some (.cells UA),some (.ints .u8 p10 p0),some (.cells [.ro .u8 (fD p5 p6 p8),.b (fC p5 p6 p8)])]⟩)
 |_,_=>none
def OK:KL Tryz.prog gD:=Zc yI 1408 [.ro .u8,.val,.val] [2] [] <|Zc gS 272 [.io] [] [3] <|Zc gS 304 [.io] [] [3] <|Zc gS 336 [.io] [] [3] <|Zc gS 704 [.io] [] [3] <|Zc gS 1136 [.io] [] [3] <|Zc gS 1568 [.io] [] [3] <|Zc gS 2000 [.io] [] [3] <|Zc mR 208 [.io] [] [3] <|Zc mR 512 [.io] [] [3] <|Zc mR 736 [.io] [] [3] <|Zc mR 768 [.io] [] [3] <|Zc mR 1056 [.io] [] [3] <|Zc mR 1488 [.io] [] [3] <|Zc mR 1920 [.io] [] [3] <|Zc mR 2352 [.io] [] [3] <|Zc Ms 272 [.io] [] [3] <|Zc LR 96 [.io,.val] [] [0,1,2] <|Zc HX 240 [.io] [] [3] <|Zc HX 272 [.io] [] [3] <|Zc Om 464 [.ro .u8,.ro .u8] [400,448] [] <|Zv AL 416 1 <|Zv xn 720 1 <|Zv mh 1152 1 <|Zv mh 1584 1 <|Zv mh 2016 1 <|Zc PQ 1440 [.ro .u8,.ro .u8,.ro .u8] [1296,1408,1152] [] <|Zn
theorem NS:Known Tryz.prog gD 45 ⟨4,0,KG⟩:=by
 refine Xw Tryz.f45 105 OK mixed <|fun E args ks C r h hC hlen=>?_
 simp only at h
 unfold KG at h
 split at h
 rotate_left
 cases h
 rename_i p7 p8 p10 p1 p2 p3 p4 p9 p11 p0 p5 p6
 cases h
 simp only [bU] at hlen
 obtain ⟨hEp11,hC⟩:=hC
 obtain ⟨hEp9,hC⟩:=hC
 subst hEp11
 subst hEp9
 have hb:=Gm p5 p6
 refine ⟨rfl,?_⟩
 refine Xs [Es 9 (⟨#[]⟩:ByteArray)] [] 64 (v3 pT) <|Xt [Ep 11 112] [] [Mc 112 [.s (oM p7),.s (fK p7),.s (dC p7),.nils],Mi 2 p10 p0,Mc 1 UA] [1,2] 144 (v2 (pu (pa pT (pa (Yr p10) (pa (Yr UA) pT))) (v1 (pu (pa (Yw 4) (Yr 4)) pT)))) <|Tri.seq <|Xs [Es 23 p8] [3] 160 (v1 pT) <|Tri.block <|Xs [Eb 24 (aB p8 (⟨#[110,111,110,101]⟩:ByteArray))] [] 192 (v2 pT) <|Xa (fun h1=>?_) (fun h1=>?_)
 exact Xt [Eb 10 (gN p5 p6),Es 9 (⟨#[]⟩:ByteArray),Eb 8 false] [24,23,11,9,0,1,2] [Mc 3 [.ro .u8 p5,.b p6]] [112,3] 272 (v1 (pu pz (v3 pT))) <|Xy [(0,0),(1,1),(2,2),(3,3)] (pa pT (pa pT pz)) (by simp only [iT,dw,eJ,fD,fC,h1,aH,aD] <;> rfl)
 refine Xs [Eb 28 (aB p8 (⟨#[112,97,115,115,119,111,114,100]⟩:ByteArray))] [24] 224 (v2 pT) <|Xa (fun h2=>?_) (fun h2=>?_)
 refine Xt [Es 13 (bB (bn p5 p6) (cD p5 p6)),Eb 12 (gb p5 p6)] [28,23,9,0,2] [Mc 3 [.ro .u8 (bI (bn p5 p6) (cD p5 p6)),.b (bM (bn p5 p6) (cD p5 p6))]] [3] 320 (v1 (pu pz (v1 (pu pz (v2 pT))))) <|Tri.split (!(aB (fK p7) (⟨#[]⟩:ByteArray))) (fun h3=>?_) (fun h3=>?_)
 refine Tri.split (oh p5 p6) (fun h4=>?_) (fun h4=>?_)
 exact Tri.len 2 rfl <|fun hl5=>Xu [Eb 37 true,Eb 47 true] none [Eb 10 (!(gb p5 p6)),Es 9 (⟨#[]⟩:ByteArray),Eb 8 (wk p5 p6 p7)] [13,12,11,1] [] [112] 640 (v1 (pu (Yl 1 4) (v1 (pg h3 (v3 (pu (Yl 1 4) (v1 (pu (pa (pa (Yw ((bB (bn p5 p6) (cD p5 p6)).size)) (pa (Yw ((fK p7).size)) pT)) (pl (show (aC (aN (bB (bn p5 p6) (cD p5 p6))) ((bB (bn p5 p6) (cD p5 p6)).size) 0 ((bB (bn p5 p6) (cD p5 p6)).size)).length≤100000 from yC (Nat.le_trans (ef _ _) (by decide))))) (v2 (pu pz (pg h4 (v6 pT)))))))))))) <|Xy [(0,0),(1,1),(2,2),(3,3)] (pa pT (pa pT pz)) (by simp only [iT,dw,eJ,fD,fC,h1,h2,h3,h4,aH,aD] <;> rfl)
 exact Tri.len 2 rfl <|fun hl6=>Xu [Eb 37 true,Eb 47 false] none [Eb 10 false,Es 9 (⟨#[]⟩:ByteArray),Eb 8 (wk p5 p6 p7)] [13,12,11,1] [] [112] 640 (v1 (pu (Yl 1 4) (v1 (pg h3 (v3 (pu (Yl 1 4) (v1 (pu (pa (pa (Yw ((bB (bn p5 p6) (cD p5 p6)).size)) (pa (Yw ((fK p7).size)) pT)) (pl (show (aC (aN (bB (bn p5 p6) (cD p5 p6))) ((bB (bn p5 p6) (cD p5 p6)).size) 0 ((bB (bn p5 p6) (cD p5 p6)).size)).length≤100000 from yC (Nat.le_trans (ef _ _) (by decide))))) (v2 (pu pz (pg h4 (v6 pT)))))))))))) <|Xy [(0,0),(1,1),(2,2),(3,3)] (pa pT (pa pT pz)) (by simp only [iT,dw,eJ,fD,fC,h1,h2,h3,h4,aH,aD] <;> rfl)
 refine Tri.split (oh p5 p6) (fun h7=>?_) (fun h7=>?_)
 exact Xu [Eb 37 false,Eb 47 true] none [Eb 10 (!(gb p5 p6)),Es 9 (⟨#[]⟩:ByteArray),Eb 8 false] [13,12,11,1] [] [112] 640 (v1 (pu (Yl 1 4) (v1 (pg h3 (v8 (pu pz (pg h7 (v6 pT)))))))) <|Xy [(0,0),(1,1),(2,2),(3,3)] (pa pT (pa pT pz)) (by simp only [iT,dw,eJ,fD,fC,h1,h2,h3,h7,aH,aD] <;> rfl)
 exact Xu [Eb 37 false,Eb 47 false] none [Eb 10 false,Es 9 (⟨#[]⟩:ByteArray),Eb 8 false] [13,12,11,1] [] [112] 640 (v1 (pu (Yl 1 4) (v1 (pg h3 (v8 (pu pz (pg h7 (v6 pT)))))))) <|Xy [(0,0),(1,1),(2,2),(3,3)] (pa pT (pa pT pz)) (by simp only [iT,dw,eJ,fD,fC,h1,h2,h3,h7,aH,aD] <;> rfl)
 refine Xs [Eb 51 (aB p8 (⟨#[112,117,98,108,105,99,107,101,121]⟩:ByteArray))] [28,23] 256 (v2 pT) <|Xa (fun h8=>?_) (fun h8=>?_)
 refine Xt [Es 16 (cU p5 p6),Es 15 (bB (bn p5 p6) (cD p5 p6)),Eb 14 (gb p5 p6)] [51] [Mc 3 [.ro .u8 (bY p5 p6),.b (bX p5 p6)]] [3] 400 (v1 (pu pz (v1 (pu pz (v1 (pu pz (v3 pT))))))) <|Xs [Es 17 (cB (cU p5 p6))] [] 448 (v1 (pu (pa pT (Ye ((cU p5 p6).size) 1000000000)) (v1 pT))) <|Tri.split (aB (bB (bn p5 p6) (cD p5 p6)) (⟨#[115,115,104,45,101,100,50,53,53,49,57]⟩:ByteArray)) (fun h9=>?_) (fun h9=>?_)
 refine Tri.split (!(aB (cB (cU p5 p6)) (⟨#[]⟩:ByteArray))) (fun h10=>?_) (fun h10=>?_)
 refine Xu [Eb 63 true,Eb 67 true] none [Eb 18 (aB (cB (cU p5 p6)) (dC p7))] [15,11] [] [112] 656 (v2 (pg h9 (v3 (pg h10 (v2 (pu (Yl 2 4) (v3 pT))))))) <|Tri.seq <|Xs [Eb 74 (!(gb p5 p6))] [14] 688 (v2 pT) <|Xa (fun h11=>?_) (fun h11=>?_)
 refine Tri.seq <|Xs [Eb 75 (aB (cB (cU p5 p6)) (dC p7))] [74,18,17,0,2] 704 (v1 pT) <|Xj (x:=(aB (cB (cU p5 p6)) (dC p7))) (fun bb=>[Es 9 (sel bb (cU p5 p6) (⟨#[]⟩:ByteArray))]) [75,16,9] (fun bb=>[]) [] 736 (fun h12=>?_) (fun h12=>?_) ?_
 exact Ws [Es 9 (cU p5 p6)] [75,16,9] 736 (v2 pT) <|Xe [Es 9 (cU p5 p6)] []
 exact Tri.skip <|Xe [Es 9 (⟨#[]⟩:ByteArray)] []
 exact Xs [Eb 10 (gN (bY p5 p6) (bX p5 p6)),Es 9 (sel (aB (cB (cU p5 p6)) (dC p7)) (cU p5 p6) (⟨#[]⟩:ByteArray)),Eb 8 false] [9,1] 832 (v2 (pu pz (v3 pT))) <|Xy [(0,0),(1,1),(2,2),(3,3)] (pa pT (pa pT pz)) (by simp only [iT,dw,eJ,fD,fC,h1,h2,h8,h9,h10,h11,aH,aD] <;> rfl)
 refine Tri.skip <|Tri.split (kr (bB (bY p5 p6) (bX p5 p6))) (fun h13=>?_) (fun h13=>?_)
 refine Xt [(19,.sc (.nils))] [74,9] [Mc 3 [.ro .u8 (bI (bY p5 p6) (bX p5 p6)),.b (bM (bY p5 p6) (bX p5 p6))]] [3] 752 (v1 (pu pz (pu (pa pT (pa (pl h13) (pl (show (bB (bY p5 p6) (bX p5 p6)).size≤1000000000 from Nat.le_trans (ef _ _) (by decide))))) (v1 pT)))) <|Tri.split (aB (cB (cU p5 p6)) (dC p7)) (fun h14=>?_) (fun h14=>?_)
 exact Xu [Eb 84 true] none [Eb 10 (jI p5 p6),Es 9 (⟨#[]⟩:ByteArray),Eb 8 false] [19,18,17,16,0,1,2] [] [] 1120 (v1 (pg h14 (v8 (v9 (pu pz (v3 pT)))))) <|Xy [(0,0),(1,1),(2,2),(3,3)] (pa pT (pa pT pz)) (by simp only [iT,dw,eJ,fD,fC,h1,h2,h8,h9,h10,h11,h13,h14,aH,aD] <;> rfl)
 exact Xu [Eb 84 false] none [Eb 10 (jI p5 p6),Es 9 (⟨#[]⟩:ByteArray),Eb 8 false] [19,18,17,16,0,1,2] [] [] 1120 (v1 (pg h14 (v8 (v9 (pu pz (v3 pT)))))) <|Xy [(0,0),(1,1),(2,2),(3,3)] (pa pT (pa pT pz)) (by simp only [iT,dw,eJ,fD,fC,h1,h2,h8,h9,h10,h11,h13,h14,aH,aD] <;> rfl)
 refine Tri.sub (Sub.up (U':=1120) (by decide)) <|Xt [El 19 1152 ((bV (bB (bY p5 p6) (bX p5 p6))).size)] [74,9] [Mi 1152 ((bV (bB (bY p5 p6) (bX p5 p6))).size) (dg (bB (bY p5 p6) (bX p5 p6))),Mc 3 [.ro .u8 (bI (bY p5 p6) (bX p5 p6)),.b (bM (bY p5 p6) (bX p5 p6))]] [3] 1184 (v1 (pu pz (pu (pa pT (pa (pl h13) (pl (show (bB (bY p5 p6) (bX p5 p6)).size≤1000000000 from Nat.le_trans (ef _ _) (by decide))))) (v1 pT)))) <|Tri.split (aB (cB (cU p5 p6)) (dC p7)) (fun h15=>?_) (fun h15=>?_)
 exact Tri.len 1152 rfl <|fun hl16=>Tri.len 2 rfl <|fun hl17=>Xu [Eb 84 true] none [Eb 10 (jI p5 p6),Es 9 (⟨#[]⟩:ByteArray),Eb 8 (xT p10 p0 p5 p6 p7)] [19,18,17,16,0,1,2] [] [1152] 1552 (v1 (pg h15 (v1 (pu (pl (show 0<(bV (bB (bY p5 p6) (bX p5 p6))).size from ID (by assumption))) (v7 (pu (Yl 1 6) (v2 (pu (pa (pa (Yw p10) pT) (pl (show (aC p0 p10 0 p10).length≤20000∧p7.size≤20000∧(cU p5 p6).size≤20000 from ⟨al (by omega) (by omega),by omega,by omega⟩))) (v1 (pu (pa (pa (Yw ((cB (cU p5 p6)).size)) (pa (Yw (cn (aC p0 p10 0 p10) p7 (cU p5 p6))) (pa (Yw ((bV (bB (bY p5 p6) (bX p5 p6))).size)) pT))) (pl (show (aC (iE (aC p0 p10 0 p10) p7 (cU p5 p6)) (cn (aC p0 p10 0 p10) p7 (cU p5 p6)) 0 (cn (aC p0 p10 0 p10) p7 (cU p5 p6))).length≤10000 from al (Nat.le_trans (uR (by assumption)) (by omega)) (by rw [lu];exact Nat.le_trans (uR (by assumption)) (by omega))))) (v2 (pu pz (v3 pT))))))))))))) <|Xy [(0,0),(1,1),(2,2),(3,3)] (pa pT (pa pT pz)) (by simp only [iT,dw,eJ,fD,fC,h1,h2,h8,h9,h10,h11,h13,h15,aH,aD] <;> rfl)
 exact Xu [Eb 84 false] none [Eb 10 (jI p5 p6),Es 9 (⟨#[]⟩:ByteArray),Eb 8 false] [19,18,17,16,0,1,2] [] [1152] 1552 (v1 (pg h15 (v8 (v9 (pu pz (v3 pT)))))) <|Xy [(0,0),(1,1),(2,2),(3,3)] (pa pT (pa pT pz)) (by simp only [iT,dw,eJ,fD,fC,h1,h2,h8,h9,h10,h11,h13,h15,aH,aD] <;> rfl)
 refine Xu [Eb 63 true,Eb 67 false] none [Eb 18 false] [15,11] [] [112] 656 (v2 (pg h9 (v3 (pg h10 (v6 pT))))) <|Tri.seq <|Xs [Eb 74 (!(gb p5 p6))] [14] 688 (v2 pT) <|Xa (fun h18=>?_) (fun h18=>?_)
 exact Tri.seq <|Xs [Eb 75 false] [74,18,17,0,2] 704 (v1 pT) <|Tri.cond_false (by kernel_rfl) <|Tri.skip <|Xs [Eb 10 (gN (bY p5 p6) (bX p5 p6)),Es 9 (⟨#[]⟩:ByteArray),Eb 8 false] [75,16,9,1] 800 (v2 (pu pz (v3 pT))) <|Xy [(0,0),(1,1),(2,2),(3,3)] (pa pT (pa pT pz)) (by simp only [iT,dw,eJ,fD,fC,h1,h2,h8,h9,h10,h18,aH,aD] <;> rfl)
 refine Tri.skip <|Tri.split (kr (bB (bY p5 p6) (bX p5 p6))) (fun h19=>?_) (fun h19=>?_)
 exact Xt [(19,.sc (.nils))] [74,9] [Mc 3 [.ro .u8 (bI (bY p5 p6) (bX p5 p6)),.b (bM (bY p5 p6) (bX p5 p6))]] [3] 752 (v1 (pu pz (pu (pa pT (pa (pl h19) (pl (show (bB (bY p5 p6) (bX p5 p6)).size≤1000000000 from Nat.le_trans (ef _ _) (by decide))))) (v1 pT)))) <|Xs [Eb 10 (jI p5 p6),Es 9 (⟨#[]⟩:ByteArray),Eb 8 false] [19,18,17,16,0,1,2] 1120 (v1 (v9 (v9 (pu pz (v3 pT))))) <|Xy [(0,0),(1,1),(2,2),(3,3)] (pa pT (pa pT pz)) (by simp only [iT,dw,eJ,fD,fC,h1,h2,h8,h9,h10,h18,h19,aH,aD] <;> rfl)
 exact Tri.sub (Sub.up (U':=1552) (by decide)) <|Xt [El 19 1584 ((bV (bB (bY p5 p6) (bX p5 p6))).size)] [74,9] [Mi 1584 ((bV (bB (bY p5 p6) (bX p5 p6))).size) (dg (bB (bY p5 p6) (bX p5 p6))),Mc 3 [.ro .u8 (bI (bY p5 p6) (bX p5 p6)),.b (bM (bY p5 p6) (bX p5 p6))]] [3] 1616 (v1 (pu pz (pu (pa pT (pa (pl h19) (pl (show (bB (bY p5 p6) (bX p5 p6)).size≤1000000000 from Nat.le_trans (ef _ _) (by decide))))) (v1 pT)))) <|Xt [Eb 10 (jI p5 p6),Es 9 (⟨#[]⟩:ByteArray),Eb 8 false] [19,18,17,16,0,1,2] [] [1584] 1984 (v1 (v9 (v9 (pu pz (v3 pT))))) <|Xy [(0,0),(1,1),(2,2),(3,3)] (pa pT (pa pT pz)) (by simp only [iT,dw,eJ,fD,fC,h1,h2,h8,h9,h10,h18,h19,aH,aD] <;> rfl)
 refine Xu [Eb 63 false] none [Eb 18 false] [15,11] [] [112] 656 (v2 (pg h9 (v1 (v9 pT)))) <|Tri.seq <|Xs [Eb 74 (!(gb p5 p6))] [14] 688 (v2 pT) <|Xa (fun h20=>?_) (fun h20=>?_)
 exact Tri.seq <|Xs [Eb 75 false] [74,18,17,0,2] 704 (v1 pT) <|Tri.cond_false (by kernel_rfl) <|Tri.skip <|Xs [Eb 10 (gN (bY p5 p6) (bX p5 p6)),Es 9 (⟨#[]⟩:ByteArray),Eb 8 false] [75,16,9,1] 800 (v2 (pu pz (v3 pT))) <|Xy [(0,0),(1,1),(2,2),(3,3)] (pa pT (pa pT pz)) (by simp only [iT,dw,eJ,fD,fC,h1,h2,h8,h9,h20,aH,aD] <;> rfl)
 refine Tri.skip <|Tri.split (kr (bB (bY p5 p6) (bX p5 p6))) (fun h21=>?_) (fun h21=>?_)
 exact Xt [(19,.sc (.nils))] [74,9] [Mc 3 [.ro .u8 (bI (bY p5 p6) (bX p5 p6)),.b (bM (bY p5 p6) (bX p5 p6))]] [3] 752 (v1 (pu pz (pu (pa pT (pa (pl h21) (pl (show (bB (bY p5 p6) (bX p5 p6)).size≤1000000000 from Nat.le_trans (ef _ _) (by decide))))) (v1 pT)))) <|Xs [Eb 10 (jI p5 p6),Es 9 (⟨#[]⟩:ByteArray),Eb 8 false] [19,18,17,16,0,1,2] 1120 (v1 (v9 (v9 (pu pz (v3 pT))))) <|Xy [(0,0),(1,1),(2,2),(3,3)] (pa pT (pa pT pz)) (by simp only [iT,dw,eJ,fD,fC,h1,h2,h8,h9,h20,h21,aH,aD] <;> rfl)
 exact Tri.sub (Sub.up (U':=1984) (by decide)) <|Xt [El 19 2016 ((bV (bB (bY p5 p6) (bX p5 p6))).size)] [74,9] [Mi 2016 ((bV (bB (bY p5 p6) (bX p5 p6))).size) (dg (bB (bY p5 p6) (bX p5 p6))),Mc 3 [.ro .u8 (bI (bY p5 p6) (bX p5 p6)),.b (bM (bY p5 p6) (bX p5 p6))]] [3] 2048 (v1 (pu pz (pu (pa pT (pa (pl h21) (pl (show (bB (bY p5 p6) (bX p5 p6)).size≤1000000000 from Nat.le_trans (ef _ _) (by decide))))) (v1 pT)))) <|Xt [Eb 10 (jI p5 p6),Es 9 (⟨#[]⟩:ByteArray),Eb 8 false] [19,18,17,16,0,1,2] [] [2016] 2416 (v1 (v9 (v9 (pu pz (v3 pT))))) <|Xy [(0,0),(1,1),(2,2),(3,3)] (pa pT (pa pT pz)) (by simp only [iT,dw,eJ,fD,fC,h1,h2,h8,h9,h20,h21,aH,aD] <;> rfl)
 exact Tri.skip <|Xt [Eb 10 (EU p5 p6),Es 9 (⟨#[]⟩:ByteArray),Eb 8 false] [51,11,9,0,1,2] [Mc 3 [.ro .u8 p5,.b p6]] [112,3] 336 (v1 (pu pz (v3 pT))) <|Xy [(0,0),(1,1),(2,2),(3,3)] (pa pT (pa pT pz)) (by simp only [iT,dw,eJ,fD,fC,h1,h2,h8,aH,aD] <;> rfl)
end Go.Vm
namespace Go.Vm
open Go Go.Proofs
def kR (p5:List Int):Bool :=
 (gN (bI (bc p5 false) (bl p5 false)) (bM (bc p5 false) (bl p5 false)))
def uL:List Int :=
 (tK (⟨#[115,115,104,45,117,115,101,114,97,117,116,104]⟩:ByteArray))
def iF (p5:List Int):ByteArray :=
 (bB (bI (bc p5 false) (bl p5 false)) (bM (bc p5 false) (bl p5 false)))
def cg (p5:List Int):List Int :=
 (bI (bI (bc p5 false) (bl p5 false)) (bM (bc p5 false) (bl p5 false)))
def cr (p5:List Int):Bool :=
 (bM (bI (bc p5 false) (bl p5 false)) (bM (bc p5 false) (bl p5 false)))
def iG (p10:Nat) (p0:List Int) (p5:List Int):Bool :=
 (iT p10 p0 (bI (cg p5) (cr p5)) (bM (cg p5) (cr p5)) (bB (bc p5 false) (bl p5 false)) (bB (cg p5) (cr p5)))
def dy (p5:List Int):ByteArray :=
 (dw (bI (cg p5) (cr p5)) (bM (cg p5) (cr p5)) (bB (bc p5 false) (bl p5 false)) (bB (cg p5) (cr p5)))
def iI (p5:List Int):Bool :=
 (eJ (bI (cg p5) (cr p5)) (bM (cg p5) (cr p5)) (bB (cg p5) (cr p5)))
def Dx:List Int :=
 (dW 1 [60] (⟨#[115,115,104,45,101,100,50,53,53,49,57]⟩:ByteArray))
def qd (p5:List Int):List Int :=
 (dW ((1+4)+(⟨#[115,115,104,45,101,100,50,53,53,49,57]⟩:ByteArray).size) (Dx) (dy p5))
def be (p10:Nat) (p0:List Int) (p1:Int) (p2:Bool) (p4:Bool) (p5:List Int):Int :=
 (sel p4 8 (sel (((eC p5 false):Int)==5) (sel (!(kR p5)) 3 (sel (!(aB (bB (bc p5 false) (bl p5 false)) (⟨#[115,115,104,45,117,115,101,114,97,117,116,104]⟩:ByteArray))) 3 0)) (sel (((eC p5 false):Int) != 50) 3 (sel (!p2) 3 (sel (!(iI p5)) 3 (sel (!(aB (iF p5) (⟨#[115,115,104,45,99,111,110,110,101,99,116,105,111,110]⟩:ByteArray))) 3 (sel (iG p10 p0 p5) 0 (sel (!(aB (dy p5) (⟨#[]⟩:ByteArray))) 0 (sel (!(aB (bB (cg p5) (cr p5)) (⟨#[110,111,110,101]⟩:ByteArray))) (sel (((am .i64 (iJ p1 1) 1):Int)==0) 9 0) 0)))))))))
def aa (p10:Nat) (p0:List Int) (p1:Int) (p2:Bool) (p4:Bool) (p5:List Int):Int :=
 (sel p4 p1 (sel (((eC p5 false):Int)==5) p1 (sel (((eC p5 false):Int) != 50) p1 (sel (!p2) p1 (sel (!(iI p5)) p1 (sel (!(aB (iF p5) (⟨#[115,115,104,45,99,111,110,110,101,99,116,105,111,110]⟩:ByteArray))) p1 (sel (iG p10 p0 p5) p1 (sel (!(aB (dy p5) (⟨#[]⟩:ByteArray))) p1 (sel (!(aB (bB (cg p5) (cr p5)) (⟨#[110,111,110,101]⟩:ByteArray))) (am .i64 (iJ p1 1) 1) p1)))))))))
def cZ (p2:Bool) (p4:Bool) (p5:List Int):Bool :=
 (sel p4 p2 (sel (((eC p5 false):Int)==5) (sel (!(kR p5)) p2 (sel (!(aB (bB (bc p5 false) (bl p5 false)) (⟨#[115,115,104,45,117,115,101,114,97,117,116,104]⟩:ByteArray))) p2 true)) p2))
def cT (p10:Nat) (p0:List Int) (p2:Bool) (p3:ByteArray) (p4:Bool) (p5:List Int):ByteArray :=
 (sel p4 p3 (sel (((eC p5 false):Int)==5) p3 (sel (((eC p5 false):Int) != 50) p3 (sel (!p2) p3 (sel (!(iI p5)) p3 (sel (!(aB (iF p5) (⟨#[115,115,104,45,99,111,110,110,101,99,116,105,111,110]⟩:ByteArray))) p3 (sel (iG p10 p0 p5) (bB (bc p5 false) (bl p5 false)) p3)))))))
def cS (p10:Nat) (p0:List Int) (p2:Bool) (p4:Bool) (p5:List Int):Bool :=
 (sel p4 p4 (sel (((eC p5 false):Int)==5) p4 (sel (((eC p5 false):Int) != 50) p4 (sel (!p2) p4 (sel (!(iI p5)) p4 (sel (!(aB (iF p5) (⟨#[115,115,104,45,99,111,110,110,101,99,116,105,111,110]⟩:ByteArray))) p4 (sel (iG p10 p0 p5) true p4)))))))
def cf (p10:Nat) (p0:List Int) (p1:Int) (p2:Bool) (p4:Bool) (p5:List Int):List Int :=
 (sel p4 ([]:List Int) (sel (((eC p5 false):Int)==5) (sel (!(kR p5)) ([]:List Int) (sel (!(aB (bB (bc p5 false) (bl p5 false)) (⟨#[115,115,104,45,117,115,101,114,97,117,116,104]⟩:ByteArray))) ([]:List Int) (uL))) (sel (((eC p5 false):Int) != 50) ([]:List Int) (sel (!p2) ([]:List Int) (sel (!(iI p5)) ([]:List Int) (sel (!(aB (iF p5) (⟨#[115,115,104,45,99,111,110,110,101,99,116,105,111,110]⟩:ByteArray))) ([]:List Int) (sel (iG p10 p0 p5) [52] (sel (!(aB (dy p5) (⟨#[]⟩:ByteArray))) (qd p5) (sel (!(aB (bB (cg p5) (cr p5)) (⟨#[110,111,110,101]⟩:ByteArray))) (sel (((am .i64 (iJ p1 1) 1):Int)==0) ([]:List Int) (iW)) (iW))))))))))
def ao (p10:Nat) (p0:List Int) (p1:Int) (p2:Bool) (p4:Bool) (p5:List Int):Nat :=
 (sel p4 0 (sel (((eC p5 false):Int)==5) (sel (!(kR p5)) 0 (sel (!(aB (bB (bc p5 false) (bl p5 false)) (⟨#[115,115,104,45,117,115,101,114,97,117,116,104]⟩:ByteArray))) 0 ((1+4)+(⟨#[115,115,104,45,117,115,101,114,97,117,116,104]⟩:ByteArray).size))) (sel (((eC p5 false):Int) != 50) 0 (sel (!p2) 0 (sel (!(iI p5)) 0 (sel (!(aB (iF p5) (⟨#[115,115,104,45,99,111,110,110,101,99,116,105,111,110]⟩:ByteArray))) 0 (sel (iG p10 p0 p5) 1 (sel (!(aB (dy p5) (⟨#[]⟩:ByteArray))) ((((1+4)+(⟨#[115,115,104,45,101,100,50,53,53,49,57]⟩:ByteArray).size)+4)+(dy p5).size) (sel (!(aB (bB (cg p5) (cr p5)) (⟨#[110,111,110,101]⟩:ByteArray))) (sel (((am .i64 (iJ p1 1) 1):Int)==0) 0 (dG)) (dG))))))))))
theorem Ct (p5:List Int):(bI (cg p5) (cr p5)).length+(bB (bc p5 false) (bl p5 false)).size≤p5.length:=by
 have h1:=vw p5 false
 have h2:=lh (bc p5 false) (bl p5 false)
 have h3:=lh (bI (bc p5 false) (bl p5 false)) (bM (bc p5 false) (bl p5 false))
 have h4:=lh (cg p5) (cr p5)
 unfold bn at h1
 unfold cg at h4 ⊢
 omega
theorem Iz (p5:List Int):(dy p5).size≤16384:=by
 have h0:(⟨#[]⟩:ByteArray).size≤16384:=by decide
 have hs:∀ (b:Bool) (x y:ByteArray),x.size≤16384→y.size≤16384→(sel b x y).size≤16384:=fun b x y hx hy=>by cases b;exact hy;exact hx
 unfold dy dw
 repeat first|exact h0|exact ef _ _|(unfold cU;exact ef _ _)|refine hs _ _ _ ?_ ?_
def FY:List AV→List Blk→Option (Prop × Ret)
 |[.sc (.p 0 0),.sc (.ro .u8 p5)],[.cells [.sl 1 0 4 4 none,.sl 2 0 p10 1 none,.i .i64 p1,.b p2,.s p3,.b p4],.cells p9,.ints .u8 p11 p0]=>some (((p10=p11)∧((UA=p9)∧(p5.length≤6000∧p10≤1000))),⟨.tup [.sc (.sl 3 0 (ao p10 p0 p1 p2 p4 p5) 1 none),.sc (.i .i64 (be p10 p0 p1 p2 p4 p5))],[some (.cells [.sl 1 0 4 4 none,.sl 2 0 p10 1 none,.i .i64 (aa p10 p0 p1 p2 p4 p5),.b (cZ p2 p4 p5),.s (cT p10 p0 p2 p3 p4 p5),.b (cS p10 p0 p2 p4 p5)]),some (.cells UA),some (.ints .u8 p10 p0),some (.ints .u8 (ao p10 p0 p1 p2 p4 p5) (cf p10 p0 p1 p2 p4 p5))]⟩)
 |_,_=>none
def KY:KL Tryz.prog gD:=Zv yE 544 1 <|Zc fV 1024 [.io,.val] [] [1008] <|Zc fV 1056 [.io,.val] [] [1024] <|Zc Kv 192 [.ro .u8] [] [] <|Zc FL 240 [.io] [] [192] <|Zc gS 336 [.io] [] [192] <|Zc gS 496 [.io] [] [192] <|Zc gS 528 [.io] [] [192] <|Zc gS 560 [.io] [] [192] <|Zc mR 384 [.io] [] [192] <|Zc NS 688 [.io,.io,.val,.val] [] [0,1,2,192] <|Zv vp 1040 0 <|Zv vp 1280 0 <|Zn
theorem jE:Known Tryz.prog gD 20 ⟨3,1,FY⟩:=by
 refine Xw Tryz.f20 109 KY mixed <|fun E args ks C r h hC hlen=>?_
 simp only at h
 unfold FY at h
 split at h
 rotate_left
 cases h
 rename_i p5 p10 p1 p2 p3 p4 p9 p11 p0
 cases h
 simp only [bU] at hlen
 obtain ⟨hEp11,hC⟩:=hC
 obtain ⟨hEp9,hC⟩:=hC
 subst hEp11
 subst hEp9
 have ht:=Ct p5
 have hf:=Iz p5
 have sz0:(⟨#[115,115,104,45,101,100,50,53,53,49,57]⟩:ByteArray).size=11:=rfl
 refine ⟨rfl,?_⟩
 refine Xs [] [] 48 (v2 pT) <|Tri.seq <|Xs [Eb 22 p4] [] 176 (v6 (pu (Yl 5 6) (v1 pT))) <|Xa (fun h1=>?_) (fun h1=>?_)
 exact Xs [Ei 5 8,(4,.sc (.nils))] [22,0,1] 208 (v2 pT) <|Tri.sub (Sub.openNil (U:=208) (U':=224) 4 208 1 .u8 none (.inl rfl) (by decide) (by decide) (by kernel_rfl) (by kernel_rfl)) <|Xy (r':=⟨.tup [.sc (.sl 3 0 0 1 none),.sc (.i .i64 8)],[some (.cells [.sl 1 0 4 4 none,.sl 2 0 p10 1 none,.i .i64 p1,.b p2,.s p3,.b p4]),some (.cells UA),some (.ints .u8 p10 p0),some (.ints .u8 0 ([]:List Int))]⟩) [(0,0),(1,1),(2,2),(208,3)] (pa pT pz) (by simp only [be,aa,cZ,cT,cS,cf,ao,h1,aH,aD])
 refine Tri.skip <|Xt [Ep 6 192] [22,1] [Mc 192 [.ro .u8 p5,.b false]] [] 224 (v1 (pu (pa pz pT) (v1 pT))) <|Tri.seq <|Xt [Ek 7 .u8 (eC p5 false)] [] [Mc 192 [.ro .u8 (bc p5 false),.b (bl p5 false)]] [192] 272 (v1 (pu pz (v1 pT))) <|Tri.block <|Xs [Eb 27 (((eC p5 false):Int)==5)] [] 320 (v3 pT) <|Xa (fun h2=>?_) (fun h2=>?_)
 have h2':=dM h2
 refine Tri.seq <|Xt [Es 8 (bB (bc p5 false) (bl p5 false))] [27,7] [Mc 192 [.ro .u8 (bI (bc p5 false) (bl p5 false)),.b (bM (bc p5 false) (bl p5 false))]] [192] 368 (v1 (pu pz (v1 pT))) <|Tri.split (!(kR p5)) (fun h3=>?_) (fun h3=>?_)
 exact Xu [Eb 35 true] none [Eb 38 true] [8,6] [] [192] 480 (v1 (pu pz (v1 (pg h3 (v3 pT))))) <|Tri.cond_true (by kernel_rfl) <|Xs [Ei 5 3,(4,.sc (.nils))] [38,0] 512 (v2 pT) <|Tri.sub (Sub.openNil (U:=512) (U':=528) 4 512 1 .u8 none (.inl rfl) (by decide) (by decide) (by kernel_rfl) (by kernel_rfl)) <|Xy (r':=⟨.tup [.sc (.sl 3 0 0 1 none),.sc (.i .i64 3)],[some (.cells [.sl 1 0 4 4 none,.sl 2 0 p10 1 none,.i .i64 p1,.b p2,.s p3,.b p4]),some (.cells UA),some (.ints .u8 p10 p0),some (.ints .u8 0 ([]:List Int))]⟩) [(0,0),(1,1),(2,2),(512,3)] (pa pT pz) (by simp only [be,aa,cZ,cT,cS,cf,ao,h1,h2,h3,aH,aD])
 refine Xu [Eb 35 false] none [Eb 38 (!(aB (bB (bc p5 false) (bl p5 false)) (⟨#[115,115,104,45,117,115,101,114,97,117,116,104]⟩:ByteArray)))] [8,6] [] [192] 480 (v1 (pu pz (v1 (pg h3 (v3 pT))))) <|Xa (fun h4=>?_) (fun h4=>?_)
 exact Xs [Ei 5 3,(4,.sc (.nils))] [38,0] 512 (v2 pT) <|Tri.sub (Sub.openNil (U:=512) (U':=528) 4 512 1 .u8 none (.inl rfl) (by decide) (by decide) (by kernel_rfl) (by kernel_rfl)) <|Xy (r':=⟨.tup [.sc (.sl 3 0 0 1 none),.sc (.i .i64 3)],[some (.cells [.sl 1 0 4 4 none,.sl 2 0 p10 1 none,.i .i64 p1,.b p2,.s p3,.b p4]),some (.cells UA),some (.ints .u8 p10 p0),some (.ints .u8 0 ([]:List Int))]⟩) [(0,0),(1,1),(2,2),(512,3)] (pa pT pz) (by simp only [be,aa,cZ,cT,cS,cf,ao,h1,h2,h3,h4,aH,aD])
 exact Tri.skip <|Xt [] [38,0] [Mc 0 [.sl 1 0 4 4 none,.sl 2 0 p10 1 none,.i .i64 p1,.b true,.s p3,.b p4]] [0] 544 (v3 (pu (Ys 3 6) pT)) <|Xt [Ei 5 0,El 4 544 ((1+4)+(⟨#[115,115,104,45,117,115,101,114,97,117,116,104]⟩:ByteArray).size)] [] [Mi 544 ((1+4)+(⟨#[115,115,104,45,117,115,101,114,97,117,116,104]⟩:ByteArray).size) (uL)] [] 592 (pu (pa pT (Ye ((⟨#[115,115,104,45,117,115,101,114,97,117,116,104]⟩:ByteArray).size) 100000)) (v2 pT)) <|Xy (r':=⟨.tup [.sc (.sl 3 0 ((1+4)+(⟨#[115,115,104,45,117,115,101,114,97,117,116,104]⟩:ByteArray).size) 1 none),.sc (.i .i64 0)],[some (.cells [.sl 1 0 4 4 none,.sl 2 0 p10 1 none,.i .i64 p1,.b true,.s p3,.b p4]),some (.cells UA),some (.ints .u8 p10 p0),some (.ints .u8 ((1+4)+(⟨#[115,115,104,45,117,115,101,114,97,117,116,104]⟩:ByteArray).size) (uL))]⟩) [(0,0),(1,1),(2,2),(544,3)] (pa pT pz) (by simp only [be,aa,cZ,cT,cS,cf,ao,h1,h2,h3,h4,aH,aD])
 have h2':=co h2
 refine Tri.split (((eC p5 false):Int) != 50) (fun h5=>?_) (fun h5=>?_)
 have h5':=cM h5
 exact Xu [Eb 46 true] none [Eb 43 true] [27,7] [] [] 480 (v2 (pg h5 (v7 pT))) <|Tri.cond_true (by kernel_rfl) <|Xt [Ei 5 3,(4,.sc (.nils))] [43,6,0] [] [192] 512 (v2 pT) <|Tri.sub (Sub.openNil (U:=512) (U':=528) 4 512 1 .u8 none (.inl rfl) (by decide) (by decide) (by kernel_rfl) (by kernel_rfl)) <|Xy (r':=⟨.tup [.sc (.sl 3 0 0 1 none),.sc (.i .i64 3)],[some (.cells [.sl 1 0 4 4 none,.sl 2 0 p10 1 none,.i .i64 p1,.b p2,.s p3,.b p4]),some (.cells UA),some (.ints .u8 p10 p0),some (.ints .u8 0 ([]:List Int))]⟩) [(0,0),(1,1),(2,2),(512,3)] (pa pT pz) (by simp only [be,aa,cZ,cT,cS,cf,ao,h1,h2,h5,aH,aD])
 have h5':=bW h5
 refine Xu [Eb 46 false] none [Eb 43 (!p2)] [27,7] [] [] 480 (v2 (pg h5 (v3 (pu (Yl 3 6) (v3 pT))))) <|Xa (fun h6=>?_) (fun h6=>?_)
 exact Xt [Ei 5 3,(4,.sc (.nils))] [43,6,0] [] [192] 512 (v2 pT) <|Tri.sub (Sub.openNil (U:=512) (U':=528) 4 512 1 .u8 none (.inl rfl) (by decide) (by decide) (by kernel_rfl) (by kernel_rfl)) <|Xy (r':=⟨.tup [.sc (.sl 3 0 0 1 none),.sc (.i .i64 3)],[some (.cells [.sl 1 0 4 4 none,.sl 2 0 p10 1 none,.i .i64 p1,.b p2,.s p3,.b p4]),some (.cells UA),some (.ints .u8 p10 p0),some (.ints .u8 0 ([]:List Int))]⟩) [(0,0),(1,1),(2,2),(512,3)] (pa pT pz) (by simp only [be,aa,cZ,cT,cS,cf,ao,h1,h2,h5,h6,aH,aD])
 refine Tri.skip <|Xt [Es 11 (bB (cg p5) (cr p5)),Es 10 (iF p5),Es 9 (bB (bc p5 false) (bl p5 false))] [43] [Mc 192 [.ro .u8 (bI (cg p5) (cr p5)),.b (bM (cg p5) (cr p5))]] [192] 624 (v1 (pu pz (v1 (pu pz (v1 (pu pz (v3 pT))))))) <|Xt [Eb 14 (iI p5),Es 13 (dy p5),Eb 12 (iG p10 p0 p5)] [6] [Mi 2 p10 p0,Mc 1 UA] [192,1,2] 816 (v4 (pu (pa pT (pa (Yr p10) (pa (Yr UA) (lo ((bI (cg p5) (cr p5)).length+(bB (bc p5 false) (bl p5 false)).size≤6000∧p10≤1000))))) (v7 pT))) <|Tri.seq <|Tri.block <|Tri.split (!(iI p5)) (fun h7=>?_) (fun h7=>?_)
 exact Xu [Eb 71 true] none [Eb 68 true] [14,10] [] [] 928 (v2 (pg h7 (v4 pT))) <|Tri.cond_true (by kernel_rfl) <|Xs [Ei 5 3,(4,.sc (.nils))] [68,13,12,11,9,0] 960 (v2 pT) <|Tri.sub (Sub.openNil (U:=960) (U':=976) 4 960 1 .u8 none (.inl rfl) (by decide) (by decide) (by kernel_rfl) (by kernel_rfl)) <|Xy (r':=⟨.tup [.sc (.sl 3 0 0 1 none),.sc (.i .i64 3)],[some (.cells [.sl 1 0 4 4 none,.sl 2 0 p10 1 none,.i .i64 p1,.b p2,.s p3,.b p4]),some (.cells UA),some (.ints .u8 p10 p0),some (.ints .u8 0 ([]:List Int))]⟩) [(0,0),(1,1),(2,2),(960,3)] (pa pT pz) (by simp only [be,aa,cZ,cT,cS,cf,ao,h1,h2,h5,h6,h7,aH,aD])
 refine Xu [Eb 71 false] none [Eb 68 (!(aB (iF p5) (⟨#[115,115,104,45,99,111,110,110,101,99,116,105,111,110]⟩:ByteArray)))] [14,10] [] [] 928 (v2 (pg h7 (v4 pT))) <|Xa (fun h8=>?_) (fun h8=>?_)
 exact Xs [Ei 5 3,(4,.sc (.nils))] [68,13,12,11,9,0] 960 (v2 pT) <|Tri.sub (Sub.openNil (U:=960) (U':=976) 4 960 1 .u8 none (.inl rfl) (by decide) (by decide) (by kernel_rfl) (by kernel_rfl)) <|Xy (r':=⟨.tup [.sc (.sl 3 0 0 1 none),.sc (.i .i64 3)],[some (.cells [.sl 1 0 4 4 none,.sl 2 0 p10 1 none,.i .i64 p1,.b p2,.s p3,.b p4]),some (.cells UA),some (.ints .u8 p10 p0),some (.ints .u8 0 ([]:List Int))]⟩) [(0,0),(1,1),(2,2),(960,3)] (pa pT pz) (by simp only [be,aa,cZ,cT,cS,cf,ao,h1,h2,h5,h6,h7,h8,aH,aD])
 refine Xs [Eb 75 (iG p10 p0 p5)] [68,12] 960 (v2 pT) <|Xa (fun h9=>?_) (fun h9=>?_)
 exact Xt [] [75,13,11,9,0] [Mc 0 [.sl 1 0 4 4 none,.sl 2 0 p10 1 none,.i .i64 p1,.b p2,.s (bB (bc p5 false) (bl p5 false)),.b true]] [0] 1104 (v5 (pu (Ys 5 6) (v2 (pu (Ys 4 6) pT)))) <|Xt [Ei 5 0,El 4 1104 1] [] [Mi 1104 1 [52]] [] 1152 (pu (Yf 1) (v2 pT)) <|Xy (r':=⟨.tup [.sc (.sl 3 0 1 1 none),.sc (.i .i64 0)],[some (.cells [.sl 1 0 4 4 none,.sl 2 0 p10 1 none,.i .i64 p1,.b p2,.s (bB (bc p5 false) (bl p5 false)),.b true]),some (.cells UA),some (.ints .u8 p10 p0),some (.ints .u8 1 [52])]⟩) [(0,0),(1,1),(2,2),(1104,3)] (pa pT pz) (by simp only [be,aa,cZ,cT,cS,cf,ao,h1,h2,h5,h6,h7,h8,h9,aH,aD])
 refine Xs [Eb 85 (!(aB (dy p5) (⟨#[]⟩:ByteArray)))] [75,9] 1008 (v3 pT) <|Xa (fun h10=>?_) (fun h10=>?_)
 exact Xt [Ei 5 0,El 4 1056 ((((1+4)+(⟨#[115,115,104,45,101,100,50,53,53,49,57]⟩:ByteArray).size)+4)+(dy p5).size)] [85,13,11,0] [Mi 1056 ((((1+4)+(⟨#[115,115,104,45,101,100,50,53,53,49,57]⟩:ByteArray).size)+4)+(dy p5).size) (qd p5)] [] 1104 (pu (Yf 1) (pu (pa pT (pa (Yr 1) (lo (1≤1000000000∧(⟨#[115,115,104,45,101,100,50,53,53,49,57]⟩:ByteArray).size≤1000000000)))) (v1 (pu (pa pT (pa (Yr ((1+4)+(⟨#[115,115,104,45,101,100,50,53,53,49,57]⟩:ByteArray).size)) (lo (((1+4)+(⟨#[115,115,104,45,101,100,50,53,53,49,57]⟩:ByteArray).size)≤1000000000∧(dy p5).size≤1000000000)))) (v2 pT))))) <|Xy (r':=⟨.tup [.sc (.sl 3 0 ((((1+4)+(⟨#[115,115,104,45,101,100,50,53,53,49,57]⟩:ByteArray).size)+4)+(dy p5).size) 1 none),.sc (.i .i64 0)],[some (.cells [.sl 1 0 4 4 none,.sl 2 0 p10 1 none,.i .i64 p1,.b p2,.s p3,.b p4]),some (.cells UA),some (.ints .u8 p10 p0),some (.ints .u8 ((((1+4)+(⟨#[115,115,104,45,101,100,50,53,53,49,57]⟩:ByteArray).size)+4)+(dy p5).size) (qd p5))]⟩) [(0,0),(1,1),(2,2),(1056,3)] (pa pT pz) (by simp only [be,aa,cZ,cT,cS,cf,ao,h1,h2,h5,h6,h7,h8,h9,h10,aH,aD])
 refine Tri.skip <|Tri.seq <|Xs [Eb 93 (!(aB (bB (cg p5) (cr p5)) (⟨#[110,111,110,101]⟩:ByteArray)))] [85,13,11] 1040 (v2 pT) <|Xa (fun h11=>?_) (fun h11=>?_)
 refine Xt [] [93] [Mc 0 [.sl 1 0 4 4 none,.sl 2 0 p10 1 none,.i .i64 (am .i64 (iJ p1 1) 1),.b p2,.s p3,.b p4]] [0] 1200 (v4 (pu (Yl 2 6) (v4 (pu (Ys 2 6) pT)))) <|Xs [Eb 107 (((am .i64 (iJ p1 1) 1):Int)==0)] [0] 1280 (v3 (pu (Yl 2 6) (v1 pT))) <|Xa (fun h12=>?_) (fun h12=>?_)
 have h12':=dM h12
 exact Xs [Ei 5 9,(4,.sc (.nils))] [107] 1312 (v2 pT) <|Tri.sub (Sub.openNil (U:=1312) (U':=1328) 4 1312 1 .u8 none (.inl rfl) (by decide) (by decide) (by kernel_rfl) (by kernel_rfl)) <|Xy (r':=⟨.tup [.sc (.sl 3 0 0 1 none),.sc (.i .i64 9)],[some (.cells [.sl 1 0 4 4 none,.sl 2 0 p10 1 none,.i .i64 (am .i64 (iJ p1 1) 1),.b p2,.s p3,.b p4]),some (.cells UA),some (.ints .u8 p10 p0),some (.ints .u8 0 ([]:List Int))]⟩) [(0,0),(1,1),(2,2),(1312,3)] (pa pT pz) (by simp only [be,aa,cZ,cT,cS,cf,ao,h1,h2,h5,h6,h7,h8,h9,h10,h11,h12,aH,aD])
 have h12':=co h12
 exact Tri.skip <|Xt [Ei 5 0,El 4 1280 (dG)] [107] [Mi 1280 (dG) (iW)] [] 1328 (pu pz (v2 pT)) <|Xy (r':=⟨.tup [.sc (.sl 3 0 (dG) 1 none),.sc (.i .i64 0)],[some (.cells [.sl 1 0 4 4 none,.sl 2 0 p10 1 none,.i .i64 (am .i64 (iJ p1 1) 1),.b p2,.s p3,.b p4]),some (.cells UA),some (.ints .u8 p10 p0),some (.ints .u8 (dG) (iW))]⟩) [(0,0),(1,1),(2,2),(1280,3)] (pa pT pz) (by simp only [be,aa,cZ,cT,cS,cf,ao,h1,h2,h5,h6,h7,h8,h9,h10,h11,h12,aH,aD])
 exact Tri.skip <|Xt [Ei 5 0,El 4 1040 (dG)] [93,0] [Mi 1040 (dG) (iW)] [] 1088 (pu pz (v2 pT)) <|Xy (r':=⟨.tup [.sc (.sl 3 0 (dG) 1 none),.sc (.i .i64 0)],[some (.cells [.sl 1 0 4 4 none,.sl 2 0 p10 1 none,.i .i64 p1,.b p2,.s p3,.b p4]),some (.cells UA),some (.ints .u8 p10 p0),some (.ints .u8 (dG) (iW))]⟩) [(0,0),(1,1),(2,2),(1040,3)] (pa pT pz) (by simp only [be,aa,cZ,cT,cS,cf,ao,h1,h2,h5,h6,h7,h8,h9,h10,h11,aH,aD])
theorem Eg {b:Bool} {x y:Nat} {u v:Int} (h:sel b u v=0) (hx:u=0→0<x) (hy:v=0→0<y):0<sel b x y:=by
 cases b
 ·rw [aD] at h ⊢;exact hy h
 ·rw [aH] at h ⊢;exact hx h
theorem Hh {p10:Nat} {p0:List Int} {p1:Int} {p2 p4:Bool} {p5:List Int} (h:be p10 p0 p1 p2 p4 p5=0):0<ao p10 p0 p1 p2 p4 p5:=by
 unfold be at h
 unfold ao
 revert h
 repeat' first
  |(intro h;exact absurd h (by decide))
  |(intro h;refine Eg h ?_ ?_)
  |(intro _;omega)
  |(intro _;unfold dG;omega)
  |(intro _;exact (by decide))
end Go.Vm
namespace Go.Vm
open Go Go.Proofs
def dJ:List Int :=
 (qa (⟨#[115,115,104,45,117,115,101,114,97,117,116,104]⟩:ByteArray))
def fp:Bool :=
 (cZ false false (aC (dJ) ((1+4)+(⟨#[115,115,104,45,117,115,101,114,97,117,116,104]⟩:ByteArray).size) 0 ((1+4)+(⟨#[115,115,104,45,117,115,101,114,97,117,116,104]⟩:ByteArray).size)))
def BW:ByteArray :=
 (cT ((aC [115] 1 0 1).length) (aC [115] 1 0 1) false (⟨#[]⟩:ByteArray) false (aC (dJ) ((1+4)+(⟨#[115,115,104,45,117,115,101,114,97,117,116,104]⟩:ByteArray).size) 0 ((1+4)+(⟨#[115,115,104,45,117,115,101,114,97,117,116,104]⟩:ByteArray).size)))
def fo:Bool :=
 (cS ((aC [115] 1 0 1).length) (aC [115] 1 0 1) false false (aC (dJ) ((1+4)+(⟨#[115,115,104,45,117,115,101,114,97,117,116,104]⟩:ByteArray).size) 0 ((1+4)+(⟨#[115,115,104,45,117,115,101,114,97,117,116,104]⟩:ByteArray).size)))
def wb:List Int :=
 (cf ((aC [115] 1 0 1).length) (aC [115] 1 0 1) 3 false false (aC (dJ) ((1+4)+(⟨#[115,115,104,45,117,115,101,114,97,117,116,104]⟩:ByteArray).size) 0 ((1+4)+(⟨#[115,115,104,45,117,115,101,114,97,117,116,104]⟩:ByteArray).size)))
def fk:List Int :=
 (lq (⟨#[97,110,110]⟩:ByteArray) (⟨#[115,101,99,114,101,116]⟩:ByteArray))
def IN:Bool :=
 (cZ (fp) (fo) (aC (fk) (aG (⟨#[97,110,110]⟩:ByteArray) (⟨#[115,101,99,114,101,116]⟩:ByteArray)) 0 (aG (⟨#[97,110,110]⟩:ByteArray) (⟨#[115,101,99,114,101,116]⟩:ByteArray))))
def xU:ByteArray :=
 (cT ((aC [115] 1 0 1).length) (aC [115] 1 0 1) (fp) (BW) (fo) (aC (fk) (aG (⟨#[97,110,110]⟩:ByteArray) (⟨#[115,101,99,114,101,116]⟩:ByteArray)) 0 (aG (⟨#[97,110,110]⟩:ByteArray) (⟨#[115,101,99,114,101,116]⟩:ByteArray))))
def xG:Bool :=
 (cS ((aC [115] 1 0 1).length) (aC [115] 1 0 1) (fp) (fo) (aC (fk) (aG (⟨#[97,110,110]⟩:ByteArray) (⟨#[115,101,99,114,101,116]⟩:ByteArray)) 0 (aG (⟨#[97,110,110]⟩:ByteArray) (⟨#[115,101,99,114,101,116]⟩:ByteArray))))
def wT:List Int :=
 (cf ((aC [115] 1 0 1).length) (aC [115] 1 0 1) (aa ((aC [115] 1 0 1).length) (aC [115] 1 0 1) 3 false false (aC (dJ) ((1+4)+(⟨#[115,115,104,45,117,115,101,114,97,117,116,104]⟩:ByteArray).size) 0 ((1+4)+(⟨#[115,115,104,45,117,115,101,114,97,117,116,104]⟩:ByteArray).size))) (fp) (fo) (aC (fk) (aG (⟨#[97,110,110]⟩:ByteArray) (⟨#[115,101,99,114,101,116]⟩:ByteArray)) 0 (aG (⟨#[97,110,110]⟩:ByteArray) (⟨#[115,101,99,114,101,116]⟩:ByteArray))))
def yO:List Int :=
 (tK (⟨#[115,115,104,45,117,115,101,114,97,117,116,104]⟩:ByteArray))
def rA:Bool :=
 (sel (((aP .i64 (be ((aC [115] 1 0 1).length) (aC [115] 1 0 1) 3 false false (aC (dJ) ((1+4)+(⟨#[115,115,104,45,117,115,101,114,97,117,116,104]⟩:ByteArray).size) 0 ((1+4)+(⟨#[115,115,104,45,117,115,101,114,97,117,116,104]⟩:ByteArray).size))) (be ((aC [115] 1 0 1).length) (aC [115] 1 0 1) (aa ((aC [115] 1 0 1).length) (aC [115] 1 0 1) 3 false false (aC (dJ) ((1+4)+(⟨#[115,115,104,45,117,115,101,114,97,117,116,104]⟩:ByteArray).size) 0 ((1+4)+(⟨#[115,115,104,45,117,115,101,114,97,117,116,104]⟩:ByteArray).size))) (fp) (fo) (aC (fk) (aG (⟨#[97,110,110]⟩:ByteArray) (⟨#[115,101,99,114,101,116]⟩:ByteArray)) 0 (aG (⟨#[97,110,110]⟩:ByteArray) (⟨#[115,101,99,114,101,116]⟩:ByteArray))))):Int)==0) (sel (aB (aL (((wb).drop 0).take (ao ((aC [115] 1 0 1).length) (aC [115] 1 0 1) 3 false false (aC (dJ) ((1+4)+(⟨#[115,115,104,45,117,115,101,114,97,117,116,104]⟩:ByteArray).size) 0 ((1+4)+(⟨#[115,115,104,45,117,115,101,114,97,117,116,104]⟩:ByteArray).size))))) (aL (((yO).drop 0).take ((1+4)+(⟨#[115,115,104,45,117,115,101,114,97,117,116,104]⟩:ByteArray).size)))) (sel (aB (aL (((wT).drop 0).take (ao ((aC [115] 1 0 1).length) (aC [115] 1 0 1) (aa ((aC [115] 1 0 1).length) (aC [115] 1 0 1) 3 false false (aC (dJ) ((1+4)+(⟨#[115,115,104,45,117,115,101,114,97,117,116,104]⟩:ByteArray).size) 0 ((1+4)+(⟨#[115,115,104,45,117,115,101,114,97,117,116,104]⟩:ByteArray).size))) (fp) (fo) (aC (fk) (aG (⟨#[97,110,110]⟩:ByteArray) (⟨#[115,101,99,114,101,116]⟩:ByteArray)) 0 (aG (⟨#[97,110,110]⟩:ByteArray) (⟨#[115,101,99,114,101,116]⟩:ByteArray)))))) (⟨#[52]⟩:ByteArray)) (aB (ga (xU) (xG)) (⟨#[97,110,110]⟩:ByteArray)) false) false) false)
def KK:List AV→List Blk→Option (Prop × Ret)
 |[],[]=>some (True,⟨.sc (.b (rA)),[]⟩)
 |_,_=>none
theorem OW:Known Tryz.prog gD 8 ⟨0,0,KK⟩:=by
 refine Xw Tryz.f8 43 (Zv iN 256 2 <|Zc Ce 80 [.io,.ro .u8,.val] [48] [32] <|Zv pe 32 0 <|Zc jE 144 [.io,.ro .u8] [128] [80,32,81] <|Zc jE 272 [.io,.ro .u8] [256] [80,32,81] <|Zc sV 656 [.io] [] [80,32,81] <|Zv nn 128 1 <|Zv yE 480 1 <|Zn) mixed <|fun E args ks C r h hC hlen=>?_
 simp only at h
 unfold KK at h
 split at h
 rotate_left
 cases h
 cases h
 simp only [bU] at hlen
 refine ⟨rfl,?_⟩
 refine Xs [] [] 32 (v1 pT) <|Xt [Ep 1 80] [] [Mi 81 ((aC [115] 1 0 1).length) (aC [115] 1 0 1),Mc 80 [.sl 32 0 4 4 none,.sl 81 0 ((aC [115] 1 0 1).length) 1 none,.i .i64 3,.b false,.s (⟨#[]⟩:ByteArray),.b false],Mc 32 UA] [] 112 (pu pz (pu (Yf 1) (pu (pa (Yr 1) (pa (Yr 0) (Yl 0 1))) (pu (pa (pa (Yw 1) pT) (pa (Yr UA) (Ye ((aC [115] 1 0 1).length) 100000))) (v1 pT))))) <|Tri.len 81 rfl <|fun hl1=>Xt [Ei 3 (be ((aC [115] 1 0 1).length) (aC [115] 1 0 1) 3 false false (aC (dJ) ((1+4)+(⟨#[115,115,104,45,117,115,101,114,97,117,116,104]⟩:ByteArray).size) 0 ((1+4)+(⟨#[115,115,104,45,117,115,101,114,97,117,116,104]⟩:ByteArray).size))),El 2 144 (ao ((aC [115] 1 0 1).length) (aC [115] 1 0 1) 3 false false (aC (dJ) ((1+4)+(⟨#[115,115,104,45,117,115,101,114,97,117,116,104]⟩:ByteArray).size) 0 ((1+4)+(⟨#[115,115,104,45,117,115,101,114,97,117,116,104]⟩:ByteArray).size)))] [] [Mi 144 (ao ((aC [115] 1 0 1).length) (aC [115] 1 0 1) 3 false false (aC (dJ) ((1+4)+(⟨#[115,115,104,45,117,115,101,114,97,117,116,104]⟩:ByteArray).size) 0 ((1+4)+(⟨#[115,115,104,45,117,115,101,114,97,117,116,104]⟩:ByteArray).size))) (wb),Mi 81 ((aC [115] 1 0 1).length) (aC [115] 1 0 1),Mc 32 UA,Mc 80 [.sl 32 0 4 4 none,.sl 81 0 ((aC [115] 1 0 1).length) 1 none,.i .i64 (aa ((aC [115] 1 0 1).length) (aC [115] 1 0 1) 3 false false (aC (dJ) ((1+4)+(⟨#[115,115,104,45,117,115,101,114,97,117,116,104]⟩:ByteArray).size) 0 ((1+4)+(⟨#[115,115,104,45,117,115,101,114,97,117,116,104]⟩:ByteArray).size))),.b (fp),.s (BW),.b (fo)]] [81,80,32] 240 (v1 (pu (pa pT (Ye ((⟨#[115,115,104,45,117,115,101,114,97,117,116,104]⟩:ByteArray).size) 100000)) (pu (pa (pa (Yw ((1+4)+(⟨#[115,115,104,45,117,115,101,114,97,117,116,104]⟩:ByteArray).size)) pT) (pa (Yr ((aC [115] 1 0 1).length)) (pa (Yr UA) (lo ((aC (dJ) ((1+4)+(⟨#[115,115,104,45,117,115,101,114,97,117,116,104]⟩:ByteArray).size) 0 ((1+4)+(⟨#[115,115,104,45,117,115,101,114,97,117,116,104]⟩:ByteArray).size)).length≤6000∧((aC [115] 1 0 1).length)≤1000))))) (v5 pT)))) <|Tri.len 144 rfl <|fun hl2=>Tri.len 81 rfl <|fun hl3=>Xt [Ei 5 (be ((aC [115] 1 0 1).length) (aC [115] 1 0 1) (aa ((aC [115] 1 0 1).length) (aC [115] 1 0 1) 3 false false (aC (dJ) ((1+4)+(⟨#[115,115,104,45,117,115,101,114,97,117,116,104]⟩:ByteArray).size) 0 ((1+4)+(⟨#[115,115,104,45,117,115,101,114,97,117,116,104]⟩:ByteArray).size))) (fp) (fo) (aC (fk) (aG (⟨#[97,110,110]⟩:ByteArray) (⟨#[115,101,99,114,101,116]⟩:ByteArray)) 0 (aG (⟨#[97,110,110]⟩:ByteArray) (⟨#[115,101,99,114,101,116]⟩:ByteArray)))),El 4 272 (ao ((aC [115] 1 0 1).length) (aC [115] 1 0 1) (aa ((aC [115] 1 0 1).length) (aC [115] 1 0 1) 3 false false (aC (dJ) ((1+4)+(⟨#[115,115,104,45,117,115,101,114,97,117,116,104]⟩:ByteArray).size) 0 ((1+4)+(⟨#[115,115,104,45,117,115,101,114,97,117,116,104]⟩:ByteArray).size))) (fp) (fo) (aC (fk) (aG (⟨#[97,110,110]⟩:ByteArray) (⟨#[115,101,99,114,101,116]⟩:ByteArray)) 0 (aG (⟨#[97,110,110]⟩:ByteArray) (⟨#[115,101,99,114,101,116]⟩:ByteArray))))] [] [Mi 272 (ao ((aC [115] 1 0 1).length) (aC [115] 1 0 1) (aa ((aC [115] 1 0 1).length) (aC [115] 1 0 1) 3 false false (aC (dJ) ((1+4)+(⟨#[115,115,104,45,117,115,101,114,97,117,116,104]⟩:ByteArray).size) 0 ((1+4)+(⟨#[115,115,104,45,117,115,101,114,97,117,116,104]⟩:ByteArray).size))) (fp) (fo) (aC (fk) (aG (⟨#[97,110,110]⟩:ByteArray) (⟨#[115,101,99,114,101,116]⟩:ByteArray)) 0 (aG (⟨#[97,110,110]⟩:ByteArray) (⟨#[115,101,99,114,101,116]⟩:ByteArray)))) (wT),Mi 81 ((aC [115] 1 0 1).length) (aC [115] 1 0 1),Mc 32 UA,Mc 80 [.sl 32 0 4 4 none,.sl 81 0 ((aC [115] 1 0 1).length) 1 none,.i .i64 (aa ((aC [115] 1 0 1).length) (aC [115] 1 0 1) (aa ((aC [115] 1 0 1).length) (aC [115] 1 0 1) 3 false false (aC (dJ) ((1+4)+(⟨#[115,115,104,45,117,115,101,114,97,117,116,104]⟩:ByteArray).size) 0 ((1+4)+(⟨#[115,115,104,45,117,115,101,114,97,117,116,104]⟩:ByteArray).size))) (fp) (fo) (aC (fk) (aG (⟨#[97,110,110]⟩:ByteArray) (⟨#[115,101,99,114,101,116]⟩:ByteArray)) 0 (aG (⟨#[97,110,110]⟩:ByteArray) (⟨#[115,101,99,114,101,116]⟩:ByteArray)))),.b (IN),.s (xU),.b (xG)]] [81,32,80] 368 (v1 (pu (pa pT (lo ((⟨#[97,110,110]⟩:ByteArray).size≤100000∧(⟨#[115,101,99,114,101,116]⟩:ByteArray).size≤100000))) (pu (pa (pa (Yw (aG (⟨#[97,110,110]⟩:ByteArray) (⟨#[115,101,99,114,101,116]⟩:ByteArray))) pT) (pa (Yr ((aC [115] 1 0 1).length)) (pa (Yr UA) (lo ((aC (fk) (aG (⟨#[97,110,110]⟩:ByteArray) (⟨#[115,101,99,114,101,116]⟩:ByteArray)) 0 (aG (⟨#[97,110,110]⟩:ByteArray) (⟨#[115,101,99,114,101,116]⟩:ByteArray))).length≤6000∧((aC [115] 1 0 1).length)≤1000))))) (v5 pT)))) <|Tri.split (((aP .i64 (be ((aC [115] 1 0 1).length) (aC [115] 1 0 1) 3 false false (aC (dJ) ((1+4)+(⟨#[115,115,104,45,117,115,101,114,97,117,116,104]⟩:ByteArray).size) 0 ((1+4)+(⟨#[115,115,104,45,117,115,101,114,97,117,116,104]⟩:ByteArray).size))) (be ((aC [115] 1 0 1).length) (aC [115] 1 0 1) (aa ((aC [115] 1 0 1).length) (aC [115] 1 0 1) 3 false false (aC (dJ) ((1+4)+(⟨#[115,115,104,45,117,115,101,114,97,117,116,104]⟩:ByteArray).size) 0 ((1+4)+(⟨#[115,115,104,45,117,115,101,114,97,117,116,104]⟩:ByteArray).size))) (fp) (fo) (aC (fk) (aG (⟨#[97,110,110]⟩:ByteArray) (⟨#[115,101,99,114,101,116]⟩:ByteArray)) 0 (aG (⟨#[97,110,110]⟩:ByteArray) (⟨#[115,101,99,114,101,116]⟩:ByteArray))))):Int)==0) (fun h4=>?_) (fun h4=>?_)
 have h4':=dM h4
 refine Tri.split (aB (aL (((wb).drop 0).take (ao ((aC [115] 1 0 1).length) (aC [115] 1 0 1) 3 false false (aC (dJ) ((1+4)+(⟨#[115,115,104,45,117,115,101,114,97,117,116,104]⟩:ByteArray).size) 0 ((1+4)+(⟨#[115,115,104,45,117,115,101,114,97,117,116,104]⟩:ByteArray).size))))) (aL (((yO).drop 0).take ((1+4)+(⟨#[115,115,104,45,117,115,101,114,97,117,116,104]⟩:ByteArray).size)))) (fun h5=>?_) (fun h5=>?_)
 refine Tri.split (aB (aL (((wT).drop 0).take (ao ((aC [115] 1 0 1).length) (aC [115] 1 0 1) (aa ((aC [115] 1 0 1).length) (aC [115] 1 0 1) 3 false false (aC (dJ) ((1+4)+(⟨#[115,115,104,45,117,115,101,114,97,117,116,104]⟩:ByteArray).size) 0 ((1+4)+(⟨#[115,115,104,45,117,115,101,114,97,117,116,104]⟩:ByteArray).size))) (fp) (fo) (aC (fk) (aG (⟨#[97,110,110]⟩:ByteArray) (⟨#[115,101,99,114,101,116]⟩:ByteArray)) 0 (aG (⟨#[97,110,110]⟩:ByteArray) (⟨#[115,101,99,114,101,116]⟩:ByteArray)))))) (⟨#[52]⟩:ByteArray)) (fun h6=>?_) (fun h6=>?_)
 exact Tri.len 272 rfl <|fun hl7=>Tri.len 81 rfl <|fun hl8=>Tri.len 144 rfl <|fun hl9=>Xu [Eb 26 true,Eb 33 true,Eb 38 true] (some [0,0,3,7,15,31,63,31,159,511,1023,2047,4095,8191,16383,32767,65535,131071,262143,524287,1048575,2097151]) [Eb 0 (aB (ga (xU) (xG)) (⟨#[97,110,110]⟩:ByteArray))] [5,4,3,2,1] [] [272,81,32,80,144] 720 (v4 (pg h4 (v1 (pu (Yw (ao ((aC [115] 1 0 1).length) (aC [115] 1 0 1) 3 false false (aC (dJ) ((1+4)+(⟨#[115,115,104,45,117,115,101,114,97,117,116,104]⟩:ByteArray).size) 0 ((1+4)+(⟨#[115,115,104,45,117,115,101,114,97,117,116,104]⟩:ByteArray).size)))) (pu (pa pT (Ye ((⟨#[115,115,104,45,117,115,101,114,97,117,116,104]⟩:ByteArray).size) 100000)) (pu (Yw ((1+4)+(⟨#[115,115,104,45,117,115,101,114,97,117,116,104]⟩:ByteArray).size)) (v2 (pg h5 (v1 (pu (Yw (ao ((aC [115] 1 0 1).length) (aC [115] 1 0 1) (aa ((aC [115] 1 0 1).length) (aC [115] 1 0 1) 3 false false (aC (dJ) ((1+4)+(⟨#[115,115,104,45,117,115,101,114,97,117,116,104]⟩:ByteArray).size) 0 ((1+4)+(⟨#[115,115,104,45,117,115,101,114,97,117,116,104]⟩:ByteArray).size))) (fp) (fo) (aC (fk) (aG (⟨#[97,110,110]⟩:ByteArray) (⟨#[115,101,99,114,101,116]⟩:ByteArray)) 0 (aG (⟨#[97,110,110]⟩:ByteArray) (⟨#[115,101,99,114,101,116]⟩:ByteArray))))) (v2 (pg h6 (v1 (pu (pa pT (pa (Yr ((aC [115] 1 0 1).length)) (pa (Yr UA) pT))) (v3 pT))))))))))))))) <|Xy [] pz (by simp only [rA,h4,h5,h6,aH,aD] <;> rfl)
 exact Tri.len 272 rfl <|fun hl10=>Tri.len 81 rfl <|fun hl11=>Tri.len 144 rfl <|fun hl12=>Xu [Eb 26 true,Eb 33 true,Eb 38 false] (some [0,0,3,7,15,31,63,31,159,511,1023,2047,4095,8191,16383,32767,65535,131071,262143,524287,1048575,2097151]) [Eb 0 false] [5,4,3,2,1] [] [272,81,32,80,144] 720 (v4 (pg h4 (v1 (pu (Yw (ao ((aC [115] 1 0 1).length) (aC [115] 1 0 1) 3 false false (aC (dJ) ((1+4)+(⟨#[115,115,104,45,117,115,101,114,97,117,116,104]⟩:ByteArray).size) 0 ((1+4)+(⟨#[115,115,104,45,117,115,101,114,97,117,116,104]⟩:ByteArray).size)))) (pu (pa pT (Ye ((⟨#[115,115,104,45,117,115,101,114,97,117,116,104]⟩:ByteArray).size) 100000)) (pu (Yw ((1+4)+(⟨#[115,115,104,45,117,115,101,114,97,117,116,104]⟩:ByteArray).size)) (v2 (pg h5 (v1 (pu (Yw (ao ((aC [115] 1 0 1).length) (aC [115] 1 0 1) (aa ((aC [115] 1 0 1).length) (aC [115] 1 0 1) 3 false false (aC (dJ) ((1+4)+(⟨#[115,115,104,45,117,115,101,114,97,117,116,104]⟩:ByteArray).size) 0 ((1+4)+(⟨#[115,115,104,45,117,115,101,114,97,117,116,104]⟩:ByteArray).size))) (fp) (fo) (aC (fk) (aG (⟨#[97,110,110]⟩:ByteArray) (⟨#[115,101,99,114,101,116]⟩:ByteArray)) 0 (aG (⟨#[97,110,110]⟩:ByteArray) (⟨#[115,101,99,114,101,116]⟩:ByteArray))))) (v2 (pg h6 (v5 pT))))))))))))) <|Xy [] pz (by simp only [rA,h4,h5,h6,aH,aD] <;> rfl)
 exact Tri.len 272 rfl <|fun hl13=>Tri.len 81 rfl <|fun hl14=>Tri.len 144 rfl <|fun hl15=>Xu [Eb 26 true,Eb 33 false] (some [0,0,3,7,15,31,63,31,159,511,1023,2047,4095,8191,16383,32767,65535,131071,262143,524287,1048575,2097151]) [Eb 0 false] [5,4,3,2,1] [] [272,81,32,80,144] 720 (v4 (pg h4 (v1 (pu (Yw (ao ((aC [115] 1 0 1).length) (aC [115] 1 0 1) 3 false false (aC (dJ) ((1+4)+(⟨#[115,115,104,45,117,115,101,114,97,117,116,104]⟩:ByteArray).size) 0 ((1+4)+(⟨#[115,115,104,45,117,115,101,114,97,117,116,104]⟩:ByteArray).size)))) (pu (pa pT (Ye ((⟨#[115,115,104,45,117,115,101,114,97,117,116,104]⟩:ByteArray).size) 100000)) (pu (Yw ((1+4)+(⟨#[115,115,104,45,117,115,101,114,97,117,116,104]⟩:ByteArray).size)) (v2 (pg h5 (v1 (v9 pT)))))))))) <|Xy [] pz (by simp only [rA,h4,h5,aH,aD] <;> rfl)
 have h4':=co h4
 exact Xu [Eb 26 false] (some [0,0,3,7,15,31,63,31,159,511,1023,2047,4095,8191,16383,32767,65535,131071,262143,524287,1048575,2097151]) [Eb 0 false] [5,4,3,2,1] [] [272,81,32,80,144] 720 (v4 (pg h4 (v8 (v9 pT)))) <|Xy [] pz (by simp only [rA,h4,aH,aD] <;> rfl)
end Go.Vm
namespace Go.Vm
open Go Go.Proofs
def lO (p0:ByteArray):List Int :=
 (ig p0)
def KH:List AV→List Blk→Option (Prop × Ret)
 |[.sc (.s p0)],[]=>some ((p0.size≤1000000),⟨.sc (.sl 0 0 (4+p0.size) 1 none),[some (.ints .u8 (4+p0.size) (lO p0))]⟩)
 |_,_=>none
theorem ye:Known Tryz.prog gD 39 ⟨0,1,KH⟩:=by
 refine Xw Tryz.f39 5 (Zv CI 48 1 <|Zn) mixed <|fun E args ks C r h hC hlen=>?_
 simp only at h
 unfold KH at h
 split at h
 rotate_left
 cases h
 rename_i p0
 cases h
 simp only [bU] at hlen
 refine ⟨rfl,?_⟩
 exact Xs [] [] 32 (v1 pT) <|Xt [El 2 48 (4+p0.size)] [0] [Mi 48 (4+p0.size) (ig p0)] [] 80 (v1 (pu (pa pT (Ye p0.size 1000000000)) (v1 pT))) <|Xz [(48,0)] pz
theorem xb (s:ByteArray):(lO s).length=4+s.size:=rS s
def Ba (p0:List (List Int)):List Int :=
 (pf p0)
def Ju:List AV→List Blk→Option (Prop × Ret)
 |[.sc (.rob p0)],[]=>some ((p0.flatten.length≤1000000∧p0.length≤1000000),⟨.sc (.sl 0 0 (ck p0) 1 none),[some (.ints .u8 (ck p0) (Ba p0))]⟩)
 |_,_=>none
theorem FT:Known Tryz.prog gD 40 ⟨0,1,Ju⟩:=by
 refine Xw Tryz.f40 5 (Zc Ib 48 [.rob] [] [] <|Zn) mixed <|fun E args ks C r h hC hlen=>?_
 simp only at h
 unfold Ju at h
 split at h
 rotate_left
 cases h
 rename_i p0
 cases h
 simp only [bU] at hlen
 refine ⟨rfl,?_⟩
 exact Xs [] [] 32 (v1 pT) <|Xt [El 2 48 (ck p0)] [0] [Mi 48 (ck p0) (pf p0)] [] 80 (v1 (pu (pa pT (lo (p0.flatten.length≤1000000000∧p0.length≤1000000000))) (v1 pT))) <|Xz [(48,0)] pz
theorem NJ (p:List (List Int)):ck p=p.flatten.length:=congrArg List.length (yU p)
theorem Lb (p:List (List Int)):Ba p=p.flatten:=yU p
theorem tT {A B C:List Int} {a b c:Nat} (ha:A.length≤a) (hb:B.length≤b) (hc:C.length≤c) (h:a+b+c≤1000000):[A,B,C].flatten.length≤1000000∧[A,B,C].length≤1000000:=by
 refine ⟨?_,(show 3≤1000000 by decide)⟩
 simp only [List.flatten_cons,List.flatten_nil,List.length_append,List.length_nil]
 omega
theorem Jl (s:ByteArray):(aC (lO s) (4+s.size) 0 (4+s.size)).length≤4+s.size:=al (Nat.le_refl _) (by rw [xb];exact Nat.le_refl _)
theorem tX (x:Int):(aC [x] 1 0 1).length≤1:=al (Nat.le_refl _) (Nat.le_refl _)
theorem GR {xs:List Int} {n m:Nat} (h:n≤m∧xs.length≤m):(aC xs n 0 n).length≤m:=al h.1 h.2
theorem Lq (p:List Int) (h:p.length≤1000):(tf p).size≤p.length+19:=by
 have sz:(⟨#[115,115,104,45,101,100,50,53,53,49,57]⟩:ByteArray).size=11:=rfl
 unfold tf
 rw [bS,List.length_take,sz,bS]
 omega
end Go.Vm
namespace Go.Vm
open Go Go.Proofs
theorem NQ (x:List Int):cq x≤32:=by unfold cq;cases ((((x.length:Nat):Int):Int) != 32) <;> decide
theorem BR (x:List Int):(aL (((gP x).drop 0).take (cq x))).size≤32:=by
 rw [bS,List.length_take]
 have:=NQ x
 omega
theorem Cz {p0:List Int} {a b:ByteArray} (h:p0.length+a.size+b.size+200≤10000):(aC (iE p0 a b) (cn p0 a b) 0 (cn p0 a b)).length≤10000:=al (Nat.le_trans (qr _ _ _) h) (by rw [lu];exact Nat.le_trans (qr _ _ _) h)
def cl (p2:ByteArray):ByteArray :=
 (cE (aL (((gP (aC (aN p2) p2.size 0 p2.size)).drop 0).take (cq (aC (aN p2) p2.size 0 p2.size)))))
def jM (p0:List Int) (p1:ByteArray) (p2:ByteArray):List Int :=
 (mf (aC (aN p2) p2.size 0 p2.size) (aC (iE p0 p1 (cl p2)) (cn p0 p1 (cl p2)) 0 (cn p0 p1 (cl p2))))
def qs (p1:ByteArray):List Int :=
 (mv p1 (⟨#[112,117,98,108,105,99,107,101,121]⟩:ByteArray))
def qN (p1:ByteArray):List Int :=
 (jW (az p1 (⟨#[112,117,98,108,105,99,107,101,121]⟩:ByteArray)) (qs p1) true)
def qU (p1:ByteArray):List Int :=
 (dW ((az p1 (⟨#[112,117,98,108,105,99,107,101,121]⟩:ByteArray))+1) (qN p1) (⟨#[115,115,104,45,101,100,50,53,53,49,57]⟩:ByteArray))
def nY (p1:ByteArray) (p2:ByteArray):List Int :=
 (dW ((((az p1 (⟨#[112,117,98,108,105,99,107,101,121]⟩:ByteArray))+1)+4)+(⟨#[115,115,104,45,101,100,50,53,53,49,57]⟩:ByteArray).size) (qU p1) (cl p2))
def gt (p0:List Int) (p1:ByteArray) (p2:ByteArray):ByteArray :=
 (tf (aC (jM p0 p1 p2) (sel (((FT9 (aC (aN p2) p2.size 0 p2.size)):Int) != 0) 0 64) 0 (sel (((FT9 (aC (aN p2) p2.size 0 p2.size)):Int) != 0) 0 64)))
def lV (p0:List Int) (p1:ByteArray) (p2:ByteArray):List Int :=
 (dW ((((((az p1 (⟨#[112,117,98,108,105,99,107,101,121]⟩:ByteArray))+1)+4)+(⟨#[115,115,104,45,101,100,50,53,53,49,57]⟩:ByteArray).size)+4)+(cl p2).size) (nY p1 p2) (gt p0 p1 p2))
def pW (p2:ByteArray):Int :=
 (sel (((FT9 (aC (aN p2) p2.size 0 p2.size)):Int) != 0) (FT9 (aC (aN p2) p2.size 0 p2.size)) 0)
def ap (p0:List Int) (p1:ByteArray) (p2:ByteArray):List Int :=
 (sel (((FT9 (aC (aN p2) p2.size 0 p2.size)):Int) != 0) ([]:List Int) (lV p0 p1 p2))
def aO (p0:List Int) (p1:ByteArray) (p2:ByteArray):Nat :=
 (sel (((FT9 (aC (aN p2) p2.size 0 p2.size)):Int) != 0) 0 ((((((((az p1 (⟨#[112,117,98,108,105,99,107,101,121]⟩:ByteArray))+1)+4)+(⟨#[115,115,104,45,101,100,50,53,53,49,57]⟩:ByteArray).size)+4)+(cl p2).size)+4)+(gt p0 p1 p2).size))
theorem vv {p0:List Int} {p1 p2:ByteArray} {n:Nat} (h:(aC (jM p0 p1 p2) n 0 n).length≤64) (e:n=sel (((FT9 (aC (aN p2) p2.size 0 p2.size)):Int) != 0) 0 64):(gt p0 p1 p2).size≤83:=by
 subst e
 exact Nat.le_trans (Lq _ (Nat.le_trans h (by decide))) (by omega)
theorem tY (p2:ByteArray):(cl p2).size≤51:=Nat.le_trans (js _) (Nat.add_le_add_right (BR _) 19)
def CQ:List AV→List Blk→Option (Prop × Ret)
 |[.sc (.ro .u8 p0),.sc (.s p1),.sc (.s p2)],[]=>some ((p0.length≤1000∧p1.size≤1000∧p2.size≤1000),⟨.tup [.sc (.sl 0 0 (aO p0 p1 p2) 1 none),.sc (.i .i64 (pW p2))],[some (.ints .u8 (aO p0 p1 p2) (ap p0 p1 p2))]⟩)
 |_,_=>none
theorem Bx : Known Tryz.prog gD 9 ⟨0, 1, CQ⟩ := by
 refine Xw Tryz.f9 46 (Zc KT9 80 [.ro .u8] [64] [] <| Zv Lt 240 1 <| Zc Oz 368 [.ro .u8, .ro .u8] [288, 352] [] <| Zc yI 352 [.ro .u8, .val, .val] [] [] <| Zc fV 512 [.io, .val] [] [496] <| Zc fV 544 [.io, .val] [] [512] <| Zc fV 624 [.io, .val] [] [544] <| Zc sK 496 [.io, .val] [] [480] <| Zv Aa 480 2 <| Zc OB 608 [.ro .u8] [368] [] <| Zn) mixed ?_
 intro E args ks C r h hC hlen
 simp only at h
 unfold CQ at h
 split at h
 rotate_left
 cases h
 rename_i p0 p1 p2
 cases h
 simp only [bU] at hlen
 have sz0 : (⟨#[112, 117, 98, 108, 105, 99, 107, 101, 121]⟩ : ByteArray).size = 9 := rfl
 have sz1 : (⟨#[115, 115, 104, 45, 101, 100, 50, 53, 53, 49, 57]⟩ : ByteArray).size = 11 := rfl
 have sz2 : (⟨#[115, 115, 104, 45, 99, 111, 110, 110, 101, 99, 116, 105, 111, 110]⟩ : ByteArray).size = 14 := rfl
 have hb := tY p2
 have hs64 := sP (((FT9 (aC (aN p2) p2.size 0 p2.size)) : Int) != 0)
 refine ⟨rfl, ?_⟩
 refine Xs [] [] 48 (v2 pT) ?_
 refine Xt [Ei 9 (FT9 (aC (aN p2) p2.size 0 p2.size)), (8, .sc (.sl 80 0 (cq (aC (aN p2) p2.size 0 p2.size)) 1 (some (cq (aC (aN p2) p2.size 0 p2.size)))))] [] [Mi 80 (cq (aC (aN p2) p2.size 0 p2.size)) (gP (aC (aN p2) p2.size 0 p2.size))] [] 176 (v2 (pu (pa (pa (Yw p2.size) pT) pT) (v5 pT))) ?_
 refine Tri.seq ?_
 refine Tri.len 80 rfl (fun hl1 => ?_)
 refine Xs [Eb 21 (((FT9 (aC (aN p2) p2.size 0 p2.size)) : Int) != 0)] [] 208 (v2 pT) ?_
 refine Xa (fun h2 => ?_) (fun h2 => ?_)
 have h2' := cM h2
 refine Tri.len 80 rfl (fun hl3 => ?_)
 refine Xt [Ei 7 (FT9 (aC (aN p2) p2.size 0 p2.size)), (6, .sc (.nils))] [21, 9, 8, 0, 1, 2] [] [80] 256 (v3 pT) ?_
 refine Tri.sub (Sub.openNil (U := 256) (U' := 272) 6 256 1 .u8 none (.inl rfl) (by decide) (by decide) (by kernel_rfl) (by kernel_rfl)) ?_
 exact Xy [(256, 0)] (pa pT pz) (by simp only [pW, ap, aO, h2, aH, aD] <;> rfl)
 have h2' := bW h2
 refine Tri.skip ?_
 change Tri _ _ _ _ _ _
 refine Tri.len 80 rfl (fun hl4 => ?_)
 refine Xt [Es 10 (cl p2)] [21, 9, 8] [] [80] 272 (v1 (pu (Yw (cq (aC (aN p2) p2.size 0 p2.size))) (pu (pa pT (pl (show (aL (((gP (aC (aN p2) p2.size 0 p2.size)).drop 0).take (cq (aC (aN p2) p2.size 0 p2.size)))).size ≤ 1000000000 from Nat.le_trans (BR _) (by decide)))) (v1 pT)))) ?_
 refine Xt [El 11 368 (sel (((FT9 (aC (aN p2) p2.size 0 p2.size)) : Int) != 0) 0 64)] [0, 2] [Mi 368 (sel (((FT9 (aC (aN p2) p2.size 0 p2.size)) : Int) != 0) 0 64) (jM p0 p1 p2)] [] 464 (v5 (pu (pa pz (lo (p0.length ≤ 20000 ∧ p1.size ≤ 20000 ∧ (cl p2).size ≤ 20000))) (pu (pa (pa (Yw p2.size) (pa (Yw (cn p0 p1 (cl p2))) pT)) (pl (show (aC (iE p0 p1 (cl p2)) (cn p0 p1 (cl p2)) 0 (cn p0 p1 (cl p2))).length ≤ 10000 from Cz (by omega)))) (v5 pT)))) ?_
 refine Xt [El 13 544 ((((((az p1 (⟨#[112, 117, 98, 108, 105, 99, 107, 101, 121]⟩ : ByteArray)) + 1) + 4) + (⟨#[115, 115, 104, 45, 101, 100, 50, 53, 53, 49, 57]⟩ : ByteArray).size) + 4) + (cl p2).size)] [10, 1] [Mi 544 ((((((az p1 (⟨#[112, 117, 98, 108, 105, 99, 107, 101, 121]⟩ : ByteArray)) + 1) + 4) + (⟨#[115, 115, 104, 45, 101, 100, 50, 53, 53, 49, 57]⟩ : ByteArray).size) + 4) + (cl p2).size) (nY p1 p2)] [] 576 (v1 (pu (pa pT (lo (p1.size ≤ 100000 ∧ (⟨#[112, 117, 98, 108, 105, 99, 107, 101, 121]⟩ : ByteArray).size ≤ 100000))) (pu (pa pT (pa (Yr (az p1 (⟨#[112, 117, 98, 108, 105, 99, 107, 101, 121]⟩ : ByteArray))) (pl (show (az p1 (⟨#[112, 117, 98, 108, 105, 99, 107, 101, 121]⟩ : ByteArray)) ≤ 1000000000 from by (unfold az; omega))))) (pu (pa pT (pa (Yr ((az p1 (⟨#[112, 117, 98, 108, 105, 99, 107, 101, 121]⟩ : ByteArray)) + 1)) (pl (show ((az p1 (⟨#[112, 117, 98, 108, 105, 99, 107, 101, 121]⟩ : ByteArray)) + 1) ≤ 1000000000 ∧ (⟨#[115, 115, 104, 45, 101, 100, 50, 53, 53, 49, 57]⟩ : ByteArray).size ≤ 1000000000 from by (unfold az; omega))))) (v1 (pu (pa pT (pa (Yr ((((az p1 (⟨#[112, 117, 98, 108, 105, 99, 107, 101, 121]⟩ : ByteArray)) + 1) + 4) + (⟨#[115, 115, 104, 45, 101, 100, 50, 53, 53, 49, 57]⟩ : ByteArray).size)) (pl (show ((((az p1 (⟨#[112, 117, 98, 108, 105, 99, 107, 101, 121]⟩ : ByteArray)) + 1) + 4) + (⟨#[115, 115, 104, 45, 101, 100, 50, 53, 53, 49, 57]⟩ : ByteArray).size) ≤ 1000000000 ∧ (cl p2).size ≤ 1000000000 from by (unfold az; omega))))) (v1 pT))))))) ?_
 refine Tri.len 544 rfl (fun hl5 => ?_)
 refine Tri.len 368 rfl (fun hl6 => ?_)
 refine Xt [Ei 7 0, El 6 624 ((((((((az p1 (⟨#[112, 117, 98, 108, 105, 99, 107, 101, 121]⟩ : ByteArray)) + 1) + 4) + (⟨#[115, 115, 104, 45, 101, 100, 50, 53, 53, 49, 57]⟩ : ByteArray).size) + 4) + (cl p2).size) + 4) + (gt p0 p1 p2).size)] [13, 11] [Mi 624 ((((((((az p1 (⟨#[112, 117, 98, 108, 105, 99, 107, 101, 121]⟩ : ByteArray)) + 1) + 4) + (⟨#[115, 115, 104, 45, 101, 100, 50, 53, 53, 49, 57]⟩ : ByteArray).size) + 4) + (cl p2).size) + 4) + (gt p0 p1 p2).size) (lV p0 p1 p2)] [544, 368] 672 (v2 (pu (pa (pa (lo (0 + (sel (((FT9 (aC (aN p2) p2.size 0 p2.size)) : Int) != 0) 0 64) ≤ (sel (((FT9 (aC (aN p2) p2.size 0 p2.size)) : Int) != 0) 0 64))) pT) (lo ((aC (jM p0 p1 p2) (sel (((FT9 (aC (aN p2) p2.size 0 p2.size)) : Int) != 0) 0 64) 0 (sel (((FT9 (aC (aN p2) p2.size 0 p2.size)) : Int) != 0) 0 64)).length ≤ 1000000000))) (pu (pa pT (pa (Yr ((((((az p1 (⟨#[112, 117, 98, 108, 105, 99, 107, 101, 121]⟩ : ByteArray)) + 1) + 4) + (⟨#[115, 115, 104, 45, 101, 100, 50, 53, 53, 49, 57]⟩ : ByteArray).size) + 4) + (cl p2).size)) (pl (show ((((((az p1 (⟨#[112, 117, 98, 108, 105, 99, 107, 101, 121]⟩ : ByteArray)) + 1) + 4) + (⟨#[115, 115, 104, 45, 101, 100, 50, 53, 53, 49, 57]⟩ : ByteArray).size) + 4) + (cl p2).size) ≤ 1000000000 ∧ (gt p0 p1 p2).size ≤ 1000000000 from ⟨by unfold az; omega, Nat.le_trans (vv (al (by omega) (by omega)) rfl) (by decide)⟩)))) (v2 pT)))) ?_
 exact Xy [(624, 0)] (pa pT pz) (by simp only [pW, ap, aO, h2, aH, aD] <;> rfl)
def tw (p2:ByteArray):ByteArray :=
 (pU (aL (((DG (aC (aN p2) p2.size 0 p2.size)).drop 0).take 32)))
end Go.Vm
namespace Go.Vm
open Go
end Go.Vm
end
