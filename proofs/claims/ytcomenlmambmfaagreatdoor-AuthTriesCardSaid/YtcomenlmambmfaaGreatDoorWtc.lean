/- A part of a proof (pack3): the small machine that walks the program, the walks of its functions, and what they compute in plain. -/
import Derived.Test.YtcomenlmambmfaaGreatDoorWtb
import Derived.Test.YtcomenlmambmfaaGreatDoorChecked
set_option maxHeartbeats 2000000
set_option maxRecDepth 100000
set_option linter.unusedVariables false
set_option linter.unusedSimpArgs false
noncomputable section
namespace Go.Vm
open Go Go.Proofs
def nn (p0:Int) (p1:Int):List Int :=
 (F20 (F30 p0) (F25 (F30 p1)))
def te:List AV→List Blk→Option (Prop × Ret)
 |[.sc (.i .u32 p0),.sc (.i .u32 p1)],[]=>some (True,⟨.ints .u64 5 (nn p0 p1),[]⟩)
 |_,_=>none
theorem uF:Known Tryz.prog gD 101 ⟨0,0,te⟩:=by
 refine Xw Tryz.f101 11 (Zv K30 48 1 <|Zv K30 80 1 <|Zv K25 96 1 <|Zv K20 112 2 <|Zn) mixed <|fun E args ks C r h hC hlen=>?_
 simp only at h
 unfold te at h
 split at h
 rotate_left
 cases h
 rename_i p0 p1
 cases h
 simp only [ap] at hlen
 refine ⟨rfl,?_⟩
 exact Xt [Ep 4 16] [] [Mk 16 .u64 5 [0,0,0,0,0]] [] 32 (v1 pT) <|Xt [] [0,1] [Mk 16 .u64 5 (F20 (F30 p0) (F25 (F30 p1)))] [16] 144 (v1 (pu pz (v1 (pu pz (pu pz (pu pz (pu (Yz 5) pT))))))) <|Xz [] pz
def bE:List Int :=
 (F18 (F30 0) (nn 121665 121666))
def tb:List AV→List Blk→Option (Prop × Ret)
 |[],[]=>some (True,⟨.ints .u64 5 (bE),[]⟩)
 |_,_=>none
theorem tF:Known Tryz.prog gD 104 ⟨0,0,tb⟩:=by
 refine Xw Tryz.f104 4 (Zv uF 48 2 <|Zv K30 32 1 <|Zv K18 64 2 <|Zn) mixed <|fun E args ks C r h hC hlen=>?_
 simp only at h
 unfold tb at h
 split at h
 rotate_left
 cases h
 cases h
 simp only [ap] at hlen
 refine ⟨rfl,?_⟩
 exact Xt [Ep 0 16] [] [Mk 16 .u64 5 [0,0,0,0,0]] [] 32 (v1 pT) <|Xt [] [] [Mk 16 .u64 5 (F18 (F30 0) (nn 121665 121666))] [16] 96 (pu pz (pu pz (pu pz (pu (Yz 5) pT)))) <|Xz [] pz
def eX (p0:List Int):List Int :=
 (sel (!(gG p0)) [0,0,0,0,0,0,0,0,0,0,0,0,0,0,0,0,0,0,0,0] (sel (((iOr .u8 ((F33 (F23 p0)).getD 31 0) (ab .u8 (p0.getD 31 0) 128)):Int) != p0.getD 31 0) [0,0,0,0,0,0,0,0,0,0,0,0,0,0,0,0,0,0,0,0] (sel (!(aY (aU (((F33 (F23 p0)).drop 0).take 31)) (aU ((p0.drop 0).take 31)))) [0,0,0,0,0,0,0,0,0,0,0,0,0,0,0,0,0,0,0,0] (sel (!(nA (F20 (F18 (F20 (F23 p0) (F23 p0)) (F30 1)) (F25 (F16 (F20 (F20 (F23 p0) (F23 p0)) (bE)) (F30 1)))))) [0,0,0,0,0,0,0,0,0,0,0,0,0,0,0,0,0,0,0,0] (sel (F29 (F34 (F20 (F18 (F20 (F23 p0) (F23 p0)) (F30 1)) (F25 (F16 (F20 (F20 (F23 p0) (F23 p0)) (bE)) (F30 1))))) (F30 0)) (sel (decide ((p0.getD 31 0:Int) ≥ 128)) [0,0,0,0,0,0,0,0,0,0,0,0,0,0,0,0,0,0,0,0] (aQ (aQ (aQ (aQ [0,0,0,0,0,0,0,0,0,0,0,0,0,0,0,0,0,0,0,0] 0 (sel (!((F32 (F34 (F20 (F18 (F20 (F23 p0) (F23 p0)) (F30 1)) (F25 (F16 (F20 (F20 (F23 p0) (F23 p0)) (bE)) (F30 1))))))==(decide ((p0.getD 31 0:Int) ≥ 128)))) (F18 (F30 0) (F34 (F20 (F18 (F20 (F23 p0) (F23 p0)) (F30 1)) (F25 (F16 (F20 (F20 (F23 p0) (F23 p0)) (bE)) (F30 1)))))) (F34 (F20 (F18 (F20 (F23 p0) (F23 p0)) (F30 1)) (F25 (F16 (F20 (F20 (F23 p0) (F23 p0)) (bE)) (F30 1))))))) 5 (F23 p0)) 10 (F30 1)) 15 (F20 (sel (!((F32 (F34 (F20 (F18 (F20 (F23 p0) (F23 p0)) (F30 1)) (F25 (F16 (F20 (F20 (F23 p0) (F23 p0)) (bE)) (F30 1))))))==(decide ((p0.getD 31 0:Int) ≥ 128)))) (F18 (F30 0) (F34 (F20 (F18 (F20 (F23 p0) (F23 p0)) (F30 1)) (F25 (F16 (F20 (F20 (F23 p0) (F23 p0)) (bE)) (F30 1)))))) (F34 (F20 (F18 (F20 (F23 p0) (F23 p0)) (F30 1)) (F25 (F16 (F20 (F20 (F23 p0) (F23 p0)) (bE)) (F30 1)))))) (F23 p0)))) (aQ (aQ (aQ (aQ [0,0,0,0,0,0,0,0,0,0,0,0,0,0,0,0,0,0,0,0] 0 (sel (!((F32 (F34 (F20 (F18 (F20 (F23 p0) (F23 p0)) (F30 1)) (F25 (F16 (F20 (F20 (F23 p0) (F23 p0)) (bE)) (F30 1))))))==(decide ((p0.getD 31 0:Int) ≥ 128)))) (F18 (F30 0) (F34 (F20 (F18 (F20 (F23 p0) (F23 p0)) (F30 1)) (F25 (F16 (F20 (F20 (F23 p0) (F23 p0)) (bE)) (F30 1)))))) (F34 (F20 (F18 (F20 (F23 p0) (F23 p0)) (F30 1)) (F25 (F16 (F20 (F20 (F23 p0) (F23 p0)) (bE)) (F30 1))))))) 5 (F23 p0)) 10 (F30 1)) 15 (F20 (sel (!((F32 (F34 (F20 (F18 (F20 (F23 p0) (F23 p0)) (F30 1)) (F25 (F16 (F20 (F20 (F23 p0) (F23 p0)) (bE)) (F30 1))))))==(decide ((p0.getD 31 0:Int) ≥ 128)))) (F18 (F30 0) (F34 (F20 (F18 (F20 (F23 p0) (F23 p0)) (F30 1)) (F25 (F16 (F20 (F20 (F23 p0) (F23 p0)) (bE)) (F30 1)))))) (F34 (F20 (F18 (F20 (F23 p0) (F23 p0)) (F30 1)) (F25 (F16 (F20 (F20 (F23 p0) (F23 p0)) (bE)) (F30 1)))))) (F23 p0))))))))
def eI (p0:List Int):Bool :=
 (sel (!(gG p0)) false (sel (((iOr .u8 ((F33 (F23 p0)).getD 31 0) (ab .u8 (p0.getD 31 0) 128)):Int) != p0.getD 31 0) false (sel (!(aY (aU (((F33 (F23 p0)).drop 0).take 31)) (aU ((p0.drop 0).take 31)))) false (sel (!(nA (F20 (F18 (F20 (F23 p0) (F23 p0)) (F30 1)) (F25 (F16 (F20 (F20 (F23 p0) (F23 p0)) (bE)) (F30 1)))))) false (sel (F29 (F34 (F20 (F18 (F20 (F23 p0) (F23 p0)) (F30 1)) (F25 (F16 (F20 (F20 (F23 p0) (F23 p0)) (bE)) (F30 1))))) (F30 0)) (sel (decide ((p0.getD 31 0:Int) ≥ 128)) false true) true)))))
def tj:List AV→List Blk→Option (Prop × Ret)
 |[.sc (.ro .u8 p0)],[]=>some (True,⟨.tup [.ints .u64 20 (eX p0),.sc (.b (eI p0))],[]⟩)
 |_,_=>none
def ub:KL Tryz.prog gD:=Zv K33 224 1 <|Zv tF 720 0 <|Zv K16 768 2 <|Zv K30 672 1 <|Zv K30 752 1 <|Zv K30 1072 1 <|Zv K30 1232 1 <|Zv K30 1328 1 <|Zv K25 784 1 <|Zv K20 608 2 <|Zv K20 736 2 <|Zv K20 800 2 <|Zv K20 1376 2 <|Zv K32 1184 1 <|Zv K18 688 2 <|Zv K18 1264 2 <|Zc K23 64 [.ro .u8] [] [] <|Zv K34 816 1 <|Zv K29 1088 2 <|Zn
theorem ti:Known Tryz.prog gD 103 ⟨0,0,tj⟩:=by
 refine Xw Tryz.f103 87 ub mixed <|fun E args ks C r h hC hlen=>?_
 simp only at h
 unfold tj at h
 split at h
 rotate_left
 cases h
 rename_i p0
 cases h
 simp only [ap] at hlen
 refine ⟨rfl,?_⟩
 refine Xt [Ep 2 16] [] [Mk 16 .u64 20 [0,0,0,0,0,0,0,0,0,0,0,0,0,0,0,0,0,0,0,0]] [] 48 (v2 pT) <|Xt [Eb 5 (gG p0),Ep 4 128] [] [Mk 128 .u64 5 (F23 p0)] [] 176 (v1 (pu (pa pz pT) (v4 (pu (Yz 5) (v1 pT))))) <|Tri.seq <|Xs [Eb 17 (!(gG p0))] [5] 208 (v2 pT) <|Xa (fun h1=>?_) (fun h1=>?_)
 exact Xt [Eb 3 false] [17,4,0] [] [128] 256 (v1 (pu (Yz 20) (v1 pT))) <|Xy [] (pa pT pz) (by simp only [eX,eI,h1,aD,aA] <;> rfl)
 refine Tri.skip <|Xt [Ep 6 240] [17] [Mi 240 32 (F33 (F23 p0))] [] 272 (v1 (pu pz (v1 (pu (Yz 32) pT)))) <|Tri.seq <|Tri.split (((iOr .u8 ((F33 (F23 p0)).getD 31 0) (ab .u8 (p0.getD 31 0) 128)):Int) != p0.getD 31 0) (fun h2=>?_) (fun h2=>?_)
 have h2':=bT h2
 refine Xu [Eb 32 true] (some [0,1,0,4,12,28,63,0,128,384,1023,2047,4095,8191,4095,20479,53247,131071,262143]) [Eb 39 true] [6] [] [240] 576 (pu (Yi 31 32) (pu (Yl 31 32) (v1 (pu (pl (show (0:Int)≤31∧31<(p0.length:Int) from by (have hl:=eU (p0:=p0) (by assumption);omega))) (pu (pl (show 31<p0.length from by (have hl:=eU (p0:=p0) (by assumption);omega))) (v3 (pu (pl (show (0:Int)≤31∧31<(p0.length:Int) from by (have hl:=eU (p0:=p0) (by assumption);omega))) (pu (pl (show 31<p0.length from by (have hl:=eU (p0:=p0) (by assumption);omega))) (v1 (pg h2 (v7 pT))))))))))) ?_
 exact Tri.cond_true (by kernel_rfl) <|Xt [Eb 3 false] [39,4,0] [] [128] 624 (v1 (pu (Yz 20) (v1 pT))) <|Xy [] (pa pT pz) (by simp only [eX,eI,h1,h2,aD,aA] <;> rfl)
 have h2':=bB h2
 refine Xu [Eb 32 false] (some [0,1,0,4,12,28,63,0,128,384,1023,2047,4095,8191,4095,20479,53247,131071,262143]) [Eb 39 (!(aY (aU (((F33 (F23 p0)).drop 0).take 31)) (aU ((p0.drop 0).take 31))))] [6] [] [240] 576 (pu (Yi 31 32) (pu (Yl 31 32) (v1 (pu (pl (show (0:Int)≤31∧31<(p0.length:Int) from by (have hl:=eU (p0:=p0) (by assumption);omega))) (pu (pl (show 31<p0.length from by (have hl:=eU (p0:=p0) (by assumption);omega))) (v3 (pu (pl (show (0:Int)≤31∧31<(p0.length:Int) from by (have hl:=eU (p0:=p0) (by assumption);omega))) (pu (pl (show 31<p0.length from by (have hl:=eU (p0:=p0) (by assumption);omega))) (v1 (pg h2 (pu (pa (lo ((0:Int)≤0∧(0:Int)≤31∧31≤((32:Nat):Int))) (Ye 32 32)) (pu (Ye (0+31) 32) (v1 (pu (pl (show (0:Int)≤0∧(0:Int)≤31∧31≤(p0.length:Int) from by (have hl:=eU (p0:=p0) (by assumption);omega))) (v3 pT))))))))))))))) ?_
 refine Xa (fun h3=>?_) (fun h3=>?_)
 exact Xt [Eb 3 false] [39,4,0] [] [128] 624 (v1 (pu (Yz 20) (v1 pT))) <|Xy [] (pa pT pz) (by simp only [eX,eI,h1,h2,h3,aD,aA] <;> rfl)
 refine Tri.skip <|Xt [Ep 7 624] [39] [Mk 624 .u64 5 (F20 (F23 p0) (F23 p0))] [] 656 (v2 (pu pz (v1 (pu (Yz 5) pT)))) <|Xu [] (some [0,0,3,0,7,31,63,127,255,511,1023,2047,4095,4095,0,24575,65535]) [Eb 9 (nA (F20 (F18 (F20 (F23 p0) (F23 p0)) (F30 1)) (F25 (F16 (F20 (F20 (F23 p0) (F23 p0)) (bE)) (F30 1))))),Ep 8 880] [7] [Mk 880 .u64 5 (F34 (F20 (F18 (F20 (F23 p0) (F23 p0)) (F30 1)) (F25 (F16 (F20 (F20 (F23 p0) (F23 p0)) (bE)) (F30 1)))))] [624] 928 (v1 (pu pz (pu pz (v1 (pu pz (pu pz (pu pz (pu pz (pu pz (pu pz (pu pz (v4 (pu (Yz 5) (v1 pT)))))))))))))) <|Xs [Eb 10 (decide ((p0.getD 31 0:Int) ≥ 128))] [0] 1008 (v1 (pu (pl (show (0:Int)≤31∧31<(p0.length:Int) from by (have hl:=eU (p0:=p0) (by assumption);omega))) (pu (pl (show 31<p0.length from by (have hl:=eU (p0:=p0) (by assumption);omega))) (v2 pT)))) ?_
 refine Tri.seq <|Tri.split (!(nA (F20 (F18 (F20 (F23 p0) (F23 p0)) (F30 1)) (F25 (F16 (F20 (F20 (F23 p0) (F23 p0)) (bE)) (F30 1)))))) (fun h4=>?_) (fun h4=>?_)
 exact Xu [Eb 64 true] (some [0,1,3,7,7,31,63,127,255,511]) [Eb 71 true] [9] [] [] 1168 (v2 (pg h4 (v7 pT))) <|Tri.cond_true (by kernel_rfl) <|Xt [Eb 3 false] [71,10,8,4] [] [880,128] 1216 (v1 (pu (Yz 20) (v1 pT))) <|Xy [] (pa pT pz) (by simp only [eX,eI,h1,h2,h3,h4,aD,aA] <;> rfl)
 refine Tri.split (F29 (F34 (F20 (F18 (F20 (F23 p0) (F23 p0)) (F30 1)) (F25 (F16 (F20 (F20 (F23 p0) (F23 p0)) (bE)) (F30 1))))) (F30 0)) (fun h5=>?_) (fun h5=>?_)
 refine Xu [Eb 64 false,Eb 68 true] (some [0,1,3,7,7,31,63,127,255,511]) [Eb 71 (decide ((p0.getD 31 0:Int) ≥ 128))] [9] [] [] 1168 (v2 (pg h4 (v1 (pu pz (pu pz (pg h5 (v3 pT))))))) <|Xb (fun h6 h6'=>?_) (fun h6 h6'=>?_)
 exact Xt [Eb 3 false] [71,10,8,4] [] [880,128] 1216 (v1 (pu (Yz 20) (v1 pT))) <|Xy [] (pa pT pz) (by simp only [eX,eI,h1,h2,h3,h4,h5,h6,aD,aA] <;> rfl)
 refine Tri.skip <|Tri.seq <|Xs [Eb 76 (!((F32 (F34 (F20 (F18 (F20 (F23 p0) (F23 p0)) (F30 1)) (F25 (F16 (F20 (F20 (F23 p0) (F23 p0)) (bE)) (F30 1))))))==(decide ((p0.getD 31 0:Int) ≥ 128))))] [71,10] 1232 (v1 (pu pz (v2 pT))) <|Xj (x:=(!((F32 (F34 (F20 (F18 (F20 (F23 p0) (F23 p0)) (F30 1)) (F25 (F16 (F20 (F20 (F23 p0) (F23 p0)) (bE)) (F30 1))))))==(decide ((p0.getD 31 0:Int) ≥ 128))))) (fun bb=>[]) [76] (fun bb=>[Mk 880 .u64 5 (sel bb (F18 (F30 0) (F34 (F20 (F18 (F20 (F23 p0) (F23 p0)) (F30 1)) (F25 (F16 (F20 (F20 (F23 p0) (F23 p0)) (bE)) (F30 1)))))) (F34 (F20 (F18 (F20 (F23 p0) (F23 p0)) (F30 1)) (F25 (F16 (F20 (F20 (F23 p0) (F23 p0)) (bE)) (F30 1))))))]) [880] 1296 (fun h7=>?_) (fun h7=>?_) ?_
 exact Wu [] (some [0,0,3,7]) [] [76] [Mk 880 .u64 5 (F18 (F30 0) (F34 (F20 (F18 (F20 (F23 p0) (F23 p0)) (F30 1)) (F25 (F16 (F20 (F20 (F23 p0) (F23 p0)) (bE)) (F30 1))))))] [880] 1296 (pu pz (v1 (pu pz (pu (Yz 5) pT)))) <|Xe [] [Mk 880 .u64 5 (F18 (F30 0) (F34 (F20 (F18 (F20 (F23 p0) (F23 p0)) (F30 1)) (F25 (F16 (F20 (F20 (F23 p0) (F23 p0)) (bE)) (F30 1))))))]
 exact Tri.skip <|Xe [] [Mk 880 .u64 5 (F34 (F20 (F18 (F20 (F23 p0) (F23 p0)) (F30 1)) (F25 (F16 (F20 (F20 (F23 p0) (F23 p0)) (bE)) (F30 1)))))]
 exact Xu [] (some [0,0,0,0,0,28,63,127,255]) [Eb 3 true] [8,4] [Mk 16 .u64 20 (aQ (aQ (aQ (aQ [0,0,0,0,0,0,0,0,0,0,0,0,0,0,0,0,0,0,0,0] 0 (sel (!((F32 (F34 (F20 (F18 (F20 (F23 p0) (F23 p0)) (F30 1)) (F25 (F16 (F20 (F20 (F23 p0) (F23 p0)) (bE)) (F30 1))))))==(decide ((p0.getD 31 0:Int) ≥ 128)))) (F18 (F30 0) (F34 (F20 (F18 (F20 (F23 p0) (F23 p0)) (F30 1)) (F25 (F16 (F20 (F20 (F23 p0) (F23 p0)) (bE)) (F30 1)))))) (F34 (F20 (F18 (F20 (F23 p0) (F23 p0)) (F30 1)) (F25 (F16 (F20 (F20 (F23 p0) (F23 p0)) (bE)) (F30 1))))))) 5 (F23 p0)) 10 (F30 1)) 15 (F20 (sel (!((F32 (F34 (F20 (F18 (F20 (F23 p0) (F23 p0)) (F30 1)) (F25 (F16 (F20 (F20 (F23 p0) (F23 p0)) (bE)) (F30 1))))))==(decide ((p0.getD 31 0:Int) ≥ 128)))) (F18 (F30 0) (F34 (F20 (F18 (F20 (F23 p0) (F23 p0)) (F30 1)) (F25 (F16 (F20 (F20 (F23 p0) (F23 p0)) (bE)) (F30 1)))))) (F34 (F20 (F18 (F20 (F23 p0) (F23 p0)) (F30 1)) (F25 (F16 (F20 (F20 (F23 p0) (F23 p0)) (bE)) (F30 1)))))) (F23 p0)))] [880,128,16] 1440 (v2 (pu pz (v2 (pu pz (pu (pa (pa (Ye (0+5) 20) (Yr 5)) (pa (pa (Ye (5+5) 20) (Yr 5)) (pa (pa (Ye (10+5) 20) (Yr 5)) (pa (pa (Ye (15+5) 20) (Yr 5)) pT)))) (pu (Yz 20) (v1 pT))))))) <|Xy (r':=⟨.tup [.ints .u64 20 (aQ (aQ (aQ (aQ [0,0,0,0,0,0,0,0,0,0,0,0,0,0,0,0,0,0,0,0] 0 (sel (!((F32 (F34 (F20 (F18 (F20 (F23 p0) (F23 p0)) (F30 1)) (F25 (F16 (F20 (F20 (F23 p0) (F23 p0)) (bE)) (F30 1))))))==(decide ((p0.getD 31 0:Int) ≥ 128)))) (F18 (F30 0) (F34 (F20 (F18 (F20 (F23 p0) (F23 p0)) (F30 1)) (F25 (F16 (F20 (F20 (F23 p0) (F23 p0)) (bE)) (F30 1)))))) (F34 (F20 (F18 (F20 (F23 p0) (F23 p0)) (F30 1)) (F25 (F16 (F20 (F20 (F23 p0) (F23 p0)) (bE)) (F30 1))))))) 5 (F23 p0)) 10 (F30 1)) 15 (F20 (sel (!((F32 (F34 (F20 (F18 (F20 (F23 p0) (F23 p0)) (F30 1)) (F25 (F16 (F20 (F20 (F23 p0) (F23 p0)) (bE)) (F30 1))))))==(decide ((p0.getD 31 0:Int) ≥ 128)))) (F18 (F30 0) (F34 (F20 (F18 (F20 (F23 p0) (F23 p0)) (F30 1)) (F25 (F16 (F20 (F20 (F23 p0) (F23 p0)) (bE)) (F30 1)))))) (F34 (F20 (F18 (F20 (F23 p0) (F23 p0)) (F30 1)) (F25 (F16 (F20 (F20 (F23 p0) (F23 p0)) (bE)) (F30 1)))))) (F23 p0))),.sc (.b true)],[]⟩) [] (pa pT pz) (by simp only [eX,eI,h1,h2,h3,h4,h5,h6,aD,aA])
 refine Xu [Eb 64 false,Eb 68 false] (some [0,1,3,7,7,31,63,127,255,511]) [Eb 71 false] [9] [] [] 1168 (v2 (pg h4 (v1 (pu pz (pu pz (pg h5 (v3 pT))))))) <|Tri.cond_false (by kernel_rfl) <|Tri.skip <|Tri.seq <|Xs [Eb 76 (!((F32 (F34 (F20 (F18 (F20 (F23 p0) (F23 p0)) (F30 1)) (F25 (F16 (F20 (F20 (F23 p0) (F23 p0)) (bE)) (F30 1))))))==(decide ((p0.getD 31 0:Int) ≥ 128))))] [71,10] 1232 (v1 (pu pz (v2 pT))) <|Xj (x:=(!((F32 (F34 (F20 (F18 (F20 (F23 p0) (F23 p0)) (F30 1)) (F25 (F16 (F20 (F20 (F23 p0) (F23 p0)) (bE)) (F30 1))))))==(decide ((p0.getD 31 0:Int) ≥ 128))))) (fun bb=>[]) [76] (fun bb=>[Mk 880 .u64 5 (sel bb (F18 (F30 0) (F34 (F20 (F18 (F20 (F23 p0) (F23 p0)) (F30 1)) (F25 (F16 (F20 (F20 (F23 p0) (F23 p0)) (bE)) (F30 1)))))) (F34 (F20 (F18 (F20 (F23 p0) (F23 p0)) (F30 1)) (F25 (F16 (F20 (F20 (F23 p0) (F23 p0)) (bE)) (F30 1))))))]) [880] 1296 (fun h8=>?_) (fun h8=>?_) ?_
 exact Wu [] (some [0,0,3,7]) [] [76] [Mk 880 .u64 5 (F18 (F30 0) (F34 (F20 (F18 (F20 (F23 p0) (F23 p0)) (F30 1)) (F25 (F16 (F20 (F20 (F23 p0) (F23 p0)) (bE)) (F30 1))))))] [880] 1296 (pu pz (v1 (pu pz (pu (Yz 5) pT)))) <|Xe [] [Mk 880 .u64 5 (F18 (F30 0) (F34 (F20 (F18 (F20 (F23 p0) (F23 p0)) (F30 1)) (F25 (F16 (F20 (F20 (F23 p0) (F23 p0)) (bE)) (F30 1))))))]
 exact Tri.skip <|Xe [] [Mk 880 .u64 5 (F34 (F20 (F18 (F20 (F23 p0) (F23 p0)) (F30 1)) (F25 (F16 (F20 (F20 (F23 p0) (F23 p0)) (bE)) (F30 1)))))]
 exact Xu [] (some [0,0,0,0,0,28,63,127,255]) [Eb 3 true] [8,4] [Mk 16 .u64 20 (aQ (aQ (aQ (aQ [0,0,0,0,0,0,0,0,0,0,0,0,0,0,0,0,0,0,0,0] 0 (sel (!((F32 (F34 (F20 (F18 (F20 (F23 p0) (F23 p0)) (F30 1)) (F25 (F16 (F20 (F20 (F23 p0) (F23 p0)) (bE)) (F30 1))))))==(decide ((p0.getD 31 0:Int) ≥ 128)))) (F18 (F30 0) (F34 (F20 (F18 (F20 (F23 p0) (F23 p0)) (F30 1)) (F25 (F16 (F20 (F20 (F23 p0) (F23 p0)) (bE)) (F30 1)))))) (F34 (F20 (F18 (F20 (F23 p0) (F23 p0)) (F30 1)) (F25 (F16 (F20 (F20 (F23 p0) (F23 p0)) (bE)) (F30 1))))))) 5 (F23 p0)) 10 (F30 1)) 15 (F20 (sel (!((F32 (F34 (F20 (F18 (F20 (F23 p0) (F23 p0)) (F30 1)) (F25 (F16 (F20 (F20 (F23 p0) (F23 p0)) (bE)) (F30 1))))))==(decide ((p0.getD 31 0:Int) ≥ 128)))) (F18 (F30 0) (F34 (F20 (F18 (F20 (F23 p0) (F23 p0)) (F30 1)) (F25 (F16 (F20 (F20 (F23 p0) (F23 p0)) (bE)) (F30 1)))))) (F34 (F20 (F18 (F20 (F23 p0) (F23 p0)) (F30 1)) (F25 (F16 (F20 (F20 (F23 p0) (F23 p0)) (bE)) (F30 1)))))) (F23 p0)))] [880,128,16] 1440 (v2 (pu pz (v2 (pu pz (pu (pa (pa (Ye (0+5) 20) (Yr 5)) (pa (pa (Ye (5+5) 20) (Yr 5)) (pa (pa (Ye (10+5) 20) (Yr 5)) (pa (pa (Ye (15+5) 20) (Yr 5)) pT)))) (pu (Yz 20) (v1 pT))))))) <|Xy [] (pa pT pz) (by simp only [eX,eI,h1,h2,h3,h4,h5,aD,aA] <;> rfl)
theorem iL {p0:List Int} (h:(!(eI p0))=false):p0.length=32:=by
 unfold eI at h
 cases hb:(!(gG p0))
 ·exact eU hb
 ·rw [hb,aD] at h
  cases h
def sV (p0:List Int):List Int :=
 (sel (F32 (F20 ((p0.drop 0).take 5) (F25 ((p0.drop 10).take 5)))) ((F33 (F20 ((p0.drop 5).take 5) (F25 ((p0.drop 10).take 5)))).set 31 (iOr .u8 ((F33 (F20 ((p0.drop 5).take 5) (F25 ((p0.drop 10).take 5)))).getD 31 0) 128)) (F33 (F20 ((p0.drop 5).take 5) (F25 ((p0.drop 10).take 5)))))
def tu:List AV→List Blk→Option (Prop × Ret)
 |[.ints .u64 20 p0],[]=>some (True,⟨.sc (.sl 0 0 32 1 (some 32)),[some (.ints .u8 32 (sV p0))]⟩)
 |_,_=>none
theorem um:Known Tryz.prog gD 63 ⟨0,1,tu⟩:=by
 refine Xw Tryz.f63 23 (Zv K33 192 1 <|Zv K25 80 1 <|Zv K20 176 2 <|Zv K20 288 2 <|Zv K32 304 1 <|Zn) mixed <|fun E args ks C r h hC hlen=>?_
 simp only at h
 unfold tu at h
 split at h
 rotate_left
 cases h
 rename_i p0
 cases h
 simp only [ap] at hlen
 refine ⟨rfl,?_⟩
 refine Xt [Ep 1 16] [0] [Mk 16 .u64 20 p0] [] 48 (v2 pT) <|Xt [Ep 3 96] [] [Mk 96 .u64 5 (F25 ((p0.drop 10).take 5))] [] 128 (v1 (pu (Ye (10+5) 20) (pu pz (v1 (pu (Yz 5) pT))))) <|Xt [Ep 4 208] [] [Mi 208 32 (F33 (F20 ((p0.drop 5).take 5) (F25 ((p0.drop 10).take 5))))] [] 240 (v1 (pu (Ye (5+5) 20) (v1 (pu pz (pu pz (v1 (pu (Yz 32) pT))))))) <|Tri.seq <|Xt [Eb 17 (F32 (F20 ((p0.drop 0).take 5) (F25 ((p0.drop 10).take 5))))] [3,1] [] [96,16] 320 (v1 (pu (Ye (0+5) 20) (v1 (pu pz (pu pz pT))))) <|Xj (x:=(F32 (F20 ((p0.drop 0).take 5) (F25 ((p0.drop 10).take 5))))) (fun bb=>[]) [17] (fun bb=>[Mi 208 32 (sel bb ((F33 (F20 ((p0.drop 5).take 5) (F25 ((p0.drop 10).take 5)))).set 31 (iOr .u8 ((F33 (F20 ((p0.drop 5).take 5) (F25 ((p0.drop 10).take 5)))).getD 31 0) 128)) (F33 (F20 ((p0.drop 5).take 5) (F25 ((p0.drop 10).take 5)))))]) [208] 400 (fun h1=>?_) (fun h1=>?_) ?_
 exact Wt [] [17] [Mi 208 32 ((F33 (F20 ((p0.drop 5).take 5) (F25 ((p0.drop 10).take 5)))).set 31 (iOr .u8 ((F33 (F20 ((p0.drop 5).take 5) (F25 ((p0.drop 10).take 5)))).getD 31 0) 128))] [208] 400 (pu (Yi 31 32) (pu (Yl 31 32) (v1 (pu (Yi 31 32) (pu (Ys 31 32) pT))))) <|Xe [] [Mi 208 32 ((F33 (F20 ((p0.drop 5).take 5) (F25 ((p0.drop 10).take 5)))).set 31 (iOr .u8 ((F33 (F20 ((p0.drop 5).take 5) (F25 ((p0.drop 10).take 5)))).getD 31 0) 128))]
 exact Tri.skip <|Xe [] [Mi 208 32 (F33 (F20 ((p0.drop 5).take 5) (F25 ((p0.drop 10).take 5))))]
 exact Xs [(2,.sc (.sl 208 0 32 1 (some 32)))] [4] 432 (pu (pa (lo ((0:Int)≤0∧(0:Int)≤32∧32≤((32:Nat):Int))) (Ye 32 32)) (v1 pT)) <|Xz [(208,0)] pz
def gP (p0:List Int) (p1:List Int) (p2:List Int):List Int :=
 aQ (aQ (aQ (aQ [0,0,0,0,0,0,0,0,0,0,0,0,0,0,0,0,0,0,0,0] 0 (F20 (F18 (F20 (F16 ((p0.drop 5).take 5) ((p0.drop 0).take 5)) (F16 ((p1.drop 5).take 5) ((p1.drop 0).take 5))) (F20 (F18 ((p0.drop 5).take 5) ((p0.drop 0).take 5)) (F18 ((p1.drop 5).take 5) ((p1.drop 0).take 5)))) (F18 (F16 (F20 ((p0.drop 10).take 5) ((p1.drop 10).take 5)) (F20 ((p0.drop 10).take 5) ((p1.drop 10).take 5))) (F20 (F20 ((p0.drop 15).take 5) ((p1.drop 15).take 5)) p2)))) 5 (F20 (F16 (F16 (F20 ((p0.drop 10).take 5) ((p1.drop 10).take 5)) (F20 ((p0.drop 10).take 5) ((p1.drop 10).take 5))) (F20 (F20 ((p0.drop 15).take 5) ((p1.drop 15).take 5)) p2)) (F16 (F20 (F16 ((p0.drop 5).take 5) ((p0.drop 0).take 5)) (F16 ((p1.drop 5).take 5) ((p1.drop 0).take 5))) (F20 (F18 ((p0.drop 5).take 5) ((p0.drop 0).take 5)) (F18 ((p1.drop 5).take 5) ((p1.drop 0).take 5)))))) 10 (F20 (F18 (F16 (F20 ((p0.drop 10).take 5) ((p1.drop 10).take 5)) (F20 ((p0.drop 10).take 5) ((p1.drop 10).take 5))) (F20 (F20 ((p0.drop 15).take 5) ((p1.drop 15).take 5)) p2)) (F16 (F16 (F20 ((p0.drop 10).take 5) ((p1.drop 10).take 5)) (F20 ((p0.drop 10).take 5) ((p1.drop 10).take 5))) (F20 (F20 ((p0.drop 15).take 5) ((p1.drop 15).take 5)) p2)))) 15 (F20 (F18 (F20 (F16 ((p0.drop 5).take 5) ((p0.drop 0).take 5)) (F16 ((p1.drop 5).take 5) ((p1.drop 0).take 5))) (F20 (F18 ((p0.drop 5).take 5) ((p0.drop 0).take 5)) (F18 ((p1.drop 5).take 5) ((p1.drop 0).take 5)))) (F16 (F20 (F16 ((p0.drop 5).take 5) ((p0.drop 0).take 5)) (F16 ((p1.drop 5).take 5) ((p1.drop 0).take 5))) (F20 (F18 ((p0.drop 5).take 5) ((p0.drop 0).take 5)) (F18 ((p1.drop 5).take 5) ((p1.drop 0).take 5)))))
def uU:List AV→List Blk→Option (Prop × Ret)
 |[.ints .u64 20 p0,.ints .u64 20 p1,.ints .u64 5 p2],[]=>some (True,⟨.ints .u64 20 (gP p0 p1 p2),[]⟩)
 |_,_=>none
def ug:KL Tryz.prog gD:=Zv K16 320 2 <|Zv K16 400 2 <|Zv K16 784 2 <|Zv K16 944 2 <|Zv K16 992 2 <|Zv K20 240 2 <|Zv K20 416 2 <|Zv K20 560 2 <|Zv K20 592 2 <|Zv K20 672 2 <|Zv K20 1168 2 <|Zv K20 1216 2 <|Zv K20 1264 2 <|Zv K20 1312 2 <|Zv K18 144 2 <|Zv K18 224 2 <|Zv K18 848 2 <|Zv K18 896 2 <|Zn
theorem sk:Known Tryz.prog gD 107 ⟨0,0,uU⟩:=by
 refine Xw Tryz.f107 77 ug mixed <|fun E args ks C r h hC hlen=>?_
 simp only at h
 unfold uU at h
 split at h
 rotate_left
 cases h
 rename_i p0 p1 p2
 cases h
 simp only [ap] at hlen
 refine ⟨rfl,?_⟩
 exact Xt [Ep 6 64,Ep 5 48,Ep 4 32,Ep 3 16] [0,1,2] [Mk 64 .u64 20 [0,0,0,0,0,0,0,0,0,0,0,0,0,0,0,0,0,0,0,0],Mk 48 .u64 5 p2,Mk 32 .u64 20 p1,Mk 16 .u64 20 p0] [] 80 (v4 pT) <|Xu [] (some [0,1,0,4,15,0,32,0,128,511,1023,0,2048,0,8192,32767,0,65536,0,262144,1048575,2097151,0,0,16777215,33554431]) [Ep 8 448,Ep 7 432] [] [Mk 448 .u64 5 (F20 (F16 ((p0.drop 5).take 5) ((p0.drop 0).take 5)) (F16 ((p1.drop 5).take 5) ((p1.drop 0).take 5))),Mk 432 .u64 5 (F20 (F18 ((p0.drop 5).take 5) ((p0.drop 0).take 5)) (F18 ((p1.drop 5).take 5) ((p1.drop 0).take 5)))] [] 496 (v1 (pu (Ye (5+5) 20) (v1 (pu (Ye (0+5) 20) (pu pz (v1 (pu (Ye (5+5) 20) (v1 (pu (Ye (0+5) 20) (pu pz (pu pz (v1 (pu (Ye (5+5) 20) (v1 (pu (Ye (0+5) 20) (pu pz (v1 (pu (Ye (5+5) 20) (v1 (pu (Ye (0+5) 20) (pu pz (pu pz (v2 (pu (Yz 5) (pu (Yz 5) pT))))))))))))))))))))))))) <|Xu [] (some [0,1,0,4,15,0,63,0,128,0,512,2047,0,0,16383,32767]) [Ep 10 704,Ep 9 688] [5,4,3] [Mk 704 .u64 5 (F20 ((p0.drop 10).take 5) ((p1.drop 10).take 5)),Mk 688 .u64 5 (F20 (F20 ((p0.drop 15).take 5) ((p1.drop 15).take 5)) p2)] [48,32,16] 752 (v1 (pu (Ye (15+5) 20) (v1 (pu (Ye (15+5) 20) (pu pz (v1 (pu pz (v1 (pu (Ye (10+5) 20) (v1 (pu (Ye (10+5) 20) (pu pz (v2 (pu (Yz 5) (pu (Yz 5) pT))))))))))))))) <|Xt [] [] [Mk 704 .u64 5 (F16 (F20 ((p0.drop 10).take 5) ((p1.drop 10).take 5)) (F20 ((p0.drop 10).take 5) ((p1.drop 10).take 5)))] [704] 816 (v2 (pu pz (pu (Yz 5) pT))) <|Xu [] (some [0,0,3,0,0,31,0,0,255,0,0,2047,0,0,0,0,65535,131071,262143,524287]) [Ep 14 1056,Ep 13 1040,Ep 12 1024,Ep 11 1008] [10,9,8,7] [Mk 1056 .u64 5 (F16 (F20 (F16 ((p0.drop 5).take 5) ((p0.drop 0).take 5)) (F16 ((p1.drop 5).take 5) ((p1.drop 0).take 5))) (F20 (F18 ((p0.drop 5).take 5) ((p0.drop 0).take 5)) (F18 ((p1.drop 5).take 5) ((p1.drop 0).take 5)))),Mk 1040 .u64 5 (F16 (F16 (F20 ((p0.drop 10).take 5) ((p1.drop 10).take 5)) (F20 ((p0.drop 10).take 5) ((p1.drop 10).take 5))) (F20 (F20 ((p0.drop 15).take 5) ((p1.drop 15).take 5)) p2)),Mk 1024 .u64 5 (F18 (F16 (F20 ((p0.drop 10).take 5) ((p1.drop 10).take 5)) (F20 ((p0.drop 10).take 5) ((p1.drop 10).take 5))) (F20 (F20 ((p0.drop 15).take 5) ((p1.drop 15).take 5)) p2)),Mk 1008 .u64 5 (F18 (F20 (F16 ((p0.drop 5).take 5) ((p0.drop 0).take 5)) (F16 ((p1.drop 5).take 5) ((p1.drop 0).take 5))) (F20 (F18 ((p0.drop 5).take 5) ((p0.drop 0).take 5)) (F18 ((p1.drop 5).take 5) ((p1.drop 0).take 5))))] [704,688,448,432] 1136 (v2 (pu pz (v2 (pu pz (v2 (pu pz (v2 (pu pz (v4 (pu (Yz 5) (pu (Yz 5) (pu (Yz 5) (pu (Yz 5) pT))))))))))))) <|Xu [] (some [0,0,3,0,0,31,0,0,255,0,0,2047,4095,8191]) [] [14,13,12,11] [Mk 64 .u64 20 (aQ (aQ (aQ (aQ [0,0,0,0,0,0,0,0,0,0,0,0,0,0,0,0,0,0,0,0] 0 (F20 (F18 (F20 (F16 ((p0.drop 5).take 5) ((p0.drop 0).take 5)) (F16 ((p1.drop 5).take 5) ((p1.drop 0).take 5))) (F20 (F18 ((p0.drop 5).take 5) ((p0.drop 0).take 5)) (F18 ((p1.drop 5).take 5) ((p1.drop 0).take 5)))) (F18 (F16 (F20 ((p0.drop 10).take 5) ((p1.drop 10).take 5)) (F20 ((p0.drop 10).take 5) ((p1.drop 10).take 5))) (F20 (F20 ((p0.drop 15).take 5) ((p1.drop 15).take 5)) p2)))) 5 (F20 (F16 (F16 (F20 ((p0.drop 10).take 5) ((p1.drop 10).take 5)) (F20 ((p0.drop 10).take 5) ((p1.drop 10).take 5))) (F20 (F20 ((p0.drop 15).take 5) ((p1.drop 15).take 5)) p2)) (F16 (F20 (F16 ((p0.drop 5).take 5) ((p0.drop 0).take 5)) (F16 ((p1.drop 5).take 5) ((p1.drop 0).take 5))) (F20 (F18 ((p0.drop 5).take 5) ((p0.drop 0).take 5)) (F18 ((p1.drop 5).take 5) ((p1.drop 0).take 5)))))) 10 (F20 (F18 (F16 (F20 ((p0.drop 10).take 5) ((p1.drop 10).take 5)) (F20 ((p0.drop 10).take 5) ((p1.drop 10).take 5))) (F20 (F20 ((p0.drop 15).take 5) ((p1.drop 15).take 5)) p2)) (F16 (F16 (F20 ((p0.drop 10).take 5) ((p1.drop 10).take 5)) (F20 ((p0.drop 10).take 5) ((p1.drop 10).take 5))) (F20 (F20 ((p0.drop 15).take 5) ((p1.drop 15).take 5)) p2)))) 15 (F20 (F18 (F20 (F16 ((p0.drop 5).take 5) ((p0.drop 0).take 5)) (F16 ((p1.drop 5).take 5) ((p1.drop 0).take 5))) (F20 (F18 ((p0.drop 5).take 5) ((p0.drop 0).take 5)) (F18 ((p1.drop 5).take 5) ((p1.drop 0).take 5)))) (F16 (F20 (F16 ((p0.drop 5).take 5) ((p0.drop 0).take 5)) (F16 ((p1.drop 5).take 5) ((p1.drop 0).take 5))) (F20 (F18 ((p0.drop 5).take 5) ((p0.drop 0).take 5)) (F18 ((p1.drop 5).take 5) ((p1.drop 0).take 5))))))] [1056,1040,1024,1008,64] 1360 (v2 (pu pz (v2 (pu pz (v2 (pu pz (v2 (pu pz (pu (pa (pa (Ye (0+5) 20) (Yr 5)) (pa (pa (Ye (5+5) 20) (Yr 5)) (pa (pa (Ye (10+5) 20) (Yr 5)) (pa (pa (Ye (15+5) 20) (Yr 5)) pT)))) (pu (Yz 20) pT)))))))))) <|Xz [] pz
def oE (p0:List Int) (p1:List Int) (k0:Nat) (z0:List Int):List Int :=
 (sel (((ab .u8 (aX .u8 (p1.getD (((8*p1.length)-1-k0)/8) 0) ((((8*p1.length)-1-k0) % 8:Nat):Int)) 1):Int)==1) (gP (gP z0 z0 (F16 (bE) (bE))) p0 (F16 (bE) (bE))) (gP z0 z0 (F16 (bE) (bE))))
def nu (p0:List Int) (p1:List Int):List Int :=
 (itr (oE p0 p1) (8*p1.length) (aQ (aQ [0,0,0,0,0,0,0,0,0,0,0,0,0,0,0,0,0,0,0,0] 5 (F30 1)) 10 (F30 1)))
def tY:List AV→List Blk→Option (Prop × Ret)
 |[.ints .u64 20 p0,.sc (.ro .u8 p1)],[]=>some ((p1.length≤1000000),⟨.ints .u64 20 (nu p0 p1),[]⟩)
 |_,_=>none
theorem uY:Known Tryz.prog gD 62 ⟨0,0,tY⟩:=by
 refine Xw Tryz.f62 42 (Zv tF 48 0 <|Zv K16 128 2 <|Zv K30 160 1 <|Zv K30 176 1 <|Zv sk 400 3 <|Zv sk 640 3 <|Zn) mixed <|fun E args ks C r h hC hlen=>?_
 simp only at h
 unfold tY at h
 split at h
 rotate_left
 cases h
 rename_i p0 p1
 cases h
 simp only [ap] at hlen
 refine ⟨rfl,?_⟩
 refine Xt [Ep 4 32,Ep 2 16] [0] [Mk 32 .u64 20 [0,0,0,0,0,0,0,0,0,0,0,0,0,0,0,0,0,0,0,0],Mk 16 .u64 20 p0] [] 48 (v2 pT) <|Xt [Ep 5 64] [] [Mk 64 .u64 5 (bE)] [] 96 (pu pz (v1 (pu (Yz 5) pT))) <|Xt [] [] [Mk 64 .u64 5 (F16 (bE) (bE))] [64] 160 (v2 (pu pz (pu (Yz 5) pT))) <|Xt [Ep 6 208] [] [Mk 208 .u64 20 (aQ (aQ [0,0,0,0,0,0,0,0,0,0,0,0,0,0,0,0,0,0,0,0] 5 (F30 1)) 10 (F30 1))] [] 240 (pu pz (pu pz (pu (pa (pa (Ye (5+5) 20) (Yr 5)) (pa (pa (Ye (10+5) 20) (Yr 5)) pT)) (v1 (pu (Yz 20) pT))))) <|Tri.seq <|Xu [Ej 17 (8*p1.length),Ei 18 (((8*p1.length:Nat):Int)-1-((0:Nat):Int))] none [Ei 7 (((8*p1.length:Nat):Int)-1-((0:Nat):Int))] [] [] [] 320 (v2 (pv pT (Yt 8 p1.length) (pv pT (pl (show (al .i64 ((8*p1.length:Nat):Int) 1)=(((8*p1.length:Nat):Int)-1-((0:Nat):Int)) from bO (by omega))) (v1 pT)))) <|Tri.block <|Xc (8*p1.length) (oE p0 p1) (aQ (aQ [0,0,0,0,0,0,0,0,0,0,0,0,0,0,0,0,0,0,0,0] 5 (F30 1)) 10 (F30 1)) (fun k0 z0=>True) (fun k0 z0=>[Ei 7 (((8*p1.length:Nat):Int)-1-((k0:Nat):Int))]) (fun k0 z0=>[Mk 208 .u64 20 z0]) trivial <|fun k0 z0 hk0 hz0 hJ0=>Tri.seq <|Xs [Eb 20 (decide (((((8*p1.length:Nat):Int)-1-((k0:Nat):Int)):Int) ≥ 0))] [] 352 (v2 pT) <|Xb (fun h1 h1'=>?_) (fun h1 h1'=>?_)
 refine Tri.skip <|Tri.seq <|Tri.block <|Xt [] [20] [Mk 208 .u64 20 (gP z0 z0 (F16 (bE) (bE)))] [208] 432 (v3 (pu pz (pu (Yz 20) pT))) <|Xu [Ej 29 (((8*p1.length)-1-k0)/8),Ej 33 (((8*p1.length)-1-k0) % 8)] none [Eb 36 (((ab .u8 (aX .u8 (p1.getD (((8*p1.length)-1-k0)/8) 0) ((((8*p1.length)-1-k0) % 8:Nat):Int)) 1):Int)==1)] [] [] [] 592 (v2 (pv (Yn 8) (pl (show (mf .i64 (((8*p1.length:Nat):Int)-1-((k0:Nat):Int)) 8)=((((8*p1.length)-1-k0)/8:Nat):Int) from by rw [gg (by omega)];exact cb (b:=8) (by omega))) (pu (Yj (((8*p1.length)-1-k0)/8) p1.length) (pu (Yl (((8*p1.length)-1-k0)/8) p1.length) (v1 (pv (Yn 8) (pl (show (cF (((8*p1.length:Nat):Int)-1-((k0:Nat):Int)) 8)=((((8*p1.length)-1-k0) % 8:Nat):Int) from by rw [gg (by omega)];exact cI (b:=8))) (pu (Y0 ((((8*p1.length)-1-k0) % 8:Nat):Int)) (v2 pT)))))))) ?_
 refine Xj (x:=(((ab .u8 (aX .u8 (p1.getD (((8*p1.length)-1-k0)/8) 0) ((((8*p1.length)-1-k0) % 8:Nat):Int)) 1):Int)==1)) (fun bb=>[]) [36] (fun bb=>[Mk 208 .u64 20 (sel bb (gP (gP z0 z0 (F16 (bE) (bE))) p0 (F16 (bE) (bE))) (gP z0 z0 (F16 (bE) (bE))))]) [208] 672 (fun h2=>?_) (fun h2=>?_) ?_
 have h2':=bv h2
 exact Wt [] [36] [Mk 208 .u64 20 (gP (gP z0 z0 (F16 (bE) (bE))) p0 (F16 (bE) (bE)))] [208] 672 (v3 (pu pz (pu (Yz 20) pT))) <|Xe [] [Mk 208 .u64 20 (gP (gP z0 z0 (F16 (bE) (bE))) p0 (F16 (bE) (bE)))]
 have h2':=bn h2
 exact Tri.skip <|Xe [] [Mk 208 .u64 20 (gP z0 z0 (F16 (bE) (bE)))]
 exact Wu [Ei 22 (((8*p1.length:Nat):Int)-1-((k0+1:Nat):Int))] none [Ei 7 (((8*p1.length:Nat):Int)-1-((k0+1:Nat):Int))] [7] [] [] 720 (v1 (pv pT (pl (show (al .i64 (((8*p1.length:Nat):Int)-1-((k0:Nat):Int)) 1)=(((8*p1.length:Nat):Int)-1-((k0+1:Nat):Int)) from jV (by omega) (by omega))) (v1 pT))) <|Xo [] trivial
 refine Tri.exit <|?_
 obtain rfl:k0=(8*p1.length):=(by omega);subst hz0
 exact Xt [] [20,7,6,5,2,1] [Mk 32 .u64 20 (itr (oE p0 p1) (8*p1.length) (aQ (aQ [0,0,0,0,0,0,0,0,0,0,0,0,0,0,0,0,0,0,0,0] 5 (F30 1)) 10 (F30 1)))] [208,64,32,16] 384 (v1 (pu (Yz 20) pT)) <|Xz [] pz
def rr:List Int :=
 (eX (aC (F33 (nn 4 5)) 32 0 32))
def tU:List AV→List Blk→Option (Prop × Ret)
 |[],[]=>some (True,⟨.ints .u64 20 (rr),[]⟩)
 |_,_=>none
theorem ua:Known Tryz.prog gD 61 ⟨0,0,tU⟩:=by
 refine Xw Tryz.f61 12 (Zv uF 32 2 <|Zv K33 48 1 <|Zc ti 112 [.ro .u8] [64] [] <|Zn) mixed <|fun E args ks C r h hC hlen=>?_
 simp only at h
 unfold tU at h
 split at h
 rotate_left
 cases h
 cases h
 simp only [ap] at hlen
 refine ⟨rfl,?_⟩
 exact Xt [Ep 0 16] [] [Mk 16 .u64 20 [0,0,0,0,0,0,0,0,0,0,0,0,0,0,0,0,0,0,0,0]] [] 32 (v1 pT) <|Xt [Ep 1 64] [] [Mi 64 32 (F33 (nn 4 5))] [] 96 (pu pz (pu pz (v1 (pu (Yz 32) pT)))) <|Tri.len 64 rfl <|fun hl1=>Xt [Ep 2 176] [1] [Mk 176 .u64 20 (eX (aC (F33 (nn 4 5)) 32 0 32))] [64] 224 (pu (pa (lo ((0:Int)≤0∧(0:Int)≤32∧32≤((32:Nat):Int))) (Ye 32 32)) (pu (pa (pa (Yw 32) pT) pT) (v4 (pu (Yz 20) (v1 pT))))) <|Tri.len 176 rfl <|fun hl2=>Xt [] [2] [Mk 16 .u64 20 (eX (aC (F33 (nn 4 5)) 32 0 32))] [176,16] 256 (v1 (pu (Yz 20) pT)) <|Xz [] pz
theorem lA (x y c:Int):0≤ej x y c∧ej x y c≤1:=by unfold ej;split <;> omega
theorem lE (x y c:Int):0≤jF x y c∧jF x y c<18446744073709551616:=qo _
theorem lB:rng nr:=dk (by decide)
theorem jy:rng ((nr.drop 0).take 4):=lB
def oK (p0:List Int) (p1:List Int) (k0:Nat) (z0:Int):Int :=
 (ej (p0.getD k0 0) (p1.getD k0 0) z0)
def mq (p0:List Int) (p1:List Int):Bool :=
 (((itr (oK p0 p1) 4 0):Int)==1)
def uH:List AV→List Blk→Option (Prop × Ret)
 |[.ints .u64 4 p0,.ints .u64 4 p1],[]=>some ((rng p0∧rng p1),⟨.sc (.b (mq p0 p1)),[]⟩)
 |_,_=>none
theorem tR:Known Tryz.prog gD 114 ⟨0,0,uH⟩:=by
 refine Xw Tryz.f114 24 (Zv uN 256 3 <|Zn) mixed <|fun E args ks C r h hC hlen=>?_
 simp only at h
 unfold uH at h
 split at h
 rotate_left
 cases h
 rename_i p0 p1
 cases h
 simp only [ap] at hlen
 have hf1:=hC.1
 have hf2:=hC.2
 refine ⟨rfl,?_⟩
 refine Xt [Ep 3 32,Ep 2 16] [0,1] [Mk 32 .u64 4 p1,Mk 16 .u64 4 p0] [] 64 (v3 pT) <|Xs [Ek 5 .u64 0] [] 80 (v1 pT) <|Tri.seq <|Xs [Ei 7 0] [] 96 (v1 pT) <|Tri.block <|Xc 4 (oK p0 p1) 0 (fun k0 z0=>0≤z0∧z0≤1) (fun k0 z0=>[Ej 7 k0,Ek 5 .u64 z0]) (fun k0 z0=>[]) (by omega) <|fun k0 z0 hk0 hz0 hJ0=>Xs [Eb 8 (decide ((((k0:Nat):Int):Int)<4))] [] 112 (v1 pT) <|Tri.seq <|Xb (fun h1 h1'=>?_) (fun h1 h1'=>?_)
 exact Tri.skip <|Tri.seq <|Tri.block <|Xs [Ej 6 k0] [8] 144 (v2 pT) <|Wu [] (some [0,1,3,0,8,24,0,127,255,511,511,2047]) [Ek 5 .u64 (ej (p0.getD k0 0) (p1.getD k0 0) z0)] [6,5] [] [] 336 (v1 (pu (Yj k0 4) (pu (Yl k0 4) (v1 (pu (Yj k0 4) (pu (Yl k0 4) (v1 (pu (pa pT (pl (show ((0:Int)≤(p0.getD k0 0)∧((p0.getD k0 0):Int)<18446744073709551616)∧((0:Int)≤(p1.getD k0 0)∧((p1.getD k0 0):Int)<18446744073709551616)∧(0:Int)≤z0∧(z0:Int)≤1 from ⟨hf1 k0,hf2 k0,hJ0.1,hJ0.2⟩))) (v4 pT))))))))) <|Wu [Ej 21 (k0+1)] none [Ej 7 (k0+1)] [7] [] [] 368 (pv pT (Yp k0 1) (v1 pT)) <|Xo [] (lA _ _ _)
 refine Tri.exit <|?_
 obtain rfl:k0=4:=(by omega);subst hz0
 exact Xt [Eb 4 (((itr (oK p0 p1) 4 0):Int)==1)] [8,7,5,3,2] [] [32,16] 160 (v3 pT) <|Xz [] pz
def dU (k0:Nat) (z0:Int × List Int):Int × List Int :=
 ((aX .u64 (z0.2.getD k0 0) 63),z0.2.set k0 (iOr .u64 (dZ .u64 (z0.2.getD k0 0) 1) z0.1))
def iQ (k1:Nat) (z1:Int × List Int):Int × List Int :=
 ((ej (z1.2.getD k1 0) (nr.getD (0+k1) 0) z1.1),z1.2.set k1 (jF (z1.2.getD k1 0) (nr.getD (0+k1) 0) z1.1))
def qp (p0:List Int) (p1:Int):List Int :=
 (sel (!(mq ((itr (dU) 4 (p1,p0)).2) ((nr.drop 0).take 4))) ((itr (iQ) 4 (0,(itr (dU) 4 (p1,p0)).2)).2) ((itr (dU) 4 (p1,p0)).2))
def uD:List AV→List Blk→Option (Prop × Ret)
 |[.ints .u64 4 p0,.sc (.i .u64 p1)],[]=>some ((rng p0),⟨.ints .u64 4 (qp p0 p1),[]⟩)
 |_,_=>none
theorem vA:Known Tryz.prog gD 111 ⟨0,0,uD⟩:=by
 refine Xw Tryz.f111 46 (Zv tR 112 2 <|Zv uN 352 3 <|Zn) mixed <|fun E args ks C r h hC hlen=>?_
 simp only at h
 unfold uD at h
 split at h
 rotate_left
 cases h
 rename_i p0 p1
 cases h
 simp only [ap] at hlen
 have hg:nr.length=4:=rfl
 refine ⟨rfl,?_⟩
 refine Xt [Ep 4 32,Ep 2 16] [0] [Mk 32 .u64 4 [0,0,0,0],Mk 16 .u64 4 p0] [] 48 (v2 pT) <|Tri.seq <|Xs [Ei 8 0] [] 64 (v1 pT) <|Tri.block <|Xc 4 (dU) (p1,p0) (fun k0 z0=>rng z0.2) (fun k0 z0=>[Ej 8 k0,Ek 1 .u64 z0.1]) (fun k0 z0=>[Mk 16 .u64 4 z0.2]) hC <|fun k0 z0 hk0 hz0 hJ0=>Xs [Eb 9 (decide ((((k0:Nat):Int):Int)<4))] [] 80 (v1 pT) <|Tri.seq <|Xb (fun h1 h1'=>?_) (fun h1 h1'=>?_)
 exact Tri.skip <|Tri.seq <|Tri.block <|Xs [Ej 5 k0] [9] 112 (v2 pT) <|Wu [] (some [0,0,2,6,14,0,62,0,128,384,896,1023,3071,8191]) [Ek 1 .u64 (aX .u64 (z0.2.getD k0 0) 63)] [5,1] [Mk 16 .u64 4 (z0.2.set k0 (iOr .u64 (dZ .u64 (z0.2.getD k0 0) 1) z0.1))] [16] 336 (v2 (pu (Yj k0 4) (pu (Yl k0 4) (pu (Y0 1) (v3 (pu (Yj k0 4) (pu (Yl k0 4) (pu (Y0 63) (pu (Yj k0 4) (pu (Ys k0 4) (v1 pT))))))))))) <|Wu [Ej 23 (k0+1)] none [Ej 8 (k0+1)] [8] [] [] 368 (pv pT (Yp k0 1) (v1 pT)) <|Xo [] (show rng (List.set _ _ _) from fW hJ0 (dl _))
 refine Tri.exit <|?_
 obtain rfl:k0=4:=(by omega);subst hz0
 refine Tri.seq <|Xs [Eb 27 (!(mq ((itr (dU) 4 (p1,p0)).2) ((nr.drop 0).take 4)))] [9,8,1] 144 (v1 (pu (Ye (0+4) nr.length) (pu (pa pT (pl (show rng ((itr (dU) 4 (p1,p0)).2)∧rng ((nr.drop 0).take 4) from ⟨hJ0,jy⟩))) (v1 pT)))) <|Xj (x:=(!(mq ((itr (dU) 4 (p1,p0)).2) ((nr.drop 0).take 4)))) (fun bb=>[]) [27] (fun bb=>[Mk 32 .u64 4 [0,0,0,0],Mk 16 .u64 4 (sel bb ((itr (iQ) 4 (0,(itr (dU) 4 (p1,p0)).2)).2) ((itr (dU) 4 (p1,p0)).2))]) [32,16] 192 (fun h2=>?_) (fun h2=>?_) ?_
 refine Xs [Ek 6 .u64 0] [27] 160 (v1 pT) <|Xs [Ei 28 0] [] 176 (v1 pT) <|Tri.block <|Xc 4 (iQ) (0,(itr (dU) 4 (p1,p0)).2) (fun k1 z1=>rng z1.2∧0≤z1.1∧z1.1≤1) (fun k1 z1=>[Ej 28 k1,Ek 6 .u64 z1.1]) (fun k1 z1=>[Mk 16 .u64 4 z1.2]) (⟨hJ0,Int.le_refl 0,(show (0:Int)≤1 by decide)⟩) <|fun k1 z1 hk1 hz1 hJ1=>Xs [Eb 29 (decide ((((k1:Nat):Int):Int)<4))] [] 192 (v1 pT) <|Tri.seq <|Xb (fun h3 h3'=>?_) (fun h3 h3'=>?_)
 exact Tri.skip <|Tri.seq <|Tri.block <|Xs [Ej 7 k1] [29] 224 (v2 pT) <|Wu [] (some [0,0,2,6,0,16,48,0,254,510,1022,1022,2047,6143,16383]) [Ek 6 .u64 (ej (z1.2.getD k1 0) (nr.getD (0+k1) 0) z1.1)] [7,6] [Mk 16 .u64 4 (z1.2.set k1 (jF (z1.2.getD k1 0) (nr.getD (0+k1) 0) z1.1))] [16] 464 (v2 (pu (Yj k1 4) (pu (Yl k1 4) (v1 (pu (Yj k1 4) (pu (Yl (0+k1) nr.length) (v1 (pu (pa pT (pl (show ((0:Int)≤(z1.2.getD k1 0)∧((z1.2.getD k1 0):Int)<18446744073709551616)∧((0:Int)≤(nr.getD (0+k1) 0)∧((nr.getD (0+k1) 0):Int)<18446744073709551616)∧(0:Int)≤z1.1∧(z1.1:Int)≤1 from ⟨hJ1.1 _,lB _,hJ1.2⟩))) (v3 (pu (Yj k1 4) (pu (Ys k1 4) (v1 pT)))))))))))) <|Wu [Ej 44 (k1+1)] none [Ej 28 (k1+1)] [28] [] [] 496 (pv pT (Yp k1 1) (v1 pT)) <|Xo [] (show rng (List.set _ _ _)∧_∧_ from ⟨fW hJ1.1 (lE _ _ _),lA _ _ _⟩)
 refine Tri.exit <|?_
 obtain rfl:k1=4:=(by omega);subst hz1
 exact Xe [] [Mk 32 .u64 4 [0,0,0,0],Mk 16 .u64 4 ((itr (iQ) 4 (0,(itr (dU) 4 (p1,p0)).2)).2)]
 exact Tri.skip <|Xe [] [Mk 32 .u64 4 [0,0,0,0],Mk 16 .u64 4 ((itr (dU) 4 (p1,p0)).2)]
 exact Xt [] [2] [Mk 32 .u64 4 (sel (!(mq ((itr (dU) 4 (p1,p0)).2) ((nr.drop 0).take 4))) ((itr (iQ) 4 (0,(itr (dU) 4 (p1,p0)).2)).2) ((itr (dU) 4 (p1,p0)).2))] [32,16] 224 (v1 (pu (Yz 4) pT)) <|Xz [] pz
theorem uP {p0:List Int} (h:rng p0) (p1:Int):rng (qp p0 p1):=by
 have h0:∀ n z,rng z.2→rng (itr dU n z).2:=by
  intro n z hz
  induction n with
  |zero=>rw [bl];exact hz
  |succ n ih=>rw [bg];exact fW ih (dl _)
 have h1:∀ n z,rng z.2→rng (itr iQ n z).2:=by
  intro n z hz
  induction n with
  |zero=>rw [bl];exact hz
  |succ n ih=>rw [bg];exact fW ih (lE _ _ _)
 unfold qp
 cases (!(mq ((itr (dU) 4 (p1,p0)).2) ((nr.drop 0).take 4)))
 ·exact h0 4 _ h
 ·exact h1 4 _ (h0 4 _ h)
theorem mm:rng [0,0,0,0]:=dk (by decide)
def oA (p0:List Int) (k0:Nat) (z0:List Int):List Int :=
 (qp z0 (IntKind.wrap .u64 (ab .u8 (aX .u8 (p0.getD (((8*p0.length)-1-k0)/8) 0) ((((8*p0.length)-1-k0) % 8:Nat):Int)) 1)))
def rH (p0:List Int):List Int :=
 (itr (oA p0) (8*p0.length) [0,0,0,0])
def uL:List AV→List Blk→Option (Prop × Ret)
 |[.sc (.ro .u8 p0)],[]=>some ((p0.length≤1000000),⟨.ints .u64 4 (rH p0),[]⟩)
 |_,_=>none
theorem uu:Known Tryz.prog gD 65 ⟨0,0,uL⟩:=by
 refine Xw Tryz.f65 26 (Zv vA 336 2 <|Zn) mixed <|fun E args ks C r h hC hlen=>?_
 simp only at h
 unfold uL at h
 split at h
 rotate_left
 cases h
 rename_i p0
 cases h
 simp only [ap] at hlen
 refine ⟨rfl,?_⟩
 refine Xt [Ep 2 16] [] [Mk 16 .u64 4 [0,0,0,0]] [] 32 (v1 pT) <|Xt [Ep 3 32] [] [Mk 32 .u64 4 [0,0,0,0]] [] 48 (v1 pT) <|Tri.seq <|Xu [Ej 7 (8*p0.length),Ei 8 (((8*p0.length:Nat):Int)-1-((0:Nat):Int))] none [Ei 4 (((8*p0.length:Nat):Int)-1-((0:Nat):Int))] [] [] [] 128 (v2 (pv pT (Yt 8 p0.length) (pv pT (pl (show (al .i64 ((8*p0.length:Nat):Int) 1)=(((8*p0.length:Nat):Int)-1-((0:Nat):Int)) from bO (by omega))) (v1 pT)))) <|Tri.block <|Xc (8*p0.length) (oA p0) [0,0,0,0] (fun k0 z0=>rng z0) (fun k0 z0=>[Ei 4 (((8*p0.length:Nat):Int)-1-((k0:Nat):Int))]) (fun k0 z0=>[Mk 32 .u64 4 z0]) mm <|fun k0 z0 hk0 hz0 hJ0=>Tri.seq <|Xs [Eb 10 (decide (((((8*p0.length:Nat):Int)-1-((k0:Nat):Int)):Int) ≥ 0))] [] 160 (v2 pT) <|Xb (fun h1 h1'=>?_) (fun h1 h1'=>?_)
 refine Tri.skip <|Tri.seq <|Tri.block <|Wu [Ej 16 (((8*p0.length)-1-k0)/8),Ej 20 (((8*p0.length)-1-k0) % 8)] (some [0,0,0,4,14,30,0,64,254,510,1022,2047,4095]) [] [10] [Mk 32 .u64 4 (qp z0 (IntKind.wrap .u64 (ab .u8 (aX .u8 (p0.getD (((8*p0.length)-1-k0)/8) 0) ((((8*p0.length)-1-k0) % 8:Nat):Int)) 1)))] [32] 368 (v3 (pv (Yn 8) (pl (show (mf .i64 (((8*p0.length:Nat):Int)-1-((k0:Nat):Int)) 8)=((((8*p0.length)-1-k0)/8:Nat):Int) from by rw [gg (by omega)];exact cb (b:=8) (by omega))) (pu (Yj (((8*p0.length)-1-k0)/8) p0.length) (pu (Yl (((8*p0.length)-1-k0)/8) p0.length) (v1 (pv (Yn 8) (pl (show (cF (((8*p0.length:Nat):Int)-1-((k0:Nat):Int)) 8)=((((8*p0.length)-1-k0) % 8:Nat):Int) from by rw [gg (by omega)];exact cI (b:=8))) (pu (Y0 ((((8*p0.length)-1-k0) % 8:Nat):Int)) (v2 (pu (pa pT (pl hJ0)) (pu (Yz 4) pT)))))))))) ?_
 exact Wu [Ei 12 (((8*p0.length:Nat):Int)-1-((k0+1:Nat):Int))] none [Ei 4 (((8*p0.length:Nat):Int)-1-((k0+1:Nat):Int))] [4] [] [] 416 (v1 (pv pT (pl (show (al .i64 (((8*p0.length:Nat):Int)-1-((k0:Nat):Int)) 1)=(((8*p0.length:Nat):Int)-1-((k0+1:Nat):Int)) from jV (by omega) (by omega))) (v1 pT))) <|Xo [] (uP hJ0 _)
 refine Tri.exit <|?_
 obtain rfl:k0=(8*p0.length):=(by omega);subst hz0
 exact Xt [] [10,4,3,0] [Mk 16 .u64 4 (itr (oA p0) (8*p0.length) [0,0,0,0])] [32,16] 192 (v1 (pu (Yz 4) pT)) <|Xz [] pz
def fG (p0:List Int) (k0:Nat) (k1:Nat) (z1:Nat × List Int):Nat × List Int :=
 (z1.1+1,z1.2++[(IntKind.wrap .u8 (aX .u64 (p0.getD k0 0) ((8*k1:Nat):Int)))])
def dt (p0:List Int) (k0:Nat) (z0:Nat × List Int):Nat × List Int :=
 ((itr (fG p0 k0) 8 (z0.1,z0.2)).1,(itr (fG p0 k0) 8 (z0.1,z0.2)).2)
def jd (p0:List Int):List Int :=
 (itr (dt p0) 4 (0,([]:List Int))).2
theorem uz (p0:List Int):(itr (dt p0) 4 (0,[])).1=32:=by
 have h1:∀ (j k:Nat) (z:Nat × List Int),(itr (fG p0 j) k z).1=z.1+k:=by
  intro j k z
  induction k with
  |zero=>rw [bl];rfl
  |succ k ih=>rw [bg];show (itr (fG p0 j) k z).1+1=_;rw [ih];omega
 have h0:∀ (k:Nat),(itr (dt p0) k (0,[])).1=8*k:=by
  intro k
  induction k with
  |zero=>rw [bl]
  |succ k ih=>rw [bg];show (itr (fG p0 k) 8 ((itr (dt p0) k (0,[])).1,(itr (dt p0) k (0,[])).2)).1=_;rw [h1,ih];show 8*k+8=_;omega
 rw [h0]
def uS:List AV→List Blk→Option (Prop × Ret)
 |[.ints .u64 4 p0],[]=>some (True,⟨.sc (.sl 0 0 32 1 none),[some (.ints .u8 32 (jd p0))]⟩)
 |_,_=>none
theorem uC:Known Tryz.prog gD 66 ⟨0,1,uS⟩:=by
 refine Xw Tryz.f66 25 Zn mixed <|fun E args ks C r h hC hlen=>?_
 simp only at h
 unfold uS at h
 split at h
 rotate_left
 cases h
 rename_i p0
 cases h
 simp only [ap] at hlen
 refine ⟨rfl,?_⟩
 refine Xt [Ep 1 16] [0] [Mk 16 .u64 4 p0] [] 48 (v2 pT) <|Xs [(3,.sc (.nils))] [] 64 (v1 pT) <|Tri.seq <|Xt [Ei 8 0,(7,.ints .u64 4 p0)] [1] [] [16] 96 (v2 pT) <|Tri.block <|Tri.sub (Sub.openNil (U:=96) (U':=112) 3 96 1 .u8 none (.inl rfl) (by decide) (by decide) (by kernel_rfl) (by kernel_rfl)) <|Xc 4 (dt p0) (0,([]:List Int)) (fun k0 z0=>z0.1=8*k0) (fun k0 z0=>[El 3 96 z0.1,Ej 8 k0]) (fun k0 z0=>[Mi 96 z0.1 z0.2]) rfl <|fun k0 z0 hk0 hz0 hJ0=>Xs [Eb 9 (decide ((((k0:Nat):Int):Int)<4))] [] 128 (v1 pT) <|Tri.seq <|Xb (fun h1 h1'=>?_) (fun h1 h1'=>?_)
 refine Tri.skip <|Tri.seq <|Tri.block <|Xs [Ek 5 .u64 (p0.getD k0 0)] [9] 160 (pu (pa (Yj k0 4) (Yl k0 4)) (v1 pT)) <|Xs [Ei 11 0] [] 176 (v1 pT) <|Tri.block <|Xc 8 (fG p0 k0) (z0.1,z0.2) (fun k1 z1=>z1.1=z0.1+1*k1∧z1.1=8*k0+k1) (fun k1 z1=>[Ej 11 k1,El 3 96 z1.1]) (fun k1 z1=>[Mi 96 z1.1 z1.2]) (⟨(by simp),hJ0⟩) <|fun k1 z1 hk1 hz1 hJ1=>Xs [Eb 12 (decide ((((k1:Nat):Int):Int)<8))] [] 192 (v1 pT) <|Tri.seq <|Xb (fun h2 h2'=>?_) (fun h2 h2'=>?_)
 exact Tri.skip <|Tri.seq <|Tri.block <|Xs [Ej 6 k1] [12] 224 (v2 pT) <|Wu [Ej 17 (8*k1)] none [El 3 336 (z1.1+1)] [6,3] [Mi 336 (z1.1+1) (z1.2++[(IntKind.wrap .u8 (aX .u64 (p0.getD k0 0) ((8*k1:Nat):Int)))])] [96] 368 (v3 (pv pT (Yt 8 k1) (pu (Y0 ((8*k1:Nat):Int)) (v1 (pu (Yf 1) (pu (Ya (Yw 1) 1 (z1.1+1) 1 1 z1.1 z1.1) (v1 pT))))))) <|Wu [Ej 22 (k1+1)] none [Ej 11 (k1+1)] [11] [] [] 400 (pv pT (Yp k1 1) (v1 pT)) <|Xo [(96,336)] (⟨(show z1.1+1=z0.1+1*(k1+1) by omega),(show z1.1+1=8*k0+(k1+1) by omega)⟩)
 refine Tri.exit <|?_
 obtain rfl:k1=8:=(by omega);subst hz1
 exact Wu [Ej 23 (k0+1)] none [Ej 8 (k0+1)] [12,11,5,8] [] [] 224 (pv pT (Yp k0 1) (v1 pT)) <|Xo [] (show (itr (fG p0 k0) 8 (z0.1,z0.2)).1=8*(k0+1) by omega)
 refine Tri.exit <|?_
 obtain rfl:k0=4:=(by omega);subst hz0
 exact Xs [El 2 96 ((itr (dt p0) 4 (0,([]:List Int))).1)] [9,3,8,7] 160 (v2 pT) <|Xy (r':=⟨.sc (.sl 0 0 ((itr (dt p0) 4 (0,([]:List Int))).1) 1 none),[some (.ints .u8 ((itr (dt p0) 4 (0,([]:List Int))).1) ((itr (dt p0) 4 (0,([]:List Int))).2))]⟩) [(96,0)] pz (by simp only [jd,uz,aD,aA])
theorem rR (p0:List Int):(jd p0).length=32:=by
 have h1:∀ (j k:Nat) (z:Nat × List Int),(itr (fG p0 j) k z).2.length=z.2.length+k:=by
  intro j k z
  induction k with
  |zero=>rw [bl];rfl
  |succ k ih=>rw [bg];show ((itr (fG p0 j) k z).2++[_]).length=_;rw [List.length_append,ih];rfl
 have h0:∀ (k:Nat),(itr (dt p0) k (0,[])).2.length=8*k:=by
  intro k
  induction k with
  |zero=>rw [bl];rfl
  |succ k ih=>rw [bg];show (itr (fG p0 k) 8 ((itr (dt p0) k (0,[])).1,(itr (dt p0) k (0,[])).2)).2.length=_;rw [h1];show (itr (dt p0) k (0,[])).2.length+8=_;rw [ih];omega
 exact h0 4
def bS (p:List (List Int)):Nat→Nat
 |0=>0
 |k+1=>bS p k+(p.getD k []).length
theorem pL (p:List (List Int)) {k n:Nat} (h:k≤n):bS p k≤bS p n:=by
 induction n with
 |zero=>rw [Nat.le_zero.1 h];exact Nat.le_refl _
 |succ n ih =>
  by_cases e:k=n+1
  ·rw [e];exact Nat.le_refl _
  ·exact Nat.le_trans (ih (by omega)) (Nat.le_add_right _ _)
theorem ow {p:List (List Int)} {k z c:Nat} (hz:z=c+bS p k) (hk:k<p.length):z+(p.getD k []).length≤c+bS p p.length:=by
 have h:bS p k+(p.getD k []).length≤bS p p.length:=pL p (show k+1≤p.length from hk)
 omega
def eu (p0:List (List Int)) (k0:Nat) (z0:Nat × List Int):Nat × List Int :=
 (z0.1+((p0.getD k0 []).length),z0.2++(p0.getD k0 []))
def kJ (p0:List (List Int)):List Int :=
 (itr (eu p0) p0.length (0,([]:List Int))).2
theorem ux (p0:List (List Int)):(itr (eu p0) p0.length (0,[])).1=bS p0 p0.length:=by
 have h0:∀ k,(itr (eu p0) k (0,[])).1=bS p0 k:=by
  intro k
  induction k with
  |zero=>rw [bl];rfl
  |succ k ih=>rw [bg];show (itr (eu p0) k (0,[])).1+(p0.getD k []).length=bS p0 k+(p0.getD k []).length;rw [ih]
 exact h0 _
def uV:List AV→List Blk→Option (Prop × Ret)
 |[.sc (.rob p0)],[]=>some ((bS p0 p0.length≤100000∧p0.length≤100000),⟨.sc (.sl 0 0 (bS p0 p0.length) 1 none),[some (.ints .u8 (bS p0 p0.length) (kJ p0))]⟩)
 |_,_=>none
theorem uc:Known Tryz.prog gD 64 ⟨0,1,uV⟩:=by
 refine Xw Tryz.f64 17 Zn mixed <|fun E args ks C r h hC hlen=>?_
 simp only at h
 unfold uV at h
 split at h
 rotate_left
 cases h
 rename_i p0
 cases h
 simp only [ap] at hlen
 refine ⟨rfl,?_⟩
 refine Xs [] [] 32 (v1 pT) <|Xs [(3,.sc (.nils))] [] 48 (v1 pT) <|Tri.seq <|Xs [Ei 8 0,Ej 7 p0.length,(6,.sc (.rob p0))] [0] 96 (v3 pT) <|Tri.block <|Tri.sub (Sub.openNil (U:=96) (U':=112) 3 96 1 .u8 none (.inl rfl) (by decide) (by decide) (by kernel_rfl) (by kernel_rfl)) <|Xc p0.length (eu p0) (0,([]:List Int)) (fun k0 z0=>z0.1=0+bS p0 k0) (fun k0 z0=>[El 3 96 z0.1,Ej 8 k0]) (fun k0 z0=>[Mi 96 z0.1 z0.2]) rfl <|fun k0 z0 hk0 hz0 hJ0=>Xs [Eb 9 (decide ((((k0:Nat):Int):Int)<((p0.length:Nat):Int)))] [] 128 (v1 pT) <|Tri.seq <|Xb (fun h1 h1'=>?_) (fun h1 h1'=>?_)
 refine Tri.skip <|Tri.seq <|Tri.block <|Xs [Er 5 (p0.getD k0 [])] [9] 176 (pu (Yj k0 p0.length) (v2 pT)) <|Wt [El 3 208 (z0.1+((p0.getD k0 []).length))] [5,3] [Mi 208 (z0.1+((p0.getD k0 []).length)) (z0.2++(p0.getD k0 []))] [96] 240 (v2 (pu (pa (pa (pa (Yz 1) (pa (Yl 0 1) (pa (pl (show (z0.1+((p0.getD k0 []).length))*1≤140737488355328 from by (have hq:=ow hJ0 (by omega);omega))) (pl (show z0.1+((p0.getD k0 []).length)≤140737488355328 from by (have hq:=ow hJ0 (by omega);omega)))))) (lo ((p0.getD k0 []).length=((p0.getD k0 []).length)*1))) (pa (Yr 1) (lo (0+z0.1*1=z0.1)))) (v1 pT))) ?_
 exact Wu [Ej 15 (k0+1)] none [Ej 8 (k0+1)] [8] [] [] 272 (pv pT (Yp k0 1) (v1 pT)) <|Xo [(96,208)] (show z0.1+(p0.getD k0 []).length=0+(bS p0 k0+(p0.getD k0 []).length) by omega)
 refine Tri.exit <|?_
 obtain rfl:k0=p0.length:=(by omega);subst hz0
 exact Xs [El 2 96 ((itr (eu p0) p0.length (0,([]:List Int))).1)] [9,3,8,7,6] 160 (v2 pT) <|Xy (r':=⟨.sc (.sl 0 0 ((itr (eu p0) p0.length (0,([]:List Int))).1) 1 none),[some (.ints .u8 ((itr (eu p0) p0.length (0,([]:List Int))).1) ((itr (eu p0) p0.length (0,([]:List Int))).2))]⟩) [(96,0)] pz (by simp only [kJ,ux,aD,aA])
theorem sW (p0:List (List Int)):(kJ p0).length=bS p0 p0.length:=by
 have h0:∀ k,(itr (eu p0) k (0,[])).2.length=bS p0 k:=by
  intro k
  induction k with
  |zero=>rw [bl];rfl
  |succ k ih=>rw [bg];show ((itr (eu p0) k (0,[])).2++p0.getD k []).length=bS p0 k+(p0.getD k []).length;rw [List.length_append,ih]
 exact h0 _
end Go.Vm
namespace Go.Vm
open Go Go.Proofs
theorem jb {a b c:List Int} (h:a.length≤20000) (h':b.length≤20000) (h'':c.length≤20000):bS [a,b,c] [a,b,c].length≤100000∧[a,b,c].length≤100000:=⟨(show 0+a.length+b.length+c.length≤100000 by omega),(show 3≤100000 by omega)⟩
theorem rv {X:List (List Int)} (h:bS X X.length≤100000):(aC (kJ X) (bS X X.length) 0 (bS X X.length)).length≤100000000:=bC (Nat.le_trans h (by decide)) (by rw [sW];exact Nat.le_trans h (by decide))
def fo (p2:List Int) (k0:Nat) (z0:List Int):List Int :=
 z0.set (k0/8) (iOr .u64 (z0.getD (k0/8) 0) (dZ .u64 (IntKind.wrap .u64 (p2.getD (32+k0) 0)) ((8*(k0 % 8):Nat):Int)))
def pb (p0:List Int) (p1:List Int) (p2:List Int):Bool :=
 (sel ((((p2.length:Nat):Int):Int) != 64) false (sel (!(eI p0)) false (sel (!(mq (itr (fo p2) 32 [0,0,0,0]) ((nr.drop 0).take 4))) false (aY (aU (((sV (gP (nu (rr) (aC (jd (itr (fo p2) 32 [0,0,0,0])) 32 0 32)) (nu (aQ (aQ (eX p0) 0 (F18 (F30 0) (((eX p0).drop 0).take 5))) 15 (F18 (F30 0) (((eX p0).drop 15).take 5))) (aC (jd (rH (aC (oB (aC (kJ [(p2.drop 0).take 32,p0,p1]) (bS [(p2.drop 0).take 32,p0,p1] [(p2.drop 0).take 32,p0,p1].length) 0 (bS [(p2.drop 0).take 32,p0,p1] [(p2.drop 0).take 32,p0,p1].length))) 64 0 64))) 32 0 32)) (F16 (bE) (bE)))).drop 0).take 32)) (aU ((p2.drop 0).take 32))))))
def uQ:List AV→List Blk→Option (Prop × Ret)
 |[.sc (.ro .u8 p0),.sc (.ro .u8 p1),.sc (.ro .u8 p2)],[]=>some ((p1.length≤10000),⟨.sc (.b (pb p0 p1 p2)),[]⟩)
 |_,_=>none
def vC:KL Tryz.prog gD:=Zc uf 480 [.ro .u8] [464] [] <|Zv ua 768 0 <|Zc uY 816 [.val,.ro .u8] [800] [] <|Zc uY 896 [.val,.ro .u8] [880] [] <|Zv um 1024 1 <|Zc uc 464 [.rob] [448] [] <|Zc uu 864 [.ro .u8] [496] [] <|Zv uC 800 1 <|Zv uC 880 1 <|Zc ti 96 [.ro .u8] [] [] <|Zv tF 720 0 <|Zv K16 944 2 <|Zv K30 528 1 <|Zv K30 592 1 <|Zv sk 960 3 <|Zv tR 336 2 <|Zv K18 576 2 <|Zv K18 640 2 <|Zn
theorem uw:Known Tryz.prog gD 82 ⟨0,0,uQ⟩:=by
 refine Xw Tryz.f82 88 vC mixed <|fun E args ks C r h hC hlen=>?_
 simp only at h
 unfold uQ at h
 split at h
 rotate_left
 cases h
 rename_i p0 p1 p2
 cases h
 simp only [ap] at hlen
 refine ⟨rfl,?_⟩
 refine Xs [] [] 32 (v1 pT) <|Tri.seq <|Xs [Eb 16 ((((p2.length:Nat):Int):Int) != 64)] [] 80 (v3 pT) <|Xa (fun h1=>?_) (fun h1=>?_)
 have h1':=bT h1
 exact Xs [Eb 6 false] [16,0,1,2] 96 (v1 pT) <|Xy [] pz (by simp only [pb,h1,aD,aA] <;> rfl)
 have h1':=bB h1
 refine Tri.skip <|Xt [Eb 8 (eI p0),Ep 7 160] [16] [Mk 160 .u64 20 (eX p0)] [] 208 (v1 (pu (pa pz pT) (v4 (pu (Yz 20) (v1 pT))))) <|Xt [Ep 9 208] [] [Mk 208 .u64 4 [0,0,0,0]] [] 224 (v1 pT) <|Tri.seq <|Xs [Ei 22 0] [] 240 (v1 pT) <|Tri.block <|Xc 32 (fo p2) [0,0,0,0] (fun k0 z0=>rng z0) (fun k0 z0=>[Ej 22 k0]) (fun k0 z0=>[Mk 208 .u64 4 z0]) mm <|fun k0 z0 hk0 hz0 hJ0=>Xs [Eb 23 (decide ((((k0:Nat):Int):Int)<32))] [] 256 (v1 pT) <|Tri.seq <|Xb (fun h2 h2'=>?_) (fun h2 h2'=>?_)
 exact Tri.skip <|Tri.seq <|Tri.block <|Xs [Ej 10 k0] [23] 288 (v2 pT) <|Wu [Ej 26 (k0/8),Ej 31 (32+k0),Ej 36 (k0 % 8),Ej 37 (8*(k0 % 8))] (some [0,1,3,7,0,0,32,112,240,496,0,1024,3072,8176,16383,32767,65535]) [] [10] [Mk 208 .u64 4 (z0.set (k0/8) (iOr .u64 (z0.getD (k0/8) 0) (dZ .u64 (IntKind.wrap .u64 (p2.getD (32+k0) 0)) ((8*(k0 % 8):Nat):Int))))] [208] 560 (v1 (pv (Yn 8) (pl (cb (a:=k0) (b:=8) (by omega))) (pu (Yj (k0/8) 4) (pu (Yl (k0/8) 4) (v2 (pv pT (Yp 32 k0) (pu (Yj (32+k0) p2.length) (pu (Yl (32+k0) p2.length) (v2 (pv (Yn 8) (pl (cI (a:=k0) (b:=8))) (pv pT (Yt 8 (k0 % 8)) (pu (Y0 ((8*(k0 % 8):Nat):Int)) (v1 (pu (Yj (k0/8) 4) (pu (Ys (k0/8) 4) pT))))))))))))))) <|Wu [Ej 41 (k0+1)] none [Ej 22 (k0+1)] [22] [] [] 592 (pv pT (Yp k0 1) (v1 pT)) <|Xo [] (show rng (List.set _ _ _) from fW hJ0 (dl _))
 refine Tri.exit <|?_
 obtain rfl:k0=32:=(by omega);subst hz0
 refine Tri.seq <|Tri.split (!(eI p0)) (fun h3=>?_) (fun h3=>?_)
 exact Xu [Eb 44 true] none [Eb 49 true] [23,22,8] [] [] 384 (v2 (pg h3 (v5 pT))) <|Tri.cond_true (by kernel_rfl) <|Xt [Eb 6 false] [49,9,7,0,1,2] [] [208,160] 400 (v1 pT) <|Xy [] pz (by simp only [pb,h1,h3,aD,aA] <;> rfl)
 refine Xu [Eb 44 false] none [Eb 49 (!(mq (itr (fo p2) 32 [0,0,0,0]) ((nr.drop 0).take 4)))] [23,22,8] [] [] 384 (v2 (pg h3 (v1 (pu (Ye (0+4) nr.length) (pu (pa pT (pl (show rng (itr (fo p2) 32 [0,0,0,0])∧rng ((nr.drop 0).take 4) from ⟨hJ0,jy⟩))) (v2 pT)))))) <|Xa (fun h4=>?_) (fun h4=>?_)
 exact Xt [Eb 6 false] [49,9,7,0,1,2] [] [208,160] 400 (v1 pT) <|Xy [] pz (by simp only [pb,h1,h3,h4,aD,aA] <;> rfl)
 refine Tri.skip <|Tri.len 208 rfl <|fun hl5=>Tri.len 160 rfl <|fun hl6=>Xt [Ep 11 496] [49,0,1] [Mi 496 64 (oB (aC (kJ [(p2.drop 0).take 32,p0,p1]) (bS [(p2.drop 0).take 32,p0,p1] [(p2.drop 0).take 32,p0,p1].length) 0 (bS [(p2.drop 0).take 32,p0,p1] [(p2.drop 0).take 32,p0,p1].length)))] [] 528 (v1 (pu (lo ((0:Int)≤0∧(0:Int)≤32∧32≤(p2.length:Int))) (v2 (pu (Yf 3) (pu (pa (pa (pa (ld (0+3≤3)) (pa pT (pa pT pz))) pT) (pl (show bS [(p2.drop 0).take 32,p0,p1] [(p2.drop 0).take 32,p0,p1].length≤100000∧[(p2.drop 0).take 32,p0,p1].length≤100000 from by exact jb (by first|omega|(have hl:=iL (p0:=p0) (by assumption);omega)|exact bC (by omega) (by omega)|(rw [List.length_take];omega)) (by first|omega|(have hl:=iL (p0:=p0) (by assumption);omega)|exact bC (by omega) (by omega)|(rw [List.length_take];omega)) (by first|omega|(have hl:=iL (p0:=p0) (by assumption);omega)|exact bC (by omega) (by omega)|(rw [List.length_take];omega))))) (pu (pa (pa (Yw (bS [(p2.drop 0).take 32,p0,p1] [(p2.drop 0).take 32,p0,p1].length)) pT) (pl (show (aC (kJ [(p2.drop 0).take 32,p0,p1]) (bS [(p2.drop 0).take 32,p0,p1] [(p2.drop 0).take 32,p0,p1].length) 0 (bS [(p2.drop 0).take 32,p0,p1] [(p2.drop 0).take 32,p0,p1].length)).length≤100000000 from by exact rv (jb (by first|omega|(have hl:=iL (p0:=p0) (by assumption);omega)|exact bC (by omega) (by omega)|(rw [List.length_take];omega)) (by first|omega|(have hl:=iL (p0:=p0) (by assumption);omega)|exact bC (by omega) (by omega)|(rw [List.length_take];omega)) (by first|omega|(have hl:=iL (p0:=p0) (by assumption);omega)|exact bC (by omega) (by omega)|(rw [List.length_take];omega))).1))) (v1 (pu (Yz 64) pT)))))))) ?_
 refine Xu [] (some [0,0,2,7,15,0,32,127,111,511,1023,2047]) [] [] [Mk 160 .u64 20 (aQ (aQ (eX p0) 0 (F18 (F30 0) (((eX p0).drop 0).take 5))) 15 (F18 (F30 0) (((eX p0).drop 15).take 5)))] [160] 720 (pu pz (v1 (pu (Ye (0+5) 20) (pu pz (pu pz (v1 (pu (Ye (15+5) 20) (pu pz (v1 (pu (pa (Ye (0+5) 20) (Yr 5)) (v1 (pu (pa (Ye (15+5) 20) (Yr 5)) pT)))))))))))) <|Xt [Ep 12 736] [] [Mk 736 .u64 5 (bE)] [] 768 (pu pz (v1 (pu (Yz 5) pT))) <|Tri.len 736 rfl <|fun hl7=>Tri.len 160 rfl <|fun hl8=>Tri.len 496 rfl <|fun hl9=>Tri.len 208 rfl <|fun hl10=>Xu [] (some [0,0,3,7,0,0,47,111,255,0,0,2047,4095,0,16383]) [Ep 13 976] [12,11,9,7] [Mk 976 .u64 20 (gP (nu (rr) (aC (jd (itr (fo p2) 32 [0,0,0,0])) 32 0 32)) (nu (aQ (aQ (eX p0) 0 (F18 (F30 0) (((eX p0).drop 0).take 5))) 15 (F18 (F30 0) (((eX p0).drop 15).take 5))) (aC (jd (rH (aC (oB (aC (kJ [(p2.drop 0).take 32,p0,p1]) (bS [(p2.drop 0).take 32,p0,p1] [(p2.drop 0).take 32,p0,p1].length) 0 (bS [(p2.drop 0).take 32,p0,p1] [(p2.drop 0).take 32,p0,p1].length))) 64 0 64))) 32 0 32)) (F16 (bE) (bE)))] [736,160,496,208] 1008 (pu pz (v1 (pu pz (pu (pa (pa (Yw 32) pT) (pl (show (aC (jd (itr (fo p2) 32 [0,0,0,0])) 32 0 32).length≤1000000 from by exact bC (by decide) (by rw [rR];decide)))) (v1 (pu (pa (lo ((0:Int)≤0∧(0:Int)≤64∧64≤((64:Nat):Int))) (Ye 64 64)) (pu (pa (pa (Yw 64) pT) (Ye ((aC (oB (aC (kJ [(p2.drop 0).take 32,p0,p1]) (bS [(p2.drop 0).take 32,p0,p1] [(p2.drop 0).take 32,p0,p1].length) 0 (bS [(p2.drop 0).take 32,p0,p1] [(p2.drop 0).take 32,p0,p1].length))) 64 0 64).length) 1000000)) (pu pz (pu (pa (pa (Yw 32) pT) (pl (show (aC (jd (rH (aC (oB (aC (kJ [(p2.drop 0).take 32,p0,p1]) (bS [(p2.drop 0).take 32,p0,p1] [(p2.drop 0).take 32,p0,p1].length) 0 (bS [(p2.drop 0).take 32,p0,p1] [(p2.drop 0).take 32,p0,p1].length))) 64 0 64))) 32 0 32).length≤1000000 from by exact bC (by decide) (by rw [rR];decide)))) (v2 (pu pz (pu pz (v1 (pu (Yz 20) pT)))))))))))))) ?_
 exact Tri.len 976 rfl <|fun hl11=>Xu [] (some [0,1,3,0,8,24,63,127]) [Eb 6 (aY (aU (((sV (gP (nu (rr) (aC (jd (itr (fo p2) 32 [0,0,0,0])) 32 0 32)) (nu (aQ (aQ (eX p0) 0 (F18 (F30 0) (((eX p0).drop 0).take 5))) 15 (F18 (F30 0) (((eX p0).drop 15).take 5))) (aC (jd (rH (aC (oB (aC (kJ [(p2.drop 0).take 32,p0,p1]) (bS [(p2.drop 0).take 32,p0,p1] [(p2.drop 0).take 32,p0,p1].length) 0 (bS [(p2.drop 0).take 32,p0,p1] [(p2.drop 0).take 32,p0,p1].length))) 64 0 64))) 32 0 32)) (F16 (bE) (bE)))).drop 0).take 32)) (aU ((p2.drop 0).take 32)))] [13,2] [] [976] 1136 (v1 (pu pz (pu (Yw 32) (v1 (pu (lo ((0:Int)≤0∧(0:Int)≤32∧32≤(p2.length:Int))) (v3 pT)))))) <|Xy [] pz (by simp only [pb,h1,h3,h4,aD,aA] <;> rfl)
end Go.Vm
namespace Go.Vm
open Go Go.Proofs
theorem nH (p:List Int) (o:Nat) (h:o+32≤64):(aC (cz p) 64 o 32).length=32:=by
 rw [fP (lN p),List.length_take,List.length_drop,lN]
 omega
def bq (p0:List Int) (p1:List Int):List Int :=
 (F19 p0 p1)
def uK:List AV→List Blk→Option (Prop × Ret)
 |[.ints .i64 16 p0,.ints .i64 16 p1],[]=>some (True,⟨.ints .i64 16 (bq p0 p1),[]⟩)
 |_,_=>none
theorem rn:Known Tryz.prog gD 89 ⟨0,0,uK⟩:=by
 refine Xw Tryz.f89 8 (Zv K19 96 2 <|Zn) mixed <|fun E args ks C r h hC hlen=>?_
 simp only at h
 unfold uK at h
 split at h
 rotate_left
 cases h
 rename_i p0 p1
 cases h
 simp only [ap] at hlen
 refine ⟨rfl,?_⟩
 exact Xt [Ep 4 48,Ep 3 32,Ep 2 16] [0,1] [Mk 48 .i64 16 [0,0,0,0,0,0,0,0,0,0,0,0,0,0,0,0],Mk 32 .i64 16 p1,Mk 16 .i64 16 p0] [] 64 (v3 pT) <|Xt [] [3,2] [Mk 48 .i64 16 (F19 p0 p1)] [48,32,16] 128 (v2 (pu pz (pu (Yz 16) pT))) <|Xz [] pz
def ag (p0:Int):List Int :=
 (F31 p0)
def ta:List AV→List Blk→Option (Prop × Ret)
 |[.sc (.i .i64 p0)],[]=>some (True,⟨.ints .i64 16 (ag p0),[]⟩)
 |_,_=>none
theorem jM:Known Tryz.prog gD 90 ⟨0,0,ta⟩:=by
 refine Xw Tryz.f90 5 (Zv K31 48 1 <|Zn) mixed <|fun E args ks C r h hC hlen=>?_
 simp only at h
 unfold ta at h
 split at h
 rotate_left
 cases h
 rename_i p0
 cases h
 simp only [ap] at hlen
 refine ⟨rfl,?_⟩
 exact Xt [Ep 2 16] [] [Mk 16 .i64 16 [0,0,0,0,0,0,0,0,0,0,0,0,0,0,0,0]] [] 32 (v1 pT) <|Xt [] [0] [Mk 16 .i64 16 (F31 p0)] [16] 80 (v1 (pu pz (pu (Yz 16) pT))) <|Xz [] pz
def aF (p0:List Int) (p1:List Int):List Int :=
 (F21 p0 p1)
def tn:List AV→List Blk→Option (Prop × Ret)
 |[.ints .i64 16 p0,.ints .i64 16 p1],[]=>some (True,⟨.ints .i64 16 (aF p0 p1),[]⟩)
 |_,_=>none
theorem fL:Known Tryz.prog gD 95 ⟨0,0,tn⟩:=by
 refine Xw Tryz.f95 8 (Zv K21 96 2 <|Zn) mixed <|fun E args ks C r h hC hlen=>?_
 simp only at h
 unfold tn at h
 split at h
 rotate_left
 cases h
 rename_i p0 p1
 cases h
 simp only [ap] at hlen
 refine ⟨rfl,?_⟩
 exact Xt [Ep 4 48,Ep 3 32,Ep 2 16] [0,1] [Mk 48 .i64 16 [0,0,0,0,0,0,0,0,0,0,0,0,0,0,0,0],Mk 32 .i64 16 p1,Mk 16 .i64 16 p0] [] 64 (v3 pT) <|Xt [] [3,2] [Mk 48 .i64 16 (F21 p0 p1)] [48,32,16] 128 (v2 (pu pz (pu (Yz 16) pT))) <|Xz [] pz
def cD (p0:List Int) (p1:List Int):List Int :=
 (F17 p0 p1)
def th:List AV→List Blk→Option (Prop × Ret)
 |[.ints .i64 16 p0,.ints .i64 16 p1],[]=>some (True,⟨.ints .i64 16 (cD p0 p1),[]⟩)
 |_,_=>none
theorem sD:Known Tryz.prog gD 119 ⟨0,0,th⟩:=by
 refine Xw Tryz.f119 8 (Zv K17 96 2 <|Zn) mixed <|fun E args ks C r h hC hlen=>?_
 simp only at h
 unfold th at h
 split at h
 rotate_left
 cases h
 rename_i p0 p1
 cases h
 simp only [ap] at hlen
 refine ⟨rfl,?_⟩
 exact Xt [Ep 4 48,Ep 3 32,Ep 2 16] [0,1] [Mk 48 .i64 16 [0,0,0,0,0,0,0,0,0,0,0,0,0,0,0,0],Mk 32 .i64 16 p1,Mk 16 .i64 16 p0] [] 64 (v3 pT) <|Xt [] [3,2] [Mk 48 .i64 16 (F17 p0 p1)] [48,32,16] 128 (v2 (pu pz (pu (Yz 16) pT))) <|Xz [] pz
def cS:List Int :=
 (bq (ag 0) (aF (ag 121665) (F28 (ag 121666))))
def tq:List AV→List Blk→Option (Prop × Ret)
 |[],[]=>some (True,⟨.ints .i64 16 (cS),[]⟩)
 |_,_=>none
theorem uR:Known Tryz.prog gD 92 ⟨0,0,tq⟩:=by
 refine Xw Tryz.f92 7 (Zv rn 112 2 <|Zv jM 32 1 <|Zv jM 48 1 <|Zv jM 64 1 <|Zv K28 80 1 <|Zv fL 96 2 <|Zn) mixed <|fun E args ks C r h hC hlen=>?_
 simp only at h
 unfold tq at h
 split at h
 rotate_left
 cases h
 cases h
 simp only [ap] at hlen
 refine ⟨rfl,?_⟩
 exact Xt [Ep 0 16] [] [Mk 16 .i64 16 [0,0,0,0,0,0,0,0,0,0,0,0,0,0,0,0]] [] 32 (v1 pT) <|Xt [] [] [Mk 16 .i64 16 (bq (ag 0) (aF (ag 121665) (F28 (ag 121666))))] [16] 144 (pu pz (pu pz (pu pz (pu pz (pu pz (pu pz (pu (Yz 16) pT))))))) <|Xz [] pz
def oO (p0:List Int) (p1:List Int) (p2:List Int):List Int :=
 aQ (aQ (aQ [0,0,0,0,0,0,0,0,0,0,0,0,0,0,0,0,0,0,0,0,0,0,0,0,0,0,0,0,0,0,0,0,0,0,0,0,0,0,0,0,0,0,0,0,0,0,0,0] 0 (aF (aF (cD (aF ((p0.drop 0).take 16) ((p1.drop 16).take 16)) (aF ((p1.drop 0).take 16) ((p0.drop 16).take 16))) (aF ((p0.drop 32).take 16) ((p1.drop 32).take 16))) (bq (aF (aF ((p0.drop 32).take 16) ((p1.drop 32).take 16)) (aF ((p0.drop 32).take 16) ((p1.drop 32).take 16))) (aF p2 (aF (aF ((p0.drop 0).take 16) ((p1.drop 0).take 16)) (aF ((p0.drop 16).take 16) ((p1.drop 16).take 16))))))) 16 (aF (aF (cD (aF ((p0.drop 16).take 16) ((p1.drop 16).take 16)) (aF ((p0.drop 0).take 16) ((p1.drop 0).take 16))) (aF ((p0.drop 32).take 16) ((p1.drop 32).take 16))) (cD (aF (aF ((p0.drop 32).take 16) ((p1.drop 32).take 16)) (aF ((p0.drop 32).take 16) ((p1.drop 32).take 16))) (aF p2 (aF (aF ((p0.drop 0).take 16) ((p1.drop 0).take 16)) (aF ((p0.drop 16).take 16) ((p1.drop 16).take 16))))))) 32 (aF (cD (aF (aF ((p0.drop 32).take 16) ((p1.drop 32).take 16)) (aF ((p0.drop 32).take 16) ((p1.drop 32).take 16))) (aF p2 (aF (aF ((p0.drop 0).take 16) ((p1.drop 0).take 16)) (aF ((p0.drop 16).take 16) ((p1.drop 16).take 16))))) (bq (aF (aF ((p0.drop 32).take 16) ((p1.drop 32).take 16)) (aF ((p0.drop 32).take 16) ((p1.drop 32).take 16))) (aF p2 (aF (aF ((p0.drop 0).take 16) ((p1.drop 0).take 16)) (aF ((p0.drop 16).take 16) ((p1.drop 16).take 16))))))
def tv:List AV→List Blk→Option (Prop × Ret)
 |[.ints .i64 48 p0,.ints .i64 48 p1,.ints .i64 16 p2],[]=>some (True,⟨.ints .i64 48 (oO p0 p1 p2),[]⟩)
 |_,_=>none
def uZ:KL Tryz.prog gD:=Zv rn 896 2 <|Zv fL 144 2 <|Zv fL 224 2 <|Zv fL 304 2 <|Zv fL 480 2 <|Zv fL 560 2 <|Zv fL 672 2 <|Zv fL 688 2 <|Zv fL 768 2 <|Zv fL 1008 2 <|Zv fL 1040 2 <|Zv fL 1120 2 <|Zv fL 1152 2 <|Zv fL 1200 2 <|Zv sD 576 2 <|Zv sD 848 2 <|Zv sD 1088 2 <|Zn
theorem tp:Known Tryz.prog gD 91 ⟨0,0,tv⟩:=by
 refine Xw Tryz.f91 71 uZ mixed <|fun E args ks C r h hC hlen=>?_
 simp only at h
 unfold tv at h
 split at h
 rotate_left
 cases h
 rename_i p0 p1 p2
 cases h
 simp only [ap] at hlen
 refine ⟨rfl,?_⟩
 exact Xt [Ep 6 64,Ep 5 48,Ep 4 32,Ep 3 16] [0,1,2] [Mk 64 .i64 48 [0,0,0,0,0,0,0,0,0,0,0,0,0,0,0,0,0,0,0,0,0,0,0,0,0,0,0,0,0,0,0,0,0,0,0,0,0,0,0,0,0,0,0,0,0,0,0,0],Mk 48 .i64 16 p2,Mk 32 .i64 48 p1,Mk 16 .i64 48 p0] [] 80 (v4 pT) <|Xu [] (some [0,1,0,4,15,0,32,0,128,511,0,1024,0,4096,16383,0,0,0,262143,524287,1048575]) [Ep 9 352,Ep 8 336,Ep 7 320] [] [Mk 352 .i64 16 (aF ((p0.drop 32).take 16) ((p1.drop 32).take 16)),Mk 336 .i64 16 (aF ((p0.drop 16).take 16) ((p1.drop 16).take 16)),Mk 320 .i64 16 (aF ((p0.drop 0).take 16) ((p1.drop 0).take 16))] [] 416 (v1 (pu (Ye (0+16) 48) (v1 (pu (Ye (0+16) 48) (pu pz (v1 (pu (Ye (16+16) 48) (v1 (pu (Ye (16+16) 48) (pu pz (v1 (pu (Ye (32+16) 48) (v1 (pu (Ye (32+16) 48) (pu pz (v3 (pu (Yz 16) (pu (Yz 16) (pu (Yz 16) pT))))))))))))))))))) <|Xu [] (some [0,1,0,4,15,0,32,0,128,511,1023,0,4095]) [Ep 10 592] [4,3] [Mk 592 .i64 16 (cD (aF ((p0.drop 0).take 16) ((p1.drop 16).take 16)) (aF ((p1.drop 0).take 16) ((p0.drop 16).take 16)))] [32,16] 624 (v1 (pu (Ye (0+16) 48) (v1 (pu (Ye (16+16) 48) (pu pz (v1 (pu (Ye (0+16) 48) (v1 (pu (Ye (16+16) 48) (pu pz (pu pz (v1 (pu (Yz 16) pT))))))))))))) <|Xu [] (some [0,0,0,6,15,0,63]) [Ep 11 704] [5] [Mk 704 .i64 16 (aF p2 (aF (aF ((p0.drop 0).take 16) ((p1.drop 0).take 16)) (aF ((p0.drop 16).take 16) ((p1.drop 16).take 16))))] [48] 736 (v3 (pu pz (pu pz (v1 (pu (Yz 16) pT))))) <|Xt [Ep 12 784] [] [Mk 784 .i64 16 (aF (aF ((p0.drop 32).take 16) ((p1.drop 32).take 16)) (aF ((p0.drop 32).take 16) ((p1.drop 32).take 16)))] [] 816 (v2 (pu pz (v1 (pu (Yz 16) pT)))) <|Xu [] (some [0,0,3,0,0,31,0,0,255,511]) [Ep 14 928,Ep 13 912] [12,11] [Mk 928 .i64 16 (bq (aF (aF ((p0.drop 32).take 16) ((p1.drop 32).take 16)) (aF ((p0.drop 32).take 16) ((p1.drop 32).take 16))) (aF p2 (aF (aF ((p0.drop 0).take 16) ((p1.drop 0).take 16)) (aF ((p0.drop 16).take 16) ((p1.drop 16).take 16))))),Mk 912 .i64 16 (cD (aF (aF ((p0.drop 32).take 16) ((p1.drop 32).take 16)) (aF ((p0.drop 32).take 16) ((p1.drop 32).take 16))) (aF p2 (aF (aF ((p0.drop 0).take 16) ((p1.drop 0).take 16)) (aF ((p0.drop 16).take 16) ((p1.drop 16).take 16)))))] [784,704] 976 (v2 (pu pz (v2 (pu pz (v2 (pu (Yz 16) (pu (Yz 16) pT))))))) <|Xu [] (some [0,0,3,0,15,0,0,127,0,511,0,2047,0,0,16383,32767,65535]) [] [14,13,10,9,8,7] [Mk 64 .i64 48 (aQ (aQ (aQ [0,0,0,0,0,0,0,0,0,0,0,0,0,0,0,0,0,0,0,0,0,0,0,0,0,0,0,0,0,0,0,0,0,0,0,0,0,0,0,0,0,0,0,0,0,0,0,0] 0 (aF (aF (cD (aF ((p0.drop 0).take 16) ((p1.drop 16).take 16)) (aF ((p1.drop 0).take 16) ((p0.drop 16).take 16))) (aF ((p0.drop 32).take 16) ((p1.drop 32).take 16))) (bq (aF (aF ((p0.drop 32).take 16) ((p1.drop 32).take 16)) (aF ((p0.drop 32).take 16) ((p1.drop 32).take 16))) (aF p2 (aF (aF ((p0.drop 0).take 16) ((p1.drop 0).take 16)) (aF ((p0.drop 16).take 16) ((p1.drop 16).take 16))))))) 16 (aF (aF (cD (aF ((p0.drop 16).take 16) ((p1.drop 16).take 16)) (aF ((p0.drop 0).take 16) ((p1.drop 0).take 16))) (aF ((p0.drop 32).take 16) ((p1.drop 32).take 16))) (cD (aF (aF ((p0.drop 32).take 16) ((p1.drop 32).take 16)) (aF ((p0.drop 32).take 16) ((p1.drop 32).take 16))) (aF p2 (aF (aF ((p0.drop 0).take 16) ((p1.drop 0).take 16)) (aF ((p0.drop 16).take 16) ((p1.drop 16).take 16))))))) 32 (aF (cD (aF (aF ((p0.drop 32).take 16) ((p1.drop 32).take 16)) (aF ((p0.drop 32).take 16) ((p1.drop 32).take 16))) (aF p2 (aF (aF ((p0.drop 0).take 16) ((p1.drop 0).take 16)) (aF ((p0.drop 16).take 16) ((p1.drop 16).take 16))))) (bq (aF (aF ((p0.drop 32).take 16) ((p1.drop 32).take 16)) (aF ((p0.drop 32).take 16) ((p1.drop 32).take 16))) (aF p2 (aF (aF ((p0.drop 0).take 16) ((p1.drop 0).take 16)) (aF ((p0.drop 16).take 16) ((p1.drop 16).take 16)))))))] [928,912,592,352,336,320,64] 1248 (v2 (pu pz (v1 (pu pz (v2 (pu pz (v1 (pu pz (v1 (pu pz (v2 (pu pz (pu (pa (pa (Ye (0+16) 48) (Yr 16)) (pa (pa (Ye (16+16) 48) (Yr 16)) (pa (pa (Ye (32+16) 48) (Yr 16)) pT))) (pu (Yz 48) pT)))))))))))))) <|Xz [] pz
def oH (p0:List Int) (k0:Nat) (z0:List Int × List Int):List Int × List Int :=
 ((sel (((cF (aX .u8 (p0.getD (k0/8) 0) ((k0 % 8:Nat):Int)) 2):Int)==1) (oO z0.1 z0.2 (cS)) z0.1),(oO z0.2 z0.2 (cS)))
def se (p0:List Int) (p1:List Int):List Int :=
 (itr (oH p0) (8*p0.length) (aQ (aQ [0,0,0,0,0,0,0,0,0,0,0,0,0,0,0,0,0,0,0,0,0,0,0,0,0,0,0,0,0,0,0,0,0,0,0,0,0,0,0,0,0,0,0,0,0,0,0,0] 16 (ag 1)) 32 (ag 1),p1)).1
def uW:List AV→List Blk→Option (Prop × Ret)
 |[.sc (.ro .u8 p0),.ints .i64 48 p1],[]=>some ((p0.length≤1000000),⟨.ints .i64 48 (se p0 p1),[]⟩)
 |_,_=>none
theorem ui:Known Tryz.prog gD 55 ⟨0,0,uW⟩:=by
 refine Xw Tryz.f55 38 (Zv jM 96 1 <|Zv jM 112 1 <|Zv tp 480 3 <|Zv tp 560 3 <|Zv uR 48 0 <|Zn) mixed <|fun E args ks C r h hC hlen=>?_
 simp only at h
 unfold uW at h
 split at h
 rotate_left
 cases h
 rename_i p0 p1
 cases h
 simp only [ap] at hlen
 refine ⟨rfl,?_⟩
 refine Xt [Ep 4 32,Ep 3 16] [1] [Mk 32 .i64 48 [0,0,0,0,0,0,0,0,0,0,0,0,0,0,0,0,0,0,0,0,0,0,0,0,0,0,0,0,0,0,0,0,0,0,0,0,0,0,0,0,0,0,0,0,0,0,0,0],Mk 16 .i64 48 p1] [] 48 (v2 pT) <|Xt [Ep 5 64] [] [Mk 64 .i64 16 (cS)] [] 96 (pu pz (v1 (pu (Yz 16) pT))) <|Xt [Ep 6 144] [] [Mk 144 .i64 48 (aQ (aQ [0,0,0,0,0,0,0,0,0,0,0,0,0,0,0,0,0,0,0,0,0,0,0,0,0,0,0,0,0,0,0,0,0,0,0,0,0,0,0,0,0,0,0,0,0,0,0,0] 16 (ag 1)) 32 (ag 1))] [] 176 (pu pz (pu pz (pu (pa (pa (Ye (16+16) 48) (Yr 16)) (pa (pa (Ye (32+16) 48) (Yr 16)) pT)) (v1 (pu (Yz 48) pT))))) <|Tri.seq <|Xs [Ei 7 0] [] 192 (v1 pT) <|Tri.block <|Xc (8*p0.length) (oH p0) (aQ (aQ [0,0,0,0,0,0,0,0,0,0,0,0,0,0,0,0,0,0,0,0,0,0,0,0,0,0,0,0,0,0,0,0,0,0,0,0,0,0,0,0,0,0,0,0,0,0,0,0] 16 (ag 1)) 32 (ag 1),p1) (fun k0 z0=>True) (fun k0 z0=>[Ej 7 k0]) (fun k0 z0=>[Mk 144 .i64 48 z0.1,Mk 16 .i64 48 z0.2]) trivial <|fun k0 z0 hk0 hz0 hJ0=>Tri.seq <|Xu [Ej 15 (8*p0.length)] none [Eb 16 (decide ((((k0:Nat):Int):Int)<((8*p0.length:Nat):Int)))] [] [] [] 272 (v3 (pv pT (Yt 8 p0.length) (v1 pT))) <|Xb (fun h1 h1'=>?_) (fun h1 h1'=>?_)
 refine Tri.skip <|Tri.seq <|Tri.block <|Tri.seq <|Xu [Ej 21 (k0/8),Ej 25 (k0 % 8)] none [Eb 28 (((cF (aX .u8 (p0.getD (k0/8) 0) ((k0 % 8:Nat):Int)) 2):Int)==1)] [16] [] [] 432 (v2 (pv (Yn 8) (pl (cb (a:=k0) (b:=8) (by omega))) (pu (Yj (k0/8) p0.length) (pu (Yl (k0/8) p0.length) (v1 (pv (Yn 8) (pl (cI (a:=k0) (b:=8))) (pu (Y0 ((k0 % 8:Nat):Int)) (pu (Yn 2) (v1 pT))))))))) <|Xj (x:=(((cF (aX .u8 (p0.getD (k0/8) 0) ((k0 % 8:Nat):Int)) 2):Int)==1)) (fun bb=>[]) [28] (fun bb=>[Mk 144 .i64 48 (sel bb (oO z0.1 z0.2 (cS)) z0.1)]) [144] 512 (fun h2=>?_) (fun h2=>?_) ?_
 have h2':=bv h2
 exact Wt [] [28] [Mk 144 .i64 48 (oO z0.1 z0.2 (cS))] [144] 512 (v3 (pu pz (pu (Yz 48) pT))) <|Xe [] [Mk 144 .i64 48 (oO z0.1 z0.2 (cS))]
 have h2':=bn h2
 exact Tri.skip <|Xe [] [Mk 144 .i64 48 z0.1]
 exact Wt [] [] [Mk 16 .i64 48 (oO z0.2 z0.2 (cS))] [16] 592 (v3 (pu pz (pu (Yz 48) pT))) <|Wu [Ej 18 (k0+1)] none [Ej 7 (k0+1)] [7] [] [] 640 (v1 (pv pT (Yp k0 1) (v1 pT))) <|Xo [] trivial
 refine Tri.exit <|?_
 obtain rfl:k0=(8*p0.length):=(by omega);subst hz0
 exact Xt [] [16,7,6,5,3,0] [Mk 32 .i64 48 ((itr (oH p0) (8*p0.length) (aQ (aQ [0,0,0,0,0,0,0,0,0,0,0,0,0,0,0,0,0,0,0,0,0,0,0,0,0,0,0,0,0,0,0,0,0,0,0,0,0,0,0,0,0,0,0,0,0,0,0,0] 16 (ag 1)) 32 (ag 1),p1)).1)] [144,64,32,16] 304 (v1 (pu (Yz 48) pT)) <|Xz [] pz
def tN (p0:List Int):List Int :=
 (sel (((cF ((aF ((p0.drop 0).take 16) (F28 ((p0.drop 32).take 16))).getD 0 0) 2):Int)==1) ((F49 (aF ((p0.drop 16).take 16) (F28 ((p0.drop 32).take 16)))).set 31 (aJ .u8 ((F49 (aF ((p0.drop 16).take 16) (F28 ((p0.drop 32).take 16)))).getD 31 0) 128)) (F49 (aF ((p0.drop 16).take 16) (F28 ((p0.drop 32).take 16)))))
def tV:List AV→List Blk→Option (Prop × Ret)
 |[.ints .i64 48 p0],[]=>some (True,⟨.sc (.sl 0 0 32 1 none),[some (.ints .u8 32 (tN p0))]⟩)
 |_,_=>none
theorem uq:Known Tryz.prog gD 54 ⟨0,1,tV⟩:=by
 refine Xw Tryz.f54 26 (Zv K28 80 1 <|Zv K49 192 1 <|Zv fL 176 2 <|Zv fL 272 2 <|Zn) mixed <|fun E args ks C r h hC hlen=>?_
 simp only at h
 unfold tV at h
 split at h
 rotate_left
 cases h
 rename_i p0
 cases h
 simp only [ap] at hlen
 refine ⟨rfl,?_⟩
 refine Xt [Ep 1 16] [0] [Mk 16 .i64 48 p0] [] 48 (v2 pT) <|Xt [Ep 3 96] [] [Mk 96 .i64 16 (F28 ((p0.drop 32).take 16))] [] 128 (v1 (pu (Ye (32+16) 48) (pu pz (v1 (pu (Yz 16) pT))))) <|Xt [El 4 192 32] [] [Mi 192 32 (F49 (aF ((p0.drop 16).take 16) (F28 ((p0.drop 32).take 16))))] [] 224 (v1 (pu (Ye (16+16) 48) (v1 (pu pz (pu pz (v1 pT)))))) <|Tri.seq <|Xt [Eb 19 (((cF ((aF ((p0.drop 0).take 16) (F28 ((p0.drop 32).take 16))).getD 0 0) 2):Int)==1)] [3,1] [] [96,16] 336 (v1 (pu (Ye (0+16) 48) (v1 (pu pz (pu (pa (Yi 0 16) (Yl 0 16)) (pu (Yn 2) (v1 pT))))))) <|Xj (x:=(((cF ((aF ((p0.drop 0).take 16) (F28 ((p0.drop 32).take 16))).getD 0 0) 2):Int)==1)) (fun bb=>[]) [19] (fun bb=>[Mi 192 32 (sel bb ((F49 (aF ((p0.drop 16).take 16) (F28 ((p0.drop 32).take 16)))).set 31 (aJ .u8 ((F49 (aF ((p0.drop 16).take 16) (F28 ((p0.drop 32).take 16)))).getD 31 0) 128)) (F49 (aF ((p0.drop 16).take 16) (F28 ((p0.drop 32).take 16)))))]) [192] 432 (fun h1=>?_) (fun h1=>?_) ?_
 have h1':=bv h1
 exact Wt [] [19] [Mi 192 32 ((F49 (aF ((p0.drop 16).take 16) (F28 ((p0.drop 32).take 16)))).set 31 (aJ .u8 ((F49 (aF ((p0.drop 16).take 16) (F28 ((p0.drop 32).take 16)))).getD 31 0) 128))] [192] 432 (v1 (pu (Yi 31 32) (pu (Yl 31 32) (v1 (pu (Yi 31 32) (pu (Ys 31 32) pT)))))) <|Xe [] [Mi 192 32 ((F49 (aF ((p0.drop 16).take 16) (F28 ((p0.drop 32).take 16)))).set 31 (aJ .u8 ((F49 (aF ((p0.drop 16).take 16) (F28 ((p0.drop 32).take 16)))).getD 31 0) 128))]
 have h1':=bn h1
 exact Tri.skip <|Xe [] [Mi 192 32 (F49 (aF ((p0.drop 16).take 16) (F28 ((p0.drop 32).take 16))))]
 exact Xs [El 2 192 32] [4] 464 (v2 pT) <|Xz [(192,0)] pz
def kV (p0:List Int):List Int :=
 (sel ((((p0.length:Nat):Int):Int) != 32) [0,0,0,0,0,0,0,0,0,0,0,0,0,0,0,0,0,0,0,0,0,0,0,0,0,0,0,0,0,0,0,0,0,0,0,0,0,0,0,0,0,0,0,0,0,0,0,0] (sel (!(aY (aU (((sel (decide ((p0.getD 31 0:Int) ≥ 128)) ((F49 (F24 p0)).set 31 (aJ .u8 ((F49 (F24 p0)).getD 31 0) 128)) (F49 (F24 p0))).drop 0).take 32)) (aU p0))) [0,0,0,0,0,0,0,0,0,0,0,0,0,0,0,0,0,0,0,0,0,0,0,0,0,0,0,0,0,0,0,0,0,0,0,0,0,0,0,0,0,0,0,0,0,0,0,0] (sel (!(my (aF (bq (aF (F24 p0) (F24 p0)) (ag 1)) (F28 (cD (aF (cS) (aF (F24 p0) (F24 p0))) (ag 1)))))) [0,0,0,0,0,0,0,0,0,0,0,0,0,0,0,0,0,0,0,0,0,0,0,0,0,0,0,0,0,0,0,0,0,0,0,0,0,0,0,0,0,0,0,0,0,0,0,0] (sel (((F35 (aF (bq (aF (F24 p0) (F24 p0)) (ag 1)) (F28 (cD (aF (cS) (aF (F24 p0) (F24 p0))) (ag 1))))):List Int)==(ag 0)) (sel (decide ((p0.getD 31 0:Int) ≥ 128)) [0,0,0,0,0,0,0,0,0,0,0,0,0,0,0,0,0,0,0,0,0,0,0,0,0,0,0,0,0,0,0,0,0,0,0,0,0,0,0,0,0,0,0,0,0,0,0,0] (aQ (aQ (aQ [0,0,0,0,0,0,0,0,0,0,0,0,0,0,0,0,0,0,0,0,0,0,0,0,0,0,0,0,0,0,0,0,0,0,0,0,0,0,0,0,0,0,0,0,0,0,0,0] 0 (sel (!((((cF ((F35 (aF (bq (aF (F24 p0) (F24 p0)) (ag 1)) (F28 (cD (aF (cS) (aF (F24 p0) (F24 p0))) (ag 1))))).getD 0 0) 2):Int)==1)==(decide ((p0.getD 31 0:Int) ≥ 128)))) (bq (ag 0) (F35 (aF (bq (aF (F24 p0) (F24 p0)) (ag 1)) (F28 (cD (aF (cS) (aF (F24 p0) (F24 p0))) (ag 1)))))) (F35 (aF (bq (aF (F24 p0) (F24 p0)) (ag 1)) (F28 (cD (aF (cS) (aF (F24 p0) (F24 p0))) (ag 1))))))) 16 (F24 p0)) 32 (ag 1))) (aQ (aQ (aQ [0,0,0,0,0,0,0,0,0,0,0,0,0,0,0,0,0,0,0,0,0,0,0,0,0,0,0,0,0,0,0,0,0,0,0,0,0,0,0,0,0,0,0,0,0,0,0,0] 0 (sel (!((((cF ((F35 (aF (bq (aF (F24 p0) (F24 p0)) (ag 1)) (F28 (cD (aF (cS) (aF (F24 p0) (F24 p0))) (ag 1))))).getD 0 0) 2):Int)==1)==(decide ((p0.getD 31 0:Int) ≥ 128)))) (bq (ag 0) (F35 (aF (bq (aF (F24 p0) (F24 p0)) (ag 1)) (F28 (cD (aF (cS) (aF (F24 p0) (F24 p0))) (ag 1)))))) (F35 (aF (bq (aF (F24 p0) (F24 p0)) (ag 1)) (F28 (cD (aF (cS) (aF (F24 p0) (F24 p0))) (ag 1))))))) 16 (F24 p0)) 32 (ag 1))))))
def ge (p0:List Int):Bool :=
 (sel ((((p0.length:Nat):Int):Int) != 32) false (sel (!(aY (aU (((sel (decide ((p0.getD 31 0:Int) ≥ 128)) ((F49 (F24 p0)).set 31 (aJ .u8 ((F49 (F24 p0)).getD 31 0) 128)) (F49 (F24 p0))).drop 0).take 32)) (aU p0))) false (sel (!(my (aF (bq (aF (F24 p0) (F24 p0)) (ag 1)) (F28 (cD (aF (cS) (aF (F24 p0) (F24 p0))) (ag 1)))))) false (sel (((F35 (aF (bq (aF (F24 p0) (F24 p0)) (ag 1)) (F28 (cD (aF (cS) (aF (F24 p0) (F24 p0))) (ag 1))))):List Int)==(ag 0)) (sel (decide ((p0.getD 31 0:Int) ≥ 128)) false true) true))))
def uE:List AV→List Blk→Option (Prop × Ret)
 |[.sc (.ro .u8 p0)],[]=>some (True,⟨.tup [.ints .i64 48 (kV p0),.sc (.b (ge p0))],[]⟩)
 |_,_=>none
def uj:KL Tryz.prog gD:=Zv rn 592 2 <|Zv rn 1120 2 <|Zv jM 576 1 <|Zv jM 656 1 <|Zv jM 896 1 <|Zv jM 1088 1 <|Zv jM 1184 1 <|Zv uR 608 0 <|Zv K28 688 1 <|Zv K49 176 1 <|Zv fL 512 2 <|Zv fL 640 2 <|Zv fL 704 2 <|Zc K24 112 [.ro .u8] [] [] <|Zv K35 720 1 <|Zv sD 672 2 <|Zn
theorem uv:Known Tryz.prog gD 86 ⟨0,0,uE⟩:=by
 refine Xw Tryz.f86 75 uj mixed <|fun E args ks C r h hC hlen=>?_
 simp only at h
 unfold uE at h
 split at h
 rotate_left
 cases h
 rename_i p0
 cases h
 simp only [ap] at hlen
 refine ⟨rfl,?_⟩
 refine Xt [Ep 2 16] [] [Mk 16 .i64 48 [0,0,0,0,0,0,0,0,0,0,0,0,0,0,0,0,0,0,0,0,0,0,0,0,0,0,0,0,0,0,0,0,0,0,0,0,0,0,0,0,0,0,0,0,0,0,0,0]] [] 48 (v2 pT) <|Tri.seq <|Xs [Eb 12 ((((p0.length:Nat):Int):Int) != 32)] [] 96 (v3 pT) <|Xa (fun h1=>?_) (fun h1=>?_)
 have h1':=bT h1
 exact Xs [Eb 3 false] [12,0] 144 (v1 (pu (Yz 48) (v1 pT))) <|Tri.ret <|rt <|iY.conv (r':=⟨.tup [.ints .i64 48 [0,0,0,0,0,0,0,0,0,0,0,0,0,0,0,0,0,0,0,0,0,0,0,0,0,0,0,0,0,0,0,0,0,0,0,0,0,0,0,0,0,0,0,0,0,0,0,0],.sc (.b false)],[]⟩) (by simp only [kV,ge];try simp only [h1,aD,aA]) <|er [] (pa pT pz)
 have h1':=bB h1
 refine Tri.skip <|Xt [Ep 4 128] [12] [Mk 128 .i64 16 (F24 p0)] [] 160 (v1 (pu (pa pz (lo (p0.length=32))) (v1 (pu (Yz 16) pT)))) <|Xt [El 5 176 32] [] [Mi 176 32 (F49 (F24 p0))] [] 208 (v1 (pu pz (v1 pT))) <|Xs [Eb 6 (decide ((p0.getD 31 0:Int) ≥ 128))] [] 288 (v1 (pu (Yi 31 p0.length) (pu (Yl 31 p0.length) (v2 pT)))) <|Tri.seq <|Xs [Eb 22 (decide ((p0.getD 31 0:Int) ≥ 128))] [] 304 (v1 pT) <|Xj (x:=(decide ((p0.getD 31 0:Int) ≥ 128))) (fun bb=>[]) [22] (fun bb=>[Mi 176 32 (sel bb ((F49 (F24 p0)).set 31 (aJ .u8 ((F49 (F24 p0)).getD 31 0) 128)) (F49 (F24 p0)))]) [176] 400 (fun h2=>?_) (fun h2=>?_) ?_
 have h2':=of_decide_eq_true h2
 exact Wt [] [22] [Mi 176 32 ((F49 (F24 p0)).set 31 (aJ .u8 ((F49 (F24 p0)).getD 31 0) 128))] [176] 400 (v1 (pu (Yi 31 32) (pu (Yl 31 32) (v1 (pu (Yi 31 32) (pu (Ys 31 32) pT)))))) <|Xe [] [Mi 176 32 ((F49 (F24 p0)).set 31 (aJ .u8 ((F49 (F24 p0)).getD 31 0) 128))]
 have h2':=of_decide_eq_false h2
 exact Tri.skip <|Xe [] [Mi 176 32 (F49 (F24 p0))]
 refine Tri.seq <|Xt [Eb 32 (!(aY (aU (((sel (decide ((p0.getD 31 0:Int) ≥ 128)) ((F49 (F24 p0)).set 31 (aJ .u8 ((F49 (F24 p0)).getD 31 0) 128)) (F49 (F24 p0))).drop 0).take 32)) (aU p0)))] [5,0] [] [176] 480 (v1 (pu (Yw 32) (v3 pT))) <|Xa (fun h3=>?_) (fun h3=>?_)
 exact Xt [Eb 3 false] [32,6,4] [] [128] 528 (v1 (pu (Yz 48) (v1 pT))) <|Tri.ret <|rt <|iY.conv (r':=⟨.tup [.ints .i64 48 [0,0,0,0,0,0,0,0,0,0,0,0,0,0,0,0,0,0,0,0,0,0,0,0,0,0,0,0,0,0,0,0,0,0,0,0,0,0,0,0,0,0,0,0,0,0,0,0],.sc (.b false)],[]⟩) (by simp only [kV,ge];try simp only [h1,aD,aA];try simp only [h3,aD,aA]) <|er [] (pa pT pz)
 refine Tri.skip <|Xt [Ep 7 528] [32] [Mk 528 .i64 16 (aF (F24 p0) (F24 p0))] [] 560 (v2 (pu pz (v1 (pu (Yz 16) pT)))) <|Xu [] (some [0,0,3,7,0,31,63,127,255,511,1023,2047,4095,4095,0,24575,65535]) [Eb 9 (my (aF (bq (aF (F24 p0) (F24 p0)) (ag 1)) (F28 (cD (aF (cS) (aF (F24 p0) (F24 p0))) (ag 1))))),Ep 8 784] [7] [Mk 784 .i64 16 (F35 (aF (bq (aF (F24 p0) (F24 p0)) (ag 1)) (F28 (cD (aF (cS) (aF (F24 p0) (F24 p0))) (ag 1)))))] [528] 832 (v1 (pu pz (pu pz (pu pz (v1 (pu pz (pu pz (pu pz (pu pz (pu pz (pu pz (v4 (pu (Yz 16) (v1 pT)))))))))))))) <|Tri.seq <|Tri.split (!(my (aF (bq (aF (F24 p0) (F24 p0)) (ag 1)) (F28 (cD (aF (cS) (aF (F24 p0) (F24 p0))) (ag 1)))))) (fun h4=>?_) (fun h4=>?_)
 exact Xu [Eb 53 true] (some [0,1,3,7,7,31,63,127,255,511]) [Eb 60 true] [9] [] [] 992 (v2 (pg h4 (v7 pT))) <|Tri.cond_true (by kernel_rfl) <|Xt [Eb 3 false] [60,8,6,4] [] [784,128] 1040 (v1 (pu (Yz 48) (v1 pT))) <|Tri.ret <|rt <|iY.conv (r':=⟨.tup [.ints .i64 48 [0,0,0,0,0,0,0,0,0,0,0,0,0,0,0,0,0,0,0,0,0,0,0,0,0,0,0,0,0,0,0,0,0,0,0,0,0,0,0,0,0,0,0,0,0,0,0,0],.sc (.b false)],[]⟩) (by simp only [kV,ge];try simp only [h1,aD,aA];try simp only [h3,aD,aA];try simp only [h4,aD,aA]) <|er [] (pa pT pz)
 refine Tri.split (((F35 (aF (bq (aF (F24 p0) (F24 p0)) (ag 1)) (F28 (cD (aF (cS) (aF (F24 p0) (F24 p0))) (ag 1))))):List Int)==(ag 0)) (fun h5=>?_) (fun h5=>?_)
 refine Xu [Eb 53 false,Eb 57 true] (some [0,1,3,7,7,31,63,127,255,511]) [Eb 60 (decide ((p0.getD 31 0:Int) ≥ 128))] [9] [] [] 992 (v2 (pg h4 (v1 (pu pz (v1 (pg h5 (v3 pT))))))) <|Xb (fun h6 h6'=>?_) (fun h6 h6'=>?_)
 exact Xt [Eb 3 false] [60,8,6,4] [] [784,128] 1040 (v1 (pu (Yz 48) (v1 pT))) <|Tri.ret <|rt <|iY.conv (r':=⟨.tup [.ints .i64 48 [0,0,0,0,0,0,0,0,0,0,0,0,0,0,0,0,0,0,0,0,0,0,0,0,0,0,0,0,0,0,0,0,0,0,0,0,0,0,0,0,0,0,0,0,0,0,0,0],.sc (.b false)],[]⟩) (by simp only [kV,ge];try simp only [h1,aD,aA];try simp only [h3,aD,aA];try simp only [h4,aD,aA];try simp only [h5,aD,aA];try simp only [h6,aD,aA]) <|er [] (pa pT pz)
 refine Tri.skip <|Tri.seq <|Xs [Eb 67 (!((((cF ((F35 (aF (bq (aF (F24 p0) (F24 p0)) (ag 1)) (F28 (cD (aF (cS) (aF (F24 p0) (F24 p0))) (ag 1))))).getD 0 0) 2):Int)==1)==(decide ((p0.getD 31 0:Int) ≥ 128))))] [60,6] 1088 (pu (Yi 0 16) (pu (Yl 0 16) (pu (Yn 2) (v3 pT)))) <|Xj (x:=(!((((cF ((F35 (aF (bq (aF (F24 p0) (F24 p0)) (ag 1)) (F28 (cD (aF (cS) (aF (F24 p0) (F24 p0))) (ag 1))))).getD 0 0) 2):Int)==1)==(decide ((p0.getD 31 0:Int) ≥ 128))))) (fun bb=>[]) [67] (fun bb=>[Mk 784 .i64 16 (sel bb (bq (ag 0) (F35 (aF (bq (aF (F24 p0) (F24 p0)) (ag 1)) (F28 (cD (aF (cS) (aF (F24 p0) (F24 p0))) (ag 1)))))) (F35 (aF (bq (aF (F24 p0) (F24 p0)) (ag 1)) (F28 (cD (aF (cS) (aF (F24 p0) (F24 p0))) (ag 1))))))]) [784] 1152 (fun h7=>?_) (fun h7=>?_) ?_
 exact Wu [] (some [0,0,3,7]) [] [67] [Mk 784 .i64 16 (bq (ag 0) (F35 (aF (bq (aF (F24 p0) (F24 p0)) (ag 1)) (F28 (cD (aF (cS) (aF (F24 p0) (F24 p0))) (ag 1))))))] [784] 1152 (pu pz (v1 (pu pz (pu (Yz 16) pT)))) <|Xe [] [Mk 784 .i64 16 (bq (ag 0) (F35 (aF (bq (aF (F24 p0) (F24 p0)) (ag 1)) (F28 (cD (aF (cS) (aF (F24 p0) (F24 p0))) (ag 1))))))]
 exact Tri.skip <|Xe [] [Mk 784 .i64 16 (F35 (aF (bq (aF (F24 p0) (F24 p0)) (ag 1)) (F28 (cD (aF (cS) (aF (F24 p0) (F24 p0))) (ag 1)))))]
 exact Xu [] (some [0,0,0,7,15,31]) [Eb 3 true] [8,4] [Mk 16 .i64 48 (aQ (aQ (aQ [0,0,0,0,0,0,0,0,0,0,0,0,0,0,0,0,0,0,0,0,0,0,0,0,0,0,0,0,0,0,0,0,0,0,0,0,0,0,0,0,0,0,0,0,0,0,0,0] 0 (sel (!((((cF ((F35 (aF (bq (aF (F24 p0) (F24 p0)) (ag 1)) (F28 (cD (aF (cS) (aF (F24 p0) (F24 p0))) (ag 1))))).getD 0 0) 2):Int)==1)==(decide ((p0.getD 31 0:Int) ≥ 128)))) (bq (ag 0) (F35 (aF (bq (aF (F24 p0) (F24 p0)) (ag 1)) (F28 (cD (aF (cS) (aF (F24 p0) (F24 p0))) (ag 1)))))) (F35 (aF (bq (aF (F24 p0) (F24 p0)) (ag 1)) (F28 (cD (aF (cS) (aF (F24 p0) (F24 p0))) (ag 1))))))) 16 (F24 p0)) 32 (ag 1))] [784,128,16] 1248 (v2 (pu pz (pu (pa (pa (Ye (0+16) 48) (Yr 16)) (pa (pa (Ye (16+16) 48) (Yr 16)) (pa (pa (Ye (32+16) 48) (Yr 16)) pT))) (pu (Yz 48) (v1 pT))))) <|Tri.ret <|rt <|iY.conv (r':=⟨.tup [.ints .i64 48 (aQ (aQ (aQ [0,0,0,0,0,0,0,0,0,0,0,0,0,0,0,0,0,0,0,0,0,0,0,0,0,0,0,0,0,0,0,0,0,0,0,0,0,0,0,0,0,0,0,0,0,0,0,0] 0 (sel (!((((cF ((F35 (aF (bq (aF (F24 p0) (F24 p0)) (ag 1)) (F28 (cD (aF (cS) (aF (F24 p0) (F24 p0))) (ag 1))))).getD 0 0) 2):Int)==1)==(decide ((p0.getD 31 0:Int) ≥ 128)))) (bq (ag 0) (F35 (aF (bq (aF (F24 p0) (F24 p0)) (ag 1)) (F28 (cD (aF (cS) (aF (F24 p0) (F24 p0))) (ag 1)))))) (F35 (aF (bq (aF (F24 p0) (F24 p0)) (ag 1)) (F28 (cD (aF (cS) (aF (F24 p0) (F24 p0))) (ag 1))))))) 16 (F24 p0)) 32 (ag 1)),.sc (.b true)],[]⟩) (by simp only [kV,ge];try simp only [h1,aD,aA];try simp only [h3,aD,aA];try simp only [h4,aD,aA];try simp only [h5,aD,aA];try simp only [h6,aD,aA]) <|er [] (pa pT pz)
 refine Xu [Eb 53 false,Eb 57 false] (some [0,1,3,7,7,31,63,127,255,511]) [Eb 60 false] [9] [] [] 992 (v2 (pg h4 (v1 (pu pz (v1 (pg h5 (v3 pT))))))) <|Tri.cond_false (by kernel_rfl) <|Tri.skip <|Tri.seq <|Xs [Eb 67 (!((((cF ((F35 (aF (bq (aF (F24 p0) (F24 p0)) (ag 1)) (F28 (cD (aF (cS) (aF (F24 p0) (F24 p0))) (ag 1))))).getD 0 0) 2):Int)==1)==(decide ((p0.getD 31 0:Int) ≥ 128))))] [60,6] 1088 (pu (Yi 0 16) (pu (Yl 0 16) (pu (Yn 2) (v3 pT)))) <|Xj (x:=(!((((cF ((F35 (aF (bq (aF (F24 p0) (F24 p0)) (ag 1)) (F28 (cD (aF (cS) (aF (F24 p0) (F24 p0))) (ag 1))))).getD 0 0) 2):Int)==1)==(decide ((p0.getD 31 0:Int) ≥ 128))))) (fun bb=>[]) [67] (fun bb=>[Mk 784 .i64 16 (sel bb (bq (ag 0) (F35 (aF (bq (aF (F24 p0) (F24 p0)) (ag 1)) (F28 (cD (aF (cS) (aF (F24 p0) (F24 p0))) (ag 1)))))) (F35 (aF (bq (aF (F24 p0) (F24 p0)) (ag 1)) (F28 (cD (aF (cS) (aF (F24 p0) (F24 p0))) (ag 1))))))]) [784] 1152 (fun h8=>?_) (fun h8=>?_) ?_
 exact Wu [] (some [0,0,3,7]) [] [67] [Mk 784 .i64 16 (bq (ag 0) (F35 (aF (bq (aF (F24 p0) (F24 p0)) (ag 1)) (F28 (cD (aF (cS) (aF (F24 p0) (F24 p0))) (ag 1))))))] [784] 1152 (pu pz (v1 (pu pz (pu (Yz 16) pT)))) <|Xe [] [Mk 784 .i64 16 (bq (ag 0) (F35 (aF (bq (aF (F24 p0) (F24 p0)) (ag 1)) (F28 (cD (aF (cS) (aF (F24 p0) (F24 p0))) (ag 1))))))]
 exact Tri.skip <|Xe [] [Mk 784 .i64 16 (F35 (aF (bq (aF (F24 p0) (F24 p0)) (ag 1)) (F28 (cD (aF (cS) (aF (F24 p0) (F24 p0))) (ag 1)))))]
 exact Xu [] (some [0,0,0,7,15,31]) [Eb 3 true] [8,4] [Mk 16 .i64 48 (aQ (aQ (aQ [0,0,0,0,0,0,0,0,0,0,0,0,0,0,0,0,0,0,0,0,0,0,0,0,0,0,0,0,0,0,0,0,0,0,0,0,0,0,0,0,0,0,0,0,0,0,0,0] 0 (sel (!((((cF ((F35 (aF (bq (aF (F24 p0) (F24 p0)) (ag 1)) (F28 (cD (aF (cS) (aF (F24 p0) (F24 p0))) (ag 1))))).getD 0 0) 2):Int)==1)==(decide ((p0.getD 31 0:Int) ≥ 128)))) (bq (ag 0) (F35 (aF (bq (aF (F24 p0) (F24 p0)) (ag 1)) (F28 (cD (aF (cS) (aF (F24 p0) (F24 p0))) (ag 1)))))) (F35 (aF (bq (aF (F24 p0) (F24 p0)) (ag 1)) (F28 (cD (aF (cS) (aF (F24 p0) (F24 p0))) (ag 1))))))) 16 (F24 p0)) 32 (ag 1))] [784,128,16] 1248 (v2 (pu pz (pu (pa (pa (Ye (0+16) 48) (Yr 16)) (pa (pa (Ye (16+16) 48) (Yr 16)) (pa (pa (Ye (32+16) 48) (Yr 16)) pT))) (pu (Yz 48) (v1 pT))))) <|Tri.ret <|rt <|iY.conv (r':=⟨.tup [.ints .i64 48 (aQ (aQ (aQ [0,0,0,0,0,0,0,0,0,0,0,0,0,0,0,0,0,0,0,0,0,0,0,0,0,0,0,0,0,0,0,0,0,0,0,0,0,0,0,0,0,0,0,0,0,0,0,0] 0 (sel (!((((cF ((F35 (aF (bq (aF (F24 p0) (F24 p0)) (ag 1)) (F28 (cD (aF (cS) (aF (F24 p0) (F24 p0))) (ag 1))))).getD 0 0) 2):Int)==1)==(decide ((p0.getD 31 0:Int) ≥ 128)))) (bq (ag 0) (F35 (aF (bq (aF (F24 p0) (F24 p0)) (ag 1)) (F28 (cD (aF (cS) (aF (F24 p0) (F24 p0))) (ag 1)))))) (F35 (aF (bq (aF (F24 p0) (F24 p0)) (ag 1)) (F28 (cD (aF (cS) (aF (F24 p0) (F24 p0))) (ag 1))))))) 16 (F24 p0)) 32 (ag 1)),.sc (.b true)],[]⟩) (by simp only [kV,ge];try simp only [h1,aD,aA];try simp only [h3,aD,aA];try simp only [h4,aD,aA];try simp only [h5,aD,aA]) <|er [] (pa pT pz)
def sy:List Int :=
 (kV (aC (F49 (aF (ag 4) (F28 (ag 5)))) 32 0 32))
def tW:List AV→List Blk→Option (Prop × Ret)
 |[],[]=>some (True,⟨.ints .i64 48 (sy),[]⟩)
 |_,_=>none
theorem uk:Known Tryz.prog gD 58 ⟨0,0,tW⟩:=by
 refine Xw Tryz.f58 13 (Zc uv 112 [.ro .u8] [96] [] <|Zv jM 32 1 <|Zv jM 48 1 <|Zv K28 64 1 <|Zv K49 96 1 <|Zv fL 80 2 <|Zn) mixed <|fun E args ks C r h hC hlen=>?_
 simp only at h
 unfold tW at h
 split at h
 rotate_left
 cases h
 cases h
 simp only [ap] at hlen
 refine ⟨rfl,?_⟩
 exact Xt [Ep 0 16] [] [Mk 16 .i64 48 [0,0,0,0,0,0,0,0,0,0,0,0,0,0,0,0,0,0,0,0,0,0,0,0,0,0,0,0,0,0,0,0,0,0,0,0,0,0,0,0,0,0,0,0,0,0,0,0]] [] 32 (v1 pT) <|Xt [Ep 1 176] [] [Mk 176 .i64 48 (kV (aC (F49 (aF (ag 4) (F28 (ag 5)))) 32 0 32))] [] 224 (pu pz (pu pz (pu pz (pu pz (pu pz (pu (pa (pa (Yw 32) pT) pT) (v4 (pu (Yz 48) (v1 pT))))))))) <|Tri.len 176 rfl <|fun hl1=>Xt [] [1] [Mk 16 .i64 48 (kV (aC (F49 (aF (ag 4) (F28 (ag 5)))) 32 0 32))] [176,16] 256 (v1 (pu (Yz 48) pT)) <|Xz [] pz
end Go.Vm
namespace Go.Vm
open Go Go.Proofs
def sb (p0:List Int):List Int :=
 (tN (se (aC (F44 (aC (cz p0) 64 0 32)) ((aC (cz p0) 64 0 32).length) 0 ((aC (cz p0) 64 0 32).length)) (sy)))
def tQ:List AV→List Blk→Option (Prop × Ret)
 |[.sc (.ro .u8 p0)],[]=>some ((p0.length=32),⟨.sc (.sl 0 0 32 1 none),[some (.ints .u8 32 (sb p0))]⟩)
 |_,_=>none
theorem uO:Known Tryz.prog gD 24 ⟨0,1,tQ⟩:=by
 refine Xw Tryz.f24 10 (Zv uq 128 1 <|Zc ui 112 [.ro .u8,.val] [80] [] <|Zc K44 80 [.ro .u8] [48] [] <|Zc rh 48 [.ro .u8,.val] [] [] <|Zv uk 96 0 <|Zn) mixed <|fun E args ks C r h hC hlen=>?_
 simp only at h
 unfold tQ at h
 split at h
 rotate_left
 cases h
 rename_i p0
 cases h
 simp only [ap] at hlen
 have hh:=nH p0 0 (by decide)
 have hh2:=nH p0 32 (by decide)
 refine ⟨rfl,?_⟩
 refine Xs [] [] 32 (v1 pT) <|Xt [El 2 128 32] [0] [Mi 128 32 (tN (se (aC (F44 (aC (cz p0) 64 0 32)) ((aC (cz p0) 64 0 32).length) 0 ((aC (cz p0) 64 0 32).length)) (sy)))] [] 160 (v1 (pu (pa pz (pa (Yr (64:Int)) (Ye p0.length 100000000))) (pu (lo ((0:Int)≤0∧(0:Int)≤32∧32≤((64:Nat):Int))) (pu (pa (pa (Ye (0+32) 64) pT) (pl (show (aC (cz p0) 64 0 32).length=32 from hh))) (pu pz (pu (pa (pa (Yw ((aC (cz p0) 64 0 32).length)) pT) (pl (show (aC (F44 (aC (cz p0) 64 0 32)) ((aC (cz p0) 64 0 32).length) 0 ((aC (cz p0) 64 0 32).length)).length≤1000000 from by exact bC (by omega) (by rw [uA];omega)))) (pu pz (v1 pT)))))))) ?_
 exact Xz [(128,0)] pz
end Go.Vm
namespace Go.Vm
open Go Go.Proofs
def qO:List AV→List Blk→Option (Prop × Ret)
 |[.sc (.ro .u8 p0)],[]=>some (True,⟨.sc (.p 0 0),[some (.cells [.ro .u8 p0,.b false])]⟩)
 |_,_=>none
theorem sa:Known Tryz.prog gD 41 ⟨0,1,qO⟩:=by
 refine Xw Tryz.f41 6 Zn mixed <|fun E args ks C r h hC hlen=>?_
 simp only at h
 unfold qO at h
 split at h
 rotate_left
 cases h
 rename_i p0
 cases h
 simp only [ap] at hlen
 refine ⟨rfl,?_⟩
 exact Xs [] [] 32 (v1 pT) <|Xt [Ep 2 64] [0] [Mc 64 [.ro .u8 p0,.b false]] [] 96 (v1 (pu (pa (Ys 0 2) pT) (v2 pT))) <|Xz [(64,0)] pz
def dg (p0:List Int) (p1:Bool) (p2:Int):List Int :=
 (p0.drop 0).take (((p2).toNat)-0)
def eh (p0:List Int) (p1:Bool) (p2:Int):List Int :=
 (p0.drop ((p2).toNat)).take (p0.length-((p2).toNat))
def mJ:List AV→List Blk→Option (Prop × Ret)
 |[.sc (.p 0 0),.sc (.i .i64 p2)],[.cells [.ro .u8 p0,.b p1]]=>some (((p1=false)∧(((decide ((p2:Int)>((p0.length:Nat):Int)))=false)∧((0:Int)≤p2))),⟨.sc (.ro .u8 (dg p0 p1 p2)),[some (.cells [.ro .u8 (eh p0 p1 p2),.b p1])]⟩)
 |_,_=>none
theorem rQ:Known Tryz.prog gD 74 ⟨1,0,mJ⟩:=by
 refine Xw Tryz.f74 48 Zn mixed <|fun E args ks C r h hC hlen=>?_
 simp only at h
 unfold mJ at h
 split at h
 rotate_left
 cases h
 rename_i p2 p0 p1
 cases h
 simp only [ap] at hlen
 have hG0:=hC.1
 have hG1:=hC.2.1
 have hG1':=of_decide_eq_false hG1
 have hC:=hC.2.2
 refine ⟨rfl,?_⟩
 refine Xs [] [] 32 (v1 pT) <|Tri.seq <|Xu [Eb 14 false] none [Eb 22 (decide ((p2:Int)>((p0.length:Nat):Int)))] [] [] [] 304 (v6 (pu (Yl 1 2) (v1 (pg hG0 (v4 (pu (Yl 0 2) (v3 pT))))))) <|Tri.cond (x:=(decide ((p2:Int)>((p0.length:Nat):Int)))) (by kernel_rfl) (fun h=>absurd (h.symm.trans hG1) (by decide)) (fun h=>?_)
 exact Tri.skip <|Xs [Er 5 ((p0.drop 0).take (((p2).toNat)-0))] [22] 432 (v3 (pu (Yl 0 2) (v2 (pu (lo ((0:Int)≤0∧(0:Int)≤p2∧(p2:Int)≤p2∧(p2:Int)≤(p0.length:Int))) (v1 pT))))) <|Xt [] [0,1] [Mc 0 [.ro .u8 ((p0.drop ((p2).toNat)).take (p0.length-((p2).toNat))),.b p1]] [0] 592 (v4 (pu (Yl 0 2) (v1 (pu (lo ((0:Int)≤p2∧(p2:Int)≤((p0.length:Nat):Int)∧((p0.length:Nat):Int)≤(p0.length:Int))) (v2 (pu (Ys 0 2) pT)))))) <|Xs [Er 4 ((p0.drop 0).take (((p2).toNat)-0))] [5] 624 (v2 pT) <|Xz [(0,0)] pz
theorem fa {p0:List Int} {p1:Bool} {p2:Int} (h:(decide ((p2:Int)>((p0.length:Nat):Int)))=false) (h0:0≤p2):((dg p0 p1 p2).length:Int)=p2:=by
 have:=of_decide_eq_false h
 unfold dg
 simp only [List.length_take,List.length_drop]
 omega
def mj:List AV→List Blk→Option (Prop × Ret)
 |[.sc (.p 0 0),.sc (.i .i64 p2)],[.cells [.ro .u8 p0,.b p1]]=>some (((p1=false)∧(((decide ((p2:Int)>((p0.length:Nat):Int)))=true)∧True)),⟨.sc (.nils),[some (.cells [.ro .u8 ([]:List Int),.b true])]⟩)
 |_,_=>none
theorem py:Known Tryz.prog gD 74 ⟨1,0,mj⟩:=by
 refine Xw Tryz.f74 48 Zn mixed <|fun E args ks C r h hC hlen=>?_
 simp only at h
 unfold mj at h
 split at h
 rotate_left
 cases h
 rename_i p2 p0 p1
 cases h
 simp only [ap] at hlen
 have hG0:=hC.1
 have hG1:=hC.2.1
 have hG1':=of_decide_eq_true hG1
 have hC:=hC.2.2
 refine ⟨rfl,?_⟩
 refine Xs [] [] 32 (v1 pT) <|Tri.seq <|Xu [Eb 14 false] none [Eb 22 (decide ((p2:Int)>((p0.length:Nat):Int)))] [] [] [] 304 (v6 (pu (Yl 1 2) (v1 (pg hG0 (v4 (pu (Yl 0 2) (v3 pT))))))) <|Tri.cond (x:=(decide ((p2:Int)>((p0.length:Nat):Int)))) (by kernel_rfl) (fun h=>?_) (fun h=>absurd (h.symm.trans hG1) (by decide))
 exact Tri.seq <|Xs [Eb 24 true] [22,1] 336 (v2 pT) <|Tri.cond_true (by kernel_rfl) <|Wt [] [24,0] [Mc 0 [.nils,.b true]] [0] 464 (v4 (pu (Ys 1 2) (v2 (pu (Ys 0 2) pT)))) <|Xs [(4,.sc (.nils))] [] 480 (v1 pT) <|Tri.sub (Sub.nilCell (l:=[.nils,.b true]) 0 0 .u8 (by kernel_rfl) (by kernel_rfl)) <|Xz [(0,0)] pz
def ky:List AV→List Blk→Option (Prop × Ret)
 |[.sc (.p 0 0),.sc (.i .i64 p2)],[.cells [.ro .u8 p0,.b p1]]=>some (((p1=true)∧True),⟨.sc (.nils),[some (.cells [.ro .u8 ([]:List Int),.b true])]⟩)
 |_,_=>none
theorem pM:Known Tryz.prog gD 74 ⟨1,0,ky⟩:=by
 refine Xw Tryz.f74 48 Zn mixed <|fun E args ks C r h hC hlen=>?_
 simp only at h
 unfold ky at h
 split at h
 rotate_left
 cases h
 rename_i p2 p0 p1
 cases h
 simp only [ap] at hlen
 have hG0:=hC.1
 have hC:=hC.2
 refine ⟨rfl,?_⟩
 exact Xs [] [] 32 (v1 pT) <|Tri.seq <|Xu [Eb 14 true] none [Eb 22 true] [] [] [] 304 (v6 (pu (Yl 1 2) (v1 (pg hG0 (v8 pT))))) <|Tri.cond_true (by kernel_rfl) <|Tri.seq <|Xs [Eb 24 true] [22,1] 336 (v2 pT) <|Tri.cond_true (by kernel_rfl) <|Wt [] [24,0] [Mc 0 [.nils,.b true]] [0] 464 (v4 (pu (Ys 1 2) (v2 (pu (Ys 0 2) pT)))) <|Xs [(4,.sc (.nils))] [] 480 (v1 pT) <|Tri.sub (Sub.nilCell (l:=[.nils,.b true]) 0 0 .u8 (by kernel_rfl) (by kernel_rfl)) <|Xz [(0,0)] pz
def bt (p0:List Int) (p1:Bool) (p2:Int):List Int :=
 (sel p1 ([]:List Int) (sel (decide ((p2:Int)>((p0.length:Nat):Int))) ([]:List Int) ((p0.drop 0).take (((p2).toNat)-0))))
def cn (p0:List Int) (p1:Bool) (p2:Int):List Int :=
 (sel p1 ([]:List Int) (sel (decide ((p2:Int)>((p0.length:Nat):Int))) ([]:List Int) ((p0.drop ((p2).toNat)).take (p0.length-((p2).toNat)))))
def dO (p0:List Int) (p1:Bool) (p2:Int):Bool :=
 (sel p1 true (sel (decide ((p2:Int)>((p0.length:Nat):Int))) true p1))
def oV:List AV→List Blk→Option (Prop × Ret)
 |[.sc (.p 0 0),.sc (.i .i64 p2)],[.cells [.ro .u8 p0,.b p1]]=>some (((0:Int)≤p2),⟨.sc (.ro .u8 (bt p0 p1 p2)),[some (.cells [.ro .u8 (cn p0 p1 p2),.b (dO p0 p1 p2)])]⟩)
 |_,_=>none
theorem lY:Known Tryz.prog gD 74 ⟨1,0,oV⟩:=by
 refine Xw Tryz.f74 48 Zn mixed <|fun E args ks C r h hC hlen=>?_
 simp only at h
 unfold oV at h
 split at h
 rotate_left
 cases h
 rename_i p2 p0 p1
 cases h
 simp only [ap] at hlen
 refine ⟨rfl,?_⟩
 refine Xs [] [] 32 (v1 pT) <|Tri.seq <|Tri.split p1 (fun h1=>?_) (fun h1=>?_)
 exact Xu [Eb 14 true] none [Eb 22 true] [] [] [] 304 (v6 (pu (Yl 1 2) (v1 (pg h1 (v8 pT))))) <|Tri.cond_true (by kernel_rfl) <|Tri.seq <|Xs [Eb 24 true] [22,1] 336 (v2 pT) <|Tri.cond_true (by kernel_rfl) <|Wt [] [24,0] [Mc 0 [.nils,.b true]] [0] 464 (v4 (pu (Ys 1 2) (v2 (pu (Ys 0 2) pT)))) <|Xs [(4,.sc (.nils))] [] 480 (v1 pT) <|Tri.sub (Sub.nilRo 4 .u8 (by kernel_rfl)) <|Tri.sub (Sub.nilCell (l:=[.nils,.b true]) 0 0 .u8 (by kernel_rfl) (by kernel_rfl)) <|Xy [(0,0)] pz (by simp only [bt,cn,dO,h1,aD,aA] <;> rfl)
 refine Xu [Eb 14 false] none [Eb 22 (decide ((p2:Int)>((p0.length:Nat):Int)))] [] [] [] 304 (v6 (pu (Yl 1 2) (v1 (pg h1 (v4 (pu (Yl 0 2) (v3 pT))))))) <|Xb (fun h2 h2'=>?_) (fun h2 h2'=>?_)
 exact Tri.seq <|Xs [Eb 24 true] [22,1] 336 (v2 pT) <|Tri.cond_true (by kernel_rfl) <|Wt [] [24,0] [Mc 0 [.nils,.b true]] [0] 464 (v4 (pu (Ys 1 2) (v2 (pu (Ys 0 2) pT)))) <|Xs [(4,.sc (.nils))] [] 480 (v1 pT) <|Tri.sub (Sub.nilRo 4 .u8 (by kernel_rfl)) <|Tri.sub (Sub.nilCell (l:=[.nils,.b true]) 0 0 .u8 (by kernel_rfl) (by kernel_rfl)) <|Xy [(0,0)] pz (by simp only [bt,cn,dO,h1,h2,aD,aA] <;> rfl)
 exact Tri.skip <|Xs [Er 5 ((p0.drop 0).take (((p2).toNat)-0))] [22] 432 (v3 (pu (Yl 0 2) (v2 (pu (lo ((0:Int)≤0∧(0:Int)≤p2∧(p2:Int)≤p2∧(p2:Int)≤(p0.length:Int))) (v1 pT))))) <|Xt [] [0,1] [Mc 0 [.ro .u8 ((p0.drop ((p2).toNat)).take (p0.length-((p2).toNat))),.b p1]] [0] 592 (v4 (pu (Yl 0 2) (v1 (pu (lo ((0:Int)≤p2∧(p2:Int)≤((p0.length:Nat):Int)∧((p0.length:Nat):Int)≤(p0.length:Int))) (v2 (pu (Ys 0 2) pT)))))) <|Xs [Er 4 ((p0.drop 0).take (((p2).toNat)-0))] [5] 624 (v2 pT) <|Xy (r':=⟨.sc (.ro .u8 ((p0.drop 0).take (((p2).toNat)-0))),[some (.cells [.ro .u8 ((p0.drop ((p2).toNat)).take (p0.length-((p2).toNat))),.b p1])]⟩) [(0,0)] pz (by simp only [bt,cn,dO,h1,h2,aD,aA])
theorem jm (p0:List Int) (p1:Bool) (p2:Int):(bt p0 p1 p2).length≤p2.toNat:=by
 unfold bt
 cases p1
 ·simp only [aA]
  cases (decide ((p2:Int)>((p0.length:Nat):Int)))
  ·simp only [aA,List.length_take,List.length_drop];omega
  ·simp only [aD,List.length_nil];omega
 ·simp only [aD,List.length_nil];omega
def cm (p0:List Int) (p1:Bool):Int :=
 (sel p1 0 (sel (decide ((1:Int)>((p0.length:Nat):Int))) 0 ((dg p0 p1 1).getD 0 0)))
def aq (p0:List Int) (p1:Bool):List Int :=
 (sel p1 ([]:List Int) (sel (decide ((1:Int)>((p0.length:Nat):Int))) ([]:List Int) (eh p0 p1 1)))
def ax (p0:List Int) (p1:Bool):Bool :=
 (sel p1 true (sel (decide ((1:Int)>((p0.length:Nat):Int))) true p1))
def qV:List AV→List Blk→Option (Prop × Ret)
 |[.sc (.p 0 0)],[.cells [.ro .u8 p0,.b p1]]=>some (True,⟨.sc (.i .u8 (cm p0 p1)),[some (.cells [.ro .u8 (aq p0 p1),.b (ax p0 p1)])]⟩)
 |_,_=>none
theorem pk:Known Tryz.prog gD 42 ⟨1,0,qV⟩:=by
 refine Xw Tryz.f42 11 (Zc pM 48 [.io,.val] [] [0] <|Zc py 144 [.io,.val] [] [0] <|Zc rQ 240 [.io,.val] [] [0] <|Zn) mixed <|fun E args ks C r h hC hlen=>?_
 simp only at h
 unfold qV at h
 split at h
 rotate_left
 cases h
 rename_i p0 p1
 cases h
 simp only [ap] at hlen
 refine ⟨rfl,?_⟩
 refine Xs [] [] 32 (v1 pT) <|Tri.seq <|Tri.split p1 (fun h1=>?_) (fun h1=>?_)
 exact Xt [(3,.sc (.nils))] [0] [Mc 0 [.ro .u8 ([]:List Int),.b true]] [0] 80 (v1 (pu (pa pT (pa (pl h1) pT)) (v1 pT))) <|Xs [Eb 7 false] [] 112 (v2 pT) <|Tri.cond_false (by kernel_rfl) <|Tri.skip <|Xs [Ek 2 .u8 0] [7,3] 128 (v1 pT) <|Xy [(0,0)] pz (by simp only [cm,aq,ax,h1,aD,aA] <;> rfl)
 refine Tri.sub (Sub.up (U':=128) (by decide)) <|Tri.split (decide ((1:Int)>((p0.length:Nat):Int))) (fun h2=>?_) (fun h2=>?_)
 have h2':=of_decide_eq_true h2
 exact Xt [(3,.sc (.nils))] [0] [Mc 0 [.ro .u8 ([]:List Int),.b true]] [0] 176 (v1 (pu (pa pT (pa (pl h1) (pa (pl h2) pT))) (v1 pT))) <|Xs [Eb 7 false] [] 208 (v2 pT) <|Tri.cond_false (by kernel_rfl) <|Tri.skip <|Xs [Ek 2 .u8 0] [7,3] 224 (v1 pT) <|Xy [(0,0)] pz (by simp only [cm,aq,ax,h1,h2,aD,aA] <;> rfl)
 have h2':=of_decide_eq_false h2
 refine Tri.sub (Sub.up (U':=224) (by decide)) <|Xt [Er 3 (dg p0 p1 1)] [0] [Mc 0 [.ro .u8 (eh p0 p1 1),.b p1]] [0] 272 (v1 (pu (pa pT (pa (pl h1) (pa (pl h2) (Y0 1)))) (v1 pT))) <|Xs [Eb 7 true] [] 304 (v1 (pu (pl (show 0<(dg p0 p1 1).length from by (have hq:=fa (p0:=p0) (p1:=p1) (p2:=1) (by assumption) (by decide);omega))) pT)) ?_
 refine Tri.cond_true (by kernel_rfl) <|Xs [Ek 2 .u8 ((dg p0 p1 1).getD 0 0)] [7,3] 368 (v1 (pu (pl (show (0:Int)≤0∧0<((dg p0 p1 1).length:Int) from by (have hq:=fa (p0:=p0) (p1:=p1) (p2:=1) (by assumption) (by decide);omega))) (pu (pl (show 0<(dg p0 p1 1).length from by (have hq:=fa (p0:=p0) (p1:=p1) (p2:=1) (by assumption) (by decide);omega))) (v1 pT)))) ?_
 exact Xy (r':=⟨.sc (.i .u8 ((dg p0 p1 1).getD 0 0)),[some (.cells [.ro .u8 (eh p0 p1 1),.b p1])]⟩) [(0,0)] pz (by simp only [cm,aq,ax,h1,h2,aD,aA])
def dv (p0:List Int) (p1:Bool):Bool :=
 (((cm p0 p1):Int) != 0)
def au (p0:List Int) (p1:Bool):List Int :=
 (aq p0 p1)
def bA (p0:List Int) (p1:Bool):Bool :=
 (ax p0 p1)
def qM:List AV→List Blk→Option (Prop × Ret)
 |[.sc (.p 0 0)],[.cells [.ro .u8 p0,.b p1]]=>some (True,⟨.sc (.b (dv p0 p1)),[some (.cells [.ro .u8 (au p0 p1),.b (bA p0 p1)])]⟩)
 |_,_=>none
theorem qd:Known Tryz.prog gD 78 ⟨1,0,qM⟩:=by
 refine Xw Tryz.f78 6 (Zc pk 48 [.io] [] [0] <|Zn) mixed <|fun E args ks C r h hC hlen=>?_
 simp only at h
 unfold qM at h
 split at h
 rotate_left
 cases h
 rename_i p0 p1
 cases h
 simp only [ap] at hlen
 refine ⟨rfl,?_⟩
 exact Xs [] [] 32 (v1 pT) <|Xt [Eb 2 (((cm p0 p1):Int) != 0)] [0] [Mc 0 [.ro .u8 (aq p0 p1),.b (ax p0 p1)]] [0] 96 (v1 (pu pz (v2 pT))) <|Xz [(0,0)] pz
def qF (p0:List Int) (p1:Bool):Bool :=
 (!p1)
def uG:List AV→List Blk→Option (Prop × Ret)
 |[.sc (.p 0 0)],[.cells [.ro .u8 p0,.b p1]]=>some (True,⟨.sc (.b (qF p0 p1)),[some (.cells [.ro .u8 p0,.b p1])]⟩)
 |_,_=>none
theorem uI:Known Tryz.prog gD 76 ⟨1,0,uG⟩:=by
 refine Xw Tryz.f76 12 Zn mixed <|fun E args ks C r h hC hlen=>?_
 simp only at h
 unfold uG at h
 split at h
 rotate_left
 cases h
 rename_i p0 p1
 cases h
 simp only [ap] at hlen
 refine ⟨rfl,?_⟩
 exact Xs [] [] 32 (v1 pT) <|Xs [Eb 2 (!p1)] [0] 192 (v6 (pu (Yl 1 2) (v3 pT))) <|Xz [(0,0)] pz
def dm (p0:List Int) (p1:Bool):Bool :=
 (sel (qF p0 p1) ((((p0.length:Nat):Int):Int)==0) false)
def sO:List AV→List Blk→Option (Prop × Ret)
 |[.sc (.p 0 0)],[.cells [.ro .u8 p0,.b p1]]=>some (True,⟨.sc (.b (dm p0 p1)),[some (.cells [.ro .u8 p0,.b p1])]⟩)
 |_,_=>none
theorem fc:Known Tryz.prog gD 44 ⟨1,0,sO⟩:=by
 refine Xw Tryz.f44 13 (Zc uI 48 [.io] [] [0] <|Zn) mixed <|fun E args ks C r h hC hlen=>?_
 simp only at h
 unfold sO at h
 split at h
 rotate_left
 cases h
 rename_i p0 p1
 cases h
 simp only [ap] at hlen
 refine ⟨rfl,?_⟩
 refine Xs [] [] 32 (v1 pT) <|Tri.split (qF p0 p1) (fun h1=>?_) (fun h1=>?_)
 exact Xu [Eb 5 true] none [Eb 2 ((((p0.length:Nat):Int):Int)==0)] [0] [] [] 208 (v1 (pu pz (pg h1 (v3 (pu (Yl 0 2) (v4 pT)))))) <|Xy [(0,0)] pz (by simp only [dm,h1,aD,aA] <;> rfl)
 exact Xu [Eb 5 false] none [Eb 2 false] [0] [] [] 208 (v1 (pu pz (pg h1 (v8 pT)))) <|Xy [(0,0)] pz (by simp only [dm,h1,aD,aA] <;> rfl)
def gN (p0:List Int) (p1:Bool) (k0:Nat) (z0:Int):Int :=
 (iOr .u32 (dZ .u32 z0 8) (IntKind.wrap .u32 ((bt p0 p1 4).getD k0 0)))
def dr (p0:List Int) (p1:Bool):Int :=
 (itr (gN p0 p1) ((bt p0 p1 4).length) 0)
def dA (p0:List Int) (p1:Bool):List Int :=
 (cn p0 p1 4)
def dR (p0:List Int) (p1:Bool):Bool :=
 (dO p0 p1 4)
def sF:List AV→List Blk→Option (Prop × Ret)
 |[.sc (.p 0 0)],[.cells [.ro .u8 p0,.b p1]]=>some (True,⟨.sc (.i .u32 (dr p0 p1)),[some (.cells [.ro .u8 (dA p0 p1),.b (dR p0 p1)])]⟩)
 |_,_=>none
theorem tZ:Known Tryz.prog gD 75 ⟨1,0,sF⟩:=by
 refine Xw Tryz.f75 20 (Zc lY 64 [.io,.val] [] [0] <|Zn) mixed <|fun E args ks C r h hC hlen=>?_
 simp only at h
 unfold sF at h
 split at h
 rotate_left
 cases h
 rename_i p0 p1
 cases h
 simp only [ap] at hlen
 have hf0:(bt p0 p1 4).length≤4:=jm p0 p1 4
 refine ⟨rfl,?_⟩
 refine Xs [] [] 32 (v1 pT) <|Xs [Ek 3 .u32 0] [] 48 (v1 pT) <|Tri.seq <|Xt [Ei 9 0,Ej 8 ((bt p0 p1 4).length),Er 7 (bt p0 p1 4)] [0] [Mc 0 [.ro .u8 (cn p0 p1 4),.b (dO p0 p1 4)]] [0] 112 (v1 (pu (pa pT (Y0 4)) (v2 pT))) <|Tri.block <|Xc ((bt p0 p1 4).length) (gN p0 p1) 0 (fun k0 z0=>True) (fun k0 z0=>[Ej 9 k0,Ek 3 .u32 z0]) (fun k0 z0=>[]) trivial <|fun k0 z0 hk0 hz0 hJ0=>Xs [Eb 10 (decide ((((k0:Nat):Int):Int)<(((bt p0 p1 4).length:Nat):Int)))] [] 128 (v1 pT) <|Tri.seq <|Xb (fun h1 h1'=>?_) (fun h1 h1'=>?_)
 exact Tri.skip <|Tri.seq <|Tri.block <|Xs [Ek 5 .u8 ((bt p0 p1 4).getD k0 0)] [10] 176 (pu (Yj k0 ((bt p0 p1 4).length)) (pu (Yl k0 ((bt p0 p1 4).length)) (v1 pT))) <|Ws [Ek 3 .u32 (iOr .u32 (dZ .u32 z0 8) (IntKind.wrap .u32 ((bt p0 p1 4).getD k0 0)))] [5,3] 272 (v1 (pu (Y0 8) (v4 pT))) <|Wu [Ej 18 (k0+1)] none [Ej 9 (k0+1)] [9] [] [] 304 (pv pT (Yp k0 1) (v1 pT)) <|Xo [] trivial
 refine Tri.exit <|?_
 obtain rfl:k0=((bt p0 p1 4).length):=(by omega);subst hz0
 exact Xs [Ek 2 .u32 (itr (gN p0 p1) ((bt p0 p1 4).length) 0)] [10,9,8,7,3] 160 (v2 pT) <|Xz [(0,0)] pz
theorem mR (p0:List Int) (p1:Bool):0≤dr p0 p1∧dr p0 p1<4294967296:=by
 have h0:∀ n,0≤itr (gN p0 p1) n 0∧itr (gN p0 p1) n 0<4294967296:=by
  intro n
  cases n with
  |zero=>rw [bl];decide
  |succ k=>rw [bg];unfold gN iOr;rw [qW];omega
 exact h0 _
theorem qk (p0:List Int) (p1:Bool):0≤IntKind.wrap .i64 (dr p0 p1):=by
 have:=mR p0 p1
 rw [cH (by omega) (by omega)]
 exact this.1
def aT (p0:List Int) (p1:Bool):ByteArray :=
 (sel (decide (((dr p0 p1):Int)>16384)) (⟨#[]⟩:ByteArray) (aU (bt (dA p0 p1) (dR p0 p1) (IntKind.wrap .i64 (dr p0 p1)))))
def aW (p0:List Int) (p1:Bool):List Int :=
 (sel (decide (((dr p0 p1):Int)>16384)) (cn (dA p0 p1) (dR p0 p1) 1073741824) (cn (dA p0 p1) (dR p0 p1) (IntKind.wrap .i64 (dr p0 p1))))
def aa (p0:List Int) (p1:Bool):Bool :=
 (sel (decide (((dr p0 p1):Int)>16384)) (dO (dA p0 p1) (dR p0 p1) 1073741824) (dO (dA p0 p1) (dR p0 p1) (IntKind.wrap .i64 (dr p0 p1))))
def ql:List AV→List Blk→Option (Prop × Ret)
 |[.sc (.p 0 0)],[.cells [.ro .u8 p0,.b p1]]=>some (True,⟨.sc (.s (aT p0 p1)),[some (.cells [.ro .u8 (aW p0 p1),.b (aa p0 p1)])]⟩)
 |_,_=>none
theorem dW:Known Tryz.prog gD 43 ⟨1,0,ql⟩:=by
 refine Xw Tryz.f43 15 (Zc lY 128 [.io,.val] [] [0] <|Zc lY 160 [.io,.val] [] [0] <|Zc tZ 48 [.io] [] [0] <|Zn) mixed <|fun E args ks C r h hC hlen=>?_
 simp only at h
 unfold ql at h
 split at h
 rotate_left
 cases h
 rename_i p0 p1
 cases h
 simp only [ap] at hlen
 refine ⟨rfl,?_⟩
 refine Xs [] [] 32 (v1 pT) <|Xt [Ek 3 .u32 (dr p0 p1)] [] [Mc 0 [.ro .u8 (dA p0 p1),.b (dR p0 p1)]] [0] 80 (v1 (pu pz (v1 pT))) <|Tri.seq <|Xs [Eb 7 (decide (((dr p0 p1):Int)>16384))] [] 112 (v2 pT) <|Xb (fun h1 h1'=>?_) (fun h1 h1'=>?_)
 exact Xt [] [7,3,0] [Mc 0 [.ro .u8 (cn (dA p0 p1) (dR p0 p1) 1073741824),.b (dO (dA p0 p1) (dR p0 p1) 1073741824)]] [0] 144 (v1 (pu (pa pT (Y0 1073741824)) pT)) <|Xs [Es 2 (⟨#[]⟩:ByteArray)] [] 160 (v1 pT) <|Xy [(0,0)] pz (by simp only [aT,aW,aa,h1,aD,aA] <;> rfl)
 exact Tri.skip <|Xt [Es 2 (aU (bt (dA p0 p1) (dR p0 p1) (IntKind.wrap .i64 (dr p0 p1))))] [7,3,0] [Mc 0 [.ro .u8 (cn (dA p0 p1) (dR p0 p1) (IntKind.wrap .i64 (dr p0 p1))),.b (dO (dA p0 p1) (dR p0 p1) (IntKind.wrap .i64 (dr p0 p1)))]] [0] 208 (v3 (pu (pa pT (pl (show (0:Int)≤(IntKind.wrap .i64 (dr p0 p1)) from qk _ _))) (v2 pT))) <|Xy [(0,0)] pz (by simp only [aT,aW,aa,h1,aD,aA] <;> rfl)
theorem cN (p0:List Int) (p1:Bool):(aT p0 p1).size≤16384:=by
 unfold aT
 cases h:(decide (((dr p0 p1):Int)>16384))
 ·have h0:=of_decide_eq_false h
  have h1:=mR p0 p1
  have h2:=jm (dA p0 p1) (dR p0 p1) (IntKind.wrap .i64 (dr p0 p1))
  rw [cH (by omega) (by omega)] at h2 ⊢
  rw [aA]
  have h3:∀ xs:List Int,(aU xs).size=xs.length:=fun xs=>by simp [aU,ByteArray.size]
  rw [h3]
  omega
 ·rw [aD];decide
end Go.Vm
namespace Go.Vm
open Go Go.Proofs
def lZ (p0:Nat) (p2:List Int) (p3:Int):List Int :=
 p2++[(IntKind.wrap .u8 (aX .u32 p3 24)),(IntKind.wrap .u8 (aX .u32 p3 16)),(IntKind.wrap .u8 (aX .u32 p3 8)),(IntKind.wrap .u8 p3)]
def rD:List AV→List Blk→Option (Prop × Ret)
 |[.sc (.sl 0 0 p0 1 none),.sc (.i .u32 p3)],[.ints .u8 p1 p2]=>some (((p0=p1)∧(p0≤1000000000)),⟨.sc (.sl 1 0 (p0+4) 1 none),[none,some (.ints .u8 (p0+4) (lZ p0 p2 p3))]⟩)
 |_,_=>none
theorem sw:Known Tryz.prog gD 69 ⟨1,1,rD⟩:=by
 refine Xw Tryz.f69 19 Zn mixed <|fun E args ks C r h hC hlen=>?_
 simp only at h
 unfold rD at h
 split at h
 rotate_left
 cases h
 rename_i p0 p3 p1 p2
 cases h
 simp only [ap] at hlen
 obtain ⟨hEp1,hC⟩:=hC
 subst hEp1
 refine ⟨rfl,?_⟩
 exact Xs [] [] 32 (v1 pT) <|Xt [El 4 240 (p0+4)] [0,1] [Mi 240 (p0+4) (p2++[(IntKind.wrap .u8 (aX .u32 p3 24)),(IntKind.wrap .u8 (aX .u32 p3 16)),(IntKind.wrap .u8 (aX .u32 p3 8)),(IntKind.wrap .u8 p3)])] [0] 272 (v2 (pu (Y0 24) (v2 (pu (Y0 16) (v2 (pu (Y0 8) (v3 (pu (Yf 4) (pu (Ya (Yw 4) 1 (p0+4) 4 4 p0 p0) (v1 pT)))))))))) <|Xz [(240,1)] pz
def jO (p3:Int):List Int :=
 [(IntKind.wrap .u8 (aX .u32 p3 24)),(IntKind.wrap .u8 (aX .u32 p3 16)),(IntKind.wrap .u8 (aX .u32 p3 8)),(IntKind.wrap .u8 p3)]
def oa:List AV→List Blk→Option (Prop × Ret)
 |[.sc (.nils),.sc (.i .u32 p3)],[]=>some (True,⟨.sc (.sl 0 0 4 1 none),[some (.ints .u8 4 (jO p3))]⟩)
 |_,_=>none
theorem rz:Known Tryz.prog gD 69 ⟨0,1,oa⟩:=by
 refine Xw Tryz.f69 19 Zn mixed <|fun E args ks C r h hC hlen=>?_
 simp only at h
 unfold oa at h
 split at h
 rotate_left
 cases h
 rename_i p3
 cases h
 simp only [ap] at hlen
 refine ⟨rfl,?_⟩
 exact Xs [] [] 32 (v1 pT) <|Xt [El 4 240 4] [0,1] [Mi 240 4 [(IntKind.wrap .u8 (aX .u32 p3 24)),(IntKind.wrap .u8 (aX .u32 p3 16)),(IntKind.wrap .u8 (aX .u32 p3 8)),(IntKind.wrap .u8 p3)]] [] 272 (v2 (pu (Y0 24) (v2 (pu (Y0 16) (v2 (pu (Y0 8) (v3 (pu (Yf 4) (pu (YN (Yw 4) 1 4 4 4) (v1 pT)))))))))) <|Xz [(240,0)] pz
def bz (p0:Nat) (p2:List Int) (p3:ByteArray):List Int :=
 (lZ p0 p2 (IntKind.wrap .u32 ((p3.size:Nat):Int)))++(ae p3)
def oS:List AV→List Blk→Option (Prop × Ret)
 |[.sc (.sl 0 0 p0 1 none),.sc (.s p3)],[.ints .u8 p1 p2]=>some (((p0=p1)∧(p0≤1000000000∧p3.size≤1000000000)),⟨.sc (.sl 1 0 ((p0+4)+p3.size) 1 none),[none,some (.ints .u8 ((p0+4)+p3.size) (bz p0 p2 p3))]⟩)
 |_,_=>none
theorem dQ:Known Tryz.prog gD 32 ⟨1,1,oS⟩:=by
 refine Xw Tryz.f32 12 (Zc sw 96 [.io,.val] [] [0] <|Zn) mixed <|fun E args ks C r h hC hlen=>?_
 simp only at h
 unfold oS at h
 split at h
 rotate_left
 cases h
 rename_i p0 p3 p1 p2
 cases h
 simp only [ap] at hlen
 obtain ⟨hEp1,hC⟩:=hC
 subst hEp1
 refine ⟨rfl,?_⟩
 exact Xs [] [] 32 (v1 pT) <|Xt [El 4 128 ((p0+4)+p3.size)] [0,1] [Mi 128 ((p0+4)+p3.size) ((lZ p0 p2 (IntKind.wrap .u32 ((p3.size:Nat):Int)))++(ae p3))] [0] 160 (v4 (pu (pa pT (pa (Yr p0) (Ye p0 1000000000))) (v1 (pu (Ya pT 1 ((p0+4)+p3.size) p3.size p3.size (p0+4) (p0+4)) (v1 pT))))) <|Xz [(128,1)] pz
def eq (p3:ByteArray):List Int :=
 (jO (IntKind.wrap .u32 ((p3.size:Nat):Int)))++(ae p3)
def nI:List AV→List Blk→Option (Prop × Ret)
 |[.sc (.nils),.sc (.s p3)],[]=>some ((p3.size≤1000000000),⟨.sc (.sl 0 0 (4+p3.size) 1 none),[some (.ints .u8 (4+p3.size) (eq p3))]⟩)
 |_,_=>none
theorem mZ:Known Tryz.prog gD 32 ⟨0,1,nI⟩:=by
 refine Xw Tryz.f32 12 (Zv rz 96 2 <|Zn) mixed <|fun E args ks C r h hC hlen=>?_
 simp only at h
 unfold nI at h
 split at h
 rotate_left
 cases h
 rename_i p3
 cases h
 simp only [ap] at hlen
 refine ⟨rfl,?_⟩
 exact Xs [] [] 32 (v1 pT) <|Xt [El 4 128 (4+p3.size)] [0,1] [Mi 128 (4+p3.size) ((jO (IntKind.wrap .u32 ((p3.size:Nat):Int)))++(ae p3))] [] 160 (v4 (pu pz (v1 (pu (Ya pT 1 (4+p3.size) p3.size p3.size 4 4) (v1 pT))))) <|Xz [(128,0)] pz
def mQ (p0:Nat) (p2:List Int) (p3:List ByteArray):List Int :=
 (bz p0 p2 (fe p3 (⟨#[44]⟩:ByteArray)))
def dV (p0:Nat) (p2:List Int) (p3:List ByteArray):Nat :=
 (p0+4)+(fe p3 (⟨#[44]⟩:ByteArray)).size
def nJ:List AV→List Blk→Option (Prop × Ret)
 |[.sc (.sl 0 0 p0 1 none),.sc (.ros p3)],[.ints .u8 p1 p2]=>some (((p0=p1)∧(p0≤1000000000∧p3.length≤1000000000∧(fe p3 (⟨#[44]⟩:ByteArray)).size≤1000000000)),⟨.sc (.sl 1 0 (dV p0 p2 p3) 1 none),[none,some (.ints .u8 (dV p0 p2 p3) (mQ p0 p2 p3))]⟩)
 |_,_=>none
theorem rK:Known Tryz.prog gD 83 ⟨1,1,nJ⟩:=by
 refine Xw Tryz.f83 9 (Zc dQ 80 [.io,.val] [] [0] <|Zc uX 64 [.ros,.val] [] [] <|Zn) mixed <|fun E args ks C r h hC hlen=>?_
 simp only at h
 unfold nJ at h
 split at h
 rotate_left
 cases h
 rename_i p0 p3 p1 p2
 cases h
 simp only [ap] at hlen
 obtain ⟨hEp1,hC⟩:=hC
 subst hEp1
 refine ⟨rfl,?_⟩
 exact Xs [] [] 32 (v1 pT) <|Xt [El 4 80 ((p0+4)+(fe p3 (⟨#[44]⟩:ByteArray)).size)] [0,1] [Mi 80 ((p0+4)+(fe p3 (⟨#[44]⟩:ByteArray)).size) (bz p0 p2 (fe p3 (⟨#[44]⟩:ByteArray)))] [0] 112 (v2 (pu (pa pT (lo (p3.length≤1000000000∧(fe p3 (⟨#[44]⟩:ByteArray)).size≤1000000000))) (pu (pa pT (pa (Yr p0) (lo (p0≤1000000000∧(fe p3 (⟨#[44]⟩:ByteArray)).size≤1000000000)))) (v1 pT)))) <|Xz [(80,1)] pz
def eZ (p0:Nat) (p2:List Int) (p3:Bool):List Int :=
 (sel p3 (p2++[1]) (p2++[0]))
def pC:List AV→List Blk→Option (Prop × Ret)
 |[.sc (.sl 0 0 p0 1 none),.sc (.b p3)],[.ints .u8 p1 p2]=>some (((p0=p1)∧(p0≤1000000000)),⟨.sc (.sl 1 0 (p0+1) 1 none),[none,some (.ints .u8 (p0+1) (eZ p0 p2 p3))]⟩)
 |_,_=>none
theorem jP:Known Tryz.prog gD 33 ⟨1,1,pC⟩:=by
 refine Xw Tryz.f33 12 Zn mixed <|fun E args ks C r h hC hlen=>?_
 simp only at h
 unfold pC at h
 split at h
 rotate_left
 cases h
 rename_i p0 p3 p1 p2
 cases h
 simp only [ap] at hlen
 obtain ⟨hEp1,hC⟩:=hC
 subst hEp1
 refine ⟨rfl,?_⟩
 refine Xs [] [] 32 (v1 pT) <|Tri.seq <|Xs [Eb 5 p3] [1] 48 (v1 pT) <|Xa (fun h1=>?_) (fun h1=>?_)
 exact Xt [El 4 80 (p0+1)] [5,0] [Mi 80 (p0+1) (p2++[1])] [0] 112 (v1 (pu (Yf 1) (pu (Ya (Yw 1) 1 (p0+1) 1 1 p0 p0) (v1 pT)))) <|Xy [(80,1)] pz (by simp only [eZ,h1,aD,aA] <;> rfl)
 exact Tri.skip <|Xt [El 4 80 (p0+1)] [5,0] [Mi 80 (p0+1) (p2++[0])] [0] 112 (v1 (pu (Yf 1) (pu (Ya (Yw 1) 1 (p0+1) 1 1 p0 p0) (v1 pT)))) <|Xy [(80,1)] pz (by simp only [eZ,h1,aD,aA] <;> rfl)
end Go.Vm
namespace Go.Vm
open Go Go.Proofs
def ay (p0:Nat) (p2:List Int):List Int :=
 aC p2 p0 0 p0
def ol:List AV→List Blk→Option (Prop × Ret)
 |[.sc (.sl 0 0 p0 1 none)],[.ints .u8 p1 p2]=>some (((p0=p1)∧True),⟨.sc (.p 1 0),[none,some (.cells [.ro .u8 (ay p0 p2),.b false])]⟩)
 |_,_=>none
theorem mI:Known Tryz.prog gD 41 ⟨1,1,ol⟩:=by
 refine Xw Tryz.f41 6 Zn mixed <|fun E args ks C r h hC hlen=>?_
 simp only at h
 unfold ol at h
 split at h
 rotate_left
 cases h
 rename_i p0 p1 p2
 cases h
 simp only [ap] at hlen
 obtain ⟨hEp1,hC⟩:=hC
 subst hEp1
 refine ⟨rfl,?_⟩
 refine Tri.sub (Xf 0 (.ints .u8 p0 p2) (show 0+p0≤p0 from by first|omega|(rw [cu];omega)|exact ct _ _|exact cq _ _|exact bC (by omega) (by first|omega|(simp only [List.length_append];omega))|decide)) ?_
 exact Xs [] [] 32 (v1 pT) <|Xt [Ep 2 64] [0] [Mc 64 [.ro .u8 (aC p2 p0 0 p0),.b false]] [] 96 (v1 (pu (pa (Ys 0 2) pT) (v2 pT))) <|Xz [(64,1)] pz
def qz:List Int :=
 (eq (⟨#[115,115,104,45,101,100,50,53,53,49,57]⟩:ByteArray))
def mW (p0:ByteArray):List Int :=
 (bz (4+(⟨#[115,115,104,45,101,100,50,53,53,49,57]⟩:ByteArray).size) (qz) p0)
def fj (p0:ByteArray):ByteArray :=
 (aU (((mW p0).drop 0).take (((4+(⟨#[115,115,104,45,101,100,50,53,53,49,57]⟩:ByteArray).size)+4)+p0.size)))
def pr:List AV→List Blk→Option (Prop × Ret)
 |[.sc (.s p0)],[]=>some ((p0.size≤1000000000),⟨.sc (.s (fj p0)),[]⟩)
 |_,_=>none
theorem sS:Known Tryz.prog gD 29 ⟨0,0,pr⟩:=by
 refine Xw Tryz.f29 7 (Zv mZ 32 2 <|Zc dQ 64 [.io,.val] [] [32] <|Zn) mixed <|fun E args ks C r h hC hlen=>?_
 simp only at h
 unfold pr at h
 split at h
 rotate_left
 cases h
 rename_i p0
 cases h
 simp only [ap] at hlen
 have sz:(⟨#[115,115,104,45,101,100,50,53,53,49,57]⟩:ByteArray).size=11:=rfl
 refine ⟨rfl,?_⟩
 exact Xs [] [] 32 (v1 pT) <|Xs [Es 2 (aU (((mW p0).drop 0).take (((4+(⟨#[115,115,104,45,101,100,50,53,53,49,57]⟩:ByteArray).size)+4)+p0.size)))] [0] 112 (pu (pa pT (Ye ((⟨#[115,115,104,45,101,100,50,53,53,49,57]⟩:ByteArray).size) 1000000000)) (v1 (pu (pa pT (pa (Yr (4+(⟨#[115,115,104,45,101,100,50,53,53,49,57]⟩:ByteArray).size)) (lo ((4+(⟨#[115,115,104,45,101,100,50,53,53,49,57]⟩:ByteArray).size)≤1000000000∧p0.size≤1000000000)))) (pu (Yw (((4+(⟨#[115,115,104,45,101,100,50,53,53,49,57]⟩:ByteArray).size)+4)+p0.size)) (v1 pT))))) <|Xz [] pz
theorem oW (s:ByteArray):(fj s).size≤s.size+19:=by
 have sz:(⟨#[115,115,104,45,101,100,50,53,53,49,57]⟩:ByteArray).size=11:=rfl
 unfold fj
 rw [bw,List.length_take,sz]
 omega
def dx (p0:ByteArray):ByteArray :=
 (aT (aW (ay p0.size (ae p0)) false) (aa (ay p0.size (ae p0)) false))
def fY (p0:ByteArray):List Int :=
 (aW (aW (ay p0.size (ae p0)) false) (aa (ay p0.size (ae p0)) false))
def fX (p0:ByteArray):Bool :=
 (aa (aW (ay p0.size (ae p0)) false) (aa (ay p0.size (ae p0)) false))
def bD (p0:ByteArray):ByteArray :=
 (sel (!(dm (fY p0) (fX p0))) (⟨#[]⟩:ByteArray) (sel (!(aY (aT (ay p0.size (ae p0)) false) (⟨#[115,115,104,45,101,100,50,53,53,49,57]⟩:ByteArray))) (⟨#[]⟩:ByteArray) (sel (((((dx p0).size:Nat):Int):Int) != 32) (⟨#[]⟩:ByteArray) (dx p0))))
def jr:List AV→List Blk→Option (Prop × Ret)
 |[.sc (.s p0)],[]=>some ((p0.size≤1000000000),⟨.sc (.s (bD p0)),[]⟩)
 |_,_=>none
theorem nW:Known Tryz.prog gD 80 ⟨0,0,jr⟩:=by
 refine Xw Tryz.f80 26 (Zc mI 64 [.io] [] [48] <|Zc dW 112 [.io] [] [64] <|Zc dW 144 [.io] [] [64] <|Zc fc 208 [.io] [] [64] <|Zn) mixed <|fun E args ks C r h hC hlen=>?_
 simp only at h
 unfold jr at h
 split at h
 rotate_left
 cases h
 rename_i p0
 cases h
 simp only [ap] at hlen
 refine ⟨rfl,?_⟩
 refine Xs [] [] 32 (v1 pT) <|Xt [Ep 3 64] [0] [Mc 64 [.ro .u8 (ay p0.size (ae p0)),.b false]] [] 96 (v2 (pu (pa pT (pa (Yr p0.size) pT)) (v1 pT))) <|Xt [Es 5 (dx p0),Es 4 (aT (ay p0.size (ae p0)) false)] [] [Mc 64 [.ro .u8 (fY p0),.b (fX p0)]] [64] 192 (v1 (pu pz (v1 (pu pz (v2 pT))))) <|Tri.seq <|Tri.split (!(dm (fY p0) (fX p0))) (fun h1=>?_) (fun h1=>?_)
 exact Xu [Eb 16 true] none [Eb 24 true] [4,3] [] [64] 384 (v1 (pu pz (v1 (pg h1 (v8 pT))))) <|Tri.cond_true (by kernel_rfl) <|Xs [Es 2 (⟨#[]⟩:ByteArray)] [24,5] 400 (v1 pT) <|Xy [] pz (by simp only [bD,h1,aD,aA] <;> rfl)
 refine Tri.split (!(aY (aT (ay p0.size (ae p0)) false) (⟨#[115,115,104,45,101,100,50,53,53,49,57]⟩:ByteArray))) (fun h2=>?_) (fun h2=>?_)
 exact Xu [Eb 16 false,Eb 20 true] none [Eb 24 true] [4,3] [] [64] 384 (v1 (pu pz (v1 (pg h1 (v3 (pg h2 (v4 pT))))))) <|Tri.cond_true (by kernel_rfl) <|Xs [Es 2 (⟨#[]⟩:ByteArray)] [24,5] 400 (v1 pT) <|Xy [] pz (by simp only [bD,h1,h2,aD,aA] <;> rfl)
 refine Xu [Eb 16 false,Eb 20 false] none [Eb 24 (((((dx p0).size:Nat):Int):Int) != 32)] [4,3] [] [64] 384 (v1 (pu pz (v1 (pg h1 (v3 (pg h2 (v4 pT))))))) <|Xa (fun h3=>?_) (fun h3=>?_)
 have h3':=bT h3
 exact Xs [Es 2 (⟨#[]⟩:ByteArray)] [24,5] 400 (v1 pT) <|Xy [] pz (by simp only [bD,h1,h2,h3,aD,aA] <;> rfl)
 have h3':=bB h3
 exact Tri.skip <|Xs [Es 2 (dx p0)] [24,5] 416 (v2 pT) <|Xy [] pz (by simp only [bD,h1,h2,h3,aD,aA] <;> rfl)
def eQ (p0:ByteArray):ByteArray :=
 (aT (aW (ay p0.size (ae p0)) false) (aa (ay p0.size (ae p0)) false))
def fB (p0:ByteArray):List Int :=
 (aW (aW (ay p0.size (ae p0)) false) (aa (ay p0.size (ae p0)) false))
def fA (p0:ByteArray):Bool :=
 (aa (aW (ay p0.size (ae p0)) false) (aa (ay p0.size (ae p0)) false))
def fh (p0:ByteArray):Bool:=sel (!(dm (fB p0) (fA p0))) true (sel (!(aY (aT (ay p0.size (ae p0)) false) (⟨#[115,115,104,45,101,100,50,53,53,49,57]⟩:ByteArray))) true (((((eQ p0).size:Nat):Int):Int) != 64))
theorem pA {p0:ByteArray} (h:fh p0=false):(!(dm (fB p0) (fA p0)))=false∧(!(aY (aT (ay p0.size (ae p0)) false) (⟨#[115,115,104,45,101,100,50,53,53,49,57]⟩:ByteArray)))=false∧(((((eQ p0).size:Nat):Int):Int) != 64)=false:=by
 unfold fh at h
 revert h
 generalize (!(dm (fB p0) (fA p0)))=a
 generalize (!(aY (aT (ay p0.size (ae p0)) false) (⟨#[115,115,104,45,101,100,50,53,53,49,57]⟩:ByteArray)))=b
 generalize (((((eQ p0).size:Nat):Int):Int) != 64)=c
 intro h
 cases a
 ·cases b
  ·rw [aA,aA] at h;exact ⟨rfl,rfl,h⟩
  ·rw [aA,aD] at h;cases h
 ·rw [aD] at h;cases h
theorem rb {p0:ByteArray} (h:fh p0=true) (h1:(!(dm (fB p0) (fA p0)))=false) (h2:(!(aY (aT (ay p0.size (ae p0)) false) (⟨#[115,115,104,45,101,100,50,53,53,49,57]⟩:ByteArray)))=false):(((((eQ p0).size:Nat):Int):Int) != 64)=true:=by
 unfold fh at h
 rw [h1,h2,aA,aA] at h
 exact h
def ah (p0:ByteArray):ByteArray :=
 (aT (aW (ay p0.size (ae p0)) false) (aa (ay p0.size (ae p0)) false))
def gb (p0:ByteArray):List Int :=
 (aW (aW (ay p0.size (ae p0)) false) (aa (ay p0.size (ae p0)) false))
def ga (p0:ByteArray):Bool :=
 (aa (aW (ay p0.size (ae p0)) false) (aa (ay p0.size (ae p0)) false))
def eO (p0:ByteArray):List Int :=
 ae (ah p0)
def iv:List AV→List Blk→Option (Prop × Ret)
 |[.sc (.s p0)],[]=>some ((((fh p0)=false)∧(p0.size≤1000000000)),⟨.sc (.sl 0 0 ((ah p0).size) 1 none),[some (.ints .u8 ((ah p0).size) (eO p0))]⟩)
 |_,_=>none
theorem fq:Known Tryz.prog gD 81 ⟨0,1,iv⟩:=by
 refine Xw Tryz.f81 27 (Zc mI 64 [.io] [] [48] <|Zc dW 112 [.io] [] [64] <|Zc dW 144 [.io] [] [64] <|Zc fc 208 [.io] [] [64] <|Zn) mixed <|fun E args ks C r h hC hlen=>?_
 simp only at h
 unfold iv at h
 split at h
 rotate_left
 cases h
 rename_i p0
 cases h
 simp only [ap] at hlen
 have hG0:=hC.1
 have hC:=hC.2
 have hsig:=pA hG0
 refine ⟨rfl,?_⟩
 refine Xs [] [] 32 (v1 pT) <|Xt [Ep 3 64] [0] [Mc 64 [.ro .u8 (ay p0.size (ae p0)),.b false]] [] 96 (v2 (pu (pa pT (pa (Yr p0.size) pT)) (v1 pT))) <|Xt [Es 5 (ah p0),Es 4 (aT (ay p0.size (ae p0)) false)] [] [Mc 64 [.ro .u8 (gb p0),.b (ga p0)]] [64] 192 (v1 (pu pz (v1 (pu pz (v2 pT))))) <|Tri.seq <|Xu [Eb 16 false,Eb 20 false] none [Eb 24 (((((ah p0).size:Nat):Int):Int) != 64)] [4,3] [] [64] 384 (v1 (pu pz (v1 (pv pT (pl (show (!(dm (gb p0) (ga p0)))=false from hsig.1)) (v3 (pv pT (pl (show (!(aY (aT (ay p0.size (ae p0)) false) (⟨#[115,115,104,45,101,100,50,53,53,49,57]⟩:ByteArray)))=false from hsig.2.1)) (v4 pT))))))) <|Tri.cond (x:=(((((ah p0).size:Nat):Int):Int) != 64)) (by kernel_rfl) (fun h=>absurd (h.symm.trans hsig.2.2) (by decide)) (fun h=>?_)
 exact Tri.skip <|Xt [El 2 400 ((ah p0).size)] [24,5] [Mi 400 ((ah p0).size) (ae (ah p0))] [] 432 (v3 pT) <|Xz [(400,0)] pz
theorem rY {p0:ByteArray} (h:fh p0=false):0<(ah p0).size:=by
 have h3:=bB (pA h).2.2
 have e:(ah p0).size=(eQ p0).size:=rfl
 omega
def fH (p0:ByteArray):ByteArray :=
 (aT (aW (ay p0.size (ae p0)) false) (aa (ay p0.size (ae p0)) false))
def gX (p0:ByteArray):List Int :=
 (aW (aW (ay p0.size (ae p0)) false) (aa (ay p0.size (ae p0)) false))
def gV (p0:ByteArray):Bool :=
 (aa (aW (ay p0.size (ae p0)) false) (aa (ay p0.size (ae p0)) false))
def im:List AV→List Blk→Option (Prop × Ret)
 |[.sc (.s p0)],[]=>some ((((fh p0)=true)∧(p0.size≤1000000000)),⟨.sc (.nils),[]⟩)
 |_,_=>none
theorem mg:Known Tryz.prog gD 81 ⟨0,0,im⟩:=by
 refine Xw Tryz.f81 27 (Zc mI 64 [.io] [] [48] <|Zc dW 112 [.io] [] [64] <|Zc dW 144 [.io] [] [64] <|Zc fc 208 [.io] [] [64] <|Zn) mixed <|fun E args ks C r h hC hlen=>?_
 simp only at h
 unfold im at h
 split at h
 rotate_left
 cases h
 rename_i p0
 cases h
 simp only [ap] at hlen
 have hG0:=hC.1
 have hC:=hC.2
 refine ⟨rfl,?_⟩
 refine Xs [] [] 32 (v1 pT) <|Xt [Ep 3 64] [0] [Mc 64 [.ro .u8 (ay p0.size (ae p0)),.b false]] [] 96 (v2 (pu (pa pT (pa (Yr p0.size) pT)) (v1 pT))) <|Xt [Es 5 (fH p0),Es 4 (aT (ay p0.size (ae p0)) false)] [] [Mc 64 [.ro .u8 (gX p0),.b (gV p0)]] [64] 192 (v1 (pu pz (v1 (pu pz (v2 pT))))) <|Tri.seq <|Tri.split (!(dm (gX p0) (gV p0))) (fun h1=>?_) (fun h1=>?_)
 exact Xu [Eb 16 true] none [Eb 24 true] [4,3] [] [64] 384 (v1 (pu pz (v1 (pg h1 (v8 pT))))) <|Tri.cond_true (by kernel_rfl) <|Xs [(2,.sc (.nils))] [24,5] 400 (v1 pT) <|Xy [] pz rfl
 refine Tri.split (!(aY (aT (ay p0.size (ae p0)) false) (⟨#[115,115,104,45,101,100,50,53,53,49,57]⟩:ByteArray))) (fun h2=>?_) (fun h2=>?_)
 exact Xu [Eb 16 false,Eb 20 true] none [Eb 24 true] [4,3] [] [64] 384 (v1 (pu pz (v1 (pg h1 (v3 (pg h2 (v4 pT))))))) <|Tri.cond_true (by kernel_rfl) <|Xs [(2,.sc (.nils))] [24,5] 400 (v1 pT) <|Xy [] pz rfl
 refine Xu [Eb 16 false,Eb 20 false] none [Eb 24 (((((fH p0).size:Nat):Int):Int) != 64)] [4,3] [] [64] 384 (v1 (pu pz (v1 (pg h1 (v3 (pg h2 (v4 pT))))))) <|Tri.cond (x:=(((((fH p0).size:Nat):Int):Int) != 64)) (by kernel_rfl) (fun h=>?_) (fun h=>absurd (h.symm.trans (rb hG0 h1 h2)) (by decide))
 exact Xs [(2,.sc (.nils))] [24,5] 400 (v1 pT) <|Xy [] pz rfl
end Go.Vm
namespace Go.Vm
open Go Go.Proofs
def jY (p0:Int) (k0:Nat) (z0:List Int):List Int :=
 z0.set k0 p0
def hI (p0:Int):List Int :=
 (itr (jY p0) 32 (List.replicate 32 0))
def aK (p0:Int):ByteArray :=
 (aU (((hI p0).drop 0).take 32))
def qC:List AV→List Blk→Option (Prop × Ret)
 |[.sc (.i .u8 p0)],[]=>some (True,⟨.sc (.s (aK p0)),[]⟩)
 |_,_=>none
theorem nY:Known Tryz.prog gD 25 ⟨0,0,qC⟩:=by
 refine Xw Tryz.f25 18 Zn mixed <|fun E args ks C r h hC hlen=>?_
 simp only at h
 unfold qC at h
 split at h
 rotate_left
 cases h
 rename_i p0
 cases h
 simp only [ap] at hlen
 refine ⟨rfl,?_⟩
 refine Xs [] [] 32 (v1 pT) <|Xt [El 3 32 32] [] [Mi 32 32 (List.replicate 32 0)] [] 64 (pu (pa (lo ((0:Int)≤32∧(32:Int)=32)) (pa (lo (32≤(140737488355328:Int))) (lo (((1:Nat):Int)*32≤281474976710656)))) (v1 pT)) <|Tri.seq <|Xs [Ei 8 0,Ei 7 32] [] 112 (v3 pT) <|Tri.block <|Xc 32 (jY p0) (List.replicate 32 0) (fun k0 z0=>True) (fun k0 z0=>[Ej 8 k0]) (fun k0 z0=>[Mi 32 32 z0]) trivial <|fun k0 z0 hk0 hz0 hJ0=>Xs [Eb 9 (decide ((((k0:Nat):Int):Int)<32))] [] 128 (v1 pT) <|Tri.seq <|Xb (fun h1 h1'=>?_) (fun h1 h1'=>?_)
 exact Tri.skip <|Tri.seq <|Tri.block <|Xs [Ej 4 k0] [9] 160 (v2 pT) <|Wt [] [4] [Mi 32 32 (z0.set k0 p0)] [32] 240 (v3 (pu (Yj k0 32) (pu (Ys k0 32) pT))) <|Wu [Ej 15 (k0+1)] none [Ej 8 (k0+1)] [8] [] [] 272 (pv pT (Yp k0 1) (v1 pT)) <|Xo [] trivial
 refine Tri.exit <|?_
 obtain rfl:k0=32:=(by omega);obtain rfl:z0=(hI p0):=hz0
 exact Xt [Es 2 (aU (((hI p0).drop 0).take 32))] [9,8,7,3,0] [] [32] 176 (v1 (pu (Yw 32) (v1 pT))) <|Xz [] pz
theorem iZ (c:Int):(aK c).size=32:=by
 have h:∀ (f:Nat→List Int→List Int) (hf:∀ k z,(f k z).length=z.length) (n:Nat) (z:List Int),(itr f n z).length=z.length:=by
  intro f hf n z
  induction n with
  |zero=>rw [bl]
  |succ n ih=>rw [bg,hf,ih]
 unfold aK hI
 rw [bw,List.length_take,List.drop_zero,h _ (fun k z=>by unfold jY;rw [List.length_set])]
 decide
theorem mX (c:Int):(aC (ae (aK c)) (aK c).size 0 (aK c).size).length=32:=by rw [dN (br _),br,iZ]
def iT:List Int :=
 (sb (aC (ae (aK 107)) ((aK 107).size) 0 ((aK 107).size)))
def ke:List Int :=
 (sb (aC (ae (aK 99)) ((aK 99).size) 0 ((aK 99).size)))
def jT:ByteArray :=
 (aU (((iT).drop 0).take 32))
def gK:ByteArray :=
 (aU (((ke).drop 0).take 32))
def UA:List Sc:=[.s (⟨#[97,110,110]⟩:ByteArray),.s (⟨#[115,101,99,114,101,116]⟩:ByteArray),.s (⟨#[]⟩:ByteArray),.nils,.s (⟨#[98,111,98]⟩:ByteArray),.s (⟨#[]⟩:ByteArray),.s (jT),.nils,.s (⟨#[99,121]⟩:ByteArray),.s (⟨#[119,111,114,100]⟩:ByteArray),.s (gK),.nils,.s (⟨#[110,105,108]⟩:ByteArray),.s (⟨#[]⟩:ByteArray),.s (⟨#[]⟩:ByteArray),.nils]
def om:List AV→List Blk→Option (Prop × Ret)
 |[],[]=>some (True,⟨.sc (.sl 0 0 4 4 none),[some (.cells UA)]⟩)
 |_,_=>none
theorem oU:Known Tryz.prog gD 19 ⟨0,1,om⟩:=by
 refine Xw Tryz.f19 16 (Zc uO 64 [.ro .u8] [48] [] <|Zc uO 192 [.ro .u8] [176] [] <|Zv nY 32 1 <|Zv nY 160 1 <|Zn) mixed <|fun E args ks C r h hC hlen=>?_
 simp only at h
 unfold om at h
 split at h
 rotate_left
 cases h
 cases h
 simp only [ap] at hlen
 refine ⟨rfl,?_⟩
 exact Xs [] [] 32 (v1 pT) <|Xs [Es 1 (aU (((iT).drop 0).take 32))] [] 112 (pu pz (v1 (pu (pa (pa (Yw ((aK 107).size)) pT) (pl (show (aC (ae (aK 107)) ((aK 107).size) 0 ((aK 107).size)).length=32 from mX _))) (pu (Yw 32) (v1 pT))))) <|Xt [(0,.sc (.sl 256 0 4 4 none))] [1] [Mc 256 [.s (⟨#[97,110,110]⟩:ByteArray),.s (⟨#[115,101,99,114,101,116]⟩:ByteArray),.s (⟨#[]⟩:ByteArray),.nils,.s (⟨#[98,111,98]⟩:ByteArray),.s (⟨#[]⟩:ByteArray),.s (aU (((iT).drop 0).take 32)),.nils,.s (⟨#[99,121]⟩:ByteArray),.s (⟨#[119,111,114,100]⟩:ByteArray),.s (aU (((ke).drop 0).take 32)),.nils,.s (⟨#[110,105,108]⟩:ByteArray),.s (⟨#[]⟩:ByteArray),.s (⟨#[]⟩:ByteArray),.nils]] [] 288 (pu (pa (Ys 0 4) (pa (Ys 1 4) pT)) (v1 (pu (pa (Ys 0 4) (pa (Ys 2 4) pT)) (pu pz (v1 (pu (pa (pa (Yw ((aK 99).size)) pT) (pl (show (aC (ae (aK 99)) ((aK 99).size) 0 ((aK 99).size)).length=32 from mX _))) (pu (Yw 32) (pu (pa (Ys 0 4) (pa (Ys 1 4) (pa (Ys 2 4) pT))) (pu (pa (Ys 0 4) pT) (pu (pa (pa (pa (Ye (0+4) 16) (Yr 4)) (pa (pa (Ye (4+4) 16) (Yr 4)) (pa (pa (Ye (8+4) 16) (Yr 4)) (pa (pa (Ye (12+4) 16) (Yr 4)) pT)))) (pa (Ye (4*4) 16777216) (Yr 4))) (v1 pT))))))))))) <|Xz [(256,0)] pz
def sM:List AV→List Blk→Option (Prop × Ret)
 |[.sc (.sl 0 0 4 4 none),.sc (.ro .u8 p1),.sc (.i .i64 p2)],[.cells p9]=>some (((UA=p9)∧(p1.length≤100000)),⟨.sc (.p 1 0),[some (.cells UA),some (.cells [.sl 0 0 4 4 none,.sl 2 0 p1.length 1 none,.i .i64 p2,.b false,.s (⟨#[]⟩:ByteArray),.b false]),some (.ints .u8 p1.length p1)]⟩)
 |_,_=>none
theorem sK:Known Tryz.prog gD 18 ⟨1,2,sM⟩:=by
 refine Xw Tryz.f18 13 Zn mixed <|fun E args ks C r h hC hlen=>?_
 simp only at h
 unfold sM at h
 split at h
 rotate_left
 cases h
 rename_i p1 p2 p9
 cases h
 simp only [ap] at hlen
 obtain ⟨hEp9,hC⟩:=hC
 subst hEp9
 refine ⟨rfl,?_⟩
 exact Xs [] [] 32 (v1 pT) <|Xt [Ep 6 112] [0,1,2] [Mc 112 [.sl 0 0 4 4 none,.sl 64 0 p1.length 1 none,.i .i64 p2,.b false,.s (⟨#[]⟩:ByteArray),.b false],Mi 64 p1.length p1] [] 144 (v2 (pu (YN pT 1 p1.length p1.length p1.length) (v1 (pu (pa (Ys 0 6) (pa (Ys 1 6) (pa (Ys 2 6) pT))) (v2 pT))))) <|Xz [(0,0),(112,1),(64,2)] pz
def gA (p3:ByteArray) (p4:Bool):ByteArray :=
 (sel (!p4) (⟨#[]⟩:ByteArray) p3)
def rL:List AV→List Blk→Option (Prop × Ret)
 |[.sc (.p 0 0)],[.cells [.sl 1 0 4 4 none,.sl 2 0 p10 1 none,.i .i64 p1,.b p2,.s p3,.b p4],.cells p9,.ints .u8 p11 p0]=>some (((p10=p11)∧((UA=p9)∧True)),⟨.sc (.s (gA p3 p4)),[some (.cells [.sl 1 0 4 4 none,.sl 2 0 p10 1 none,.i .i64 p1,.b p2,.s p3,.b p4]),some (.cells UA),some (.ints .u8 p10 p0)]⟩)
 |_,_=>none
theorem qq:Known Tryz.prog gD 21 ⟨3,0,rL⟩:=by
 refine Xw Tryz.f21 16 Zn mixed <|fun E args ks C r h hC hlen=>?_
 simp only at h
 unfold rL at h
 split at h
 rotate_left
 cases h
 rename_i p10 p1 p2 p3 p4 p9 p11 p0
 cases h
 simp only [ap] at hlen
 obtain ⟨hEp11,hC⟩:=hC
 obtain ⟨hEp9,hC⟩:=hC
 subst hEp11
 subst hEp9
 refine ⟨rfl,?_⟩
 refine Xs [] [] 32 (v1 pT) <|Tri.seq <|Xs [Eb 11 (!p4)] [] 176 (v6 (pu (Yl 5 6) (v2 pT))) <|Xa (fun h1=>?_) (fun h1=>?_)
 exact Xs [Es 2 (⟨#[]⟩:ByteArray)] [11,0] 192 (v1 pT) <|Xy (r':=⟨.sc (.s (⟨#[]⟩:ByteArray)),[some (.cells [.sl 1 0 4 4 none,.sl 2 0 p10 1 none,.i .i64 p1,.b p2,.s p3,.b p4]),some (.cells UA),some (.ints .u8 p10 p0)]⟩) [(0,0),(1,1),(2,2)] pz (by simp only [gA,h1,aD,aA])
 exact Tri.skip <|Xs [Es 2 p3] [11,0] 256 (v3 (pu (Yl 4 6) (v1 pT))) <|Xy (r':=⟨.sc (.s p3),[some (.cells [.sl 1 0 4 4 none,.sl 2 0 p10 1 none,.i .i64 p1,.b p2,.s p3,.b p4]),some (.cells UA),some (.ints .u8 p10 p0)]⟩) [(0,0),(1,1),(2,2)] pz (by simp only [gA,h1,aD,aA])
def gc (p5:ByteArray):ByteArray :=
 (sel (aY (⟨#[97,110,110]⟩:ByteArray) p5) (⟨#[97,110,110]⟩:ByteArray) (sel (aY (⟨#[98,111,98]⟩:ByteArray) p5) (⟨#[98,111,98]⟩:ByteArray) (sel (aY (⟨#[99,121]⟩:ByteArray) p5) (⟨#[99,121]⟩:ByteArray) (sel (aY (⟨#[110,105,108]⟩:ByteArray) p5) (⟨#[110,105,108]⟩:ByteArray) (⟨#[]⟩:ByteArray)))))
def co (p5:ByteArray):ByteArray :=
 (sel (aY (⟨#[97,110,110]⟩:ByteArray) p5) (⟨#[115,101,99,114,101,116]⟩:ByteArray) (sel (aY (⟨#[98,111,98]⟩:ByteArray) p5) (⟨#[]⟩:ByteArray) (sel (aY (⟨#[99,121]⟩:ByteArray) p5) (⟨#[119,111,114,100]⟩:ByteArray) (⟨#[]⟩:ByteArray))))
def ce (p5:ByteArray):ByteArray :=
 (sel (aY (⟨#[97,110,110]⟩:ByteArray) p5) (⟨#[]⟩:ByteArray) (sel (aY (⟨#[98,111,98]⟩:ByteArray) p5) (jT) (sel (aY (⟨#[99,121]⟩:ByteArray) p5) (gK) (⟨#[]⟩:ByteArray))))
def rT:List AV→List Blk→Option (Prop × Ret)
 |[.sc (.p 0 0),.sc (.s p5)],[.cells [.sl 1 0 4 4 none,.sl 2 0 p10 1 none,.i .i64 p1,.b p2,.s p3,.b p4],.cells p9,.ints .u8 p11 p0]=>some (((p10=p11)∧((UA=p9)∧True)),⟨.agg [.s (gc p5),.s (co p5),.s (ce p5),.nils],[some (.cells [.sl 1 0 4 4 none,.sl 2 0 p10 1 none,.i .i64 p1,.b p2,.s p3,.b p4]),some (.cells UA),some (.ints .u8 p10 p0)]⟩)
 |_,_=>none
theorem tG:Known Tryz.prog gD 77 ⟨3,0,rT⟩:=by
 refine Xw Tryz.f77 23 Zn mixed <|fun E args ks C r h hC hlen=>?_
 simp only at h
 unfold rT at h
 split at h
 rotate_left
 cases h
 rename_i p5 p10 p1 p2 p3 p4 p9 p11 p0
 cases h
 simp only [ap] at hlen
 obtain ⟨hEp11,hC⟩:=hC
 obtain ⟨hEp9,hC⟩:=hC
 subst hEp11
 subst hEp9
 refine ⟨rfl,?_⟩
 refine Xt [Ep 4 16] [] [Mc 16 [.s (⟨#[]⟩:ByteArray),.s (⟨#[]⟩:ByteArray),.s (⟨#[]⟩:ByteArray),.nils]] [] 32 (v1 pT) <|Tri.seq <|Xs [Ei 12 0,Ei 11 4,(10,.sc (.sl 1 0 4 4 none))] [0] 128 (v3 (pu (Yl 0 6) (v2 pT))) <|Tri.block <|Tri.rounds 4 <|Xs [Eb 13 true] [] 144 (v1 pT) <|Tri.seq <|Tri.cond_true (by kernel_rfl) <|Tri.skip <|Tri.seq <|Tri.block <|Xt [Ep 6 176] [13] [Mc 176 [.s (⟨#[97,110,110]⟩:ByteArray),.s (⟨#[115,101,99,114,101,116]⟩:ByteArray),.s (⟨#[]⟩:ByteArray),.nils]] [] 208 (pu (Yi 0 4) (pu (Ye (0+4) 16) (v1 (pu (pa (Yw 4) (Yr 4)) pT)))) <|Xs [Eb 19 (aY (⟨#[97,110,110]⟩:ByteArray) p5)] [] 272 (v1 (pu (Yl 0 4) (v2 pT))) <|Xa (fun h1=>?_) (fun h1=>?_)
 exact Xt [] [19,6,12,11,10,1] [Mc 16 [.s (⟨#[97,110,110]⟩:ByteArray),.s (⟨#[115,101,99,114,101,116]⟩:ByteArray),.s (⟨#[]⟩:ByteArray),.nils]] [176,16] 304 (pu (Yw 4) (pu (pa (Yw 4) (Yr 4)) pT)) <|Xy [(0,0),(1,1),(2,2)] (pa (Yw 4) pT) (by simp only [gc,co,ce,h1,aD,aA] <;> rfl)
 refine Tri.skip <|Wt [Ei 12 1] [19,6,12] [] [176] 304 (v2 pT) <|Xs [Eb 13 true] [] 320 (v1 pT) <|Tri.seq <|Tri.cond_true (by kernel_rfl) <|Tri.skip <|Tri.seq <|Tri.block <|Xt [Ep 6 352] [13] [Mc 352 [.s (⟨#[98,111,98]⟩:ByteArray),.s (⟨#[]⟩:ByteArray),.s (jT),.nils]] [] 384 (pu (Yi 1 4) (pu (Ye (4+4) 16) (v1 (pu (pa (Yw 4) (Yr 4)) pT)))) <|Xs [Eb 19 (aY (⟨#[98,111,98]⟩:ByteArray) p5)] [] 448 (v1 (pu (Yl 0 4) (v2 pT))) <|Xa (fun h2=>?_) (fun h2=>?_)
 exact Xt [] [19,6,12,11,10,1] [Mc 16 [.s (⟨#[98,111,98]⟩:ByteArray),.s (⟨#[]⟩:ByteArray),.s (jT),.nils]] [352,16] 480 (pu (Yw 4) (pu (pa (Yw 4) (Yr 4)) pT)) <|Xy [(0,0),(1,1),(2,2)] (pa (Yw 4) pT) (by simp only [gc,co,ce,h1,h2,aD,aA] <;> rfl)
 refine Tri.skip <|Wt [Ei 12 2] [19,6,12] [] [352] 480 (v2 pT) <|Xs [Eb 13 true] [] 496 (v1 pT) <|Tri.seq <|Tri.cond_true (by kernel_rfl) <|Tri.skip <|Tri.seq <|Tri.block <|Xt [Ep 6 528] [13] [Mc 528 [.s (⟨#[99,121]⟩:ByteArray),.s (⟨#[119,111,114,100]⟩:ByteArray),.s (gK),.nils]] [] 560 (pu (Yi 2 4) (pu (Ye (8+4) 16) (v1 (pu (pa (Yw 4) (Yr 4)) pT)))) <|Xs [Eb 19 (aY (⟨#[99,121]⟩:ByteArray) p5)] [] 624 (v1 (pu (Yl 0 4) (v2 pT))) <|Xa (fun h3=>?_) (fun h3=>?_)
 exact Xt [] [19,6,12,11,10,1] [Mc 16 [.s (⟨#[99,121]⟩:ByteArray),.s (⟨#[119,111,114,100]⟩:ByteArray),.s (gK),.nils]] [528,16] 656 (pu (Yw 4) (pu (pa (Yw 4) (Yr 4)) pT)) <|Xy [(0,0),(1,1),(2,2)] (pa (Yw 4) pT) (by simp only [gc,co,ce,h1,h2,h3,aD,aA] <;> rfl)
 refine Tri.skip <|Wt [Ei 12 3] [19,6,12] [] [528] 656 (v2 pT) <|Xs [Eb 13 true] [] 672 (v1 pT) <|Tri.seq <|Tri.cond_true (by kernel_rfl) <|Tri.skip <|Tri.seq <|Tri.block <|Xt [Ep 6 704] [13] [Mc 704 [.s (⟨#[110,105,108]⟩:ByteArray),.s (⟨#[]⟩:ByteArray),.s (⟨#[]⟩:ByteArray),.nils]] [] 736 (pu (Yi 3 4) (pu (Ye (12+4) 16) (v1 (pu (pa (Yw 4) (Yr 4)) pT)))) <|Xs [Eb 19 (aY (⟨#[110,105,108]⟩:ByteArray) p5)] [] 800 (v1 (pu (Yl 0 4) (v2 pT))) <|Xa (fun h4=>?_) (fun h4=>?_)
 exact Xt [] [19,6,12,11,10,1] [Mc 16 [.s (⟨#[110,105,108]⟩:ByteArray),.s (⟨#[]⟩:ByteArray),.s (⟨#[]⟩:ByteArray),.nils]] [704,16] 832 (pu (Yw 4) (pu (pa (Yw 4) (Yr 4)) pT)) <|Xy [(0,0),(1,1),(2,2)] (pa (Yw 4) pT) (by simp only [gc,co,ce,h1,h2,h3,h4,aD,aA] <;> rfl)
 exact Tri.skip <|Wt [Ei 12 4] [19,6,12] [] [704] 832 (v2 pT) <|Xs [Eb 13 false] [] 848 (v1 pT) <|Tri.seq <|Tri.cond_false (by kernel_rfl) <|Tri.exit <|Xs [] [13,12,11,10,1] 880 (v1 (pu (pa (Yw 4) (Yr 4)) pT)) <|Xy [(0,0),(1,1),(2,2)] (pa (Yw 4) pT) (by simp only [gc,co,ce,h1,h2,h3,h4,aD,aA] <;> rfl)
def iK (p0:ByteArray):List Int :=
 (bz 1 [5] p0)
def lC:List AV→List Blk→Option (Prop × Ret)
 |[.sc (.s p0)],[]=>some ((p0.size≤100000),⟨.sc (.sl 0 0 ((1+4)+p0.size) 1 none),[some (.ints .u8 ((1+4)+p0.size) (iK p0))]⟩)
 |_,_=>none
theorem kq:Known Tryz.prog gD 22 ⟨0,1,lC⟩:=by
 refine Xw Tryz.f22 6 (Zc dQ 64 [.io,.val] [] [32] <|Zn) mixed <|fun E args ks C r h hC hlen=>?_
 simp only at h
 unfold lC at h
 split at h
 rotate_left
 cases h
 rename_i p0
 cases h
 simp only [ap] at hlen
 refine ⟨rfl,?_⟩
 exact Xs [] [] 32 (v1 pT) <|Xt [El 2 64 ((1+4)+p0.size)] [0] [Mi 64 ((1+4)+p0.size) (bz 1 [5] p0)] [] 96 (pu (Yf 1) (v1 (pu (pa pT (pa (Yr 1) (lo (1≤1000000000∧p0.size≤1000000000)))) (v1 pT)))) <|Xz [(64,0)] pz
def kA (p0:ByteArray):List Int :=
 (bz 1 [6] p0)
def nK:List AV→List Blk→Option (Prop × Ret)
 |[.sc (.s p0)],[]=>some ((p0.size≤100000),⟨.sc (.sl 0 0 ((1+4)+p0.size) 1 none),[some (.ints .u8 ((1+4)+p0.size) (kA p0))]⟩)
 |_,_=>none
theorem me:Known Tryz.prog gD 27 ⟨0,1,nK⟩:=by
 refine Xw Tryz.f27 6 (Zc dQ 64 [.io,.val] [] [32] <|Zn) mixed <|fun E args ks C r h hC hlen=>?_
 simp only at h
 unfold nK at h
 split at h
 rotate_left
 cases h
 rename_i p0
 cases h
 simp only [ap] at hlen
 refine ⟨rfl,?_⟩
 exact Xs [] [] 32 (v1 pT) <|Xt [El 2 64 ((1+4)+p0.size)] [0] [Mi 64 ((1+4)+p0.size) (bz 1 [6] p0)] [] 96 (pu (Yf 1) (v1 (pu (pa pT (pa (Yr 1) (lo (1≤1000000000∧p0.size≤1000000000)))) (v1 pT)))) <|Xz [(64,0)] pz
def mK (p0:ByteArray):List Int :=
 (bz ((1+4)+p0.size) (bz 1 [50] p0) (⟨#[115,115,104,45,99,111,110,110,101,99,116,105,111,110]⟩:ByteArray))
def kC (p0:ByteArray) (p1:ByteArray):List Int :=
 (bz ((((1+4)+p0.size)+4)+(⟨#[115,115,104,45,99,111,110,110,101,99,116,105,111,110]⟩:ByteArray).size) (mK p0) p1)
def fl (p0:ByteArray) (p1:ByteArray):List Int :=
 (kC p0 p1)
def aO (p0:ByteArray) (p1:ByteArray):Nat :=
 (((((1+4)+p0.size)+4)+(⟨#[115,115,104,45,99,111,110,110,101,99,116,105,111,110]⟩:ByteArray).size)+4)+p1.size
def qZ:List AV→List Blk→Option (Prop × Ret)
 |[.sc (.s p0),.sc (.s p1)],[]=>some ((p0.size≤100000∧p1.size≤100000),⟨.sc (.sl 0 0 (aO p0 p1) 1 none),[some (.ints .u8 (aO p0 p1) (fl p0 p1))]⟩)
 |_,_=>none
theorem lq:Known Tryz.prog gD 34 ⟨0,1,qZ⟩:=by
 refine Xw Tryz.f34 11 (Zc dQ 64 [.io,.val] [] [32] <|Zc dQ 80 [.io,.val] [] [64] <|Zc dQ 112 [.io,.val] [] [80] <|Zn) mixed <|fun E args ks C r h hC hlen=>?_
 simp only at h
 unfold qZ at h
 split at h
 rotate_left
 cases h
 rename_i p0 p1
 cases h
 simp only [ap] at hlen
 have sz0:(⟨#[115,115,104,45,99,111,110,110,101,99,116,105,111,110]⟩:ByteArray).size=14:=rfl
 refine ⟨rfl,?_⟩
 exact Xs [] [] 32 (v1 pT) <|Xt [El 4 112 ((((((1+4)+p0.size)+4)+(⟨#[115,115,104,45,99,111,110,110,101,99,116,105,111,110]⟩:ByteArray).size)+4)+p1.size)] [0,1] [Mi 112 ((((((1+4)+p0.size)+4)+(⟨#[115,115,104,45,99,111,110,110,101,99,116,105,111,110]⟩:ByteArray).size)+4)+p1.size) (kC p0 p1)] [] 144 (pu (Yf 1) (v1 (pu (pa pT (pa (Yr 1) (lo (1≤1000000000∧p0.size≤1000000000)))) (pu (pa pT (pa (Yr ((1+4)+p0.size)) (lo (((1+4)+p0.size)≤1000000000∧(⟨#[115,115,104,45,99,111,110,110,101,99,116,105,111,110]⟩:ByteArray).size≤1000000000)))) (v1 (pu (pa pT (pa (Yr ((((1+4)+p0.size)+4)+(⟨#[115,115,104,45,99,111,110,110,101,99,116,105,111,110]⟩:ByteArray).size)) (lo (((((1+4)+p0.size)+4)+(⟨#[115,115,104,45,99,111,110,110,101,99,116,105,111,110]⟩:ByteArray).size)≤1000000000∧p1.size≤1000000000)))) (v1 pT))))))) <|Xz [(112,0)] pz
theorem eE (k:Nat) (xs:List Int) (s:ByteArray):(bz k xs s).length=xs.length+4+s.size:=by unfold bz lZ;simp only [List.length_append,br,List.length_cons,List.length_nil]
theorem ki (k:Nat) (xs:List Int) (b:Bool):(eZ k xs b).length=xs.length+1:=by cases b <;> (unfold eZ;simp only [aD,aA,List.length_append,List.length_cons,List.length_nil])
theorem nS (s:ByteArray):(eq s).length=4+s.size:=by unfold eq jO;simp only [List.length_append,br,List.length_cons,List.length_nil]
theorem jw (a b:ByteArray):(fl a b).length=aO a b:=by
 unfold fl kC mK aO
 rw [eE,eE,eE]
 rfl
def lj (p0:ByteArray):List Int :=
 (eZ (aO p0 (⟨#[112,97,115,115,119,111,114,100]⟩:ByteArray)) (fl p0 (⟨#[112,97,115,115,119,111,114,100]⟩:ByteArray)) false)
def iG (p0:ByteArray) (p1:ByteArray):List Int :=
 (bz ((aO p0 (⟨#[112,97,115,115,119,111,114,100]⟩:ByteArray))+1) (lj p0) p1)
def af (p0:ByteArray) (p1:ByteArray):List Int :=
 (iG p0 p1)
def aE (p0:ByteArray) (p1:ByteArray):Nat :=
 (((aO p0 (⟨#[112,97,115,115,119,111,114,100]⟩:ByteArray))+1)+4)+p1.size
def ji:List AV→List Blk→Option (Prop × Ret)
 |[.sc (.s p0),.sc (.s p1)],[]=>some ((p0.size≤100000∧p1.size≤100000),⟨.sc (.sl 0 0 (aE p0 p1) 1 none),[some (.ints .u8 (aE p0 p1) (af p0 p1))]⟩)
 |_,_=>none
theorem kL:Known Tryz.prog gD 11 ⟨0,1,ji⟩:=by
 refine Xw Tryz.f11 10 (Zc dQ 96 [.io,.val] [] [64] <|Zc jP 64 [.io,.val] [] [48] <|Zv lq 48 2 <|Zn) mixed <|fun E args ks C r h hC hlen=>?_
 simp only at h
 unfold ji at h
 split at h
 rotate_left
 cases h
 rename_i p0 p1
 cases h
 simp only [ap] at hlen
 have sz0:(⟨#[115,115,104,45,99,111,110,110,101,99,116,105,111,110]⟩:ByteArray).size=14:=rfl
 have sz1:(⟨#[112,97,115,115,119,111,114,100]⟩:ByteArray).size=8:=rfl
 refine ⟨rfl,?_⟩
 refine Xs [] [] 32 (v1 pT) <|Xt [El 4 96 ((((aO p0 (⟨#[112,97,115,115,119,111,114,100]⟩:ByteArray))+1)+4)+p1.size)] [0,1] [Mi 96 ((((aO p0 (⟨#[112,97,115,115,119,111,114,100]⟩:ByteArray))+1)+4)+p1.size) (iG p0 p1)] [] 128 (v1 (pu (pa pT (lo (p0.size≤100000∧(⟨#[112,97,115,115,119,111,114,100]⟩:ByteArray).size≤100000))) (pu (pa pT (pa (Yr (aO p0 (⟨#[112,97,115,115,119,111,114,100]⟩:ByteArray))) (pl (show (aO p0 (⟨#[112,97,115,115,119,111,114,100]⟩:ByteArray))≤1000000000 from by (unfold aO;omega))))) (v1 (pu (pa pT (pa (Yr ((aO p0 (⟨#[112,97,115,115,119,111,114,100]⟩:ByteArray))+1)) (pl (show ((aO p0 (⟨#[112,97,115,115,119,111,114,100]⟩:ByteArray))+1)≤1000000000∧p1.size≤1000000000 from by (unfold aO;omega))))) (v1 pT)))))) ?_
 exact Xz [(96,0)] pz
def bm (p0:ByteArray):List Int :=
 (fl p0 (⟨#[110,111,110,101]⟩:ByteArray))
def aM (p0:ByteArray):Nat :=
 (aO p0 (⟨#[110,111,110,101]⟩:ByteArray))
def rV:List AV→List Blk→Option (Prop × Ret)
 |[.sc (.s p0)],[]=>some ((p0.size≤100000),⟨.sc (.sl 0 0 (aM p0) 1 none),[some (.ints .u8 (aM p0) (bm p0))]⟩)
 |_,_=>none
theorem qw:Known Tryz.prog gD 15 ⟨0,1,rV⟩:=by
 refine Xw Tryz.f15 5 (Zv lq 48 2 <|Zn) mixed <|fun E args ks C r h hC hlen=>?_
 simp only at h
 unfold rV at h
 split at h
 rotate_left
 cases h
 rename_i p0
 cases h
 simp only [ap] at hlen
 have sz0:(⟨#[115,115,104,45,99,111,110,110,101,99,116,105,111,110]⟩:ByteArray).size=14:=rfl
 have sz1:(⟨#[110,111,110,101]⟩:ByteArray).size=4:=rfl
 refine ⟨rfl,?_⟩
 exact Xs [] [] 32 (v1 pT) <|Xt [El 2 48 (aO p0 (⟨#[110,111,110,101]⟩:ByteArray))] [0] [Mi 48 (aO p0 (⟨#[110,111,110,101]⟩:ByteArray)) (fl p0 (⟨#[110,111,110,101]⟩:ByteArray))] [] 80 (v1 (pu (pa pT (lo (p0.size≤100000∧(⟨#[110,111,110,101]⟩:ByteArray).size≤100000))) (v1 pT))) <|Xz [(48,0)] pz
def mb (p0:ByteArray):List Int :=
 (fl p0 (⟨#[112,117,98,108,105,99,107,101,121]⟩:ByteArray))
def mU (p0:ByteArray):List Int :=
 (eZ (aO p0 (⟨#[112,117,98,108,105,99,107,101,121]⟩:ByteArray)) (mb p0) false)
def nM (p0:ByteArray):List Int :=
 (bz ((aO p0 (⟨#[112,117,98,108,105,99,107,101,121]⟩:ByteArray))+1) (mU p0) (⟨#[115,115,104,45,101,100,50,53,53,49,57]⟩:ByteArray))
def jo (p0:ByteArray) (p1:ByteArray):List Int :=
 (bz ((((aO p0 (⟨#[112,117,98,108,105,99,107,101,121]⟩:ByteArray))+1)+4)+(⟨#[115,115,104,45,101,100,50,53,53,49,57]⟩:ByteArray).size) (nM p0) (fj p1))
def bc (p0:ByteArray) (p1:ByteArray):List Int :=
 (jo p0 p1)
def aL (p0:ByteArray) (p1:ByteArray):Nat :=
 (((((aO p0 (⟨#[112,117,98,108,105,99,107,101,121]⟩:ByteArray))+1)+4)+(⟨#[115,115,104,45,101,100,50,53,53,49,57]⟩:ByteArray).size)+4)+(fj p1).size
def qc:List AV→List Blk→Option (Prop × Ret)
 |[.sc (.s p0),.sc (.s p1)],[]=>some ((p0.size≤100000∧p1.size≤1000),⟨.sc (.sl 0 0 (aL p0 p1) 1 none),[some (.ints .u8 (aL p0 p1) (bc p0 p1))]⟩)
 |_,_=>none
theorem tK:Known Tryz.prog gD 13 ⟨0,1,qc⟩:=by
 refine Xw Tryz.f13 12 (Zv sS 112 1 <|Zc dQ 80 [.io,.val] [] [64] <|Zc dQ 128 [.io,.val] [] [80] <|Zc jP 64 [.io,.val] [] [48] <|Zv lq 48 2 <|Zn) mixed <|fun E args ks C r h hC hlen=>?_
 simp only at h
 unfold qc at h
 split at h
 rotate_left
 cases h
 rename_i p0 p1
 cases h
 simp only [ap] at hlen
 have sz0:(⟨#[115,115,104,45,99,111,110,110,101,99,116,105,111,110]⟩:ByteArray).size=14:=rfl
 have sz1:(⟨#[112,117,98,108,105,99,107,101,121]⟩:ByteArray).size=9:=rfl
 have sz2:(⟨#[115,115,104,45,101,100,50,53,53,49,57]⟩:ByteArray).size=11:=rfl
 refine ⟨rfl,?_⟩
 refine Xs [] [] 32 (v1 pT) <|Xt [El 4 128 ((((((aO p0 (⟨#[112,117,98,108,105,99,107,101,121]⟩:ByteArray))+1)+4)+(⟨#[115,115,104,45,101,100,50,53,53,49,57]⟩:ByteArray).size)+4)+(fj p1).size)] [0,1] [Mi 128 ((((((aO p0 (⟨#[112,117,98,108,105,99,107,101,121]⟩:ByteArray))+1)+4)+(⟨#[115,115,104,45,101,100,50,53,53,49,57]⟩:ByteArray).size)+4)+(fj p1).size) (jo p0 p1)] [] 160 (v1 (pu (pa pT (lo (p0.size≤100000∧(⟨#[112,117,98,108,105,99,107,101,121]⟩:ByteArray).size≤100000))) (pu (pa pT (pa (Yr (aO p0 (⟨#[112,117,98,108,105,99,107,101,121]⟩:ByteArray))) (pl (show (aO p0 (⟨#[112,117,98,108,105,99,107,101,121]⟩:ByteArray))≤1000000000 from by (unfold aO;omega))))) (pu (pa pT (pa (Yr ((aO p0 (⟨#[112,117,98,108,105,99,107,101,121]⟩:ByteArray))+1)) (pl (show ((aO p0 (⟨#[112,117,98,108,105,99,107,101,121]⟩:ByteArray))+1)≤1000000000∧(⟨#[115,115,104,45,101,100,50,53,53,49,57]⟩:ByteArray).size≤1000000000 from by (unfold aO;omega))))) (v1 (pu (pa pT (Ye p1.size 1000000000)) (pu (pa pT (pa (Yr ((((aO p0 (⟨#[112,117,98,108,105,99,107,101,121]⟩:ByteArray))+1)+4)+(⟨#[115,115,104,45,101,100,50,53,53,49,57]⟩:ByteArray).size)) (pl (show ((((aO p0 (⟨#[112,117,98,108,105,99,107,101,121]⟩:ByteArray))+1)+4)+(⟨#[115,115,104,45,101,100,50,53,53,49,57]⟩:ByteArray).size)≤1000000000∧(fj p1).size≤1000000000 from ⟨by unfold aO;omega,Nat.le_trans (oW _) (by omega)⟩)))) (v1 pT)))))))) ?_
 exact Xz [(128,0)] pz
theorem rm (a b:ByteArray):(bc a b).length=aL a b:=by
 unfold bc jo nM mU mb aL
 rw [eE,eE,ki,jw]
theorem sG (a b:ByteArray):aL a b≤a.size+b.size+200:=by
 have hb:=oW b
 have sz0:(⟨#[115,115,104,45,99,111,110,110,101,99,116,105,111,110]⟩:ByteArray).size=14:=rfl;have sz1:(⟨#[112,117,98,108,105,99,107,101,121]⟩:ByteArray).size=9:=rfl;have sz2:(⟨#[115,115,104,45,101,100,50,53,53,49,57]⟩:ByteArray).size=11:=rfl
 unfold aL aO
 omega
theorem tA {a b:ByteArray} {n:Nat} (h:a.size+b.size+200≤n):(aC (bc a b) (aL a b) 0 (aL a b)).length≤n:=bC (Nat.le_trans (sG a b) h) (by rw [rm];exact Nat.le_trans (sG a b) h)
def nB:List Int :=
 (mQ 1 [51] ([(⟨#[112,117,98,108,105,99,107,101,121]⟩:ByteArray),(⟨#[112,97,115,115,119,111,114,100]⟩:ByteArray)]))
def il:List Int :=
 (eZ (dV 1 [51] ([(⟨#[112,117,98,108,105,99,107,101,121]⟩:ByteArray),(⟨#[112,97,115,115,119,111,114,100]⟩:ByteArray)])) (nB) false)
def da:List Int :=
 (il)
def bV:Nat :=
 (dV 1 [51] ([(⟨#[112,117,98,108,105,99,107,101,121]⟩:ByteArray),(⟨#[112,97,115,115,119,111,114,100]⟩:ByteArray)]))+1
def lO:List AV→List Blk→Option (Prop × Ret)
 |[],[]=>some (True,⟨.sc (.sl 0 0 (bV) 1 none),[some (.ints .u8 (bV) (da))]⟩)
 |_,_=>none
theorem ko:Known Tryz.prog gD 46 ⟨0,1,lO⟩:=by
 refine Xw Tryz.f46 5 (Zc jP 80 [.io,.val] [] [64] <|Zc rK 64 [.io,.ros] [48] [32] <|Zn) mixed <|fun E args ks C r h hC hlen=>?_
 simp only at h
 unfold lO at h
 split at h
 rotate_left
 cases h
 cases h
 simp only [ap] at hlen
 refine ⟨rfl,?_⟩
 exact Xs [] [] 32 (v1 pT) <|Xt [El 0 80 ((dV 1 [51] ([(⟨#[112,117,98,108,105,99,107,101,121]⟩:ByteArray),(⟨#[112,97,115,115,119,111,114,100]⟩:ByteArray)]))+1)] [] [Mi 80 ((dV 1 [51] ([(⟨#[112,117,98,108,105,99,107,101,121]⟩:ByteArray),(⟨#[112,97,115,115,119,111,114,100]⟩:ByteArray)]))+1) (il)] [] 112 (pu (Yf 1) (pu (Yf 2) (pu (pa (pa (ld (0+2≤2)) pT) (pa (Yr 1) (lo (1≤1000000000∧([(⟨#[112,117,98,108,105,99,107,101,121]⟩:ByteArray),(⟨#[112,97,115,115,119,111,114,100]⟩:ByteArray)]).length≤1000000000∧(fe ([(⟨#[112,117,98,108,105,99,107,101,121]⟩:ByteArray),(⟨#[112,97,115,115,119,111,114,100]⟩:ByteArray)]) (⟨#[44]⟩:ByteArray)).size≤1000000000)))) (pu (pa pT (pa (Yr (dV 1 [51] ([(⟨#[112,117,98,108,105,99,107,101,121]⟩:ByteArray),(⟨#[112,97,115,115,119,111,114,100]⟩:ByteArray)]))) (Ye (dV 1 [51] ([(⟨#[112,117,98,108,105,99,107,101,121]⟩:ByteArray),(⟨#[112,97,115,115,119,111,114,100]⟩:ByteArray)])) 1000000000))) (v1 pT))))) <|Xz [(80,0)] pz
def gp (p1:ByteArray):List Int :=
 (fl p1 (⟨#[112,117,98,108,105,99,107,101,121]⟩:ByteArray))
def jq (p0:List Int) (p1:ByteArray):List Int :=
 (eZ ((4+(aU p0).size)+(aO p1 (⟨#[112,117,98,108,105,99,107,101,121]⟩:ByteArray))) ((eq (aU p0))++(aC (gp p1) (aO p1 (⟨#[112,117,98,108,105,99,107,101,121]⟩:ByteArray)) 0 (aO p1 (⟨#[112,117,98,108,105,99,107,101,121]⟩:ByteArray)))) true)
def jk (p0:List Int) (p1:ByteArray):List Int :=
 (bz (((4+(aU p0).size)+(aO p1 (⟨#[112,117,98,108,105,99,107,101,121]⟩:ByteArray)))+1) (jq p0 p1) (⟨#[115,115,104,45,101,100,50,53,53,49,57]⟩:ByteArray))
def gh (p0:List Int) (p1:ByteArray) (p2:ByteArray):List Int :=
 (bz (((((4+(aU p0).size)+(aO p1 (⟨#[112,117,98,108,105,99,107,101,121]⟩:ByteArray)))+1)+4)+(⟨#[115,115,104,45,101,100,50,53,53,49,57]⟩:ByteArray).size) (jk p0 p1) p2)
def fi (p0:List Int) (p1:ByteArray) (p2:ByteArray):List Int :=
 (gh p0 p1 p2)
def cG (p0:List Int) (p1:ByteArray) (p2:ByteArray):Nat :=
 ((((((4+(aU p0).size)+(aO p1 (⟨#[112,117,98,108,105,99,107,101,121]⟩:ByteArray)))+1)+4)+(⟨#[115,115,104,45,101,100,50,53,53,49,57]⟩:ByteArray).size)+4)+p2.size
def mn:List AV→List Blk→Option (Prop × Ret)
 |[.sc (.ro .u8 p0),.sc (.s p1),.sc (.s p2)],[]=>some ((p0.length≤20000∧p1.size≤20000∧p2.size≤20000),⟨.sc (.sl 0 0 (cG p0 p1 p2) 1 none),[some (.ints .u8 (cG p0 p1 p2) (fi p0 p1 p2))]⟩)
 |_,_=>none
theorem rS:Known Tryz.prog gD 31 ⟨0,1,mn⟩:=by
 refine Xw Tryz.f31 20 (Zv mZ 64 2 <|Zc dQ 208 [.io,.val] [] [192] <|Zc dQ 240 [.io,.val] [] [208] <|Zc jP 192 [.io,.val] [] [144] <|Zv lq 128 2 <|Zn) mixed <|fun E args ks C r h hC hlen=>?_
 simp only at h
 unfold mn at h
 split at h
 rotate_left
 cases h
 rename_i p0 p1 p2
 cases h
 simp only [ap] at hlen
 have sz0:(⟨#[115,115,104,45,99,111,110,110,101,99,116,105,111,110]⟩:ByteArray).size=14:=rfl
 have sz1:(⟨#[112,117,98,108,105,99,107,101,121]⟩:ByteArray).size=9:=rfl
 have sz2:(⟨#[115,115,104,45,101,100,50,53,53,49,57]⟩:ByteArray).size=11:=rfl
 refine ⟨rfl,?_⟩
 refine Xs [] [] 32 (v1 pT) <|Xt [El 7 64 (4+(aU p0).size)] [0] [Mi 64 (4+(aU p0).size) (eq (aU p0))] [] 96 (v2 (pu (pa pT (pl (show (aU p0).size≤1000000000 from by (rw [bw];omega)))) (v1 pT))) ?_
 refine Tri.len 64 rfl <|fun hl1=>Xt [El 7 144 ((4+(aU p0).size)+(aO p1 (⟨#[112,117,98,108,105,99,107,101,121]⟩:ByteArray)))] [7,1] [Mi 144 ((4+(aU p0).size)+(aO p1 (⟨#[112,117,98,108,105,99,107,101,121]⟩:ByteArray))) ((eq (aU p0))++(aC (gp p1) (aO p1 (⟨#[112,117,98,108,105,99,107,101,121]⟩:ByteArray)) 0 (aO p1 (⟨#[112,117,98,108,105,99,107,101,121]⟩:ByteArray))))] [64] 176 (v2 (pu (pa pT (lo (p1.size≤100000∧(⟨#[112,117,98,108,105,99,107,101,121]⟩:ByteArray).size≤100000))) (pu (pa (pa (pa (pa (Yw (aO p1 (⟨#[112,117,98,108,105,99,107,101,121]⟩:ByteArray))) (Yr 1)) (pa (Yl 0 1) (pa (pl (show ((4+(aU p0).size)+(aO p1 (⟨#[112,117,98,108,105,99,107,101,121]⟩:ByteArray)))*1≤140737488355328 from by (simp only [bw];unfold aO;omega))) (pl (show (4+(aU p0).size)+(aO p1 (⟨#[112,117,98,108,105,99,107,101,121]⟩:ByteArray))≤140737488355328 from by (simp only [bw];unfold aO;omega)))))) (lo ((aO p1 (⟨#[112,117,98,108,105,99,107,101,121]⟩:ByteArray))=(aO p1 (⟨#[112,117,98,108,105,99,107,101,121]⟩:ByteArray))*1))) (pa (Yr 1) (lo (0+(4+(aU p0).size)*1=4+(aU p0).size)))) (v1 pT)))) ?_
 refine Xt [El 6 240 (((((((4+(aU p0).size)+(aO p1 (⟨#[112,117,98,108,105,99,107,101,121]⟩:ByteArray)))+1)+4)+(⟨#[115,115,104,45,101,100,50,53,53,49,57]⟩:ByteArray).size)+4)+p2.size)] [7,2] [Mi 240 (((((((4+(aU p0).size)+(aO p1 (⟨#[112,117,98,108,105,99,107,101,121]⟩:ByteArray)))+1)+4)+(⟨#[115,115,104,45,101,100,50,53,53,49,57]⟩:ByteArray).size)+4)+p2.size) (gh p0 p1 p2)] [144] 272 (v1 (pu (pa pT (pa (Yr ((4+(aU p0).size)+(aO p1 (⟨#[112,117,98,108,105,99,107,101,121]⟩:ByteArray)))) (pl (show ((4+(aU p0).size)+(aO p1 (⟨#[112,117,98,108,105,99,107,101,121]⟩:ByteArray)))≤1000000000 from by (simp only [bw];unfold aO;omega))))) (pu (pa pT (pa (Yr (((4+(aU p0).size)+(aO p1 (⟨#[112,117,98,108,105,99,107,101,121]⟩:ByteArray)))+1)) (pl (show (((4+(aU p0).size)+(aO p1 (⟨#[112,117,98,108,105,99,107,101,121]⟩:ByteArray)))+1)≤1000000000∧(⟨#[115,115,104,45,101,100,50,53,53,49,57]⟩:ByteArray).size≤1000000000 from by (simp only [bw];unfold aO;omega))))) (v1 (pu (pa pT (pa (Yr (((((4+(aU p0).size)+(aO p1 (⟨#[112,117,98,108,105,99,107,101,121]⟩:ByteArray)))+1)+4)+(⟨#[115,115,104,45,101,100,50,53,53,49,57]⟩:ByteArray).size)) (pl (show (((((4+(aU p0).size)+(aO p1 (⟨#[112,117,98,108,105,99,107,101,121]⟩:ByteArray)))+1)+4)+(⟨#[115,115,104,45,101,100,50,53,53,49,57]⟩:ByteArray).size)≤1000000000∧p2.size≤1000000000 from by (simp only [bw];unfold aO;omega))))) (v1 pT)))))) ?_
 exact Xz [(240,0)] pz
theorem pF (p0:List Int) (p1 p2:ByteArray):cG p0 p1 p2≤p0.length+p1.size+p2.size+200:=by
 have sz0:(⟨#[115,115,104,45,99,111,110,110,101,99,116,105,111,110]⟩:ByteArray).size=14:=rfl;have sz1:(⟨#[112,117,98,108,105,99,107,101,121]⟩:ByteArray).size=9:=rfl;have sz2:(⟨#[115,115,104,45,101,100,50,53,53,49,57]⟩:ByteArray).size=11:=rfl
 unfold cG
 try unfold aO
 simp only [bw]
 omega
theorem nj (p0:List Int) (p1 p2:ByteArray):(fi p0 p1 p2).length=cG p0 p1 p2:=by
 unfold fi gh jk jq gp cG
 rw [eE,eE,ki,List.length_append,nS,dN (jw _ _),jw]
end Go.Vm
namespace Go.Vm
open Go Go.Proofs
def nR (p0:List Int) (p1:List Int) (k0:Nat) (z0:Int):Int :=
 (iOr .i64 z0 (IntKind.wrap .i64 (bu .u8 (p0.getD k0 0) (p1.getD k0 0))))
def tl (p0:List Int) (p1:List Int):Bool :=
 (((itr (nR p0 p1) (min p0.length p1.length) (bu .i64 ((p0.length:Nat):Int) ((p1.length:Nat):Int))):Int)==0)
def tm:List AV→List Blk→Option (Prop × Ret)
 |[.sc (.ro .u8 p0),.sc (.ro .u8 p1)],[]=>some ((p0.length≤100000),⟨.sc (.b (tl p0 p1)),[]⟩)
 |_,_=>none
theorem ue:Known Tryz.prog gD 79 ⟨0,0,tm⟩:=by
 refine Xw Tryz.f79 35 Zn mixed <|fun E args ks C r h hC hlen=>?_
 simp only at h
 unfold tm at h
 split at h
 rotate_left
 cases h
 rename_i p0 p1
 cases h
 simp only [ap] at hlen
 refine ⟨rfl,?_⟩
 refine Xs [] [] 32 (v1 pT) <|Xs [Ei 5 (bu .i64 ((p0.length:Nat):Int) ((p1.length:Nat):Int))] [] 128 (v6 pT) <|Tri.seq <|Xu [Ej 16 (min p0.length p1.length)] none [Ei 17 0,Ej 16 (min p0.length p1.length)] [] [] [] 224 (v4 (pv pT (pl (show (kU ((p0.length:Nat):Int) ((p1.length:Nat):Int))=((min p0.length p1.length:Nat):Int) from qv p0.length p1.length)) (v1 pT))) <|Tri.block <|Xc (min p0.length p1.length) (nR p0 p1) (bu .i64 ((p0.length:Nat):Int) ((p1.length:Nat):Int)) (fun k0 z0=>True) (fun k0 z0=>[Ej 17 k0,Ei 5 z0]) (fun k0 z0=>[]) trivial <|fun k0 z0 hk0 hz0 hJ0=>Xs [Eb 18 (decide ((((k0:Nat):Int):Int)<((min p0.length p1.length:Nat):Int)))] [] 240 (v1 pT) <|Tri.seq <|Xb (fun h1 h1'=>?_) (fun h1 h1'=>?_)
 exact Tri.skip <|Tri.seq <|Tri.block <|Xs [Ej 6 k0] [18] 272 (v2 pT) <|Wu [] (some [0,0,0,6,14,0,0,96,224,510,1022,2047,4095]) [Ei 5 (iOr .i64 z0 (IntKind.wrap .i64 (bu .u8 (p0.getD k0 0) (p1.getD k0 0))))] [6,5] [] [] 480 (v3 (pu (Yj k0 p0.length) (pu (Yl k0 p0.length) (v2 (pu (Yj k0 p1.length) (pu (Yl k0 p1.length) (v4 pT))))))) <|Wu [Ej 32 (k0+1)] none [Ej 17 (k0+1)] [17] [] [] 512 (pv pT (Yp k0 1) (v1 pT)) <|Xo [] trivial
 refine Tri.exit <|?_
 obtain rfl:k0=(min p0.length p1.length):=(by omega);subst hz0
 exact Xs [Eb 4 (((itr (nR p0 p1) (min p0.length p1.length) (bu .i64 ((p0.length:Nat):Int) ((p1.length:Nat):Int))):Int)==0)] [18,17,16,5,0,1] 288 (v3 pT) <|Xz [] pz
theorem kQ (p:List Int) (b:Bool) (n:Int):(bt p b n).length+(cn p b n).length≤p.length:=by
 unfold bt cn
 cases b
 ·rw [aA,aA]
  cases decide ((n:Int)>((p.length:Nat):Int))
  ·rw [aA,aA,List.length_take,List.length_take,List.length_drop,List.length_drop];omega
  ·rw [aD,aD];exact Nat.zero_le _
 ·rw [aD,aD];exact Nat.zero_le _
theorem fI (p:List Int) (b:Bool):(aT p b).size+(aW p b).length≤p.length:=by
 have h1:=kQ p b 4
 have h2:=fun n=>kQ (dA p b) (dR p b) n
 have h3:(dA p b).length≤p.length:=by unfold dA;omega
 unfold aT aW
 cases decide (((dr p b):Int)>16384)
 ·rw [aA,aA,bw];have:=h2 (IntKind.wrap .i64 (dr p b));omega
 ·rw [aD,aD];have:=h2 1073741824;show 0+_≤_;omega
theorem kt (p:List Int) (b:Bool):(au p b).length≤p.length:=by
 unfold au aq eh
 cases b
 ·rw [aA]
  cases decide ((1:Int)>((p.length:Nat):Int))
  ·rw [aA,List.length_take,List.length_drop];omega
  ·rw [aD];exact Nat.zero_le _
 ·rw [aD];exact Nat.zero_le _
def lz (p5:List Int) (p6:Bool) (p7:ByteArray):Bool :=
 (tl (aC (ae (aT (au p5 p6) (bA p5 p6))) ((aT (au p5 p6) (bA p5 p6)).size) 0 ((aT (au p5 p6) (bA p5 p6)).size)) (aC (ae (co p7)) ((co p7).size) 0 ((co p7).size)))
def lk (p5:List Int) (p6:Bool):Bool :=
 (dm (aW (au p5 p6) (bA p5 p6)) (aa (au p5 p6) (bA p5 p6)))
def bF (p5:List Int) (p6:Bool):ByteArray :=
 (aT (aW (au p5 p6) (bA p5 p6)) (aa (au p5 p6) (bA p5 p6)))
def aj (p5:List Int) (p6:Bool):List Int :=
 (aW (aW (au p5 p6) (bA p5 p6)) (aa (au p5 p6) (bA p5 p6)))
def ak (p5:List Int) (p6:Bool):Bool :=
 (aa (aW (au p5 p6) (bA p5 p6)) (aa (au p5 p6) (bA p5 p6)))
def eY (p5:List Int) (p6:Bool):Bool :=
 (dm (aW (aj p5 p6) (ak p5 p6)) (aa (aj p5 p6) (ak p5 p6)))
def og (p10:Nat) (p0:List Int) (p5:List Int) (p6:Bool) (p7:ByteArray):Bool :=
 (pb (aC (ae (bD (bF p5 p6))) ((bD (bF p5 p6)).size) 0 ((bD (bF p5 p6)).size)) (aC (fi (aC p0 p10 0 p10) p7 (bF p5 p6)) (cG (aC p0 p10 0 p10) p7 (bF p5 p6)) 0 (cG (aC p0 p10 0 p10) p7 (bF p5 p6))) (aC (eO (aT (aj p5 p6) (ak p5 p6))) ((ah (aT (aj p5 p6) (ak p5 p6))).size) 0 ((ah (aT (aj p5 p6) (ak p5 p6))).size)))
def dz (p10:Nat) (p0:List Int) (p5:List Int) (p6:Bool) (p7:ByteArray) (p8:ByteArray):Bool :=
 (sel (aY p8 (⟨#[110,111,110,101]⟩:ByteArray)) false (sel (aY p8 (⟨#[112,97,115,115,119,111,114,100]⟩:ByteArray)) (sel (!(aY (co p7) (⟨#[]⟩:ByteArray))) (lz p5 p6 p7) false) (sel (aY p8 (⟨#[112,117,98,108,105,99,107,101,121]⟩:ByteArray)) (sel (aY (aT (au p5 p6) (bA p5 p6)) (⟨#[115,115,104,45,101,100,50,53,53,49,57]⟩:ByteArray)) (sel (!(aY (bD (bF p5 p6)) (⟨#[]⟩:ByteArray))) (sel (!(dv p5 p6)) false (sel (fh (aT (aj p5 p6) (ak p5 p6))) false (sel (aY (bD (bF p5 p6)) (ce p7)) (og p10 p0 p5 p6 p7) false))) false) false) false)))
def cA (p5:List Int) (p6:Bool) (p7:ByteArray) (p8:ByteArray):ByteArray :=
 (sel (aY p8 (⟨#[110,111,110,101]⟩:ByteArray)) (⟨#[]⟩:ByteArray) (sel (aY p8 (⟨#[112,97,115,115,119,111,114,100]⟩:ByteArray)) (⟨#[]⟩:ByteArray) (sel (aY p8 (⟨#[112,117,98,108,105,99,107,101,121]⟩:ByteArray)) (sel (aY (aT (au p5 p6) (bA p5 p6)) (⟨#[115,115,104,45,101,100,50,53,53,49,57]⟩:ByteArray)) (sel (!(aY (bD (bF p5 p6)) (⟨#[]⟩:ByteArray))) (sel (!(dv p5 p6)) (sel (aY (bD (bF p5 p6)) (ce p7)) (bF p5 p6) (⟨#[]⟩:ByteArray)) (⟨#[]⟩:ByteArray)) (⟨#[]⟩:ByteArray)) (⟨#[]⟩:ByteArray)) (⟨#[]⟩:ByteArray))))
def cK (p5:List Int) (p6:Bool) (p8:ByteArray):Bool :=
 (sel (aY p8 (⟨#[110,111,110,101]⟩:ByteArray)) (dm p5 p6) (sel (aY p8 (⟨#[112,97,115,115,119,111,114,100]⟩:ByteArray)) (sel (lk p5 p6) (!(dv p5 p6)) false) (sel (aY p8 (⟨#[112,117,98,108,105,99,107,101,121]⟩:ByteArray)) (sel (!(dv p5 p6)) (dm (aj p5 p6) (ak p5 p6)) (eY p5 p6)) (qF p5 p6))))
def ck (p5:List Int) (p6:Bool) (p8:ByteArray):List Int :=
 (sel (aY p8 (⟨#[110,111,110,101]⟩:ByteArray)) p5 (sel (aY p8 (⟨#[112,97,115,115,119,111,114,100]⟩:ByteArray)) (aW (au p5 p6) (bA p5 p6)) (sel (aY p8 (⟨#[112,117,98,108,105,99,107,101,121]⟩:ByteArray)) (sel (!(dv p5 p6)) (aj p5 p6) (aW (aj p5 p6) (ak p5 p6))) p5)))
def cl (p5:List Int) (p6:Bool) (p8:ByteArray):Bool :=
 (sel (aY p8 (⟨#[110,111,110,101]⟩:ByteArray)) p6 (sel (aY p8 (⟨#[112,97,115,115,119,111,114,100]⟩:ByteArray)) (aa (au p5 p6) (bA p5 p6)) (sel (aY p8 (⟨#[112,117,98,108,105,99,107,101,121]⟩:ByteArray)) (sel (!(dv p5 p6)) (ak p5 p6) (aa (aj p5 p6) (ak p5 p6))) p6)))
theorem rF (p5:List Int) (p6:Bool):(bF p5 p6).size≤p5.length:=by
 have h1:=kt p5 p6
 have h2:=fI (au p5 p6) (bA p5 p6)
 have h3:=fI (aW (au p5 p6) (bA p5 p6)) (aa (au p5 p6) (bA p5 p6))
 unfold bF
 omega
theorem jX {p0:List Int} {n:Nat} {a b:ByteArray} (h:p0.length=n):cG (aC p0 n 0 n) a b≤n+a.size+b.size+200:=by
 rw [dN h]
 have:=pF p0 a b
 omega
theorem mS {s:ByteArray} {n:Nat} (h:s.size≤n):(aC (ae s) s.size 0 s.size).length≤n:=by rw [dN (br s),br];exact h
def sI:List AV→List Blk→Option (Prop × Ret)
 |[.sc (.p 0 0),.sc (.p 3 0),.sc (.s p7),.sc (.s p8)],[.cells [.sl 1 0 4 4 none,.sl 2 0 p10 1 none,.i .i64 p1,.b p2,.s p3,.b p4],.cells p9,.ints .u8 p11 p0,.cells [.ro .u8 p5,.b p6]]=>some (((p10=p11)∧((UA=p9)∧(p5.length+p7.size≤6000∧p10≤1000))),⟨.tup [.sc (.b (dz p10 p0 p5 p6 p7 p8)),.sc (.s (cA p5 p6 p7 p8)),.sc (.b (cK p5 p6 p8))],[some (.cells [.sl 1 0 4 4 none,.sl 2 0 p10 1 none,.i .i64 p1,.b p2,.s p3,.b p4]),some (.cells UA),some (.ints .u8 p10 p0),some (.cells [.ro .u8 (ck p5 p6 p8),.b (cl p5 p6 p8)])]⟩)
 |_,_=>none
def tr:KL Tryz.prog gD:=Zc rS 1408 [.ro .u8,.val,.val] [2] [] <|Zc dW 272 [.io] [] [3] <|Zc dW 304 [.io] [] [3] <|Zc dW 336 [.io] [] [3] <|Zc dW 704 [.io] [] [3] <|Zc dW 1136 [.io] [] [3] <|Zc dW 1568 [.io] [] [3] <|Zc dW 2000 [.io] [] [3] <|Zc fc 208 [.io] [] [3] <|Zc fc 512 [.io] [] [3] <|Zc fc 736 [.io] [] [3] <|Zc fc 768 [.io] [] [3] <|Zc fc 1056 [.io] [] [3] <|Zc fc 1488 [.io] [] [3] <|Zc fc 1920 [.io] [] [3] <|Zc fc 2352 [.io] [] [3] <|Zc uI 272 [.io] [] [3] <|Zc tG 96 [.io,.val] [] [0,1,2] <|Zc qd 240 [.io] [] [3] <|Zc qd 272 [.io] [] [3] <|Zc ue 464 [.ro .u8,.ro .u8] [400,448] [] <|Zv nW 416 1 <|Zv mg 720 1 <|Zv fq 1152 1 <|Zv fq 1584 1 <|Zv fq 2016 1 <|Zc uw 1440 [.ro .u8,.ro .u8,.ro .u8] [1296,1408,1152] [] <|Zn
theorem tw:Known Tryz.prog gD 45 ⟨4,0,sI⟩:=by
 refine Xw Tryz.f45 105 tr mixed <|fun E args ks C r h hC hlen=>?_
 simp only at h
 unfold sI at h
 split at h
 rotate_left
 cases h
 rename_i p7 p8 p10 p1 p2 p3 p4 p9 p11 p0 p5 p6
 cases h
 simp only [ap] at hlen
 obtain ⟨hEp11,hC⟩:=hC
 obtain ⟨hEp9,hC⟩:=hC
 subst hEp11
 subst hEp9
 have hb:=rF p5 p6
 refine ⟨rfl,?_⟩
 refine Xs [Es 9 (⟨#[]⟩:ByteArray)] [] 64 (v3 pT) <|Xt [Ep 11 112] [] [Mc 112 [.s (gc p7),.s (co p7),.s (ce p7),.nils],Mi 2 p10 p0,Mc 1 UA] [1,2] 144 (v2 (pu (pa pT (pa (Yr p10) (pa (Yr UA) pT))) (v1 (pu (pa (Yw 4) (Yr 4)) pT)))) <|Tri.seq <|Xs [Es 23 p8] [3] 160 (v1 pT) <|Tri.block <|Xs [Eb 24 (aY p8 (⟨#[110,111,110,101]⟩:ByteArray))] [] 192 (v2 pT) <|Xa (fun h1=>?_) (fun h1=>?_)
 exact Xt [Eb 10 (dm p5 p6),Es 9 (⟨#[]⟩:ByteArray),Eb 8 false] [24,23,11,9,0,1,2] [Mc 3 [.ro .u8 p5,.b p6]] [112,3] 272 (v1 (pu pz (v3 pT))) <|Xy [(0,0),(1,1),(2,2),(3,3)] (pa pT (pa pT pz)) (by simp only [dz,cA,cK,ck,cl,h1,aD,aA] <;> rfl)
 refine Xs [Eb 28 (aY p8 (⟨#[112,97,115,115,119,111,114,100]⟩:ByteArray))] [24] 224 (v2 pT) <|Xa (fun h2=>?_) (fun h2=>?_)
 refine Xt [Es 13 (aT (au p5 p6) (bA p5 p6)),Eb 12 (dv p5 p6)] [28,23,9,0,2] [Mc 3 [.ro .u8 (aW (au p5 p6) (bA p5 p6)),.b (aa (au p5 p6) (bA p5 p6))]] [3] 320 (v1 (pu pz (v1 (pu pz (v2 pT))))) <|Tri.split (!(aY (co p7) (⟨#[]⟩:ByteArray))) (fun h3=>?_) (fun h3=>?_)
 refine Tri.split (lk p5 p6) (fun h4=>?_) (fun h4=>?_)
 exact Tri.len 2 rfl <|fun hl5=>Xu [Eb 37 true,Eb 47 true] none [Eb 10 (!(dv p5 p6)),Es 9 (⟨#[]⟩:ByteArray),Eb 8 (lz p5 p6 p7)] [13,12,11,1] [] [112] 640 (v1 (pu (Yl 1 4) (v1 (pg h3 (v3 (pu (Yl 1 4) (v1 (pu (pa (pa (Yw ((aT (au p5 p6) (bA p5 p6)).size)) (pa (Yw ((co p7).size)) pT)) (pl (show (aC (ae (aT (au p5 p6) (bA p5 p6))) ((aT (au p5 p6) (bA p5 p6)).size) 0 ((aT (au p5 p6) (bA p5 p6)).size)).length≤100000 from mS (Nat.le_trans (cN _ _) (by decide))))) (v2 (pu pz (pg h4 (v6 pT)))))))))))) <|Xy [(0,0),(1,1),(2,2),(3,3)] (pa pT (pa pT pz)) (by simp only [dz,cA,cK,ck,cl,h1,h2,h3,h4,aD,aA] <;> rfl)
 exact Tri.len 2 rfl <|fun hl6=>Xu [Eb 37 true,Eb 47 false] none [Eb 10 false,Es 9 (⟨#[]⟩:ByteArray),Eb 8 (lz p5 p6 p7)] [13,12,11,1] [] [112] 640 (v1 (pu (Yl 1 4) (v1 (pg h3 (v3 (pu (Yl 1 4) (v1 (pu (pa (pa (Yw ((aT (au p5 p6) (bA p5 p6)).size)) (pa (Yw ((co p7).size)) pT)) (pl (show (aC (ae (aT (au p5 p6) (bA p5 p6))) ((aT (au p5 p6) (bA p5 p6)).size) 0 ((aT (au p5 p6) (bA p5 p6)).size)).length≤100000 from mS (Nat.le_trans (cN _ _) (by decide))))) (v2 (pu pz (pg h4 (v6 pT)))))))))))) <|Xy [(0,0),(1,1),(2,2),(3,3)] (pa pT (pa pT pz)) (by simp only [dz,cA,cK,ck,cl,h1,h2,h3,h4,aD,aA] <;> rfl)
 refine Tri.split (lk p5 p6) (fun h7=>?_) (fun h7=>?_)
 exact Xu [Eb 37 false,Eb 47 true] none [Eb 10 (!(dv p5 p6)),Es 9 (⟨#[]⟩:ByteArray),Eb 8 false] [13,12,11,1] [] [112] 640 (v1 (pu (Yl 1 4) (v1 (pg h3 (v8 (pu pz (pg h7 (v6 pT)))))))) <|Xy [(0,0),(1,1),(2,2),(3,3)] (pa pT (pa pT pz)) (by simp only [dz,cA,cK,ck,cl,h1,h2,h3,h7,aD,aA] <;> rfl)
 exact Xu [Eb 37 false,Eb 47 false] none [Eb 10 false,Es 9 (⟨#[]⟩:ByteArray),Eb 8 false] [13,12,11,1] [] [112] 640 (v1 (pu (Yl 1 4) (v1 (pg h3 (v8 (pu pz (pg h7 (v6 pT)))))))) <|Xy [(0,0),(1,1),(2,2),(3,3)] (pa pT (pa pT pz)) (by simp only [dz,cA,cK,ck,cl,h1,h2,h3,h7,aD,aA] <;> rfl)
 refine Xs [Eb 51 (aY p8 (⟨#[112,117,98,108,105,99,107,101,121]⟩:ByteArray))] [28,23] 256 (v2 pT) <|Xa (fun h8=>?_) (fun h8=>?_)
 refine Xt [Es 16 (bF p5 p6),Es 15 (aT (au p5 p6) (bA p5 p6)),Eb 14 (dv p5 p6)] [51] [Mc 3 [.ro .u8 (aj p5 p6),.b (ak p5 p6)]] [3] 400 (v1 (pu pz (v1 (pu pz (v1 (pu pz (v3 pT))))))) <|Xs [Es 17 (bD (bF p5 p6))] [] 448 (v1 (pu (pa pT (Ye ((bF p5 p6).size) 1000000000)) (v1 pT))) <|Tri.split (aY (aT (au p5 p6) (bA p5 p6)) (⟨#[115,115,104,45,101,100,50,53,53,49,57]⟩:ByteArray)) (fun h9=>?_) (fun h9=>?_)
 refine Tri.split (!(aY (bD (bF p5 p6)) (⟨#[]⟩:ByteArray))) (fun h10=>?_) (fun h10=>?_)
 refine Xu [Eb 63 true,Eb 67 true] none [Eb 18 (aY (bD (bF p5 p6)) (ce p7))] [15,11] [] [112] 656 (v2 (pg h9 (v3 (pg h10 (v2 (pu (Yl 2 4) (v3 pT))))))) <|Tri.seq <|Xs [Eb 74 (!(dv p5 p6))] [14] 688 (v2 pT) <|Xa (fun h11=>?_) (fun h11=>?_)
 refine Tri.seq <|Xs [Eb 75 (aY (bD (bF p5 p6)) (ce p7))] [74,18,17,0,2] 704 (v1 pT) <|Xj (x:=(aY (bD (bF p5 p6)) (ce p7))) (fun bb=>[Es 9 (sel bb (bF p5 p6) (⟨#[]⟩:ByteArray))]) [75,16,9] (fun bb=>[]) [] 736 (fun h12=>?_) (fun h12=>?_) ?_
 exact Ws [Es 9 (bF p5 p6)] [75,16,9] 736 (v2 pT) <|Xe [Es 9 (bF p5 p6)] []
 exact Tri.skip <|Xe [Es 9 (⟨#[]⟩:ByteArray)] []
 exact Xs [Eb 10 (dm (aj p5 p6) (ak p5 p6)),Es 9 (sel (aY (bD (bF p5 p6)) (ce p7)) (bF p5 p6) (⟨#[]⟩:ByteArray)),Eb 8 false] [9,1] 832 (v2 (pu pz (v3 pT))) <|Xy [(0,0),(1,1),(2,2),(3,3)] (pa pT (pa pT pz)) (by simp only [dz,cA,cK,ck,cl,h1,h2,h8,h9,h10,h11,aD,aA] <;> rfl)
 refine Tri.skip <|Tri.split (fh (aT (aj p5 p6) (ak p5 p6))) (fun h13=>?_) (fun h13=>?_)
 refine Xt [(19,.sc (.nils))] [74,9] [Mc 3 [.ro .u8 (aW (aj p5 p6) (ak p5 p6)),.b (aa (aj p5 p6) (ak p5 p6))]] [3] 752 (v1 (pu pz (pu (pa pT (pa (pl h13) (pl (show (aT (aj p5 p6) (ak p5 p6)).size≤1000000000 from Nat.le_trans (cN _ _) (by decide))))) (v1 pT)))) <|Tri.split (aY (bD (bF p5 p6)) (ce p7)) (fun h14=>?_) (fun h14=>?_)
 exact Xu [Eb 84 true] none [Eb 10 (eY p5 p6),Es 9 (⟨#[]⟩:ByteArray),Eb 8 false] [19,18,17,16,0,1,2] [] [] 1120 (v1 (pg h14 (v8 (v9 (pu pz (v3 pT)))))) <|Xy [(0,0),(1,1),(2,2),(3,3)] (pa pT (pa pT pz)) (by simp only [dz,cA,cK,ck,cl,h1,h2,h8,h9,h10,h11,h13,h14,aD,aA] <;> rfl)
 exact Xu [Eb 84 false] none [Eb 10 (eY p5 p6),Es 9 (⟨#[]⟩:ByteArray),Eb 8 false] [19,18,17,16,0,1,2] [] [] 1120 (v1 (pg h14 (v8 (v9 (pu pz (v3 pT)))))) <|Xy [(0,0),(1,1),(2,2),(3,3)] (pa pT (pa pT pz)) (by simp only [dz,cA,cK,ck,cl,h1,h2,h8,h9,h10,h11,h13,h14,aD,aA] <;> rfl)
 refine Tri.sub (Sub.up (U':=1120) (by decide)) <|Xt [El 19 1152 ((ah (aT (aj p5 p6) (ak p5 p6))).size)] [74,9] [Mi 1152 ((ah (aT (aj p5 p6) (ak p5 p6))).size) (eO (aT (aj p5 p6) (ak p5 p6))),Mc 3 [.ro .u8 (aW (aj p5 p6) (ak p5 p6)),.b (aa (aj p5 p6) (ak p5 p6))]] [3] 1184 (v1 (pu pz (pu (pa pT (pa (pl h13) (pl (show (aT (aj p5 p6) (ak p5 p6)).size≤1000000000 from Nat.le_trans (cN _ _) (by decide))))) (v1 pT)))) <|Tri.split (aY (bD (bF p5 p6)) (ce p7)) (fun h15=>?_) (fun h15=>?_)
 exact Tri.len 1152 rfl <|fun hl16=>Tri.len 2 rfl <|fun hl17=>Xu [Eb 84 true] none [Eb 10 (eY p5 p6),Es 9 (⟨#[]⟩:ByteArray),Eb 8 (og p10 p0 p5 p6 p7)] [19,18,17,16,0,1,2] [] [1152] 1552 (v1 (pg h15 (v1 (pu (pl (show 0<(ah (aT (aj p5 p6) (ak p5 p6))).size from rY (by assumption))) (v7 (pu (Yl 1 6) (v2 (pu (pa (pa (Yw p10) pT) (pl (show (aC p0 p10 0 p10).length≤20000∧p7.size≤20000∧(bF p5 p6).size≤20000 from ⟨bC (by omega) (by omega),by omega,by omega⟩))) (v1 (pu (pa (pa (Yw ((bD (bF p5 p6)).size)) (pa (Yw (cG (aC p0 p10 0 p10) p7 (bF p5 p6))) (pa (Yw ((ah (aT (aj p5 p6) (ak p5 p6))).size)) pT))) (pl (show (aC (fi (aC p0 p10 0 p10) p7 (bF p5 p6)) (cG (aC p0 p10 0 p10) p7 (bF p5 p6)) 0 (cG (aC p0 p10 0 p10) p7 (bF p5 p6))).length≤10000 from bC (Nat.le_trans (jX (by assumption)) (by omega)) (by rw [nj];exact Nat.le_trans (jX (by assumption)) (by omega))))) (v2 (pu pz (v3 pT))))))))))))) <|Xy [(0,0),(1,1),(2,2),(3,3)] (pa pT (pa pT pz)) (by simp only [dz,cA,cK,ck,cl,h1,h2,h8,h9,h10,h11,h13,h15,aD,aA] <;> rfl)
 exact Xu [Eb 84 false] none [Eb 10 (eY p5 p6),Es 9 (⟨#[]⟩:ByteArray),Eb 8 false] [19,18,17,16,0,1,2] [] [1152] 1552 (v1 (pg h15 (v8 (v9 (pu pz (v3 pT)))))) <|Xy [(0,0),(1,1),(2,2),(3,3)] (pa pT (pa pT pz)) (by simp only [dz,cA,cK,ck,cl,h1,h2,h8,h9,h10,h11,h13,h15,aD,aA] <;> rfl)
 refine Xu [Eb 63 true,Eb 67 false] none [Eb 18 false] [15,11] [] [112] 656 (v2 (pg h9 (v3 (pg h10 (v6 pT))))) <|Tri.seq <|Xs [Eb 74 (!(dv p5 p6))] [14] 688 (v2 pT) <|Xa (fun h18=>?_) (fun h18=>?_)
 exact Tri.seq <|Xs [Eb 75 false] [74,18,17,0,2] 704 (v1 pT) <|Tri.cond_false (by kernel_rfl) <|Tri.skip <|Xs [Eb 10 (dm (aj p5 p6) (ak p5 p6)),Es 9 (⟨#[]⟩:ByteArray),Eb 8 false] [75,16,9,1] 800 (v2 (pu pz (v3 pT))) <|Xy [(0,0),(1,1),(2,2),(3,3)] (pa pT (pa pT pz)) (by simp only [dz,cA,cK,ck,cl,h1,h2,h8,h9,h10,h18,aD,aA] <;> rfl)
 refine Tri.skip <|Tri.split (fh (aT (aj p5 p6) (ak p5 p6))) (fun h19=>?_) (fun h19=>?_)
 exact Xt [(19,.sc (.nils))] [74,9] [Mc 3 [.ro .u8 (aW (aj p5 p6) (ak p5 p6)),.b (aa (aj p5 p6) (ak p5 p6))]] [3] 752 (v1 (pu pz (pu (pa pT (pa (pl h19) (pl (show (aT (aj p5 p6) (ak p5 p6)).size≤1000000000 from Nat.le_trans (cN _ _) (by decide))))) (v1 pT)))) <|Xs [Eb 10 (eY p5 p6),Es 9 (⟨#[]⟩:ByteArray),Eb 8 false] [19,18,17,16,0,1,2] 1120 (v1 (v9 (v9 (pu pz (v3 pT))))) <|Xy [(0,0),(1,1),(2,2),(3,3)] (pa pT (pa pT pz)) (by simp only [dz,cA,cK,ck,cl,h1,h2,h8,h9,h10,h18,h19,aD,aA] <;> rfl)
 exact Tri.sub (Sub.up (U':=1552) (by decide)) <|Xt [El 19 1584 ((ah (aT (aj p5 p6) (ak p5 p6))).size)] [74,9] [Mi 1584 ((ah (aT (aj p5 p6) (ak p5 p6))).size) (eO (aT (aj p5 p6) (ak p5 p6))),Mc 3 [.ro .u8 (aW (aj p5 p6) (ak p5 p6)),.b (aa (aj p5 p6) (ak p5 p6))]] [3] 1616 (v1 (pu pz (pu (pa pT (pa (pl h19) (pl (show (aT (aj p5 p6) (ak p5 p6)).size≤1000000000 from Nat.le_trans (cN _ _) (by decide))))) (v1 pT)))) <|Xt [Eb 10 (eY p5 p6),Es 9 (⟨#[]⟩:ByteArray),Eb 8 false] [19,18,17,16,0,1,2] [] [1584] 1984 (v1 (v9 (v9 (pu pz (v3 pT))))) <|Xy [(0,0),(1,1),(2,2),(3,3)] (pa pT (pa pT pz)) (by simp only [dz,cA,cK,ck,cl,h1,h2,h8,h9,h10,h18,h19,aD,aA] <;> rfl)
 refine Xu [Eb 63 false] none [Eb 18 false] [15,11] [] [112] 656 (v2 (pg h9 (v1 (v9 pT)))) <|Tri.seq <|Xs [Eb 74 (!(dv p5 p6))] [14] 688 (v2 pT) <|Xa (fun h20=>?_) (fun h20=>?_)
 exact Tri.seq <|Xs [Eb 75 false] [74,18,17,0,2] 704 (v1 pT) <|Tri.cond_false (by kernel_rfl) <|Tri.skip <|Xs [Eb 10 (dm (aj p5 p6) (ak p5 p6)),Es 9 (⟨#[]⟩:ByteArray),Eb 8 false] [75,16,9,1] 800 (v2 (pu pz (v3 pT))) <|Xy [(0,0),(1,1),(2,2),(3,3)] (pa pT (pa pT pz)) (by simp only [dz,cA,cK,ck,cl,h1,h2,h8,h9,h20,aD,aA] <;> rfl)
 refine Tri.skip <|Tri.split (fh (aT (aj p5 p6) (ak p5 p6))) (fun h21=>?_) (fun h21=>?_)
 exact Xt [(19,.sc (.nils))] [74,9] [Mc 3 [.ro .u8 (aW (aj p5 p6) (ak p5 p6)),.b (aa (aj p5 p6) (ak p5 p6))]] [3] 752 (v1 (pu pz (pu (pa pT (pa (pl h21) (pl (show (aT (aj p5 p6) (ak p5 p6)).size≤1000000000 from Nat.le_trans (cN _ _) (by decide))))) (v1 pT)))) <|Xs [Eb 10 (eY p5 p6),Es 9 (⟨#[]⟩:ByteArray),Eb 8 false] [19,18,17,16,0,1,2] 1120 (v1 (v9 (v9 (pu pz (v3 pT))))) <|Xy [(0,0),(1,1),(2,2),(3,3)] (pa pT (pa pT pz)) (by simp only [dz,cA,cK,ck,cl,h1,h2,h8,h9,h20,h21,aD,aA] <;> rfl)
 exact Tri.sub (Sub.up (U':=1984) (by decide)) <|Xt [El 19 2016 ((ah (aT (aj p5 p6) (ak p5 p6))).size)] [74,9] [Mi 2016 ((ah (aT (aj p5 p6) (ak p5 p6))).size) (eO (aT (aj p5 p6) (ak p5 p6))),Mc 3 [.ro .u8 (aW (aj p5 p6) (ak p5 p6)),.b (aa (aj p5 p6) (ak p5 p6))]] [3] 2048 (v1 (pu pz (pu (pa pT (pa (pl h21) (pl (show (aT (aj p5 p6) (ak p5 p6)).size≤1000000000 from Nat.le_trans (cN _ _) (by decide))))) (v1 pT)))) <|Xt [Eb 10 (eY p5 p6),Es 9 (⟨#[]⟩:ByteArray),Eb 8 false] [19,18,17,16,0,1,2] [] [2016] 2416 (v1 (v9 (v9 (pu pz (v3 pT))))) <|Xy [(0,0),(1,1),(2,2),(3,3)] (pa pT (pa pT pz)) (by simp only [dz,cA,cK,ck,cl,h1,h2,h8,h9,h20,h21,aD,aA] <;> rfl)
 exact Tri.skip <|Xt [Eb 10 (qF p5 p6),Es 9 (⟨#[]⟩:ByteArray),Eb 8 false] [51,11,9,0,1,2] [Mc 3 [.ro .u8 p5,.b p6]] [112,3] 336 (v1 (pu pz (v3 pT))) <|Xy [(0,0),(1,1),(2,2),(3,3)] (pa pT (pa pT pz)) (by simp only [dz,cA,cK,ck,cl,h1,h2,h8,aD,aA] <;> rfl)
end Go.Vm
namespace Go.Vm
open Go Go.Proofs
def fu (p5:List Int):Bool :=
 (dm (aW (aq p5 false) (ax p5 false)) (aa (aq p5 false) (ax p5 false)))
def kR:List Int :=
 (kA (⟨#[115,115,104,45,117,115,101,114,97,117,116,104]⟩:ByteArray))
def eM (p5:List Int):ByteArray :=
 (aT (aW (aq p5 false) (ax p5 false)) (aa (aq p5 false) (ax p5 false)))
def bh (p5:List Int):List Int :=
 (aW (aW (aq p5 false) (ax p5 false)) (aa (aq p5 false) (ax p5 false)))
def bp (p5:List Int):Bool :=
 (aa (aW (aq p5 false) (ax p5 false)) (aa (aq p5 false) (ax p5 false)))
def eL (p10:Nat) (p0:List Int) (p5:List Int):Bool :=
 (dz p10 p0 (aW (bh p5) (bp p5)) (aa (bh p5) (bp p5)) (aT (aq p5 false) (ax p5 false)) (aT (bh p5) (bp p5)))
def cZ (p5:List Int):ByteArray :=
 (cA (aW (bh p5) (bp p5)) (aa (bh p5) (bp p5)) (aT (aq p5 false) (ax p5 false)) (aT (bh p5) (bp p5)))
def eS (p5:List Int):Bool :=
 (cK (aW (bh p5) (bp p5)) (aa (bh p5) (bp p5)) (aT (bh p5) (bp p5)))
def pK:List Int :=
 (bz 1 [60] (⟨#[115,115,104,45,101,100,50,53,53,49,57]⟩:ByteArray))
def iM (p5:List Int):List Int :=
 (bz ((1+4)+(⟨#[115,115,104,45,101,100,50,53,53,49,57]⟩:ByteArray).size) (pK) (cZ p5))
def az (p10:Nat) (p0:List Int) (p1:Int) (p2:Bool) (p4:Bool) (p5:List Int):Int :=
 (sel p4 8 (sel (((cm p5 false):Int)==5) (sel (!(fu p5)) 3 (sel (!(aY (aT (aq p5 false) (ax p5 false)) (⟨#[115,115,104,45,117,115,101,114,97,117,116,104]⟩:ByteArray))) 3 0)) (sel (((cm p5 false):Int) != 50) 3 (sel (!p2) 3 (sel (!(eS p5)) 3 (sel (!(aY (eM p5) (⟨#[115,115,104,45,99,111,110,110,101,99,116,105,111,110]⟩:ByteArray))) 3 (sel (eL p10 p0 p5) 0 (sel (!(aY (cZ p5) (⟨#[]⟩:ByteArray))) 0 (sel (!(aY (aT (bh p5) (bp p5)) (⟨#[110,111,110,101]⟩:ByteArray))) (sel (((al .i64 (eT p1 1) 1):Int)==0) 9 0) 0)))))))))
def aN (p10:Nat) (p0:List Int) (p1:Int) (p2:Bool) (p4:Bool) (p5:List Int):Int :=
 (sel p4 p1 (sel (((cm p5 false):Int)==5) p1 (sel (((cm p5 false):Int) != 50) p1 (sel (!p2) p1 (sel (!(eS p5)) p1 (sel (!(aY (eM p5) (⟨#[115,115,104,45,99,111,110,110,101,99,116,105,111,110]⟩:ByteArray))) p1 (sel (eL p10 p0 p5) p1 (sel (!(aY (cZ p5) (⟨#[]⟩:ByteArray))) p1 (sel (!(aY (aT (bh p5) (bp p5)) (⟨#[110,111,110,101]⟩:ByteArray))) (al .i64 (eT p1 1) 1) p1)))))))))
def bL (p2:Bool) (p4:Bool) (p5:List Int):Bool :=
 (sel p4 p2 (sel (((cm p5 false):Int)==5) (sel (!(fu p5)) p2 (sel (!(aY (aT (aq p5 false) (ax p5 false)) (⟨#[115,115,104,45,117,115,101,114,97,117,116,104]⟩:ByteArray))) p2 true)) p2))
def bK (p10:Nat) (p0:List Int) (p2:Bool) (p3:ByteArray) (p4:Bool) (p5:List Int):ByteArray :=
 (sel p4 p3 (sel (((cm p5 false):Int)==5) p3 (sel (((cm p5 false):Int) != 50) p3 (sel (!p2) p3 (sel (!(eS p5)) p3 (sel (!(aY (eM p5) (⟨#[115,115,104,45,99,111,110,110,101,99,116,105,111,110]⟩:ByteArray))) p3 (sel (eL p10 p0 p5) (aT (aq p5 false) (ax p5 false)) p3)))))))
def bJ (p10:Nat) (p0:List Int) (p2:Bool) (p4:Bool) (p5:List Int):Bool :=
 (sel p4 p4 (sel (((cm p5 false):Int)==5) p4 (sel (((cm p5 false):Int) != 50) p4 (sel (!p2) p4 (sel (!(eS p5)) p4 (sel (!(aY (eM p5) (⟨#[115,115,104,45,99,111,110,110,101,99,116,105,111,110]⟩:ByteArray))) p4 (sel (eL p10 p0 p5) true p4)))))))
def bR (p10:Nat) (p0:List Int) (p1:Int) (p2:Bool) (p4:Bool) (p5:List Int):List Int :=
 (sel p4 ([]:List Int) (sel (((cm p5 false):Int)==5) (sel (!(fu p5)) ([]:List Int) (sel (!(aY (aT (aq p5 false) (ax p5 false)) (⟨#[115,115,104,45,117,115,101,114,97,117,116,104]⟩:ByteArray))) ([]:List Int) (kR))) (sel (((cm p5 false):Int) != 50) ([]:List Int) (sel (!p2) ([]:List Int) (sel (!(eS p5)) ([]:List Int) (sel (!(aY (eM p5) (⟨#[115,115,104,45,99,111,110,110,101,99,116,105,111,110]⟩:ByteArray))) ([]:List Int) (sel (eL p10 p0 p5) [52] (sel (!(aY (cZ p5) (⟨#[]⟩:ByteArray))) (iM p5) (sel (!(aY (aT (bh p5) (bp p5)) (⟨#[110,111,110,101]⟩:ByteArray))) (sel (((al .i64 (eT p1 1) 1):Int)==0) ([]:List Int) (da)) (da))))))))))
def aS (p10:Nat) (p0:List Int) (p1:Int) (p2:Bool) (p4:Bool) (p5:List Int):Nat :=
 (sel p4 0 (sel (((cm p5 false):Int)==5) (sel (!(fu p5)) 0 (sel (!(aY (aT (aq p5 false) (ax p5 false)) (⟨#[115,115,104,45,117,115,101,114,97,117,116,104]⟩:ByteArray))) 0 ((1+4)+(⟨#[115,115,104,45,117,115,101,114,97,117,116,104]⟩:ByteArray).size))) (sel (((cm p5 false):Int) != 50) 0 (sel (!p2) 0 (sel (!(eS p5)) 0 (sel (!(aY (eM p5) (⟨#[115,115,104,45,99,111,110,110,101,99,116,105,111,110]⟩:ByteArray))) 0 (sel (eL p10 p0 p5) 1 (sel (!(aY (cZ p5) (⟨#[]⟩:ByteArray))) ((((1+4)+(⟨#[115,115,104,45,101,100,50,53,53,49,57]⟩:ByteArray).size)+4)+(cZ p5).size) (sel (!(aY (aT (bh p5) (bp p5)) (⟨#[110,111,110,101]⟩:ByteArray))) (sel (((al .i64 (eT p1 1) 1):Int)==0) 0 (bV)) (bV))))))))))
theorem pW (p5:List Int):(aW (bh p5) (bp p5)).length+(aT (aq p5 false) (ax p5 false)).size≤p5.length:=by
 have h1:=kt p5 false
 have h2:=fI (aq p5 false) (ax p5 false)
 have h3:=fI (aW (aq p5 false) (ax p5 false)) (aa (aq p5 false) (ax p5 false))
 have h4:=fI (bh p5) (bp p5)
 unfold au at h1
 unfold bh at h4 ⊢
 omega
theorem ra (p5:List Int):(cZ p5).size≤16384:=by
 have h0:(⟨#[]⟩:ByteArray).size≤16384:=by decide
 have hs:∀ (b:Bool) (x y:ByteArray),x.size≤16384→y.size≤16384→(sel b x y).size≤16384:=fun b x y hx hy=>by cases b;exact hy;exact hx
 unfold cZ cA
 repeat first|exact h0|exact cN _ _|(unfold bF;exact cN _ _)|refine hs _ _ _ ?_ ?_
def pn:List AV→List Blk→Option (Prop × Ret)
 |[.sc (.p 0 0),.sc (.ro .u8 p5)],[.cells [.sl 1 0 4 4 none,.sl 2 0 p10 1 none,.i .i64 p1,.b p2,.s p3,.b p4],.cells p9,.ints .u8 p11 p0]=>some (((p10=p11)∧((UA=p9)∧(p5.length≤6000∧p10≤1000))),⟨.tup [.sc (.sl 3 0 (aS p10 p0 p1 p2 p4 p5) 1 none),.sc (.i .i64 (az p10 p0 p1 p2 p4 p5))],[some (.cells [.sl 1 0 4 4 none,.sl 2 0 p10 1 none,.i .i64 (aN p10 p0 p1 p2 p4 p5),.b (bL p2 p4 p5),.s (bK p10 p0 p2 p3 p4 p5),.b (bJ p10 p0 p2 p4 p5)]),some (.cells UA),some (.ints .u8 p10 p0),some (.ints .u8 (aS p10 p0 p1 p2 p4 p5) (bR p10 p0 p1 p2 p4 p5))]⟩)
 |_,_=>none
def sU:KL Tryz.prog gD:=Zv me 544 1 <|Zc dQ 1024 [.io,.val] [] [1008] <|Zc dQ 1056 [.io,.val] [] [1024] <|Zc sa 192 [.ro .u8] [] [] <|Zc pk 240 [.io] [] [192] <|Zc dW 336 [.io] [] [192] <|Zc dW 496 [.io] [] [192] <|Zc dW 528 [.io] [] [192] <|Zc dW 560 [.io] [] [192] <|Zc fc 384 [.io] [] [192] <|Zc tw 688 [.io,.io,.val,.val] [] [0,1,2,192] <|Zv ko 1040 0 <|Zv ko 1280 0 <|Zn
theorem gl:Known Tryz.prog gD 20 ⟨3,1,pn⟩:=by
 refine Xw Tryz.f20 109 sU mixed <|fun E args ks C r h hC hlen=>?_
 simp only at h
 unfold pn at h
 split at h
 rotate_left
 cases h
 rename_i p5 p10 p1 p2 p3 p4 p9 p11 p0
 cases h
 simp only [ap] at hlen
 obtain ⟨hEp11,hC⟩:=hC
 obtain ⟨hEp9,hC⟩:=hC
 subst hEp11
 subst hEp9
 have ht:=pW p5
 have hf:=ra p5
 have sz0:(⟨#[115,115,104,45,101,100,50,53,53,49,57]⟩:ByteArray).size=11:=rfl
 refine ⟨rfl,?_⟩
 refine Xs [] [] 48 (v2 pT) <|Tri.seq <|Xs [Eb 22 p4] [] 176 (v6 (pu (Yl 5 6) (v1 pT))) <|Xa (fun h1=>?_) (fun h1=>?_)
 exact Xs [Ei 5 8,(4,.sc (.nils))] [22,0,1] 208 (v2 pT) <|Tri.sub (Sub.openNil (U:=208) (U':=224) 4 208 1 .u8 none (.inl rfl) (by decide) (by decide) (by kernel_rfl) (by kernel_rfl)) <|Xy (r':=⟨.tup [.sc (.sl 3 0 0 1 none),.sc (.i .i64 8)],[some (.cells [.sl 1 0 4 4 none,.sl 2 0 p10 1 none,.i .i64 p1,.b p2,.s p3,.b p4]),some (.cells UA),some (.ints .u8 p10 p0),some (.ints .u8 0 ([]:List Int))]⟩) [(0,0),(1,1),(2,2),(208,3)] (pa pT pz) (by simp only [az,aN,bL,bK,bJ,bR,aS,h1,aD,aA])
 refine Tri.skip <|Xt [Ep 6 192] [22,1] [Mc 192 [.ro .u8 p5,.b false]] [] 224 (v1 (pu (pa pz pT) (v1 pT))) <|Tri.seq <|Xt [Ek 7 .u8 (cm p5 false)] [] [Mc 192 [.ro .u8 (aq p5 false),.b (ax p5 false)]] [192] 272 (v1 (pu pz (v1 pT))) <|Tri.block <|Xs [Eb 27 (((cm p5 false):Int)==5)] [] 320 (v3 pT) <|Xa (fun h2=>?_) (fun h2=>?_)
 have h2':=bv h2
 refine Tri.seq <|Xt [Es 8 (aT (aq p5 false) (ax p5 false))] [27,7] [Mc 192 [.ro .u8 (aW (aq p5 false) (ax p5 false)),.b (aa (aq p5 false) (ax p5 false))]] [192] 368 (v1 (pu pz (v1 pT))) <|Tri.split (!(fu p5)) (fun h3=>?_) (fun h3=>?_)
 exact Xu [Eb 35 true] none [Eb 38 true] [8,6] [] [192] 480 (v1 (pu pz (v1 (pg h3 (v3 pT))))) <|Tri.cond_true (by kernel_rfl) <|Xs [Ei 5 3,(4,.sc (.nils))] [38,0] 512 (v2 pT) <|Tri.sub (Sub.openNil (U:=512) (U':=528) 4 512 1 .u8 none (.inl rfl) (by decide) (by decide) (by kernel_rfl) (by kernel_rfl)) <|Xy (r':=⟨.tup [.sc (.sl 3 0 0 1 none),.sc (.i .i64 3)],[some (.cells [.sl 1 0 4 4 none,.sl 2 0 p10 1 none,.i .i64 p1,.b p2,.s p3,.b p4]),some (.cells UA),some (.ints .u8 p10 p0),some (.ints .u8 0 ([]:List Int))]⟩) [(0,0),(1,1),(2,2),(512,3)] (pa pT pz) (by simp only [az,aN,bL,bK,bJ,bR,aS,h1,h2,h3,aD,aA])
 refine Xu [Eb 35 false] none [Eb 38 (!(aY (aT (aq p5 false) (ax p5 false)) (⟨#[115,115,104,45,117,115,101,114,97,117,116,104]⟩:ByteArray)))] [8,6] [] [192] 480 (v1 (pu pz (v1 (pg h3 (v3 pT))))) <|Xa (fun h4=>?_) (fun h4=>?_)
 exact Xs [Ei 5 3,(4,.sc (.nils))] [38,0] 512 (v2 pT) <|Tri.sub (Sub.openNil (U:=512) (U':=528) 4 512 1 .u8 none (.inl rfl) (by decide) (by decide) (by kernel_rfl) (by kernel_rfl)) <|Xy (r':=⟨.tup [.sc (.sl 3 0 0 1 none),.sc (.i .i64 3)],[some (.cells [.sl 1 0 4 4 none,.sl 2 0 p10 1 none,.i .i64 p1,.b p2,.s p3,.b p4]),some (.cells UA),some (.ints .u8 p10 p0),some (.ints .u8 0 ([]:List Int))]⟩) [(0,0),(1,1),(2,2),(512,3)] (pa pT pz) (by simp only [az,aN,bL,bK,bJ,bR,aS,h1,h2,h3,h4,aD,aA])
 exact Tri.skip <|Xt [] [38,0] [Mc 0 [.sl 1 0 4 4 none,.sl 2 0 p10 1 none,.i .i64 p1,.b true,.s p3,.b p4]] [0] 544 (v3 (pu (Ys 3 6) pT)) <|Xt [Ei 5 0,El 4 544 ((1+4)+(⟨#[115,115,104,45,117,115,101,114,97,117,116,104]⟩:ByteArray).size)] [] [Mi 544 ((1+4)+(⟨#[115,115,104,45,117,115,101,114,97,117,116,104]⟩:ByteArray).size) (kR)] [] 592 (pu (pa pT (Ye ((⟨#[115,115,104,45,117,115,101,114,97,117,116,104]⟩:ByteArray).size) 100000)) (v2 pT)) <|Xy (r':=⟨.tup [.sc (.sl 3 0 ((1+4)+(⟨#[115,115,104,45,117,115,101,114,97,117,116,104]⟩:ByteArray).size) 1 none),.sc (.i .i64 0)],[some (.cells [.sl 1 0 4 4 none,.sl 2 0 p10 1 none,.i .i64 p1,.b true,.s p3,.b p4]),some (.cells UA),some (.ints .u8 p10 p0),some (.ints .u8 ((1+4)+(⟨#[115,115,104,45,117,115,101,114,97,117,116,104]⟩:ByteArray).size) (kR))]⟩) [(0,0),(1,1),(2,2),(544,3)] (pa pT pz) (by simp only [az,aN,bL,bK,bJ,bR,aS,h1,h2,h3,h4,aD,aA])
 have h2':=bn h2
 refine Tri.split (((cm p5 false):Int) != 50) (fun h5=>?_) (fun h5=>?_)
 have h5':=bT h5
 exact Xu [Eb 46 true] none [Eb 43 true] [27,7] [] [] 480 (v2 (pg h5 (v7 pT))) <|Tri.cond_true (by kernel_rfl) <|Xt [Ei 5 3,(4,.sc (.nils))] [43,6,0] [] [192] 512 (v2 pT) <|Tri.sub (Sub.openNil (U:=512) (U':=528) 4 512 1 .u8 none (.inl rfl) (by decide) (by decide) (by kernel_rfl) (by kernel_rfl)) <|Xy (r':=⟨.tup [.sc (.sl 3 0 0 1 none),.sc (.i .i64 3)],[some (.cells [.sl 1 0 4 4 none,.sl 2 0 p10 1 none,.i .i64 p1,.b p2,.s p3,.b p4]),some (.cells UA),some (.ints .u8 p10 p0),some (.ints .u8 0 ([]:List Int))]⟩) [(0,0),(1,1),(2,2),(512,3)] (pa pT pz) (by simp only [az,aN,bL,bK,bJ,bR,aS,h1,h2,h5,aD,aA])
 have h5':=bB h5
 refine Xu [Eb 46 false] none [Eb 43 (!p2)] [27,7] [] [] 480 (v2 (pg h5 (v3 (pu (Yl 3 6) (v3 pT))))) <|Xa (fun h6=>?_) (fun h6=>?_)
 exact Xt [Ei 5 3,(4,.sc (.nils))] [43,6,0] [] [192] 512 (v2 pT) <|Tri.sub (Sub.openNil (U:=512) (U':=528) 4 512 1 .u8 none (.inl rfl) (by decide) (by decide) (by kernel_rfl) (by kernel_rfl)) <|Xy (r':=⟨.tup [.sc (.sl 3 0 0 1 none),.sc (.i .i64 3)],[some (.cells [.sl 1 0 4 4 none,.sl 2 0 p10 1 none,.i .i64 p1,.b p2,.s p3,.b p4]),some (.cells UA),some (.ints .u8 p10 p0),some (.ints .u8 0 ([]:List Int))]⟩) [(0,0),(1,1),(2,2),(512,3)] (pa pT pz) (by simp only [az,aN,bL,bK,bJ,bR,aS,h1,h2,h5,h6,aD,aA])
 refine Tri.skip <|Xt [Es 11 (aT (bh p5) (bp p5)),Es 10 (eM p5),Es 9 (aT (aq p5 false) (ax p5 false))] [43] [Mc 192 [.ro .u8 (aW (bh p5) (bp p5)),.b (aa (bh p5) (bp p5))]] [192] 624 (v1 (pu pz (v1 (pu pz (v1 (pu pz (v3 pT))))))) <|Xt [Eb 14 (eS p5),Es 13 (cZ p5),Eb 12 (eL p10 p0 p5)] [6] [Mi 2 p10 p0,Mc 1 UA] [192,1,2] 816 (v4 (pu (pa pT (pa (Yr p10) (pa (Yr UA) (lo ((aW (bh p5) (bp p5)).length+(aT (aq p5 false) (ax p5 false)).size≤6000∧p10≤1000))))) (v7 pT))) <|Tri.seq <|Tri.block <|Tri.split (!(eS p5)) (fun h7=>?_) (fun h7=>?_)
 exact Xu [Eb 71 true] none [Eb 68 true] [14,10] [] [] 928 (v2 (pg h7 (v4 pT))) <|Tri.cond_true (by kernel_rfl) <|Xs [Ei 5 3,(4,.sc (.nils))] [68,13,12,11,9,0] 960 (v2 pT) <|Tri.sub (Sub.openNil (U:=960) (U':=976) 4 960 1 .u8 none (.inl rfl) (by decide) (by decide) (by kernel_rfl) (by kernel_rfl)) <|Xy (r':=⟨.tup [.sc (.sl 3 0 0 1 none),.sc (.i .i64 3)],[some (.cells [.sl 1 0 4 4 none,.sl 2 0 p10 1 none,.i .i64 p1,.b p2,.s p3,.b p4]),some (.cells UA),some (.ints .u8 p10 p0),some (.ints .u8 0 ([]:List Int))]⟩) [(0,0),(1,1),(2,2),(960,3)] (pa pT pz) (by simp only [az,aN,bL,bK,bJ,bR,aS,h1,h2,h5,h6,h7,aD,aA])
 refine Xu [Eb 71 false] none [Eb 68 (!(aY (eM p5) (⟨#[115,115,104,45,99,111,110,110,101,99,116,105,111,110]⟩:ByteArray)))] [14,10] [] [] 928 (v2 (pg h7 (v4 pT))) <|Xa (fun h8=>?_) (fun h8=>?_)
 exact Xs [Ei 5 3,(4,.sc (.nils))] [68,13,12,11,9,0] 960 (v2 pT) <|Tri.sub (Sub.openNil (U:=960) (U':=976) 4 960 1 .u8 none (.inl rfl) (by decide) (by decide) (by kernel_rfl) (by kernel_rfl)) <|Xy (r':=⟨.tup [.sc (.sl 3 0 0 1 none),.sc (.i .i64 3)],[some (.cells [.sl 1 0 4 4 none,.sl 2 0 p10 1 none,.i .i64 p1,.b p2,.s p3,.b p4]),some (.cells UA),some (.ints .u8 p10 p0),some (.ints .u8 0 ([]:List Int))]⟩) [(0,0),(1,1),(2,2),(960,3)] (pa pT pz) (by simp only [az,aN,bL,bK,bJ,bR,aS,h1,h2,h5,h6,h7,h8,aD,aA])
 refine Xs [Eb 75 (eL p10 p0 p5)] [68,12] 960 (v2 pT) <|Xa (fun h9=>?_) (fun h9=>?_)
 exact Xt [] [75,13,11,9,0] [Mc 0 [.sl 1 0 4 4 none,.sl 2 0 p10 1 none,.i .i64 p1,.b p2,.s (aT (aq p5 false) (ax p5 false)),.b true]] [0] 1104 (v5 (pu (Ys 5 6) (v2 (pu (Ys 4 6) pT)))) <|Xt [Ei 5 0,El 4 1104 1] [] [Mi 1104 1 [52]] [] 1152 (pu (Yf 1) (v2 pT)) <|Xy (r':=⟨.tup [.sc (.sl 3 0 1 1 none),.sc (.i .i64 0)],[some (.cells [.sl 1 0 4 4 none,.sl 2 0 p10 1 none,.i .i64 p1,.b p2,.s (aT (aq p5 false) (ax p5 false)),.b true]),some (.cells UA),some (.ints .u8 p10 p0),some (.ints .u8 1 [52])]⟩) [(0,0),(1,1),(2,2),(1104,3)] (pa pT pz) (by simp only [az,aN,bL,bK,bJ,bR,aS,h1,h2,h5,h6,h7,h8,h9,aD,aA])
 refine Xs [Eb 85 (!(aY (cZ p5) (⟨#[]⟩:ByteArray)))] [75,9] 1008 (v3 pT) <|Xa (fun h10=>?_) (fun h10=>?_)
 exact Xt [Ei 5 0,El 4 1056 ((((1+4)+(⟨#[115,115,104,45,101,100,50,53,53,49,57]⟩:ByteArray).size)+4)+(cZ p5).size)] [85,13,11,0] [Mi 1056 ((((1+4)+(⟨#[115,115,104,45,101,100,50,53,53,49,57]⟩:ByteArray).size)+4)+(cZ p5).size) (iM p5)] [] 1104 (pu (Yf 1) (pu (pa pT (pa (Yr 1) (lo (1≤1000000000∧(⟨#[115,115,104,45,101,100,50,53,53,49,57]⟩:ByteArray).size≤1000000000)))) (v1 (pu (pa pT (pa (Yr ((1+4)+(⟨#[115,115,104,45,101,100,50,53,53,49,57]⟩:ByteArray).size)) (lo (((1+4)+(⟨#[115,115,104,45,101,100,50,53,53,49,57]⟩:ByteArray).size)≤1000000000∧(cZ p5).size≤1000000000)))) (v2 pT))))) <|Xy (r':=⟨.tup [.sc (.sl 3 0 ((((1+4)+(⟨#[115,115,104,45,101,100,50,53,53,49,57]⟩:ByteArray).size)+4)+(cZ p5).size) 1 none),.sc (.i .i64 0)],[some (.cells [.sl 1 0 4 4 none,.sl 2 0 p10 1 none,.i .i64 p1,.b p2,.s p3,.b p4]),some (.cells UA),some (.ints .u8 p10 p0),some (.ints .u8 ((((1+4)+(⟨#[115,115,104,45,101,100,50,53,53,49,57]⟩:ByteArray).size)+4)+(cZ p5).size) (iM p5))]⟩) [(0,0),(1,1),(2,2),(1056,3)] (pa pT pz) (by simp only [az,aN,bL,bK,bJ,bR,aS,h1,h2,h5,h6,h7,h8,h9,h10,aD,aA])
 refine Tri.skip <|Tri.seq <|Xs [Eb 93 (!(aY (aT (bh p5) (bp p5)) (⟨#[110,111,110,101]⟩:ByteArray)))] [85,13,11] 1040 (v2 pT) <|Xa (fun h11=>?_) (fun h11=>?_)
 refine Xt [] [93] [Mc 0 [.sl 1 0 4 4 none,.sl 2 0 p10 1 none,.i .i64 (al .i64 (eT p1 1) 1),.b p2,.s p3,.b p4]] [0] 1200 (v4 (pu (Yl 2 6) (v4 (pu (Ys 2 6) pT)))) <|Xs [Eb 107 (((al .i64 (eT p1 1) 1):Int)==0)] [0] 1280 (v3 (pu (Yl 2 6) (v1 pT))) <|Xa (fun h12=>?_) (fun h12=>?_)
 have h12':=bv h12
 exact Xs [Ei 5 9,(4,.sc (.nils))] [107] 1312 (v2 pT) <|Tri.sub (Sub.openNil (U:=1312) (U':=1328) 4 1312 1 .u8 none (.inl rfl) (by decide) (by decide) (by kernel_rfl) (by kernel_rfl)) <|Xy (r':=⟨.tup [.sc (.sl 3 0 0 1 none),.sc (.i .i64 9)],[some (.cells [.sl 1 0 4 4 none,.sl 2 0 p10 1 none,.i .i64 (al .i64 (eT p1 1) 1),.b p2,.s p3,.b p4]),some (.cells UA),some (.ints .u8 p10 p0),some (.ints .u8 0 ([]:List Int))]⟩) [(0,0),(1,1),(2,2),(1312,3)] (pa pT pz) (by simp only [az,aN,bL,bK,bJ,bR,aS,h1,h2,h5,h6,h7,h8,h9,h10,h11,h12,aD,aA])
 have h12':=bn h12
 exact Tri.skip <|Xt [Ei 5 0,El 4 1280 (bV)] [107] [Mi 1280 (bV) (da)] [] 1328 (pu pz (v2 pT)) <|Xy (r':=⟨.tup [.sc (.sl 3 0 (bV) 1 none),.sc (.i .i64 0)],[some (.cells [.sl 1 0 4 4 none,.sl 2 0 p10 1 none,.i .i64 (al .i64 (eT p1 1) 1),.b p2,.s p3,.b p4]),some (.cells UA),some (.ints .u8 p10 p0),some (.ints .u8 (bV) (da))]⟩) [(0,0),(1,1),(2,2),(1280,3)] (pa pT pz) (by simp only [az,aN,bL,bK,bJ,bR,aS,h1,h2,h5,h6,h7,h8,h9,h10,h11,h12,aD,aA])
 exact Tri.skip <|Xt [Ei 5 0,El 4 1040 (bV)] [93,0] [Mi 1040 (bV) (da)] [] 1088 (pu pz (v2 pT)) <|Xy (r':=⟨.tup [.sc (.sl 3 0 (bV) 1 none),.sc (.i .i64 0)],[some (.cells [.sl 1 0 4 4 none,.sl 2 0 p10 1 none,.i .i64 p1,.b p2,.s p3,.b p4]),some (.cells UA),some (.ints .u8 p10 p0),some (.ints .u8 (bV) (da))]⟩) [(0,0),(1,1),(2,2),(1040,3)] (pa pT pz) (by simp only [az,aN,bL,bK,bJ,bR,aS,h1,h2,h5,h6,h7,h8,h9,h10,h11,aD,aA])
theorem pp {b:Bool} {x y:Nat} {u v:Int} (h:sel b u v=0) (hx:u=0→0<x) (hy:v=0→0<y):0<sel b x y:=by
 cases b
 ·rw [aA] at h ⊢;exact hy h
 ·rw [aD] at h ⊢;exact hx h
theorem mV {p10:Nat} {p0:List Int} {p1:Int} {p2 p4:Bool} {p5:List Int} (h:az p10 p0 p1 p2 p4 p5=0):0<aS p10 p0 p1 p2 p4 p5:=by
 unfold az at h
 unfold aS
 revert h
 repeat' first
  |(intro h;exact absurd h (by decide))
  |(intro h;refine pp h ?_ ?_)
  |(intro _;omega)
  |(intro _;unfold bV;omega)
  |(intro _;exact (by decide))
end Go.Vm
namespace Go.Vm
open Go Go.Proofs
def ba:List Int :=
 (iK (⟨#[115,115,104,45,117,115,101,114,97,117,116,104]⟩:ByteArray))
def dJ:Bool :=
 (bL false false (aC (ba) ((1+4)+(⟨#[115,115,104,45,117,115,101,114,97,117,116,104]⟩:ByteArray).size) 0 ((1+4)+(⟨#[115,115,104,45,117,115,101,114,97,117,116,104]⟩:ByteArray).size)))
def pB:ByteArray :=
 (bK ((aC [115] 1 0 1).length) (aC [115] 1 0 1) false (⟨#[]⟩:ByteArray) false (aC (ba) ((1+4)+(⟨#[115,115,104,45,117,115,101,114,97,117,116,104]⟩:ByteArray).size) 0 ((1+4)+(⟨#[115,115,104,45,117,115,101,114,97,117,116,104]⟩:ByteArray).size)))
def dI:Bool :=
 (bJ ((aC [115] 1 0 1).length) (aC [115] 1 0 1) false false (aC (ba) ((1+4)+(⟨#[115,115,104,45,117,115,101,114,97,117,116,104]⟩:ByteArray).size) 0 ((1+4)+(⟨#[115,115,104,45,117,115,101,114,97,117,116,104]⟩:ByteArray).size)))
def mB:List Int :=
 (bR ((aC [115] 1 0 1).length) (aC [115] 1 0 1) 3 false false (aC (ba) ((1+4)+(⟨#[115,115,104,45,117,115,101,114,97,117,116,104]⟩:ByteArray).size) 0 ((1+4)+(⟨#[115,115,104,45,117,115,101,114,97,117,116,104]⟩:ByteArray).size)))
def dE:List Int :=
 (af (⟨#[97,110,110]⟩:ByteArray) (⟨#[115,101,99,114,101,116]⟩:ByteArray))
def sA:Bool :=
 (bL (dJ) (dI) (aC (dE) (aE (⟨#[97,110,110]⟩:ByteArray) (⟨#[115,101,99,114,101,116]⟩:ByteArray)) 0 (aE (⟨#[97,110,110]⟩:ByteArray) (⟨#[115,101,99,114,101,116]⟩:ByteArray))))
def ly:ByteArray :=
 (bK ((aC [115] 1 0 1).length) (aC [115] 1 0 1) (dJ) (pB) (dI) (aC (dE) (aE (⟨#[97,110,110]⟩:ByteArray) (⟨#[115,101,99,114,101,116]⟩:ByteArray)) 0 (aE (⟨#[97,110,110]⟩:ByteArray) (⟨#[115,101,99,114,101,116]⟩:ByteArray))))
def lW:Bool :=
 (bJ ((aC [115] 1 0 1).length) (aC [115] 1 0 1) (dJ) (dI) (aC (dE) (aE (⟨#[97,110,110]⟩:ByteArray) (⟨#[115,101,99,114,101,116]⟩:ByteArray)) 0 (aE (⟨#[97,110,110]⟩:ByteArray) (⟨#[115,101,99,114,101,116]⟩:ByteArray))))
def mG:List Int :=
 (bR ((aC [115] 1 0 1).length) (aC [115] 1 0 1) (aN ((aC [115] 1 0 1).length) (aC [115] 1 0 1) 3 false false (aC (ba) ((1+4)+(⟨#[115,115,104,45,117,115,101,114,97,117,116,104]⟩:ByteArray).size) 0 ((1+4)+(⟨#[115,115,104,45,117,115,101,114,97,117,116,104]⟩:ByteArray).size))) (dJ) (dI) (aC (dE) (aE (⟨#[97,110,110]⟩:ByteArray) (⟨#[115,101,99,114,101,116]⟩:ByteArray)) 0 (aE (⟨#[97,110,110]⟩:ByteArray) (⟨#[115,101,99,114,101,116]⟩:ByteArray))))
def mt:List Int :=
 (kA (⟨#[115,115,104,45,117,115,101,114,97,117,116,104]⟩:ByteArray))
def it:Bool :=
 (sel (((aJ .i64 (az ((aC [115] 1 0 1).length) (aC [115] 1 0 1) 3 false false (aC (ba) ((1+4)+(⟨#[115,115,104,45,117,115,101,114,97,117,116,104]⟩:ByteArray).size) 0 ((1+4)+(⟨#[115,115,104,45,117,115,101,114,97,117,116,104]⟩:ByteArray).size))) (az ((aC [115] 1 0 1).length) (aC [115] 1 0 1) (aN ((aC [115] 1 0 1).length) (aC [115] 1 0 1) 3 false false (aC (ba) ((1+4)+(⟨#[115,115,104,45,117,115,101,114,97,117,116,104]⟩:ByteArray).size) 0 ((1+4)+(⟨#[115,115,104,45,117,115,101,114,97,117,116,104]⟩:ByteArray).size))) (dJ) (dI) (aC (dE) (aE (⟨#[97,110,110]⟩:ByteArray) (⟨#[115,101,99,114,101,116]⟩:ByteArray)) 0 (aE (⟨#[97,110,110]⟩:ByteArray) (⟨#[115,101,99,114,101,116]⟩:ByteArray))))):Int)==0) (sel (aY (aU (((mB).drop 0).take (aS ((aC [115] 1 0 1).length) (aC [115] 1 0 1) 3 false false (aC (ba) ((1+4)+(⟨#[115,115,104,45,117,115,101,114,97,117,116,104]⟩:ByteArray).size) 0 ((1+4)+(⟨#[115,115,104,45,117,115,101,114,97,117,116,104]⟩:ByteArray).size))))) (aU (((mt).drop 0).take ((1+4)+(⟨#[115,115,104,45,117,115,101,114,97,117,116,104]⟩:ByteArray).size)))) (sel (aY (aU (((mG).drop 0).take (aS ((aC [115] 1 0 1).length) (aC [115] 1 0 1) (aN ((aC [115] 1 0 1).length) (aC [115] 1 0 1) 3 false false (aC (ba) ((1+4)+(⟨#[115,115,104,45,117,115,101,114,97,117,116,104]⟩:ByteArray).size) 0 ((1+4)+(⟨#[115,115,104,45,117,115,101,114,97,117,116,104]⟩:ByteArray).size))) (dJ) (dI) (aC (dE) (aE (⟨#[97,110,110]⟩:ByteArray) (⟨#[115,101,99,114,101,116]⟩:ByteArray)) 0 (aE (⟨#[97,110,110]⟩:ByteArray) (⟨#[115,101,99,114,101,116]⟩:ByteArray)))))) (⟨#[52]⟩:ByteArray)) (aY (gA (ly) (lW)) (⟨#[97,110,110]⟩:ByteArray)) false) false) false)
def sP:List AV→List Blk→Option (Prop × Ret)
 |[],[]=>some (True,⟨.sc (.b (it)),[]⟩)
 |_,_=>none
theorem ts:Known Tryz.prog gD 8 ⟨0,0,sP⟩:=by
 refine Xw Tryz.f8 43 (Zv kL 256 2 <|Zc sK 80 [.io,.ro .u8,.val] [48] [32] <|Zv oU 32 0 <|Zc gl 144 [.io,.ro .u8] [128] [80,32,81] <|Zc gl 272 [.io,.ro .u8] [256] [80,32,81] <|Zc qq 656 [.io] [] [80,32,81] <|Zv kq 128 1 <|Zv me 480 1 <|Zn) mixed <|fun E args ks C r h hC hlen=>?_
 simp only at h
 unfold sP at h
 split at h
 rotate_left
 cases h
 cases h
 simp only [ap] at hlen
 refine ⟨rfl,?_⟩
 refine Xs [] [] 32 (v1 pT) <|Xt [Ep 1 80] [] [Mi 81 ((aC [115] 1 0 1).length) (aC [115] 1 0 1),Mc 80 [.sl 32 0 4 4 none,.sl 81 0 ((aC [115] 1 0 1).length) 1 none,.i .i64 3,.b false,.s (⟨#[]⟩:ByteArray),.b false],Mc 32 UA] [] 112 (pu pz (pu (Yf 1) (pu (pa (Yr 1) (pa (Yr 0) (Yl 0 1))) (pu (pa (pa (Yw 1) pT) (pa (Yr UA) (Ye ((aC [115] 1 0 1).length) 100000))) (v1 pT))))) <|Tri.len 81 rfl <|fun hl1=>Xt [Ei 3 (az ((aC [115] 1 0 1).length) (aC [115] 1 0 1) 3 false false (aC (ba) ((1+4)+(⟨#[115,115,104,45,117,115,101,114,97,117,116,104]⟩:ByteArray).size) 0 ((1+4)+(⟨#[115,115,104,45,117,115,101,114,97,117,116,104]⟩:ByteArray).size))),El 2 144 (aS ((aC [115] 1 0 1).length) (aC [115] 1 0 1) 3 false false (aC (ba) ((1+4)+(⟨#[115,115,104,45,117,115,101,114,97,117,116,104]⟩:ByteArray).size) 0 ((1+4)+(⟨#[115,115,104,45,117,115,101,114,97,117,116,104]⟩:ByteArray).size)))] [] [Mi 144 (aS ((aC [115] 1 0 1).length) (aC [115] 1 0 1) 3 false false (aC (ba) ((1+4)+(⟨#[115,115,104,45,117,115,101,114,97,117,116,104]⟩:ByteArray).size) 0 ((1+4)+(⟨#[115,115,104,45,117,115,101,114,97,117,116,104]⟩:ByteArray).size))) (mB),Mi 81 ((aC [115] 1 0 1).length) (aC [115] 1 0 1),Mc 32 UA,Mc 80 [.sl 32 0 4 4 none,.sl 81 0 ((aC [115] 1 0 1).length) 1 none,.i .i64 (aN ((aC [115] 1 0 1).length) (aC [115] 1 0 1) 3 false false (aC (ba) ((1+4)+(⟨#[115,115,104,45,117,115,101,114,97,117,116,104]⟩:ByteArray).size) 0 ((1+4)+(⟨#[115,115,104,45,117,115,101,114,97,117,116,104]⟩:ByteArray).size))),.b (dJ),.s (pB),.b (dI)]] [81,80,32] 240 (v1 (pu (pa pT (Ye ((⟨#[115,115,104,45,117,115,101,114,97,117,116,104]⟩:ByteArray).size) 100000)) (pu (pa (pa (Yw ((1+4)+(⟨#[115,115,104,45,117,115,101,114,97,117,116,104]⟩:ByteArray).size)) pT) (pa (Yr ((aC [115] 1 0 1).length)) (pa (Yr UA) (lo ((aC (ba) ((1+4)+(⟨#[115,115,104,45,117,115,101,114,97,117,116,104]⟩:ByteArray).size) 0 ((1+4)+(⟨#[115,115,104,45,117,115,101,114,97,117,116,104]⟩:ByteArray).size)).length≤6000∧((aC [115] 1 0 1).length)≤1000))))) (v5 pT)))) <|Tri.len 144 rfl <|fun hl2=>Tri.len 81 rfl <|fun hl3=>Xt [Ei 5 (az ((aC [115] 1 0 1).length) (aC [115] 1 0 1) (aN ((aC [115] 1 0 1).length) (aC [115] 1 0 1) 3 false false (aC (ba) ((1+4)+(⟨#[115,115,104,45,117,115,101,114,97,117,116,104]⟩:ByteArray).size) 0 ((1+4)+(⟨#[115,115,104,45,117,115,101,114,97,117,116,104]⟩:ByteArray).size))) (dJ) (dI) (aC (dE) (aE (⟨#[97,110,110]⟩:ByteArray) (⟨#[115,101,99,114,101,116]⟩:ByteArray)) 0 (aE (⟨#[97,110,110]⟩:ByteArray) (⟨#[115,101,99,114,101,116]⟩:ByteArray)))),El 4 272 (aS ((aC [115] 1 0 1).length) (aC [115] 1 0 1) (aN ((aC [115] 1 0 1).length) (aC [115] 1 0 1) 3 false false (aC (ba) ((1+4)+(⟨#[115,115,104,45,117,115,101,114,97,117,116,104]⟩:ByteArray).size) 0 ((1+4)+(⟨#[115,115,104,45,117,115,101,114,97,117,116,104]⟩:ByteArray).size))) (dJ) (dI) (aC (dE) (aE (⟨#[97,110,110]⟩:ByteArray) (⟨#[115,101,99,114,101,116]⟩:ByteArray)) 0 (aE (⟨#[97,110,110]⟩:ByteArray) (⟨#[115,101,99,114,101,116]⟩:ByteArray))))] [] [Mi 272 (aS ((aC [115] 1 0 1).length) (aC [115] 1 0 1) (aN ((aC [115] 1 0 1).length) (aC [115] 1 0 1) 3 false false (aC (ba) ((1+4)+(⟨#[115,115,104,45,117,115,101,114,97,117,116,104]⟩:ByteArray).size) 0 ((1+4)+(⟨#[115,115,104,45,117,115,101,114,97,117,116,104]⟩:ByteArray).size))) (dJ) (dI) (aC (dE) (aE (⟨#[97,110,110]⟩:ByteArray) (⟨#[115,101,99,114,101,116]⟩:ByteArray)) 0 (aE (⟨#[97,110,110]⟩:ByteArray) (⟨#[115,101,99,114,101,116]⟩:ByteArray)))) (mG),Mi 81 ((aC [115] 1 0 1).length) (aC [115] 1 0 1),Mc 32 UA,Mc 80 [.sl 32 0 4 4 none,.sl 81 0 ((aC [115] 1 0 1).length) 1 none,.i .i64 (aN ((aC [115] 1 0 1).length) (aC [115] 1 0 1) (aN ((aC [115] 1 0 1).length) (aC [115] 1 0 1) 3 false false (aC (ba) ((1+4)+(⟨#[115,115,104,45,117,115,101,114,97,117,116,104]⟩:ByteArray).size) 0 ((1+4)+(⟨#[115,115,104,45,117,115,101,114,97,117,116,104]⟩:ByteArray).size))) (dJ) (dI) (aC (dE) (aE (⟨#[97,110,110]⟩:ByteArray) (⟨#[115,101,99,114,101,116]⟩:ByteArray)) 0 (aE (⟨#[97,110,110]⟩:ByteArray) (⟨#[115,101,99,114,101,116]⟩:ByteArray)))),.b (sA),.s (ly),.b (lW)]] [81,32,80] 368 (v1 (pu (pa pT (lo ((⟨#[97,110,110]⟩:ByteArray).size≤100000∧(⟨#[115,101,99,114,101,116]⟩:ByteArray).size≤100000))) (pu (pa (pa (Yw (aE (⟨#[97,110,110]⟩:ByteArray) (⟨#[115,101,99,114,101,116]⟩:ByteArray))) pT) (pa (Yr ((aC [115] 1 0 1).length)) (pa (Yr UA) (lo ((aC (dE) (aE (⟨#[97,110,110]⟩:ByteArray) (⟨#[115,101,99,114,101,116]⟩:ByteArray)) 0 (aE (⟨#[97,110,110]⟩:ByteArray) (⟨#[115,101,99,114,101,116]⟩:ByteArray))).length≤6000∧((aC [115] 1 0 1).length)≤1000))))) (v5 pT)))) <|Tri.split (((aJ .i64 (az ((aC [115] 1 0 1).length) (aC [115] 1 0 1) 3 false false (aC (ba) ((1+4)+(⟨#[115,115,104,45,117,115,101,114,97,117,116,104]⟩:ByteArray).size) 0 ((1+4)+(⟨#[115,115,104,45,117,115,101,114,97,117,116,104]⟩:ByteArray).size))) (az ((aC [115] 1 0 1).length) (aC [115] 1 0 1) (aN ((aC [115] 1 0 1).length) (aC [115] 1 0 1) 3 false false (aC (ba) ((1+4)+(⟨#[115,115,104,45,117,115,101,114,97,117,116,104]⟩:ByteArray).size) 0 ((1+4)+(⟨#[115,115,104,45,117,115,101,114,97,117,116,104]⟩:ByteArray).size))) (dJ) (dI) (aC (dE) (aE (⟨#[97,110,110]⟩:ByteArray) (⟨#[115,101,99,114,101,116]⟩:ByteArray)) 0 (aE (⟨#[97,110,110]⟩:ByteArray) (⟨#[115,101,99,114,101,116]⟩:ByteArray))))):Int)==0) (fun h4=>?_) (fun h4=>?_)
 have h4':=bv h4
 refine Tri.split (aY (aU (((mB).drop 0).take (aS ((aC [115] 1 0 1).length) (aC [115] 1 0 1) 3 false false (aC (ba) ((1+4)+(⟨#[115,115,104,45,117,115,101,114,97,117,116,104]⟩:ByteArray).size) 0 ((1+4)+(⟨#[115,115,104,45,117,115,101,114,97,117,116,104]⟩:ByteArray).size))))) (aU (((mt).drop 0).take ((1+4)+(⟨#[115,115,104,45,117,115,101,114,97,117,116,104]⟩:ByteArray).size)))) (fun h5=>?_) (fun h5=>?_)
 refine Tri.split (aY (aU (((mG).drop 0).take (aS ((aC [115] 1 0 1).length) (aC [115] 1 0 1) (aN ((aC [115] 1 0 1).length) (aC [115] 1 0 1) 3 false false (aC (ba) ((1+4)+(⟨#[115,115,104,45,117,115,101,114,97,117,116,104]⟩:ByteArray).size) 0 ((1+4)+(⟨#[115,115,104,45,117,115,101,114,97,117,116,104]⟩:ByteArray).size))) (dJ) (dI) (aC (dE) (aE (⟨#[97,110,110]⟩:ByteArray) (⟨#[115,101,99,114,101,116]⟩:ByteArray)) 0 (aE (⟨#[97,110,110]⟩:ByteArray) (⟨#[115,101,99,114,101,116]⟩:ByteArray)))))) (⟨#[52]⟩:ByteArray)) (fun h6=>?_) (fun h6=>?_)
 exact Tri.len 272 rfl <|fun hl7=>Tri.len 81 rfl <|fun hl8=>Tri.len 144 rfl <|fun hl9=>Xu [Eb 26 true,Eb 33 true,Eb 38 true] (some [0,0,3,7,15,31,63,31,159,511,1023,2047,4095,8191,16383,32767,65535,131071,262143,524287,1048575,2097151]) [Eb 0 (aY (gA (ly) (lW)) (⟨#[97,110,110]⟩:ByteArray))] [5,4,3,2,1] [] [272,81,32,80,144] 720 (v4 (pg h4 (v1 (pu (Yw (aS ((aC [115] 1 0 1).length) (aC [115] 1 0 1) 3 false false (aC (ba) ((1+4)+(⟨#[115,115,104,45,117,115,101,114,97,117,116,104]⟩:ByteArray).size) 0 ((1+4)+(⟨#[115,115,104,45,117,115,101,114,97,117,116,104]⟩:ByteArray).size)))) (pu (pa pT (Ye ((⟨#[115,115,104,45,117,115,101,114,97,117,116,104]⟩:ByteArray).size) 100000)) (pu (Yw ((1+4)+(⟨#[115,115,104,45,117,115,101,114,97,117,116,104]⟩:ByteArray).size)) (v2 (pg h5 (v1 (pu (Yw (aS ((aC [115] 1 0 1).length) (aC [115] 1 0 1) (aN ((aC [115] 1 0 1).length) (aC [115] 1 0 1) 3 false false (aC (ba) ((1+4)+(⟨#[115,115,104,45,117,115,101,114,97,117,116,104]⟩:ByteArray).size) 0 ((1+4)+(⟨#[115,115,104,45,117,115,101,114,97,117,116,104]⟩:ByteArray).size))) (dJ) (dI) (aC (dE) (aE (⟨#[97,110,110]⟩:ByteArray) (⟨#[115,101,99,114,101,116]⟩:ByteArray)) 0 (aE (⟨#[97,110,110]⟩:ByteArray) (⟨#[115,101,99,114,101,116]⟩:ByteArray))))) (v2 (pg h6 (v1 (pu (pa pT (pa (Yr ((aC [115] 1 0 1).length)) (pa (Yr UA) pT))) (v3 pT))))))))))))))) <|Xy [] pz (by simp only [it,h4,h5,h6,aD,aA] <;> rfl)
 exact Tri.len 272 rfl <|fun hl10=>Tri.len 81 rfl <|fun hl11=>Tri.len 144 rfl <|fun hl12=>Xu [Eb 26 true,Eb 33 true,Eb 38 false] (some [0,0,3,7,15,31,63,31,159,511,1023,2047,4095,8191,16383,32767,65535,131071,262143,524287,1048575,2097151]) [Eb 0 false] [5,4,3,2,1] [] [272,81,32,80,144] 720 (v4 (pg h4 (v1 (pu (Yw (aS ((aC [115] 1 0 1).length) (aC [115] 1 0 1) 3 false false (aC (ba) ((1+4)+(⟨#[115,115,104,45,117,115,101,114,97,117,116,104]⟩:ByteArray).size) 0 ((1+4)+(⟨#[115,115,104,45,117,115,101,114,97,117,116,104]⟩:ByteArray).size)))) (pu (pa pT (Ye ((⟨#[115,115,104,45,117,115,101,114,97,117,116,104]⟩:ByteArray).size) 100000)) (pu (Yw ((1+4)+(⟨#[115,115,104,45,117,115,101,114,97,117,116,104]⟩:ByteArray).size)) (v2 (pg h5 (v1 (pu (Yw (aS ((aC [115] 1 0 1).length) (aC [115] 1 0 1) (aN ((aC [115] 1 0 1).length) (aC [115] 1 0 1) 3 false false (aC (ba) ((1+4)+(⟨#[115,115,104,45,117,115,101,114,97,117,116,104]⟩:ByteArray).size) 0 ((1+4)+(⟨#[115,115,104,45,117,115,101,114,97,117,116,104]⟩:ByteArray).size))) (dJ) (dI) (aC (dE) (aE (⟨#[97,110,110]⟩:ByteArray) (⟨#[115,101,99,114,101,116]⟩:ByteArray)) 0 (aE (⟨#[97,110,110]⟩:ByteArray) (⟨#[115,101,99,114,101,116]⟩:ByteArray))))) (v2 (pg h6 (v5 pT))))))))))))) <|Xy [] pz (by simp only [it,h4,h5,h6,aD,aA] <;> rfl)
 exact Tri.len 272 rfl <|fun hl13=>Tri.len 81 rfl <|fun hl14=>Tri.len 144 rfl <|fun hl15=>Xu [Eb 26 true,Eb 33 false] (some [0,0,3,7,15,31,63,31,159,511,1023,2047,4095,8191,16383,32767,65535,131071,262143,524287,1048575,2097151]) [Eb 0 false] [5,4,3,2,1] [] [272,81,32,80,144] 720 (v4 (pg h4 (v1 (pu (Yw (aS ((aC [115] 1 0 1).length) (aC [115] 1 0 1) 3 false false (aC (ba) ((1+4)+(⟨#[115,115,104,45,117,115,101,114,97,117,116,104]⟩:ByteArray).size) 0 ((1+4)+(⟨#[115,115,104,45,117,115,101,114,97,117,116,104]⟩:ByteArray).size)))) (pu (pa pT (Ye ((⟨#[115,115,104,45,117,115,101,114,97,117,116,104]⟩:ByteArray).size) 100000)) (pu (Yw ((1+4)+(⟨#[115,115,104,45,117,115,101,114,97,117,116,104]⟩:ByteArray).size)) (v2 (pg h5 (v1 (v9 pT)))))))))) <|Xy [] pz (by simp only [it,h4,h5,aD,aA] <;> rfl)
 have h4':=bn h4
 exact Xu [Eb 26 false] (some [0,0,3,7,15,31,63,31,159,511,1023,2047,4095,8191,16383,32767,65535,131071,262143,524287,1048575,2097151]) [Eb 0 false] [5,4,3,2,1] [] [272,81,32,80,144] 720 (v4 (pg h4 (v8 (v9 pT)))) <|Xy [] pz (by simp only [it,h4,aD,aA] <;> rfl)
end Go.Vm
namespace Go.Vm
open Go Go.Proofs
theorem sR (p:Int):0≤cF (aJ .i64 (cF p 20) 20) 20∧cF (aJ .i64 (cF p 20) 20) 20<20:=by
 have h1:=Int.tmod_lt_of_pos p (show (0:Int)<20 by decide)
 have h2:=Int.lt_tmod_of_pos p (show (0:Int)<20 by decide)
 have e:aJ .i64 (cF p 20) 20=p.tmod 20+20:=by
  unfold aJ cF
  exact cH (by omega) (by omega)
 rw [e]
 unfold cF
 exact ⟨Int.tmod_nonneg _ (by omega),Int.tmod_lt_of_pos _ (by decide)⟩
def m20 (p:Int):Nat:=(cF (aJ .i64 (cF p 20) 20) 20).toNat
theorem qN (p:Int):(cF (aJ .i64 (cF p 20) 20) 20)=((m20 p:Nat):Int):=(Int.toNat_of_nonneg (sR p).1).symm
theorem mD (p:Int):m20 p<20:=by have h:=sR p;unfold m20;omega
def bZ:Bool :=
 (bL false false (aC (bm (⟨#[97,110,110]⟩:ByteArray)) (aM (⟨#[97,110,110]⟩:ByteArray)) 0 (aM (⟨#[97,110,110]⟩:ByteArray))))
def gZ:ByteArray :=
 (bK (([]:List Int).length) ([]:List Int) false (⟨#[]⟩:ByteArray) false (aC (bm (⟨#[97,110,110]⟩:ByteArray)) (aM (⟨#[97,110,110]⟩:ByteArray)) 0 (aM (⟨#[97,110,110]⟩:ByteArray))))
def bX:Bool :=
 (bJ (([]:List Int).length) ([]:List Int) false false (aC (bm (⟨#[97,110,110]⟩:ByteArray)) (aM (⟨#[97,110,110]⟩:ByteArray)) 0 (aM (⟨#[97,110,110]⟩:ByteArray))))
def bY:List Int :=
 (iK (⟨#[115,115,104,45,117,115,101,114,97,117,116,104]⟩:ByteArray))
def cM:Bool :=
 (bL (bZ) (bX) (aC (bY) ((1+4)+(⟨#[115,115,104,45,117,115,101,114,97,117,116,104]⟩:ByteArray).size) 0 ((1+4)+(⟨#[115,115,104,45,117,115,101,114,97,117,116,104]⟩:ByteArray).size)))
def cO:ByteArray :=
 (bK (([]:List Int).length) ([]:List Int) (bZ) (gZ) (bX) (aC (bY) ((1+4)+(⟨#[115,115,104,45,117,115,101,114,97,117,116,104]⟩:ByteArray).size) 0 ((1+4)+(⟨#[115,115,104,45,117,115,101,114,97,117,116,104]⟩:ByteArray).size)))
def cL:Bool :=
 (bJ (([]:List Int).length) ([]:List Int) (bZ) (bX) (aC (bY) ((1+4)+(⟨#[115,115,104,45,117,115,101,114,97,117,116,104]⟩:ByteArray).size) 0 ((1+4)+(⟨#[115,115,104,45,117,115,101,114,97,117,116,104]⟩:ByteArray).size)))
def eg (z0:Int × Bool × ByteArray × Bool):Bool :=
 (bL z0.2.1 z0.2.2.2 (aC (bm (⟨#[97,110,110]⟩:ByteArray)) (aM (⟨#[97,110,110]⟩:ByteArray)) 0 (aM (⟨#[97,110,110]⟩:ByteArray))))
def et (z0:Int × Bool × ByteArray × Bool):ByteArray :=
 (bK (([]:List Int).length) ([]:List Int) z0.2.1 z0.2.2.1 z0.2.2.2 (aC (bm (⟨#[97,110,110]⟩:ByteArray)) (aM (⟨#[97,110,110]⟩:ByteArray)) 0 (aM (⟨#[97,110,110]⟩:ByteArray))))
def ew (z0:Int × Bool × ByteArray × Bool):Bool :=
 (bJ (([]:List Int).length) ([]:List Int) z0.2.1 z0.2.2.2 (aC (bm (⟨#[97,110,110]⟩:ByteArray)) (aM (⟨#[97,110,110]⟩:ByteArray)) 0 (aM (⟨#[97,110,110]⟩:ByteArray))))
def dy (z0:Int × Bool × ByteArray × Bool):List Int :=
 (bR (([]:List Int).length) ([]:List Int) z0.1 z0.2.1 z0.2.2.2 (aC (bm (⟨#[97,110,110]⟩:ByteArray)) (aM (⟨#[97,110,110]⟩:ByteArray)) 0 (aM (⟨#[97,110,110]⟩:ByteArray))))
def bM (k0:Nat) (z0:Int × Bool × ByteArray × Bool):Int × Bool × ByteArray × Bool :=
 ((aN (([]:List Int).length) ([]:List Int) z0.1 z0.2.1 z0.2.2.2 (aC (bm (⟨#[97,110,110]⟩:ByteArray)) (aM (⟨#[97,110,110]⟩:ByteArray)) 0 (aM (⟨#[97,110,110]⟩:ByteArray)))),(eg z0),(et z0),(ew z0))
def bN (p0:Int) (k0:Nat):Bool :=
 (sel (((az (([]:List Int).length) ([]:List Int) (itr (bM) k0 ((aN (([]:List Int).length) ([]:List Int) (aN (([]:List Int).length) ([]:List Int) (((m20 p0)+1:Nat):Int) false false (aC (bm (⟨#[97,110,110]⟩:ByteArray)) (aM (⟨#[97,110,110]⟩:ByteArray)) 0 (aM (⟨#[97,110,110]⟩:ByteArray)))) (bZ) (bX) (aC (bY) ((1+4)+(⟨#[115,115,104,45,117,115,101,114,97,117,116,104]⟩:ByteArray).size) 0 ((1+4)+(⟨#[115,115,104,45,117,115,101,114,97,117,116,104]⟩:ByteArray).size))),(cM),(cO),(cL))).1 (itr (bM) k0 ((aN (([]:List Int).length) ([]:List Int) (aN (([]:List Int).length) ([]:List Int) (((m20 p0)+1:Nat):Int) false false (aC (bm (⟨#[97,110,110]⟩:ByteArray)) (aM (⟨#[97,110,110]⟩:ByteArray)) 0 (aM (⟨#[97,110,110]⟩:ByteArray)))) (bZ) (bX) (aC (bY) ((1+4)+(⟨#[115,115,104,45,117,115,101,114,97,117,116,104]⟩:ByteArray).size) 0 ((1+4)+(⟨#[115,115,104,45,117,115,101,114,97,117,116,104]⟩:ByteArray).size))),(cM),(cO),(cL))).2.1 (itr (bM) k0 ((aN (([]:List Int).length) ([]:List Int) (aN (([]:List Int).length) ([]:List Int) (((m20 p0)+1:Nat):Int) false false (aC (bm (⟨#[97,110,110]⟩:ByteArray)) (aM (⟨#[97,110,110]⟩:ByteArray)) 0 (aM (⟨#[97,110,110]⟩:ByteArray)))) (bZ) (bX) (aC (bY) ((1+4)+(⟨#[115,115,104,45,117,115,101,114,97,117,116,104]⟩:ByteArray).size) 0 ((1+4)+(⟨#[115,115,104,45,117,115,101,114,97,117,116,104]⟩:ByteArray).size))),(cM),(cO),(cL))).2.2.2 (aC (bm (⟨#[97,110,110]⟩:ByteArray)) (aM (⟨#[97,110,110]⟩:ByteArray)) 0 (aM (⟨#[97,110,110]⟩:ByteArray)))):Int) != 0) true (sel (((dy (itr (bM) k0 ((aN (([]:List Int).length) ([]:List Int) (aN (([]:List Int).length) ([]:List Int) (((m20 p0)+1:Nat):Int) false false (aC (bm (⟨#[97,110,110]⟩:ByteArray)) (aM (⟨#[97,110,110]⟩:ByteArray)) 0 (aM (⟨#[97,110,110]⟩:ByteArray)))) (bZ) (bX) (aC (bY) ((1+4)+(⟨#[115,115,104,45,117,115,101,114,97,117,116,104]⟩:ByteArray).size) 0 ((1+4)+(⟨#[115,115,104,45,117,115,101,114,97,117,116,104]⟩:ByteArray).size))),(cM),(cO),(cL)))).getD 0 0:Int) != 51) true false))
def aB (p0:Int) (p1:Int):Int × Bool × ByteArray × Bool :=
 (itr (bM) (m20 p1) ((aN (([]:List Int).length) ([]:List Int) (aN (([]:List Int).length) ([]:List Int) (((m20 p0)+1:Nat):Int) false false (aC (bm (⟨#[97,110,110]⟩:ByteArray)) (aM (⟨#[97,110,110]⟩:ByteArray)) 0 (aM (⟨#[97,110,110]⟩:ByteArray)))) (bZ) (bX) (aC (bY) ((1+4)+(⟨#[115,115,104,45,117,115,101,114,97,117,116,104]⟩:ByteArray).size) 0 ((1+4)+(⟨#[115,115,104,45,117,115,101,114,97,117,116,104]⟩:ByteArray).size))),(cM),(cO),(cL)))
def cV (z1:Int × Bool × ByteArray × Bool):Bool :=
 (bL z1.2.1 z1.2.2.2 (aC (bc (⟨#[97,110,110]⟩:ByteArray) (aK 122)) (aL (⟨#[97,110,110]⟩:ByteArray) (aK 122)) 0 (aL (⟨#[97,110,110]⟩:ByteArray) (aK 122))))
def cW (z1:Int × Bool × ByteArray × Bool):ByteArray :=
 (bK (([]:List Int).length) ([]:List Int) z1.2.1 z1.2.2.1 z1.2.2.2 (aC (bc (⟨#[97,110,110]⟩:ByteArray) (aK 122)) (aL (⟨#[97,110,110]⟩:ByteArray) (aK 122)) 0 (aL (⟨#[97,110,110]⟩:ByteArray) (aK 122))))
def cf (z1:Int × Bool × ByteArray × Bool):Bool :=
 (bJ (([]:List Int).length) ([]:List Int) z1.2.1 z1.2.2.2 (aC (bc (⟨#[97,110,110]⟩:ByteArray) (aK 122)) (aL (⟨#[97,110,110]⟩:ByteArray) (aK 122)) 0 (aL (⟨#[97,110,110]⟩:ByteArray) (aK 122))))
def du (z1:Int × Bool × ByteArray × Bool):List Int :=
 (bR (([]:List Int).length) ([]:List Int) z1.1 z1.2.1 z1.2.2.2 (aC (bc (⟨#[97,110,110]⟩:ByteArray) (aK 122)) (aL (⟨#[97,110,110]⟩:ByteArray) (aK 122)) 0 (aL (⟨#[97,110,110]⟩:ByteArray) (aK 122))))
def cX (z1:Int × Bool × ByteArray × Bool):Bool :=
 (bL z1.2.1 z1.2.2.2 (aC (af (⟨#[97,110,110]⟩:ByteArray) (⟨#[120]⟩:ByteArray)) (aE (⟨#[97,110,110]⟩:ByteArray) (⟨#[120]⟩:ByteArray)) 0 (aE (⟨#[97,110,110]⟩:ByteArray) (⟨#[120]⟩:ByteArray))))
def cY (z1:Int × Bool × ByteArray × Bool):ByteArray :=
 (bK (([]:List Int).length) ([]:List Int) z1.2.1 z1.2.2.1 z1.2.2.2 (aC (af (⟨#[97,110,110]⟩:ByteArray) (⟨#[120]⟩:ByteArray)) (aE (⟨#[97,110,110]⟩:ByteArray) (⟨#[120]⟩:ByteArray)) 0 (aE (⟨#[97,110,110]⟩:ByteArray) (⟨#[120]⟩:ByteArray))))
def ca (z1:Int × Bool × ByteArray × Bool):Bool :=
 (bJ (([]:List Int).length) ([]:List Int) z1.2.1 z1.2.2.2 (aC (af (⟨#[97,110,110]⟩:ByteArray) (⟨#[120]⟩:ByteArray)) (aE (⟨#[97,110,110]⟩:ByteArray) (⟨#[120]⟩:ByteArray)) 0 (aE (⟨#[97,110,110]⟩:ByteArray) (⟨#[120]⟩:ByteArray))))
def eB (z1:Int × Bool × ByteArray × Bool):List Int :=
 (bR (([]:List Int).length) ([]:List Int) z1.1 z1.2.1 z1.2.2.2 (aC (af (⟨#[97,110,110]⟩:ByteArray) (⟨#[120]⟩:ByteArray)) (aE (⟨#[97,110,110]⟩:ByteArray) (⟨#[120]⟩:ByteArray)) 0 (aE (⟨#[97,110,110]⟩:ByteArray) (⟨#[120]⟩:ByteArray))))
def aG (k1:Nat) (z1:Int × Bool × ByteArray × Bool):Int × Bool × ByteArray × Bool :=
 ((sel ((((k1 % 2:Nat):Int):Int)==1) (aN (([]:List Int).length) ([]:List Int) z1.1 z1.2.1 z1.2.2.2 (aC (bc (⟨#[97,110,110]⟩:ByteArray) (aK 122)) (aL (⟨#[97,110,110]⟩:ByteArray) (aK 122)) 0 (aL (⟨#[97,110,110]⟩:ByteArray) (aK 122)))) (aN (([]:List Int).length) ([]:List Int) z1.1 z1.2.1 z1.2.2.2 (aC (af (⟨#[97,110,110]⟩:ByteArray) (⟨#[120]⟩:ByteArray)) (aE (⟨#[97,110,110]⟩:ByteArray) (⟨#[120]⟩:ByteArray)) 0 (aE (⟨#[97,110,110]⟩:ByteArray) (⟨#[120]⟩:ByteArray))))),(sel ((((k1 % 2:Nat):Int):Int)==1) (cV z1) (cX z1)),(sel ((((k1 % 2:Nat):Int):Int)==1) (cW z1) (cY z1)),(sel ((((k1 % 2:Nat):Int):Int)==1) (cf z1) (ca z1)))
def aI (p0:Int) (p1:Int) (k1:Nat):Bool :=
 (sel ((((k1 % 2:Nat):Int):Int)==1) (sel (decide ((((k1:Nat):Int):Int)<((((m20 p0)+1:Nat):Int)-1-((0:Nat):Int)))) (sel (((az (([]:List Int).length) ([]:List Int) (itr (aG) k1 ((aB p0 p1).1,(aB p0 p1).2.1,(aB p0 p1).2.2.1,(aB p0 p1).2.2.2)).1 (itr (aG) k1 ((aB p0 p1).1,(aB p0 p1).2.1,(aB p0 p1).2.2.1,(aB p0 p1).2.2.2)).2.1 (itr (aG) k1 ((aB p0 p1).1,(aB p0 p1).2.1,(aB p0 p1).2.2.1,(aB p0 p1).2.2.2)).2.2.2 (aC (bc (⟨#[97,110,110]⟩:ByteArray) (aK 122)) (aL (⟨#[97,110,110]⟩:ByteArray) (aK 122)) 0 (aL (⟨#[97,110,110]⟩:ByteArray) (aK 122)))):Int) != 0) true (sel (((((aS (([]:List Int).length) ([]:List Int) (itr (aG) k1 ((aB p0 p1).1,(aB p0 p1).2.1,(aB p0 p1).2.2.1,(aB p0 p1).2.2.2)).1 (itr (aG) k1 ((aB p0 p1).1,(aB p0 p1).2.1,(aB p0 p1).2.2.1,(aB p0 p1).2.2.2)).2.1 (itr (aG) k1 ((aB p0 p1).1,(aB p0 p1).2.1,(aB p0 p1).2.2.1,(aB p0 p1).2.2.2)).2.2.2 (aC (bc (⟨#[97,110,110]⟩:ByteArray) (aK 122)) (aL (⟨#[97,110,110]⟩:ByteArray) (aK 122)) 0 (aL (⟨#[97,110,110]⟩:ByteArray) (aK 122)))):Nat):Int):Int)==0) true (sel (((du (itr (aG) k1 ((aB p0 p1).1,(aB p0 p1).2.1,(aB p0 p1).2.2.1,(aB p0 p1).2.2.2))).getD 0 0:Int) != 51) true (sel ((((k1:Nat):Int):Int)==((((m20 p0)+1:Nat):Int)-1-((0:Nat):Int))) (sel (((az (([]:List Int).length) ([]:List Int) (itr (aG) k1 ((aB p0 p1).1,(aB p0 p1).2.1,(aB p0 p1).2.2.1,(aB p0 p1).2.2.2)).1 (itr (aG) k1 ((aB p0 p1).1,(aB p0 p1).2.1,(aB p0 p1).2.2.1,(aB p0 p1).2.2.2)).2.1 (itr (aG) k1 ((aB p0 p1).1,(aB p0 p1).2.1,(aB p0 p1).2.2.1,(aB p0 p1).2.2.2)).2.2.2 (aC (bc (⟨#[97,110,110]⟩:ByteArray) (aK 122)) (aL (⟨#[97,110,110]⟩:ByteArray) (aK 122)) 0 (aL (⟨#[97,110,110]⟩:ByteArray) (aK 122)))):Int) != 9) true false) false)))) (sel ((((k1:Nat):Int):Int)==((((m20 p0)+1:Nat):Int)-1-((0:Nat):Int))) (sel (((az (([]:List Int).length) ([]:List Int) (itr (aG) k1 ((aB p0 p1).1,(aB p0 p1).2.1,(aB p0 p1).2.2.1,(aB p0 p1).2.2.2)).1 (itr (aG) k1 ((aB p0 p1).1,(aB p0 p1).2.1,(aB p0 p1).2.2.1,(aB p0 p1).2.2.2)).2.1 (itr (aG) k1 ((aB p0 p1).1,(aB p0 p1).2.1,(aB p0 p1).2.2.1,(aB p0 p1).2.2.2)).2.2.2 (aC (bc (⟨#[97,110,110]⟩:ByteArray) (aK 122)) (aL (⟨#[97,110,110]⟩:ByteArray) (aK 122)) 0 (aL (⟨#[97,110,110]⟩:ByteArray) (aK 122)))):Int) != 9) true false) false)) (sel (decide ((((k1:Nat):Int):Int)<((((m20 p0)+1:Nat):Int)-1-((0:Nat):Int)))) (sel (((az (([]:List Int).length) ([]:List Int) (itr (aG) k1 ((aB p0 p1).1,(aB p0 p1).2.1,(aB p0 p1).2.2.1,(aB p0 p1).2.2.2)).1 (itr (aG) k1 ((aB p0 p1).1,(aB p0 p1).2.1,(aB p0 p1).2.2.1,(aB p0 p1).2.2.2)).2.1 (itr (aG) k1 ((aB p0 p1).1,(aB p0 p1).2.1,(aB p0 p1).2.2.1,(aB p0 p1).2.2.2)).2.2.2 (aC (af (⟨#[97,110,110]⟩:ByteArray) (⟨#[120]⟩:ByteArray)) (aE (⟨#[97,110,110]⟩:ByteArray) (⟨#[120]⟩:ByteArray)) 0 (aE (⟨#[97,110,110]⟩:ByteArray) (⟨#[120]⟩:ByteArray)))):Int) != 0) true (sel (((((aS (([]:List Int).length) ([]:List Int) (itr (aG) k1 ((aB p0 p1).1,(aB p0 p1).2.1,(aB p0 p1).2.2.1,(aB p0 p1).2.2.2)).1 (itr (aG) k1 ((aB p0 p1).1,(aB p0 p1).2.1,(aB p0 p1).2.2.1,(aB p0 p1).2.2.2)).2.1 (itr (aG) k1 ((aB p0 p1).1,(aB p0 p1).2.1,(aB p0 p1).2.2.1,(aB p0 p1).2.2.2)).2.2.2 (aC (af (⟨#[97,110,110]⟩:ByteArray) (⟨#[120]⟩:ByteArray)) (aE (⟨#[97,110,110]⟩:ByteArray) (⟨#[120]⟩:ByteArray)) 0 (aE (⟨#[97,110,110]⟩:ByteArray) (⟨#[120]⟩:ByteArray)))):Nat):Int):Int)==0) true (sel (((eB (itr (aG) k1 ((aB p0 p1).1,(aB p0 p1).2.1,(aB p0 p1).2.2.1,(aB p0 p1).2.2.2))).getD 0 0:Int) != 51) true (sel ((((k1:Nat):Int):Int)==((((m20 p0)+1:Nat):Int)-1-((0:Nat):Int))) (sel (((az (([]:List Int).length) ([]:List Int) (itr (aG) k1 ((aB p0 p1).1,(aB p0 p1).2.1,(aB p0 p1).2.2.1,(aB p0 p1).2.2.2)).1 (itr (aG) k1 ((aB p0 p1).1,(aB p0 p1).2.1,(aB p0 p1).2.2.1,(aB p0 p1).2.2.2)).2.1 (itr (aG) k1 ((aB p0 p1).1,(aB p0 p1).2.1,(aB p0 p1).2.2.1,(aB p0 p1).2.2.2)).2.2.2 (aC (af (⟨#[97,110,110]⟩:ByteArray) (⟨#[120]⟩:ByteArray)) (aE (⟨#[97,110,110]⟩:ByteArray) (⟨#[120]⟩:ByteArray)) 0 (aE (⟨#[97,110,110]⟩:ByteArray) (⟨#[120]⟩:ByteArray)))):Int) != 9) true false) false)))) (sel ((((k1:Nat):Int):Int)==((((m20 p0)+1:Nat):Int)-1-((0:Nat):Int))) (sel (((az (([]:List Int).length) ([]:List Int) (itr (aG) k1 ((aB p0 p1).1,(aB p0 p1).2.1,(aB p0 p1).2.2.1,(aB p0 p1).2.2.2)).1 (itr (aG) k1 ((aB p0 p1).1,(aB p0 p1).2.1,(aB p0 p1).2.2.1,(aB p0 p1).2.2.2)).2.1 (itr (aG) k1 ((aB p0 p1).1,(aB p0 p1).2.1,(aB p0 p1).2.2.1,(aB p0 p1).2.2.2)).2.2.2 (aC (af (⟨#[97,110,110]⟩:ByteArray) (⟨#[120]⟩:ByteArray)) (aE (⟨#[97,110,110]⟩:ByteArray) (⟨#[120]⟩:ByteArray)) 0 (aE (⟨#[97,110,110]⟩:ByteArray) (⟨#[120]⟩:ByteArray)))):Int) != 9) true false) false)))
def cw (p0:Int) (p1:Int):Int × Bool × ByteArray × Bool :=
 (itr (aG) ((m20 p0)+1) ((aB p0 p1).1,(aB p0 p1).2.1,(aB p0 p1).2.2.1,(aB p0 p1).2.2.2))
def bG (p0:Int) (p1:Int):Bool :=
 (sel (!(it)) false (sel (((az (([]:List Int).length) ([]:List Int) (((m20 p0)+1:Nat):Int) false false (aC (bm (⟨#[97,110,110]⟩:ByteArray)) (aM (⟨#[97,110,110]⟩:ByteArray)) 0 (aM (⟨#[97,110,110]⟩:ByteArray)))):Int) != 3) false (sel (Nat.blt (dH (bN p0) (m20 p1)) (m20 p1)) false (sel (Nat.blt (dH (aI p0 p1) ((m20 p0)+1)) ((m20 p0)+1)) false (aY (gA ((cw p0 p1).2.2.1) ((cw p0 p1).2.2.2)) (⟨#[]⟩:ByteArray))))))
def iz:List AV→List Blk→Option (Prop × Ret)
 |[.sc (.i .i64 p0),.sc (.i .i64 p1)],[]=>some (True,⟨.sc (.b (bG p0 p1)),[]⟩)
 |_,_=>none
def mP:KL Tryz.prog gD:=Zv ts 32 0 <|Zv kL 640 2 <|Zv tK 736 2 <|Zv qw 320 1 <|Zv qw 576 1 <|Zc sK 272 [.io,.ro .u8,.val] [] [240] <|Zv oU 240 0 <|Zc gl 336 [.io,.ro .u8] [320] [272,240,273] <|Zc gl 496 [.io,.ro .u8] [480] [272,240,273] <|Zc gl 592 [.io,.ro .u8] [576] [272,240,273] <|Zc gl 752 [.io,.ro .u8] [640] [272,240,273] <|Zc gl 800 [.io,.ro .u8] [736] [272,240,273] <|Zc qq 624 [.io] [] [272,240,273] <|Zv kq 480 1 <|Zv nY 720 1 <|Zn
theorem KaAuthTries:Known Tryz.prog gD 6 ⟨0,0,iz⟩:=by
 refine Xw Tryz.f6 106 mP mixed <|fun E args ks C r h hC hlen=>?_
 simp only at h
 unfold iz at h
 split at h
 rotate_left
 cases h
 rename_i p0 p1
 cases h
 simp only [ap] at hlen
 have hm0:=mD p0
 have hm1:=mD p1
 refine ⟨rfl,?_⟩
 refine Xs [] [] 32 (v1 pT) <|Tri.seq <|Xs [Eb 15 (!(it))] [] 64 (pu pz (v1 pT)) <|Xa (fun h1=>?_) (fun h1=>?_)
 exact Xs [Eb 4 false] [15,0,1] 80 (v1 pT) <|Xy [] pz (by simp only [bG,h1,aD,aA] <;> rfl)
 refine Tri.skip <|Xu [Ej 19 (m20 p0),Ej 20 ((m20 p0)+1)] none [Ej 0 ((m20 p0)+1)] [15,0] [] [] 160 (v1 (pu (Yn 20) (v1 (pv (Yn 20) (pl (show (cF (aJ .i64 (cF p0 20) 20) 20)=(((m20 p0):Nat):Int) from qN p0)) (pv pT (Yp (m20 p0) 1) (v1 pT)))))) <|Xu [Ej 24 (m20 p1)] none [Ej 1 (m20 p1)] [1] [] [] 240 (v1 (pu (Yn 20) (v1 (pv (Yn 20) (pl (show (cF (aJ .i64 (cF p1 20) 20) 20)=(((m20 p1):Nat):Int) from qN p1)) (v1 pT))))) <|Xt [Ep 5 272] [] [Mi 273 (([]:List Int).length) ([]:List Int),Mc 272 [.sl 240 0 4 4 none,.sl 273 0 (([]:List Int).length) 1 none,.i .i64 (((m20 p0)+1:Nat):Int),.b false,.s (⟨#[]⟩:ByteArray),.b false],Mc 240 UA] [] 304 (pu pz (v1 (pu (pa pz (pa (Yr UA) (Ye (([]:List Int).length) 100000))) (v1 pT)))) <|Tri.seq <|Tri.len 273 rfl <|fun hl2=>Xt [Ei 7 (az (([]:List Int).length) ([]:List Int) (((m20 p0)+1:Nat):Int) false false (aC (bm (⟨#[97,110,110]⟩:ByteArray)) (aM (⟨#[97,110,110]⟩:ByteArray)) 0 (aM (⟨#[97,110,110]⟩:ByteArray))))] [] [Mi 273 (([]:List Int).length) ([]:List Int),Mc 240 UA,Mc 272 [.sl 240 0 4 4 none,.sl 273 0 (([]:List Int).length) 1 none,.i .i64 (aN (([]:List Int).length) ([]:List Int) (((m20 p0)+1:Nat):Int) false false (aC (bm (⟨#[97,110,110]⟩:ByteArray)) (aM (⟨#[97,110,110]⟩:ByteArray)) 0 (aM (⟨#[97,110,110]⟩:ByteArray)))),.b (bZ),.s (gZ),.b (bX)]] [273,272,240] 432 (v1 (pu (pa pT (Ye ((⟨#[97,110,110]⟩:ByteArray).size) 100000)) (pu (pa (pa (Yw (aM (⟨#[97,110,110]⟩:ByteArray))) pT) (pa (Yr (([]:List Int).length)) (pa (Yr UA) (lo ((aC (bm (⟨#[97,110,110]⟩:ByteArray)) (aM (⟨#[97,110,110]⟩:ByteArray)) 0 (aM (⟨#[97,110,110]⟩:ByteArray))).length≤6000∧(([]:List Int).length)≤1000))))) (v5 pT)))) <|Tri.len 273 rfl <|fun hl3=>Xs [Eb 35 (((az (([]:List Int).length) ([]:List Int) (((m20 p0)+1:Nat):Int) false false (aC (bm (⟨#[97,110,110]⟩:ByteArray)) (aM (⟨#[97,110,110]⟩:ByteArray)) 0 (aM (⟨#[97,110,110]⟩:ByteArray)))):Int) != 3)] [7] 464 (v2 pT) <|Xa (fun h4=>?_) (fun h4=>?_)
 have h4':=bT h4
 exact Xt [Eb 4 false] [35,5,1,0] [] [273,240,272] 480 (v1 pT) <|Xy [] pz (by simp only [bG,h1,h4,aD,aA] <;> rfl)
 have h4':=bB h4
 refine Tri.skip <|Tri.len 273 rfl <|fun hl5=>Xt [] [35] [Mi 273 (([]:List Int).length) ([]:List Int),Mc 240 UA,Mc 272 [.sl 240 0 4 4 none,.sl 273 0 (([]:List Int).length) 1 none,.i .i64 (aN (([]:List Int).length) ([]:List Int) (aN (([]:List Int).length) ([]:List Int) (((m20 p0)+1:Nat):Int) false false (aC (bm (⟨#[97,110,110]⟩:ByteArray)) (aM (⟨#[97,110,110]⟩:ByteArray)) 0 (aM (⟨#[97,110,110]⟩:ByteArray)))) (bZ) (bX) (aC (bY) ((1+4)+(⟨#[115,115,104,45,117,115,101,114,97,117,116,104]⟩:ByteArray).size) 0 ((1+4)+(⟨#[115,115,104,45,117,115,101,114,97,117,116,104]⟩:ByteArray).size))),.b (cM),.s (cO),.b (cL)]] [273,240,272] 512 (v1 (pu (pa pT (Ye ((⟨#[115,115,104,45,117,115,101,114,97,117,116,104]⟩:ByteArray).size) 100000)) (pu (pa (pa (Yw ((1+4)+(⟨#[115,115,104,45,117,115,101,114,97,117,116,104]⟩:ByteArray).size)) pT) (pa (Yr (([]:List Int).length)) (pa (Yr UA) (lo ((aC (bY) ((1+4)+(⟨#[115,115,104,45,117,115,101,114,97,117,116,104]⟩:ByteArray).size) 0 ((1+4)+(⟨#[115,115,104,45,117,115,101,114,97,117,116,104]⟩:ByteArray).size)).length≤6000∧(([]:List Int).length)≤1000))))) pT))) <|Tri.seq <|Xs [Ei 40 0,Ej 39 (m20 p1)] [1] 544 (v2 pT) <|Tri.block <|Xc (m20 p1) (bM) ((aN (([]:List Int).length) ([]:List Int) (aN (([]:List Int).length) ([]:List Int) (((m20 p0)+1:Nat):Int) false false (aC (bm (⟨#[97,110,110]⟩:ByteArray)) (aM (⟨#[97,110,110]⟩:ByteArray)) 0 (aM (⟨#[97,110,110]⟩:ByteArray)))) (bZ) (bX) (aC (bY) ((1+4)+(⟨#[115,115,104,45,117,115,101,114,97,117,116,104]⟩:ByteArray).size) 0 ((1+4)+(⟨#[115,115,104,45,117,115,101,114,97,117,116,104]⟩:ByteArray).size))),(cM),(cO),(cL)) (fun k0 z0=>(∀ j,j<k0→(bN p0) j=false)) (fun k0 z0=>[Ej 40 k0]) (fun k0 z0=>[Mc 272 [.sl 240 0 4 4 none,.sl 273 0 (([]:List Int).length) 1 none,.i .i64 z0.1,.b z0.2.1,.s z0.2.2.1,.b z0.2.2.2]]) (fun j hj=>absurd hj (Nat.not_lt_zero j)) <|fun k0 z0 hk0 hz0 hJ0=>Xs [Eb 41 (decide ((((k0:Nat):Int):Int)<(((m20 p1):Nat):Int)))] [] 560 (v1 pT) <|Tri.seq <|Xb (fun h6 h6'=>?_) (fun h6 h6'=>?_)
 refine Tri.skip <|Tri.seq <|Tri.block <|Tri.len 273 rfl <|fun hl7=>Xt [Ei 9 (az (([]:List Int).length) ([]:List Int) z0.1 z0.2.1 z0.2.2.2 (aC (bm (⟨#[97,110,110]⟩:ByteArray)) (aM (⟨#[97,110,110]⟩:ByteArray)) 0 (aM (⟨#[97,110,110]⟩:ByteArray)))),El 8 592 (aS (([]:List Int).length) ([]:List Int) z0.1 z0.2.1 z0.2.2.2 (aC (bm (⟨#[97,110,110]⟩:ByteArray)) (aM (⟨#[97,110,110]⟩:ByteArray)) 0 (aM (⟨#[97,110,110]⟩:ByteArray))))] [41] [Mi 592 (aS (([]:List Int).length) ([]:List Int) z0.1 z0.2.1 z0.2.2.2 (aC (bm (⟨#[97,110,110]⟩:ByteArray)) (aM (⟨#[97,110,110]⟩:ByteArray)) 0 (aM (⟨#[97,110,110]⟩:ByteArray)))) (dy z0),Mi 273 (([]:List Int).length) ([]:List Int),Mc 240 UA,Mc 272 [.sl 240 0 4 4 none,.sl 273 0 (([]:List Int).length) 1 none,.i .i64 (aN (([]:List Int).length) ([]:List Int) z0.1 z0.2.1 z0.2.2.2 (aC (bm (⟨#[97,110,110]⟩:ByteArray)) (aM (⟨#[97,110,110]⟩:ByteArray)) 0 (aM (⟨#[97,110,110]⟩:ByteArray)))),.b (eg z0),.s (et z0),.b (ew z0)]] [273,240,272] 688 (v1 (pu (pa pT (Ye ((⟨#[97,110,110]⟩:ByteArray).size) 100000)) (pu (pa (pa (Yw (aM (⟨#[97,110,110]⟩:ByteArray))) pT) (pa (Yr (([]:List Int).length)) (pa (Yr UA) (lo ((aC (bm (⟨#[97,110,110]⟩:ByteArray)) (aM (⟨#[97,110,110]⟩:ByteArray)) 0 (aM (⟨#[97,110,110]⟩:ByteArray))).length≤6000∧(([]:List Int).length)≤1000))))) (v5 pT)))) <|Tri.split (((az (([]:List Int).length) ([]:List Int) z0.1 z0.2.1 z0.2.2.2 (aC (bm (⟨#[97,110,110]⟩:ByteArray)) (aM (⟨#[97,110,110]⟩:ByteArray)) 0 (aM (⟨#[97,110,110]⟩:ByteArray)))):Int) != 0) (fun h8=>?_) (fun h8=>?_)
 have h8':=bT h8
 refine Xu [Eb 50 true] none [Eb 55 true] [9,8] [] [592] 816 (v2 (pg h8 (v5 pT))) <|Tri.cond_true (by kernel_rfl) <|Xt [Eb 4 false] [55,40,39,5,0] [] [273,240,272] 832 (v1 pT) <|?_
 subst hz0
 have hf0:dH (bN p0) (m20 p1)=k0:=cP (by omega) hJ0 (by simp only [bN,h1,h4,h6,h8,aD,aA])
 have hb0:Nat.blt k0 (m20 p1)=true:=dB (by omega)
 have hq0:Nat.blt (dH (bN p0) (m20 p1)) (m20 p1)=true:=by rw [hf0];exact hb0
 exact Xy [] pz (by simp only [bG,h1,h4,hq0,hf0,hb0,aD,aA] <;> rfl)
 have h8':=bB h8
 refine Tri.len 592 rfl <|fun hl9=>Tri.len 273 rfl <|fun hl10=>Xu [Eb 50 false] none [Eb 55 (((dy z0).getD 0 0:Int) != 51)] [9,8] [] [592] 816 (v2 (pg h8 (v1 (pu (pl (show (0:Int)≤0∧0<(((aS (([]:List Int).length) ([]:List Int) z0.1 z0.2.1 z0.2.2.2 (aC (bm (⟨#[97,110,110]⟩:ByteArray)) (aM (⟨#[97,110,110]⟩:ByteArray)) 0 (aM (⟨#[97,110,110]⟩:ByteArray)))):Nat):Int) from ⟨by decide,Int.natCast_pos.2 (mV (by assumption))⟩)) (pu (pl (show 0<(aS (([]:List Int).length) ([]:List Int) z0.1 z0.2.1 z0.2.2.2 (aC (bm (⟨#[97,110,110]⟩:ByteArray)) (aM (⟨#[97,110,110]⟩:ByteArray)) 0 (aM (⟨#[97,110,110]⟩:ByteArray)))) from mV (by assumption))) (v2 pT)))))) <|Xa (fun h11=>?_) (fun h11=>?_)
 have h11':=bT h11
 refine Xt [Eb 4 false] [55,40,39,5,0] [] [273,240,272] 832 (v1 pT) <|?_
 subst hz0
 have hf0:dH (bN p0) (m20 p1)=k0:=cP (by omega) hJ0 (by simp only [bN,h1,h4,h6,h8,h11,aD,aA])
 have hb0:Nat.blt k0 (m20 p1)=true:=dB (by omega)
 have hq0:Nat.blt (dH (bN p0) (m20 p1)) (m20 p1)=true:=by rw [hf0];exact hb0
 exact Xy [] pz (by simp only [bG,h1,h4,hq0,hf0,hb0,aD,aA] <;> rfl)
 have h11':=bB h11
 exact Tri.skip <|Wu [Ej 56 (k0+1)] none [Ej 40 (k0+1)] [55,40] [] [] 848 (pv pT (Yp k0 1) (v1 pT)) <|Xo [] (dG hJ0 (by subst hz0;simp only [bN,h1,h4,h6,h8,h11,aD,aA]))
 refine Tri.exit <|?_
 obtain rfl:k0=(m20 p1):=(by omega);obtain rfl:z0=(aB p0 p1):=hz0
 have hf0:dH (bN p0) (m20 p1)=(m20 p1):=fR hJ0
 have hb0:Nat.blt (m20 p1) (m20 p1)=false:=fM _
 have hq0:Nat.blt (dH (bN p0) (m20 p1)) (m20 p1)=false:=by rw [hf0];exact hb0
 refine Tri.seq <|Xs [Ei 58 0,Ej 57 ((m20 p0)+1)] [41,40,39] 592 (v2 pT) <|Tri.block <|Xc ((m20 p0)+1) (aG) ((aB p0 p1).1,(aB p0 p1).2.1,(aB p0 p1).2.2.1,(aB p0 p1).2.2.2) (fun k1 z1=>(∀ j,j<k1→(aI p0 p1) j=false)) (fun k1 z1=>[Ej 58 k1]) (fun k1 z1=>[Mc 272 [.sl 240 0 4 4 none,.sl 273 0 (([]:List Int).length) 1 none,.i .i64 z1.1,.b z1.2.1,.s z1.2.2.1,.b z1.2.2.2]]) (fun j hj=>absurd hj (Nat.not_lt_zero j)) <|fun k1 z1 hk1 hz1 hJ1=>Xs [Eb 59 (decide ((((k1:Nat):Int):Int)<(((m20 p0)+1:Nat):Int)))] [] 608 (v1 pT) <|Tri.seq <|Xb (fun h12 h12'=>?_) (fun h12 h12'=>?_)
 refine Tri.skip <|Tri.seq <|Tri.block <|Xs [Ej 10 k1] [59] 640 (v2 pT) <|Xt [El 11 640 (aE (⟨#[97,110,110]⟩:ByteArray) (⟨#[120]⟩:ByteArray))] [] [Mi 640 (aE (⟨#[97,110,110]⟩:ByteArray) (⟨#[120]⟩:ByteArray)) (af (⟨#[97,110,110]⟩:ByteArray) (⟨#[120]⟩:ByteArray))] [] 672 (pu (pa pT (lo ((⟨#[97,110,110]⟩:ByteArray).size≤100000∧(⟨#[120]⟩:ByteArray).size≤100000))) (v1 pT)) <|Tri.seq <|Xu [Ej 63 (k1 % 2)] none [Eb 64 ((((k1 % 2:Nat):Int):Int)==1)] [] [] [] 720 (v1 (pv (Yn 2) (pl (cI (a:=k1) (b:=2))) (v1 pT))) <|Xa (fun h13=>?_) (fun h13=>?_)
 have h13':=bv h13
 refine Wt [El 11 736 (aL (⟨#[97,110,110]⟩:ByteArray) (aK 122))] [64,11] [Mi 736 (aL (⟨#[97,110,110]⟩:ByteArray) (aK 122)) (bc (⟨#[97,110,110]⟩:ByteArray) (aK 122))] [640] 768 (pu pz (pu (pa pT (pl (show (⟨#[97,110,110]⟩:ByteArray).size≤100000∧(aK 122).size≤1000 from ⟨by decide,by rw [iZ];decide⟩))) (v1 pT))) <|Tri.len 736 rfl <|fun hl14=>Tri.len 273 rfl <|fun hl15=>Xt [Ei 13 (az (([]:List Int).length) ([]:List Int) z1.1 z1.2.1 z1.2.2.2 (aC (bc (⟨#[97,110,110]⟩:ByteArray) (aK 122)) (aL (⟨#[97,110,110]⟩:ByteArray) (aK 122)) 0 (aL (⟨#[97,110,110]⟩:ByteArray) (aK 122)))),El 12 800 (aS (([]:List Int).length) ([]:List Int) z1.1 z1.2.1 z1.2.2.2 (aC (bc (⟨#[97,110,110]⟩:ByteArray) (aK 122)) (aL (⟨#[97,110,110]⟩:ByteArray) (aK 122)) 0 (aL (⟨#[97,110,110]⟩:ByteArray) (aK 122))))] [11] [Mi 800 (aS (([]:List Int).length) ([]:List Int) z1.1 z1.2.1 z1.2.2.2 (aC (bc (⟨#[97,110,110]⟩:ByteArray) (aK 122)) (aL (⟨#[97,110,110]⟩:ByteArray) (aK 122)) 0 (aL (⟨#[97,110,110]⟩:ByteArray) (aK 122)))) (du z1),Mi 273 (([]:List Int).length) ([]:List Int),Mc 240 UA,Mc 272 [.sl 240 0 4 4 none,.sl 273 0 (([]:List Int).length) 1 none,.i .i64 (aN (([]:List Int).length) ([]:List Int) z1.1 z1.2.1 z1.2.2.2 (aC (bc (⟨#[97,110,110]⟩:ByteArray) (aK 122)) (aL (⟨#[97,110,110]⟩:ByteArray) (aK 122)) 0 (aL (⟨#[97,110,110]⟩:ByteArray) (aK 122)))),.b (cV z1),.s (cW z1),.b (cf z1)]] [736,273,240,272] 896 (v2 (pu (pa (pa (Yw (aL (⟨#[97,110,110]⟩:ByteArray) (aK 122))) pT) (pa (Yr (([]:List Int).length)) (pa (Yr UA) (pl (show (aC (bc (⟨#[97,110,110]⟩:ByteArray) (aK 122)) (aL (⟨#[97,110,110]⟩:ByteArray) (aK 122)) 0 (aL (⟨#[97,110,110]⟩:ByteArray) (aK 122))).length≤6000∧(([]:List Int).length)≤1000 from ⟨tA (by rw [iZ];decide),by decide⟩))))) (v5 pT))) <|Tri.split (decide ((((k1:Nat):Int):Int)<((((m20 p0)+1:Nat):Int)-1-((0:Nat):Int)))) (fun h16=>?_) (fun h16=>?_)
 have h16':=of_decide_eq_true h16
 refine Tri.split (((az (([]:List Int).length) ([]:List Int) z1.1 z1.2.1 z1.2.2.2 (aC (bc (⟨#[97,110,110]⟩:ByteArray) (aK 122)) (aL (⟨#[97,110,110]⟩:ByteArray) (aK 122)) 0 (aL (⟨#[97,110,110]⟩:ByteArray) (aK 122)))):Int) != 0) (fun h17=>?_) (fun h17=>?_)
 have h17':=bT h17
 refine Xu [Ei 75 ((((m20 p0)+1:Nat):Int)-1-((0:Nat):Int)),Eb 77 true,Eb 80 true] none [Eb 101 true] [13,12,10] [] [800] 1360 (v2 (pv pT (pl (show (al .i64 (((m20 p0)+1:Nat):Int) 1)=((((m20 p0)+1:Nat):Int)-1-((0:Nat):Int)) from bO (by omega))) (v1 (pg h16 (v2 (pg h17 (v3 (v9 (v9 pT))))))))) <|Tri.cond_true (by kernel_rfl) <|Xt [Eb 4 false] [101,58,57,5,0] [] [273,240,272] 1376 (v1 pT) <|?_
 subst hz1
 have hf1:dH (aI p0 p1) ((m20 p0)+1)=k1:=cP (by omega) hJ1 (by simp only [aI,h1,h4,hq0,hf0,hb0,h12,h13,h16,h17,aD,aA])
 have hb1:Nat.blt k1 ((m20 p0)+1)=true:=dB (by omega)
 have hq1:Nat.blt (dH (aI p0 p1) ((m20 p0)+1)) ((m20 p0)+1)=true:=by rw [hf1];exact hb1
 exact Xy [] pz (by simp only [bG,h1,h4,hq0,hf0,hb0,hq1,hf1,hb1,aD,aA] <;> rfl)
 have h17':=bB h17
 refine Tri.split (((((aS (([]:List Int).length) ([]:List Int) z1.1 z1.2.1 z1.2.2.2 (aC (bc (⟨#[97,110,110]⟩:ByteArray) (aK 122)) (aL (⟨#[97,110,110]⟩:ByteArray) (aK 122)) 0 (aL (⟨#[97,110,110]⟩:ByteArray) (aK 122)))):Nat):Int):Int)==0) (fun h18=>?_) (fun h18=>?_)
 have h18':=bv h18
 refine Xu [Ei 75 ((((m20 p0)+1:Nat):Int)-1-((0:Nat):Int)),Eb 77 true,Eb 80 false,Eb 85 true] none [Eb 101 true] [13,12,10] [] [800] 1360 (v2 (pv pT (pl (show (al .i64 (((m20 p0)+1:Nat):Int) 1)=((((m20 p0)+1:Nat):Int)-1-((0:Nat):Int)) from bO (by omega))) (v1 (pg h16 (v2 (pg h17 (v4 (pg h18 (v7 (v9 pT)))))))))) <|Tri.cond_true (by kernel_rfl) <|Xt [Eb 4 false] [101,58,57,5,0] [] [273,240,272] 1376 (v1 pT) <|?_
 subst hz1
 have hf1:dH (aI p0 p1) ((m20 p0)+1)=k1:=cP (by omega) hJ1 (by simp only [aI,h1,h4,hq0,hf0,hb0,h12,h13,h16,h17,h18,aD,aA])
 have hb1:Nat.blt k1 ((m20 p0)+1)=true:=dB (by omega)
 have hq1:Nat.blt (dH (aI p0 p1) ((m20 p0)+1)) ((m20 p0)+1)=true:=by rw [hf1];exact hb1
 exact Xy [] pz (by simp only [bG,h1,h4,hq0,hf0,hb0,hq1,hf1,hb1,aD,aA] <;> rfl)
 have h18':=bn h18
 refine Tri.split (((du z1).getD 0 0:Int) != 51) (fun h19=>?_) (fun h19=>?_)
 have h19':=bT h19
 refine Tri.len 800 rfl <|fun hl20=>Tri.len 273 rfl <|fun hl21=>Xu [Ei 75 ((((m20 p0)+1:Nat):Int)-1-((0:Nat):Int)),Eb 77 true,Eb 80 false,Eb 85 false,Eb 92 true] none [Eb 101 true] [13,12,10] [] [800] 1360 (v2 (pv pT (pl (show (al .i64 (((m20 p0)+1:Nat):Int) 1)=((((m20 p0)+1:Nat):Int)-1-((0:Nat):Int)) from bO (by omega))) (v1 (pg h16 (v2 (pg h17 (v4 (pg h18 (v1 (pu (Yi 0 (aS (([]:List Int).length) ([]:List Int) z1.1 z1.2.1 z1.2.2.2 (aC (bc (⟨#[97,110,110]⟩:ByteArray) (aK 122)) (aL (⟨#[97,110,110]⟩:ByteArray) (aK 122)) 0 (aL (⟨#[97,110,110]⟩:ByteArray) (aK 122))))) (pu (Yl 0 (aS (([]:List Int).length) ([]:List Int) z1.1 z1.2.1 z1.2.2.2 (aC (bc (⟨#[97,110,110]⟩:ByteArray) (aK 122)) (aL (⟨#[97,110,110]⟩:ByteArray) (aK 122)) 0 (aL (⟨#[97,110,110]⟩:ByteArray) (aK 122))))) (v3 (pg h19 (v9 pT)))))))))))))) <|Tri.cond_true (by kernel_rfl) <|Xt [Eb 4 false] [101,58,57,5,0] [] [273,240,272] 1376 (v1 pT) <|?_
 subst hz1
 have hf1:dH (aI p0 p1) ((m20 p0)+1)=k1:=cP (by omega) hJ1 (by simp only [aI,h1,h4,hq0,hf0,hb0,h12,h13,h16,h17,h18,h19,aD,aA])
 have hb1:Nat.blt k1 ((m20 p0)+1)=true:=dB (by omega)
 have hq1:Nat.blt (dH (aI p0 p1) ((m20 p0)+1)) ((m20 p0)+1)=true:=by rw [hf1];exact hb1
 exact Xy [] pz (by simp only [bG,h1,h4,hq0,hf0,hb0,hq1,hf1,hb1,aD,aA] <;> rfl)
 have h19':=bB h19
 refine Tri.split ((((k1:Nat):Int):Int)==((((m20 p0)+1:Nat):Int)-1-((0:Nat):Int))) (fun h22=>?_) (fun h22=>?_)
 have h22':=bv h22
 refine Tri.len 800 rfl <|fun hl23=>Tri.len 273 rfl <|fun hl24=>Xu [Ei 75 ((((m20 p0)+1:Nat):Int)-1-((0:Nat):Int)),Eb 77 true,Eb 80 false,Eb 85 false,Eb 92 false,Ei 95 ((((m20 p0)+1:Nat):Int)-1-((0:Nat):Int)),Eb 97 true] none [Eb 101 (((az (([]:List Int).length) ([]:List Int) z1.1 z1.2.1 z1.2.2.2 (aC (bc (⟨#[97,110,110]⟩:ByteArray) (aK 122)) (aL (⟨#[97,110,110]⟩:ByteArray) (aK 122)) 0 (aL (⟨#[97,110,110]⟩:ByteArray) (aK 122)))):Int) != 9)] [13,12,10] [] [800] 1360 (v2 (pv pT (pl (show (al .i64 (((m20 p0)+1:Nat):Int) 1)=((((m20 p0)+1:Nat):Int)-1-((0:Nat):Int)) from bO (by omega))) (v1 (pg h16 (v2 (pg h17 (v4 (pg h18 (v1 (pu (Yi 0 (aS (([]:List Int).length) ([]:List Int) z1.1 z1.2.1 z1.2.2.2 (aC (bc (⟨#[97,110,110]⟩:ByteArray) (aK 122)) (aL (⟨#[97,110,110]⟩:ByteArray) (aK 122)) 0 (aL (⟨#[97,110,110]⟩:ByteArray) (aK 122))))) (pu (Yl 0 (aS (([]:List Int).length) ([]:List Int) z1.1 z1.2.1 z1.2.2.2 (aC (bc (⟨#[97,110,110]⟩:ByteArray) (aK 122)) (aL (⟨#[97,110,110]⟩:ByteArray) (aK 122)) 0 (aL (⟨#[97,110,110]⟩:ByteArray) (aK 122))))) (v3 (pg h19 (v2 (pv pT (pl (show (al .i64 (((m20 p0)+1:Nat):Int) 1)=((((m20 p0)+1:Nat):Int)-1-((0:Nat):Int)) from bO (by omega))) (v1 (pg h22 (v4 pT)))))))))))))))))) <|Xa (fun h25=>?_) (fun h25=>?_)
 have h25':=bT h25
 refine Xt [Eb 4 false] [101,58,57,5,0] [] [273,240,272] 1376 (v1 pT) <|?_
 subst hz1
 have hf1:dH (aI p0 p1) ((m20 p0)+1)=k1:=cP (by omega) hJ1 (by simp only [aI,h1,h4,hq0,hf0,hb0,h12,h13,h16,h17,h18,h19,h22,h25,aD,aA])
 have hb1:Nat.blt k1 ((m20 p0)+1)=true:=dB (by omega)
 have hq1:Nat.blt (dH (aI p0 p1) ((m20 p0)+1)) ((m20 p0)+1)=true:=by rw [hf1];exact hb1
 exact Xy [] pz (by simp only [bG,h1,h4,hq0,hf0,hb0,hq1,hf1,hb1,aD,aA] <;> rfl)
 have h25':=bB h25
 exact Tri.skip <|Wu [Ej 102 (k1+1)] none [Ej 58 (k1+1)] [101,58] [] [] 1392 (pv pT (Yp k1 1) (v1 pT)) <|Xp (dG hJ1 (by subst hz1;simp only [aI,h1,h4,hq0,hf0,hb0,h12,h13,h16,h17,h18,h19,h22,h25,aD,aA])) [] [Ej 58 (k1+1)] [Mc 272 [.sl 240 0 4 4 none,.sl 273 0 (([]:List Int).length) 1 none,.i .i64 (aN (([]:List Int).length) ([]:List Int) z1.1 z1.2.1 z1.2.2.2 (aC (bc (⟨#[97,110,110]⟩:ByteArray) (aK 122)) (aL (⟨#[97,110,110]⟩:ByteArray) (aK 122)) 0 (aL (⟨#[97,110,110]⟩:ByteArray) (aK 122)))),.b (cV z1),.s (cW z1),.b (cf z1)]] (by simp only [aG,h1,h4,hq0,hf0,hb0,h12,h13,h16,h17,h18,h19,h22,h25,aD,aA]) (by simp only [aG,h1,h4,hq0,hf0,hb0,h12,h13,h16,h17,h18,h19,h22,h25,aD,aA])
 have h22':=bn h22
 exact Tri.len 800 rfl <|fun hl26=>Tri.len 273 rfl <|fun hl27=>Xu [Ei 75 ((((m20 p0)+1:Nat):Int)-1-((0:Nat):Int)),Eb 77 true,Eb 80 false,Eb 85 false,Eb 92 false,Ei 95 ((((m20 p0)+1:Nat):Int)-1-((0:Nat):Int)),Eb 97 false] none [Eb 101 false] [13,12,10] [] [800] 1360 (v2 (pv pT (pl (show (al .i64 (((m20 p0)+1:Nat):Int) 1)=((((m20 p0)+1:Nat):Int)-1-((0:Nat):Int)) from bO (by omega))) (v1 (pg h16 (v2 (pg h17 (v4 (pg h18 (v1 (pu (Yi 0 (aS (([]:List Int).length) ([]:List Int) z1.1 z1.2.1 z1.2.2.2 (aC (bc (⟨#[97,110,110]⟩:ByteArray) (aK 122)) (aL (⟨#[97,110,110]⟩:ByteArray) (aK 122)) 0 (aL (⟨#[97,110,110]⟩:ByteArray) (aK 122))))) (pu (Yl 0 (aS (([]:List Int).length) ([]:List Int) z1.1 z1.2.1 z1.2.2.2 (aC (bc (⟨#[97,110,110]⟩:ByteArray) (aK 122)) (aL (⟨#[97,110,110]⟩:ByteArray) (aK 122)) 0 (aL (⟨#[97,110,110]⟩:ByteArray) (aK 122))))) (v3 (pg h19 (v2 (pv pT (pl (show (al .i64 (((m20 p0)+1:Nat):Int) 1)=((((m20 p0)+1:Nat):Int)-1-((0:Nat):Int)) from bO (by omega))) (v1 (pg h22 (v4 pT)))))))))))))))))) <|Tri.cond_false (by kernel_rfl) <|Tri.skip <|Wu [Ej 102 (k1+1)] none [Ej 58 (k1+1)] [101,58] [] [] 1392 (pv pT (Yp k1 1) (v1 pT)) <|Xp (dG hJ1 (by subst hz1;simp only [aI,h1,h4,hq0,hf0,hb0,h12,h13,h16,h17,h18,h19,h22,aD,aA])) [] [Ej 58 (k1+1)] [Mc 272 [.sl 240 0 4 4 none,.sl 273 0 (([]:List Int).length) 1 none,.i .i64 (aN (([]:List Int).length) ([]:List Int) z1.1 z1.2.1 z1.2.2.2 (aC (bc (⟨#[97,110,110]⟩:ByteArray) (aK 122)) (aL (⟨#[97,110,110]⟩:ByteArray) (aK 122)) 0 (aL (⟨#[97,110,110]⟩:ByteArray) (aK 122)))),.b (cV z1),.s (cW z1),.b (cf z1)]] (by simp only [aG,h1,h4,hq0,hf0,hb0,h12,h13,h16,h17,h18,h19,h22,aD,aA]) (by simp only [aG,h1,h4,hq0,hf0,hb0,h12,h13,h16,h17,h18,h19,h22,aD,aA])
 have h16':=of_decide_eq_false h16
 refine Tri.split ((((k1:Nat):Int):Int)==((((m20 p0)+1:Nat):Int)-1-((0:Nat):Int))) (fun h28=>?_) (fun h28=>?_)
 have h28':=bv h28
 refine Tri.len 800 rfl <|fun hl29=>Tri.len 273 rfl <|fun hl30=>Xu [Ei 75 ((((m20 p0)+1:Nat):Int)-1-((0:Nat):Int)),Eb 77 false,Ei 95 ((((m20 p0)+1:Nat):Int)-1-((0:Nat):Int)),Eb 97 true] none [Eb 101 (((az (([]:List Int).length) ([]:List Int) z1.1 z1.2.1 z1.2.2.2 (aC (bc (⟨#[97,110,110]⟩:ByteArray) (aK 122)) (aL (⟨#[97,110,110]⟩:ByteArray) (aK 122)) 0 (aL (⟨#[97,110,110]⟩:ByteArray) (aK 122)))):Int) != 9)] [13,12,10] [] [800] 1360 (v2 (pv pT (pl (show (al .i64 (((m20 p0)+1:Nat):Int) 1)=((((m20 p0)+1:Nat):Int)-1-((0:Nat):Int)) from bO (by omega))) (v1 (pg h16 (v8 (v9 (pv pT (pl (show (al .i64 (((m20 p0)+1:Nat):Int) 1)=((((m20 p0)+1:Nat):Int)-1-((0:Nat):Int)) from bO (by omega))) (v1 (pg h28 (v4 pT)))))))))) <|Xa (fun h31=>?_) (fun h31=>?_)
 have h31':=bT h31
 refine Xt [Eb 4 false] [101,58,57,5,0] [] [273,240,272] 1376 (v1 pT) <|?_
 subst hz1
 have hf1:dH (aI p0 p1) ((m20 p0)+1)=k1:=cP (by omega) hJ1 (by simp only [aI,h1,h4,hq0,hf0,hb0,h12,h13,h16,h28,h31,aD,aA])
 have hb1:Nat.blt k1 ((m20 p0)+1)=true:=dB (by omega)
 have hq1:Nat.blt (dH (aI p0 p1) ((m20 p0)+1)) ((m20 p0)+1)=true:=by rw [hf1];exact hb1
 exact Xy [] pz (by simp only [bG,h1,h4,hq0,hf0,hb0,hq1,hf1,hb1,aD,aA] <;> rfl)
 have h31':=bB h31
 exact Tri.skip <|Wu [Ej 102 (k1+1)] none [Ej 58 (k1+1)] [101,58] [] [] 1392 (pv pT (Yp k1 1) (v1 pT)) <|Xp (dG hJ1 (by subst hz1;simp only [aI,h1,h4,hq0,hf0,hb0,h12,h13,h16,h28,h31,aD,aA])) [] [Ej 58 (k1+1)] [Mc 272 [.sl 240 0 4 4 none,.sl 273 0 (([]:List Int).length) 1 none,.i .i64 (aN (([]:List Int).length) ([]:List Int) z1.1 z1.2.1 z1.2.2.2 (aC (bc (⟨#[97,110,110]⟩:ByteArray) (aK 122)) (aL (⟨#[97,110,110]⟩:ByteArray) (aK 122)) 0 (aL (⟨#[97,110,110]⟩:ByteArray) (aK 122)))),.b (cV z1),.s (cW z1),.b (cf z1)]] (by simp only [aG,h1,h4,hq0,hf0,hb0,h12,h13,h16,h28,h31,aD,aA]) (by simp only [aG,h1,h4,hq0,hf0,hb0,h12,h13,h16,h28,h31,aD,aA])
 have h28':=bn h28
 exact Xu [Ei 75 ((((m20 p0)+1:Nat):Int)-1-((0:Nat):Int)),Eb 77 false,Ei 95 ((((m20 p0)+1:Nat):Int)-1-((0:Nat):Int)),Eb 97 false] none [Eb 101 false] [13,12,10] [] [800] 1360 (v2 (pv pT (pl (show (al .i64 (((m20 p0)+1:Nat):Int) 1)=((((m20 p0)+1:Nat):Int)-1-((0:Nat):Int)) from bO (by omega))) (v1 (pg h16 (v8 (v9 (pv pT (pl (show (al .i64 (((m20 p0)+1:Nat):Int) 1)=((((m20 p0)+1:Nat):Int)-1-((0:Nat):Int)) from bO (by omega))) (v1 (pg h28 (v4 pT)))))))))) <|Tri.cond_false (by kernel_rfl) <|Tri.skip <|Wu [Ej 102 (k1+1)] none [Ej 58 (k1+1)] [101,58] [] [] 1392 (pv pT (Yp k1 1) (v1 pT)) <|Xp (dG hJ1 (by subst hz1;simp only [aI,h1,h4,hq0,hf0,hb0,h12,h13,h16,h28,aD,aA])) [] [Ej 58 (k1+1)] [Mc 272 [.sl 240 0 4 4 none,.sl 273 0 (([]:List Int).length) 1 none,.i .i64 (aN (([]:List Int).length) ([]:List Int) z1.1 z1.2.1 z1.2.2.2 (aC (bc (⟨#[97,110,110]⟩:ByteArray) (aK 122)) (aL (⟨#[97,110,110]⟩:ByteArray) (aK 122)) 0 (aL (⟨#[97,110,110]⟩:ByteArray) (aK 122)))),.b (cV z1),.s (cW z1),.b (cf z1)]] (by simp only [aG,h1,h4,hq0,hf0,hb0,h12,h13,h16,h28,aD,aA]) (by simp only [aG,h1,h4,hq0,hf0,hb0,h12,h13,h16,h28,aD,aA])
 have h13':=bn h13
 refine Tri.skip <|Tri.len 640 rfl <|fun hl32=>Tri.len 273 rfl <|fun hl33=>Xt [Ei 13 (az (([]:List Int).length) ([]:List Int) z1.1 z1.2.1 z1.2.2.2 (aC (af (⟨#[97,110,110]⟩:ByteArray) (⟨#[120]⟩:ByteArray)) (aE (⟨#[97,110,110]⟩:ByteArray) (⟨#[120]⟩:ByteArray)) 0 (aE (⟨#[97,110,110]⟩:ByteArray) (⟨#[120]⟩:ByteArray)))),El 12 752 (aS (([]:List Int).length) ([]:List Int) z1.1 z1.2.1 z1.2.2.2 (aC (af (⟨#[97,110,110]⟩:ByteArray) (⟨#[120]⟩:ByteArray)) (aE (⟨#[97,110,110]⟩:ByteArray) (⟨#[120]⟩:ByteArray)) 0 (aE (⟨#[97,110,110]⟩:ByteArray) (⟨#[120]⟩:ByteArray))))] [64,11] [Mi 752 (aS (([]:List Int).length) ([]:List Int) z1.1 z1.2.1 z1.2.2.2 (aC (af (⟨#[97,110,110]⟩:ByteArray) (⟨#[120]⟩:ByteArray)) (aE (⟨#[97,110,110]⟩:ByteArray) (⟨#[120]⟩:ByteArray)) 0 (aE (⟨#[97,110,110]⟩:ByteArray) (⟨#[120]⟩:ByteArray)))) (eB z1),Mi 273 (([]:List Int).length) ([]:List Int),Mc 240 UA,Mc 272 [.sl 240 0 4 4 none,.sl 273 0 (([]:List Int).length) 1 none,.i .i64 (aN (([]:List Int).length) ([]:List Int) z1.1 z1.2.1 z1.2.2.2 (aC (af (⟨#[97,110,110]⟩:ByteArray) (⟨#[120]⟩:ByteArray)) (aE (⟨#[97,110,110]⟩:ByteArray) (⟨#[120]⟩:ByteArray)) 0 (aE (⟨#[97,110,110]⟩:ByteArray) (⟨#[120]⟩:ByteArray)))),.b (cX z1),.s (cY z1),.b (ca z1)]] [640,273,240,272] 848 (v2 (pu (pa (pa (Yw (aE (⟨#[97,110,110]⟩:ByteArray) (⟨#[120]⟩:ByteArray))) pT) (pa (Yr (([]:List Int).length)) (pa (Yr UA) (lo ((aC (af (⟨#[97,110,110]⟩:ByteArray) (⟨#[120]⟩:ByteArray)) (aE (⟨#[97,110,110]⟩:ByteArray) (⟨#[120]⟩:ByteArray)) 0 (aE (⟨#[97,110,110]⟩:ByteArray) (⟨#[120]⟩:ByteArray))).length≤6000∧(([]:List Int).length)≤1000))))) (v5 pT))) <|Tri.split (decide ((((k1:Nat):Int):Int)<((((m20 p0)+1:Nat):Int)-1-((0:Nat):Int)))) (fun h34=>?_) (fun h34=>?_)
 have h34':=of_decide_eq_true h34
 refine Tri.split (((az (([]:List Int).length) ([]:List Int) z1.1 z1.2.1 z1.2.2.2 (aC (af (⟨#[97,110,110]⟩:ByteArray) (⟨#[120]⟩:ByteArray)) (aE (⟨#[97,110,110]⟩:ByteArray) (⟨#[120]⟩:ByteArray)) 0 (aE (⟨#[97,110,110]⟩:ByteArray) (⟨#[120]⟩:ByteArray)))):Int) != 0) (fun h35=>?_) (fun h35=>?_)
 have h35':=bT h35
 refine Xu [Ei 75 ((((m20 p0)+1:Nat):Int)-1-((0:Nat):Int)),Eb 77 true,Eb 80 true] none [Eb 101 true] [13,12,10] [] [752] 1312 (v2 (pv pT (pl (show (al .i64 (((m20 p0)+1:Nat):Int) 1)=((((m20 p0)+1:Nat):Int)-1-((0:Nat):Int)) from bO (by omega))) (v1 (pg h34 (v2 (pg h35 (v3 (v9 (v9 pT))))))))) <|Tri.cond_true (by kernel_rfl) <|Xt [Eb 4 false] [101,58,57,5,0] [] [273,240,272] 1328 (v1 pT) <|?_
 subst hz1
 have hf1:dH (aI p0 p1) ((m20 p0)+1)=k1:=cP (by omega) hJ1 (by simp only [aI,h1,h4,hq0,hf0,hb0,h12,h13,h34,h35,aD,aA])
 have hb1:Nat.blt k1 ((m20 p0)+1)=true:=dB (by omega)
 have hq1:Nat.blt (dH (aI p0 p1) ((m20 p0)+1)) ((m20 p0)+1)=true:=by rw [hf1];exact hb1
 exact Xy [] pz (by simp only [bG,h1,h4,hq0,hf0,hb0,hq1,hf1,hb1,aD,aA] <;> rfl)
 have h35':=bB h35
 refine Tri.split (((((aS (([]:List Int).length) ([]:List Int) z1.1 z1.2.1 z1.2.2.2 (aC (af (⟨#[97,110,110]⟩:ByteArray) (⟨#[120]⟩:ByteArray)) (aE (⟨#[97,110,110]⟩:ByteArray) (⟨#[120]⟩:ByteArray)) 0 (aE (⟨#[97,110,110]⟩:ByteArray) (⟨#[120]⟩:ByteArray)))):Nat):Int):Int)==0) (fun h36=>?_) (fun h36=>?_)
 have h36':=bv h36
 refine Xu [Ei 75 ((((m20 p0)+1:Nat):Int)-1-((0:Nat):Int)),Eb 77 true,Eb 80 false,Eb 85 true] none [Eb 101 true] [13,12,10] [] [752] 1312 (v2 (pv pT (pl (show (al .i64 (((m20 p0)+1:Nat):Int) 1)=((((m20 p0)+1:Nat):Int)-1-((0:Nat):Int)) from bO (by omega))) (v1 (pg h34 (v2 (pg h35 (v4 (pg h36 (v7 (v9 pT)))))))))) <|Tri.cond_true (by kernel_rfl) <|Xt [Eb 4 false] [101,58,57,5,0] [] [273,240,272] 1328 (v1 pT) <|?_
 subst hz1
 have hf1:dH (aI p0 p1) ((m20 p0)+1)=k1:=cP (by omega) hJ1 (by simp only [aI,h1,h4,hq0,hf0,hb0,h12,h13,h34,h35,h36,aD,aA])
 have hb1:Nat.blt k1 ((m20 p0)+1)=true:=dB (by omega)
 have hq1:Nat.blt (dH (aI p0 p1) ((m20 p0)+1)) ((m20 p0)+1)=true:=by rw [hf1];exact hb1
 exact Xy [] pz (by simp only [bG,h1,h4,hq0,hf0,hb0,hq1,hf1,hb1,aD,aA] <;> rfl)
 have h36':=bn h36
 refine Tri.split (((eB z1).getD 0 0:Int) != 51) (fun h37=>?_) (fun h37=>?_)
 have h37':=bT h37
 refine Tri.len 752 rfl <|fun hl38=>Tri.len 273 rfl <|fun hl39=>Xu [Ei 75 ((((m20 p0)+1:Nat):Int)-1-((0:Nat):Int)),Eb 77 true,Eb 80 false,Eb 85 false,Eb 92 true] none [Eb 101 true] [13,12,10] [] [752] 1312 (v2 (pv pT (pl (show (al .i64 (((m20 p0)+1:Nat):Int) 1)=((((m20 p0)+1:Nat):Int)-1-((0:Nat):Int)) from bO (by omega))) (v1 (pg h34 (v2 (pg h35 (v4 (pg h36 (v1 (pu (Yi 0 (aS (([]:List Int).length) ([]:List Int) z1.1 z1.2.1 z1.2.2.2 (aC (af (⟨#[97,110,110]⟩:ByteArray) (⟨#[120]⟩:ByteArray)) (aE (⟨#[97,110,110]⟩:ByteArray) (⟨#[120]⟩:ByteArray)) 0 (aE (⟨#[97,110,110]⟩:ByteArray) (⟨#[120]⟩:ByteArray))))) (pu (Yl 0 (aS (([]:List Int).length) ([]:List Int) z1.1 z1.2.1 z1.2.2.2 (aC (af (⟨#[97,110,110]⟩:ByteArray) (⟨#[120]⟩:ByteArray)) (aE (⟨#[97,110,110]⟩:ByteArray) (⟨#[120]⟩:ByteArray)) 0 (aE (⟨#[97,110,110]⟩:ByteArray) (⟨#[120]⟩:ByteArray))))) (v3 (pg h37 (v9 pT)))))))))))))) <|Tri.cond_true (by kernel_rfl) <|Xt [Eb 4 false] [101,58,57,5,0] [] [273,240,272] 1328 (v1 pT) <|?_
 subst hz1
 have hf1:dH (aI p0 p1) ((m20 p0)+1)=k1:=cP (by omega) hJ1 (by simp only [aI,h1,h4,hq0,hf0,hb0,h12,h13,h34,h35,h36,h37,aD,aA])
 have hb1:Nat.blt k1 ((m20 p0)+1)=true:=dB (by omega)
 have hq1:Nat.blt (dH (aI p0 p1) ((m20 p0)+1)) ((m20 p0)+1)=true:=by rw [hf1];exact hb1
 exact Xy [] pz (by simp only [bG,h1,h4,hq0,hf0,hb0,hq1,hf1,hb1,aD,aA] <;> rfl)
 have h37':=bB h37
 refine Tri.split ((((k1:Nat):Int):Int)==((((m20 p0)+1:Nat):Int)-1-((0:Nat):Int))) (fun h40=>?_) (fun h40=>?_)
 have h40':=bv h40
 refine Tri.len 752 rfl <|fun hl41=>Tri.len 273 rfl <|fun hl42=>Xu [Ei 75 ((((m20 p0)+1:Nat):Int)-1-((0:Nat):Int)),Eb 77 true,Eb 80 false,Eb 85 false,Eb 92 false,Ei 95 ((((m20 p0)+1:Nat):Int)-1-((0:Nat):Int)),Eb 97 true] none [Eb 101 (((az (([]:List Int).length) ([]:List Int) z1.1 z1.2.1 z1.2.2.2 (aC (af (⟨#[97,110,110]⟩:ByteArray) (⟨#[120]⟩:ByteArray)) (aE (⟨#[97,110,110]⟩:ByteArray) (⟨#[120]⟩:ByteArray)) 0 (aE (⟨#[97,110,110]⟩:ByteArray) (⟨#[120]⟩:ByteArray)))):Int) != 9)] [13,12,10] [] [752] 1312 (v2 (pv pT (pl (show (al .i64 (((m20 p0)+1:Nat):Int) 1)=((((m20 p0)+1:Nat):Int)-1-((0:Nat):Int)) from bO (by omega))) (v1 (pg h34 (v2 (pg h35 (v4 (pg h36 (v1 (pu (Yi 0 (aS (([]:List Int).length) ([]:List Int) z1.1 z1.2.1 z1.2.2.2 (aC (af (⟨#[97,110,110]⟩:ByteArray) (⟨#[120]⟩:ByteArray)) (aE (⟨#[97,110,110]⟩:ByteArray) (⟨#[120]⟩:ByteArray)) 0 (aE (⟨#[97,110,110]⟩:ByteArray) (⟨#[120]⟩:ByteArray))))) (pu (Yl 0 (aS (([]:List Int).length) ([]:List Int) z1.1 z1.2.1 z1.2.2.2 (aC (af (⟨#[97,110,110]⟩:ByteArray) (⟨#[120]⟩:ByteArray)) (aE (⟨#[97,110,110]⟩:ByteArray) (⟨#[120]⟩:ByteArray)) 0 (aE (⟨#[97,110,110]⟩:ByteArray) (⟨#[120]⟩:ByteArray))))) (v3 (pg h37 (v2 (pv pT (pl (show (al .i64 (((m20 p0)+1:Nat):Int) 1)=((((m20 p0)+1:Nat):Int)-1-((0:Nat):Int)) from bO (by omega))) (v1 (pg h40 (v4 pT)))))))))))))))))) <|Xa (fun h43=>?_) (fun h43=>?_)
 have h43':=bT h43
 refine Xt [Eb 4 false] [101,58,57,5,0] [] [273,240,272] 1328 (v1 pT) <|?_
 subst hz1
 have hf1:dH (aI p0 p1) ((m20 p0)+1)=k1:=cP (by omega) hJ1 (by simp only [aI,h1,h4,hq0,hf0,hb0,h12,h13,h34,h35,h36,h37,h40,h43,aD,aA])
 have hb1:Nat.blt k1 ((m20 p0)+1)=true:=dB (by omega)
 have hq1:Nat.blt (dH (aI p0 p1) ((m20 p0)+1)) ((m20 p0)+1)=true:=by rw [hf1];exact hb1
 exact Xy [] pz (by simp only [bG,h1,h4,hq0,hf0,hb0,hq1,hf1,hb1,aD,aA] <;> rfl)
 have h43':=bB h43
 exact Tri.skip <|Wu [Ej 102 (k1+1)] none [Ej 58 (k1+1)] [101,58] [] [] 1344 (pv pT (Yp k1 1) (v1 pT)) <|Xp (dG hJ1 (by subst hz1;simp only [aI,h1,h4,hq0,hf0,hb0,h12,h13,h34,h35,h36,h37,h40,h43,aD,aA])) [] [Ej 58 (k1+1)] [Mc 272 [.sl 240 0 4 4 none,.sl 273 0 (([]:List Int).length) 1 none,.i .i64 (aN (([]:List Int).length) ([]:List Int) z1.1 z1.2.1 z1.2.2.2 (aC (af (⟨#[97,110,110]⟩:ByteArray) (⟨#[120]⟩:ByteArray)) (aE (⟨#[97,110,110]⟩:ByteArray) (⟨#[120]⟩:ByteArray)) 0 (aE (⟨#[97,110,110]⟩:ByteArray) (⟨#[120]⟩:ByteArray)))),.b (cX z1),.s (cY z1),.b (ca z1)]] (by simp only [aG,h1,h4,hq0,hf0,hb0,h12,h13,h34,h35,h36,h37,h40,h43,aD,aA]) (by simp only [aG,h1,h4,hq0,hf0,hb0,h12,h13,h34,h35,h36,h37,h40,h43,aD,aA])
 have h40':=bn h40
 exact Tri.len 752 rfl <|fun hl44=>Tri.len 273 rfl <|fun hl45=>Xu [Ei 75 ((((m20 p0)+1:Nat):Int)-1-((0:Nat):Int)),Eb 77 true,Eb 80 false,Eb 85 false,Eb 92 false,Ei 95 ((((m20 p0)+1:Nat):Int)-1-((0:Nat):Int)),Eb 97 false] none [Eb 101 false] [13,12,10] [] [752] 1312 (v2 (pv pT (pl (show (al .i64 (((m20 p0)+1:Nat):Int) 1)=((((m20 p0)+1:Nat):Int)-1-((0:Nat):Int)) from bO (by omega))) (v1 (pg h34 (v2 (pg h35 (v4 (pg h36 (v1 (pu (Yi 0 (aS (([]:List Int).length) ([]:List Int) z1.1 z1.2.1 z1.2.2.2 (aC (af (⟨#[97,110,110]⟩:ByteArray) (⟨#[120]⟩:ByteArray)) (aE (⟨#[97,110,110]⟩:ByteArray) (⟨#[120]⟩:ByteArray)) 0 (aE (⟨#[97,110,110]⟩:ByteArray) (⟨#[120]⟩:ByteArray))))) (pu (Yl 0 (aS (([]:List Int).length) ([]:List Int) z1.1 z1.2.1 z1.2.2.2 (aC (af (⟨#[97,110,110]⟩:ByteArray) (⟨#[120]⟩:ByteArray)) (aE (⟨#[97,110,110]⟩:ByteArray) (⟨#[120]⟩:ByteArray)) 0 (aE (⟨#[97,110,110]⟩:ByteArray) (⟨#[120]⟩:ByteArray))))) (v3 (pg h37 (v2 (pv pT (pl (show (al .i64 (((m20 p0)+1:Nat):Int) 1)=((((m20 p0)+1:Nat):Int)-1-((0:Nat):Int)) from bO (by omega))) (v1 (pg h40 (v4 pT)))))))))))))))))) <|Tri.cond_false (by kernel_rfl) <|Tri.skip <|Wu [Ej 102 (k1+1)] none [Ej 58 (k1+1)] [101,58] [] [] 1344 (pv pT (Yp k1 1) (v1 pT)) <|Xp (dG hJ1 (by subst hz1;simp only [aI,h1,h4,hq0,hf0,hb0,h12,h13,h34,h35,h36,h37,h40,aD,aA])) [] [Ej 58 (k1+1)] [Mc 272 [.sl 240 0 4 4 none,.sl 273 0 (([]:List Int).length) 1 none,.i .i64 (aN (([]:List Int).length) ([]:List Int) z1.1 z1.2.1 z1.2.2.2 (aC (af (⟨#[97,110,110]⟩:ByteArray) (⟨#[120]⟩:ByteArray)) (aE (⟨#[97,110,110]⟩:ByteArray) (⟨#[120]⟩:ByteArray)) 0 (aE (⟨#[97,110,110]⟩:ByteArray) (⟨#[120]⟩:ByteArray)))),.b (cX z1),.s (cY z1),.b (ca z1)]] (by simp only [aG,h1,h4,hq0,hf0,hb0,h12,h13,h34,h35,h36,h37,h40,aD,aA]) (by simp only [aG,h1,h4,hq0,hf0,hb0,h12,h13,h34,h35,h36,h37,h40,aD,aA])
 have h34':=of_decide_eq_false h34
 refine Tri.split ((((k1:Nat):Int):Int)==((((m20 p0)+1:Nat):Int)-1-((0:Nat):Int))) (fun h46=>?_) (fun h46=>?_)
 have h46':=bv h46
 refine Tri.len 752 rfl <|fun hl47=>Tri.len 273 rfl <|fun hl48=>Xu [Ei 75 ((((m20 p0)+1:Nat):Int)-1-((0:Nat):Int)),Eb 77 false,Ei 95 ((((m20 p0)+1:Nat):Int)-1-((0:Nat):Int)),Eb 97 true] none [Eb 101 (((az (([]:List Int).length) ([]:List Int) z1.1 z1.2.1 z1.2.2.2 (aC (af (⟨#[97,110,110]⟩:ByteArray) (⟨#[120]⟩:ByteArray)) (aE (⟨#[97,110,110]⟩:ByteArray) (⟨#[120]⟩:ByteArray)) 0 (aE (⟨#[97,110,110]⟩:ByteArray) (⟨#[120]⟩:ByteArray)))):Int) != 9)] [13,12,10] [] [752] 1312 (v2 (pv pT (pl (show (al .i64 (((m20 p0)+1:Nat):Int) 1)=((((m20 p0)+1:Nat):Int)-1-((0:Nat):Int)) from bO (by omega))) (v1 (pg h34 (v8 (v9 (pv pT (pl (show (al .i64 (((m20 p0)+1:Nat):Int) 1)=((((m20 p0)+1:Nat):Int)-1-((0:Nat):Int)) from bO (by omega))) (v1 (pg h46 (v4 pT)))))))))) <|Xa (fun h49=>?_) (fun h49=>?_)
 have h49':=bT h49
 refine Xt [Eb 4 false] [101,58,57,5,0] [] [273,240,272] 1328 (v1 pT) <|?_
 subst hz1
 have hf1:dH (aI p0 p1) ((m20 p0)+1)=k1:=cP (by omega) hJ1 (by simp only [aI,h1,h4,hq0,hf0,hb0,h12,h13,h34,h46,h49,aD,aA])
 have hb1:Nat.blt k1 ((m20 p0)+1)=true:=dB (by omega)
 have hq1:Nat.blt (dH (aI p0 p1) ((m20 p0)+1)) ((m20 p0)+1)=true:=by rw [hf1];exact hb1
 exact Xy [] pz (by simp only [bG,h1,h4,hq0,hf0,hb0,hq1,hf1,hb1,aD,aA] <;> rfl)
 have h49':=bB h49
 exact Tri.skip <|Wu [Ej 102 (k1+1)] none [Ej 58 (k1+1)] [101,58] [] [] 1344 (pv pT (Yp k1 1) (v1 pT)) <|Xp (dG hJ1 (by subst hz1;simp only [aI,h1,h4,hq0,hf0,hb0,h12,h13,h34,h46,h49,aD,aA])) [] [Ej 58 (k1+1)] [Mc 272 [.sl 240 0 4 4 none,.sl 273 0 (([]:List Int).length) 1 none,.i .i64 (aN (([]:List Int).length) ([]:List Int) z1.1 z1.2.1 z1.2.2.2 (aC (af (⟨#[97,110,110]⟩:ByteArray) (⟨#[120]⟩:ByteArray)) (aE (⟨#[97,110,110]⟩:ByteArray) (⟨#[120]⟩:ByteArray)) 0 (aE (⟨#[97,110,110]⟩:ByteArray) (⟨#[120]⟩:ByteArray)))),.b (cX z1),.s (cY z1),.b (ca z1)]] (by simp only [aG,h1,h4,hq0,hf0,hb0,h12,h13,h34,h46,h49,aD,aA]) (by simp only [aG,h1,h4,hq0,hf0,hb0,h12,h13,h34,h46,h49,aD,aA])
 have h46':=bn h46
 exact Xu [Ei 75 ((((m20 p0)+1:Nat):Int)-1-((0:Nat):Int)),Eb 77 false,Ei 95 ((((m20 p0)+1:Nat):Int)-1-((0:Nat):Int)),Eb 97 false] none [Eb 101 false] [13,12,10] [] [752] 1312 (v2 (pv pT (pl (show (al .i64 (((m20 p0)+1:Nat):Int) 1)=((((m20 p0)+1:Nat):Int)-1-((0:Nat):Int)) from bO (by omega))) (v1 (pg h34 (v8 (v9 (pv pT (pl (show (al .i64 (((m20 p0)+1:Nat):Int) 1)=((((m20 p0)+1:Nat):Int)-1-((0:Nat):Int)) from bO (by omega))) (v1 (pg h46 (v4 pT)))))))))) <|Tri.cond_false (by kernel_rfl) <|Tri.skip <|Wu [Ej 102 (k1+1)] none [Ej 58 (k1+1)] [101,58] [] [] 1344 (pv pT (Yp k1 1) (v1 pT)) <|Xp (dG hJ1 (by subst hz1;simp only [aI,h1,h4,hq0,hf0,hb0,h12,h13,h34,h46,aD,aA])) [] [Ej 58 (k1+1)] [Mc 272 [.sl 240 0 4 4 none,.sl 273 0 (([]:List Int).length) 1 none,.i .i64 (aN (([]:List Int).length) ([]:List Int) z1.1 z1.2.1 z1.2.2.2 (aC (af (⟨#[97,110,110]⟩:ByteArray) (⟨#[120]⟩:ByteArray)) (aE (⟨#[97,110,110]⟩:ByteArray) (⟨#[120]⟩:ByteArray)) 0 (aE (⟨#[97,110,110]⟩:ByteArray) (⟨#[120]⟩:ByteArray)))),.b (cX z1),.s (cY z1),.b (ca z1)]] (by simp only [aG,h1,h4,hq0,hf0,hb0,h12,h13,h34,h46,aD,aA]) (by simp only [aG,h1,h4,hq0,hf0,hb0,h12,h13,h34,h46,aD,aA])
 refine Tri.exit <|?_
 obtain rfl:k1=((m20 p0)+1):=(by omega);obtain rfl:z1=(cw p0 p1):=hz1
 have hf1:dH (aI p0 p1) ((m20 p0)+1)=((m20 p0)+1):=fR hJ1
 have hb1:Nat.blt ((m20 p0)+1) ((m20 p0)+1)=false:=fM _
 have hq1:Nat.blt (dH (aI p0 p1) ((m20 p0)+1)) ((m20 p0)+1)=false:=by rw [hf1];exact hb1
 exact Xt [Eb 4 (aY (gA ((cw p0 p1).2.2.1) ((cw p0 p1).2.2.2)) (⟨#[]⟩:ByteArray))] [59,58,57,5,0] [] [273,240,272] 672 (v1 (pu (pa pT (pa (Yr (([]:List Int).length)) (pa (Yr UA) pT))) (v2 pT))) <|Xy [] pz (by simp only [bG,h1,h4,hq0,hf0,hb0,hq1,hf1,hb1,aD,aA] <;> rfl)
end Go.Vm
namespace Go.Vm
open Go
abbrev mE:ByteArray:=⟨#[97,110,110]⟩
def eo:List Int:=aC (bm mE) (aM mE) 0 (aM mE)
def fO:List Int:=aC (af mE ⟨#[120]⟩) (aE mE ⟨#[120]⟩) 0 (aE mE ⟨#[120]⟩)
def ij:List Int:=aC (bc mE (aK 122)) (aL mE (aK 122)) 0 (aL mE (aK 122))
theorem uh:it=true:=by kernel_rfl
theorem sX (T:Int):az 0 [] T false false eo=3:=by kernel_rfl
theorem sZ (T:Int):az 0 [] T true false eo=0:=by kernel_rfl
theorem sY (T:Int):aN 0 [] T true false eo=T:=by kernel_rfl
theorem tL:bL true false eo=true:=by kernel_rfl
theorem sp (n:ByteArray):bK 0 [] true n false eo=n:=by kernel_rfl
theorem tM:bJ 0 [] true false eo=false:=by kernel_rfl
theorem tI (T:Int):(bR 0 [] T true false eo).getD 0 0=51:=by kernel_rfl
theorem tJ (T:Int):az 0 [] T true false fO=sel (((al .i64 (eT T 1) 1):Int)==0) 9 0:=by kernel_rfl
theorem sd (T:Int):aN 0 [] T true false fO=al .i64 (eT T 1) 1:=by kernel_rfl
theorem sf:bL true false fO=true:=by kernel_rfl
theorem tD (n:ByteArray):bK 0 [] true n false fO=n:=by kernel_rfl
theorem si:bJ 0 [] true false fO=false:=by kernel_rfl
theorem uT (T:Int):az 0 [] T true false ij=sel (((al .i64 (eT T 1) 1):Int)==0) 9 0:=by kernel_rfl
theorem td (T:Int):aN 0 [] T true false ij=al .i64 (eT T 1) 1:=by kernel_rfl
theorem tz:bL true false ij=true:=by kernel_rfl
theorem tT (n:ByteArray):bK 0 [] true n false ij=n:=by kernel_rfl
theorem tx:bJ 0 [] true false ij=false:=by kernel_rfl
theorem sg (T:Int) (h:(((al .i64 (eT T 1) 1):Int)==0)=false):0<aS 0 [] T true false fO∧(bR 0 [] T true false fO).getD 0 0=51:=by
 have e1:aS 0 [] T true false fO=sel (((al .i64 (eT T 1) 1):Int)==0) 0 bV:=by kernel_rfl
 have e2:bR 0 [] T true false fO=sel (((al .i64 (eT T 1) 1):Int)==0) [] da:=by kernel_rfl
 rw [e1,e2,h,aA,aA]
 exact ⟨by decide,by kernel_rfl⟩
theorem rc (T:Int) (h:(((al .i64 (eT T 1) 1):Int)==0)=false):0<aS 0 [] T true false ij∧(bR 0 [] T true false ij).getD 0 0=51:=by
 have e1:aS 0 [] T true false ij=sel (((al .i64 (eT T 1) 1):Int)==0) 0 bV:=by kernel_rfl
 have e2:bR 0 [] T true false ij=sel (((al .i64 (eT T 1) 1):Int)==0) [] da:=by kernel_rfl
 rw [e1,e2,h,aA,aA]
 exact ⟨by decide,by kernel_rfl⟩
end Go.Vm
namespace Go.Vm
open Go
def ul:List Int:=aC bY ((1+4)+(⟨#[115,115,104,45,117,115,101,114,97,117,116,104]⟩:ByteArray).size) 0 ((1+4)+(⟨#[115,115,104,45,117,115,101,114,97,117,116,104]⟩:ByteArray).size)
def kx (T:Int):Int × Bool × ByteArray × Bool:=(aN 0 [] (aN 0 [] T false false eo) bZ bX ul,cM,cO,cL)
theorem mu (T:Int):kx T=(T,true,⟨#[]⟩,false):=by kernel_rfl
theorem ry (k:Nat) (T:Int) (n:ByteArray):bM k (T,true,n,false)=(T,true,n,false):=by
 unfold bM eg et ew
 show (aN 0 [] T true false eo,bL true false eo,bK 0 [] true n false eo,bJ 0 [] true false eo)=_
 rw [sY,tL,sp,tM]
theorem qJ (T:Int) (n:ByteArray):∀ k,itr bM k (T,true,n,false)=(T,true,n,false):=by
 intro k
 induction k with
 |zero=>rw [bl]
 |succ k ih=>rw [bg,ih,ry]
theorem rO (p0:Int) (k:Nat):bN p0 k=false:=by
 unfold bN
 show sel (((az 0 [] (itr bM k (kx ((m20 p0+1:Nat):Int))).1 (itr bM k (kx ((m20 p0+1:Nat):Int))).2.1 (itr bM k (kx ((m20 p0+1:Nat):Int))).2.2.2 eo):Int) != 0) true (sel (((dy (itr bM k (kx ((m20 p0+1:Nat):Int)))).getD 0 0:Int) != 51) true false)=false
 rw [mu,qJ]
 show sel (((az 0 [] ((m20 p0+1:Nat):Int) true false eo):Int) != 0) true (sel (((bR 0 [] ((m20 p0+1:Nat):Int) true false eo).getD 0 0:Int) != 51) true false)=false
 rw [sZ,tI]
 rfl
theorem sN (p0 p1:Int):aB p0 p1=(((m20 p0+1:Nat):Int),true,⟨#[]⟩,false):=by
 unfold aB
 show itr bM (m20 p1) (kx ((m20 p0+1:Nat):Int))=_
 rw [mu,qJ]
theorem re (k:Nat) (T:Int) (n:ByteArray):aG k (T,true,n,false)=(al .i64 (eT T 1) 1,true,n,false):=by
 unfold aG cV cW cf cX cY ca
 generalize ((((k % 2:Nat):Int):Int)==1)=c
 show (sel c (aN 0 [] T true false ij) (aN 0 [] T true false fO),sel c (bL true false ij) (bL true false fO),sel c (bK 0 [] true n false ij) (bK 0 [] true n false fO),sel c (bJ 0 [] true false ij) (bJ 0 [] true false fO))=_
 rw [td,tz,tT,tx,sd,sf,tD,si]
 cases c
 ·rw [aA,aA,aA,aA]
 ·rw [aD,aD,aD,aD]
theorem ot {x:Int} (h:1≤x) (h':x≤100):al .i64 (eT x 1) 1=x-1:=by
 have e:eT x 1=x:=by unfold eT;split <;> omega
 rw [e,qD (by omega) (by omega)]
theorem rN {T:Nat} (hT:T≤20) (n:ByteArray):∀ k,k≤T→itr aG k (((T:Nat):Int),true,n,false)=(((T-k:Nat):Int),true,n,false):=by
 intro k
 induction k with
 |zero=>intro _;rw [bl];rfl
 |succ k ih =>
  intro hk
  rw [bg,ih (by omega),re,ot (by omega) (by omega)]
  congr 1
  omega
theorem ou {e b:Int} {n k T:Nat} (hk:k<T) (he:e=sel ((((T-k:Nat):Int)-1:Int)==0) 9 0) (hn:((((T-k:Nat):Int)-1:Int)==0)=false→0<n∧b=51) :
  (sel (decide ((((k:Nat):Int):Int)<(((T:Nat):Int)-1-((0:Nat):Int)))) (sel ((e:Int) != 0) true (sel ((((n:Nat):Int):Int)==0) true (sel ((b:Int) != 51) true (sel ((((k:Nat):Int):Int)==(((T:Nat):Int)-1-((0:Nat):Int))) (sel ((e:Int) != 9) true false) false)))) (sel ((((k:Nat):Int):Int)==(((T:Nat):Int)-1-((0:Nat):Int))) (sel ((e:Int) != 9) true false) false))=false:=by
 by_cases h:k+1<T
 ·have h1:decide ((((k:Nat):Int):Int)<(((T:Nat):Int)-1-((0:Nat):Int)))=true:=decide_eq_true (by omega)
  have h2:((((T-k:Nat):Int)-1:Int)==0)=false:=by rw [beq_eq_false_iff_ne];omega
  have h3:((((k:Nat):Int):Int)==(((T:Nat):Int)-1-((0:Nat):Int)))=false:=by rw [beq_eq_false_iff_ne];omega
  obtain ⟨n1,rfl⟩:=hn h2
  have h4:((((n:Nat):Int):Int)==0)=false:=by rw [beq_eq_false_iff_ne];omega
  rw [he,h1,h2,h3,h4,aD,aA,aA,aA]
  rfl
 ·have h1:decide ((((k:Nat):Int):Int)<(((T:Nat):Int)-1-((0:Nat):Int)))=false:=decide_eq_false (by omega)
  have h2:((((T-k:Nat):Int)-1:Int)==0)=true:=by rw [beq_iff_eq];omega
  have h3:((((k:Nat):Int):Int)==(((T:Nat):Int)-1-((0:Nat):Int)))=true:=by rw [beq_iff_eq];omega
  rw [he,h1,h2,h3,aA,aD,aD]
  rfl
theorem qy (p0 p1:Int) {k:Nat} (hk:k<m20 p0+1):aI p0 p1 k=false:=by
 have hm:=mD p0
 unfold aI du eB
 rw [sN]
 generalize hT:m20 p0+1=T at *
 have e:=rN (T:=T) (by omega) ⟨#[]⟩ k (by omega)
 show sel ((((k % 2:Nat):Int):Int)==1) _ _=false
 simp only [e]
 generalize ((((k % 2:Nat):Int):Int)==1)=c
 have d:=ot (x:=((T-k:Nat):Int)) (by omega) (by omega)
 cases c
 ·rw [aA]
  refine ou hk ?_ ?_
  ·have:=tJ ((T-k:Nat):Int);rw [d] at this;exact this
  ·intro h;have:=sg ((T-k:Nat):Int) (by rw [d];exact h);exact this
 ·rw [aD]
  refine ou hk ?_ ?_
  ·have:=uT ((T-k:Nat):Int);rw [d] at this;exact this
  ·intro h;have:=rc ((T-k:Nat):Int) (by rw [d];exact h);exact this
theorem tC:aY (gA (⟨#[]⟩:ByteArray) false) (⟨#[]⟩:ByteArray)=true:=by kernel_rfl
theorem tries_true (p0 p1:Int):bG p0 p1=true:=by
 have hm:=mD p0
 have e0:az (([]:List Int).length) ([]:List Int) (((m20 p0)+1:Nat):Int) false false (aC (bm (⟨#[97,110,110]⟩:ByteArray)) (aM (⟨#[97,110,110]⟩:ByteArray)) 0 (aM (⟨#[97,110,110]⟩:ByteArray)))=3:=sX _
 have e1:cw p0 p1=(((0:Nat):Int),true,⟨#[]⟩,false):=by
  unfold cw
  rw [sN]
  have:=rN (T:=m20 p0+1) (by omega) ⟨#[]⟩ (m20 p0+1) (Nat.le_refl _)
  rw [Nat.sub_self] at this
  exact this
 have f0:dH (bN p0) (m20 p1)=m20 p1:=fR fun j _=>rO p0 j
 have f1:dH (aI p0 p1) (m20 p0+1)=m20 p0+1:=fR fun j hj=>qy p0 p1 hj
 unfold bG
 rw [uh,e0,f0,f1,fM,fM,e1,Bool.not_true,aA,show (((3:Int)) != 3)=false from rfl,aA,aA,aA]
 exact tC
end Go.Vm
end
