/- A part of a proof (pack3): the small machine that walks the program, the walks of its functions, and what they compute in plain. -/
import Derived.Test.YtcomenlmambmfaaGreatDoorWab
import Derived.Test.YtcomenlmambmfaaGreatDoorChecked
set_option maxHeartbeats 2000000
set_option maxRecDepth 4000
set_option linter.unusedVariables false
set_option linter.unusedSimpArgs false
noncomputable section
namespace Go.Vm
open Go Go.Proofs
def oP (p0:Int) (p1:Int):List Int :=
 (F20 (F30 p0) (F25 (F30 p1)))
def vV:List AV→List Blk→Option (Prop × Ret)
 |[.sc (.i .u32 p0),.sc (.i .u32 p1)],[]=>some (True,⟨.ints .u64 5 (oP p0 p1),[]⟩)
 |_,_=>none
theorem vr:Known Tryz.prog gD 101 ⟨0,0,vV⟩:=by
 refine Xw Tryz.f101 11 (Zv K30 48 1 <|Zv K30 80 1 <|Zv K25 96 1 <|Zv K20 112 2 <|Zn) mixed <|fun E args ks C r h hC hlen=>?_
 simp only at h
 unfold vV at h
 split at h
 rotate_left
 cases h
 rename_i p0 p1
 cases h
 simp only [bB] at hlen
 refine ⟨rfl,?_⟩
 exact Xt [Ep 4 16] [] [Mk 16 .u64 5 [0,0,0,0,0]] [] 32 (v1 pT) <|Xt [] [0,1] [Mk 16 .u64 5 (F20 (F30 p0) (F25 (F30 p1)))] [16] 144 (v1 (pu pz (v1 (pu pz (pu pz (pu pz (pu (Yz 5) pT))))))) <|Xz [] pz
def bR:List Int :=
 (F18 (F30 0) (oP 121665 121666))
def vm:List AV→List Blk→Option (Prop × Ret)
 |[],[]=>some (True,⟨.ints .u64 5 (bR),[]⟩)
 |_,_=>none
theorem uq:Known Tryz.prog gD 104 ⟨0,0,vm⟩:=by
 refine Xw Tryz.f104 4 (Zv vr 48 2 <|Zv K30 32 1 <|Zv K18 64 2 <|Zn) mixed <|fun E args ks C r h hC hlen=>?_
 simp only at h
 unfold vm at h
 split at h
 rotate_left
 cases h
 cases h
 simp only [bB] at hlen
 refine ⟨rfl,?_⟩
 exact Xt [Ep 0 16] [] [Mk 16 .u64 5 [0,0,0,0,0]] [] 32 (v1 pT) <|Xt [] [] [Mk 16 .u64 5 (F18 (F30 0) (oP 121665 121666))] [16] 96 (pu pz (pu pz (pu pz (pu (Yz 5) pT)))) <|Xz [] pz
def ez (p0:List Int):List Int :=
 (sel (!(ge p0)) [0,0,0,0,0,0,0,0,0,0,0,0,0,0,0,0,0,0,0,0] (sel (((iOr .u8 ((F33 (F23 p0)).getD 31 0) (ai .u8 (p0.getD 31 0) 128)):Int) != p0.getD 31 0) [0,0,0,0,0,0,0,0,0,0,0,0,0,0,0,0,0,0,0,0] (sel (!(aP (aC (((F33 (F23 p0)).drop 0).take 31)) (aC ((p0.drop 0).take 31)))) [0,0,0,0,0,0,0,0,0,0,0,0,0,0,0,0,0,0,0,0] (sel (!(np (F20 (F18 (F20 (F23 p0) (F23 p0)) (F30 1)) (F25 (F16 (F20 (F20 (F23 p0) (F23 p0)) (bR)) (F30 1)))))) [0,0,0,0,0,0,0,0,0,0,0,0,0,0,0,0,0,0,0,0] (sel (F29 (F34 (F20 (F18 (F20 (F23 p0) (F23 p0)) (F30 1)) (F25 (F16 (F20 (F20 (F23 p0) (F23 p0)) (bR)) (F30 1))))) (F30 0)) (sel (decide ((p0.getD 31 0:Int) ≥ 128)) [0,0,0,0,0,0,0,0,0,0,0,0,0,0,0,0,0,0,0,0] (aT (aT (aT (aT [0,0,0,0,0,0,0,0,0,0,0,0,0,0,0,0,0,0,0,0] 0 (sel (!((F32 (F34 (F20 (F18 (F20 (F23 p0) (F23 p0)) (F30 1)) (F25 (F16 (F20 (F20 (F23 p0) (F23 p0)) (bR)) (F30 1))))))==(decide ((p0.getD 31 0:Int) ≥ 128)))) (F18 (F30 0) (F34 (F20 (F18 (F20 (F23 p0) (F23 p0)) (F30 1)) (F25 (F16 (F20 (F20 (F23 p0) (F23 p0)) (bR)) (F30 1)))))) (F34 (F20 (F18 (F20 (F23 p0) (F23 p0)) (F30 1)) (F25 (F16 (F20 (F20 (F23 p0) (F23 p0)) (bR)) (F30 1))))))) 5 (F23 p0)) 10 (F30 1)) 15 (F20 (sel (!((F32 (F34 (F20 (F18 (F20 (F23 p0) (F23 p0)) (F30 1)) (F25 (F16 (F20 (F20 (F23 p0) (F23 p0)) (bR)) (F30 1))))))==(decide ((p0.getD 31 0:Int) ≥ 128)))) (F18 (F30 0) (F34 (F20 (F18 (F20 (F23 p0) (F23 p0)) (F30 1)) (F25 (F16 (F20 (F20 (F23 p0) (F23 p0)) (bR)) (F30 1)))))) (F34 (F20 (F18 (F20 (F23 p0) (F23 p0)) (F30 1)) (F25 (F16 (F20 (F20 (F23 p0) (F23 p0)) (bR)) (F30 1)))))) (F23 p0)))) (aT (aT (aT (aT [0,0,0,0,0,0,0,0,0,0,0,0,0,0,0,0,0,0,0,0] 0 (sel (!((F32 (F34 (F20 (F18 (F20 (F23 p0) (F23 p0)) (F30 1)) (F25 (F16 (F20 (F20 (F23 p0) (F23 p0)) (bR)) (F30 1))))))==(decide ((p0.getD 31 0:Int) ≥ 128)))) (F18 (F30 0) (F34 (F20 (F18 (F20 (F23 p0) (F23 p0)) (F30 1)) (F25 (F16 (F20 (F20 (F23 p0) (F23 p0)) (bR)) (F30 1)))))) (F34 (F20 (F18 (F20 (F23 p0) (F23 p0)) (F30 1)) (F25 (F16 (F20 (F20 (F23 p0) (F23 p0)) (bR)) (F30 1))))))) 5 (F23 p0)) 10 (F30 1)) 15 (F20 (sel (!((F32 (F34 (F20 (F18 (F20 (F23 p0) (F23 p0)) (F30 1)) (F25 (F16 (F20 (F20 (F23 p0) (F23 p0)) (bR)) (F30 1))))))==(decide ((p0.getD 31 0:Int) ≥ 128)))) (F18 (F30 0) (F34 (F20 (F18 (F20 (F23 p0) (F23 p0)) (F30 1)) (F25 (F16 (F20 (F20 (F23 p0) (F23 p0)) (bR)) (F30 1)))))) (F34 (F20 (F18 (F20 (F23 p0) (F23 p0)) (F30 1)) (F25 (F16 (F20 (F20 (F23 p0) (F23 p0)) (bR)) (F30 1)))))) (F23 p0))))))))
def eb (p0:List Int):Bool :=
 (sel (!(ge p0)) false (sel (((iOr .u8 ((F33 (F23 p0)).getD 31 0) (ai .u8 (p0.getD 31 0) 128)):Int) != p0.getD 31 0) false (sel (!(aP (aC (((F33 (F23 p0)).drop 0).take 31)) (aC ((p0.drop 0).take 31)))) false (sel (!(np (F20 (F18 (F20 (F23 p0) (F23 p0)) (F30 1)) (F25 (F16 (F20 (F20 (F23 p0) (F23 p0)) (bR)) (F30 1)))))) false (sel (F29 (F34 (F20 (F18 (F20 (F23 p0) (F23 p0)) (F30 1)) (F25 (F16 (F20 (F20 (F23 p0) (F23 p0)) (bR)) (F30 1))))) (F30 0)) (sel (decide ((p0.getD 31 0:Int) ≥ 128)) false true) true)))))
def uw:List AV→List Blk→Option (Prop × Ret)
 |[.sc (.ro .u8 p0)],[]=>some (True,⟨.tup [.ints .u64 20 (ez p0),.sc (.b (eb p0))],[]⟩)
 |_,_=>none
def wK:KL Tryz.prog gD:=Zv K33 224 1 <|Zv uq 720 0 <|Zv K16 768 2 <|Zv K30 672 1 <|Zv K30 752 1 <|Zv K30 1072 1 <|Zv K30 1232 1 <|Zv K30 1328 1 <|Zv K25 784 1 <|Zv K20 608 2 <|Zv K20 736 2 <|Zv K20 800 2 <|Zv K20 1376 2 <|Zv K32 1184 1 <|Zv K18 688 2 <|Zv K18 1264 2 <|Zc K23 64 [.ro .u8] [] [] <|Zv K34 816 1 <|Zv K29 1088 2 <|Zn
theorem wB:Known Tryz.prog gD 103 ⟨0,0,uw⟩:=by
 refine Xw Tryz.f103 87 wK mixed <|fun E args ks C r h hC hlen=>?_
 simp only at h
 unfold uw at h
 split at h
 rotate_left
 cases h
 rename_i p0
 cases h
 simp only [bB] at hlen
 refine ⟨rfl,?_⟩
 refine Xt [Ep 2 16] [] [Mk 16 .u64 20 [0,0,0,0,0,0,0,0,0,0,0,0,0,0,0,0,0,0,0,0]] [] 48 (v2 pT) <|Xt [Eb 5 (ge p0),Ep 4 128] [] [Mk 128 .u64 5 (F23 p0)] [] 176 (v1 (pu (pa pz pT) (v4 (pu (Yz 5) (v1 pT))))) <|Tri.seq <|Xs [Eb 17 (!(ge p0))] [5] 208 (v2 pT) <|Xa (fun h1=>?_) (fun h1=>?_)
 exact Xt [Eb 3 false] [17,4,0] [] [128] 256 (v1 (pu (Yz 20) (v1 pT))) <|Xy [] (pa pT pz) (by simp only [ez,eb,h1,aF,aD] <;> rfl)
 refine Tri.skip <|Xt [Ep 6 240] [17] [Mi 240 32 (F33 (F23 p0))] [] 272 (v1 (pu pz (v1 (pu (Yz 32) pT)))) <|Tri.seq <|Tri.split (((iOr .u8 ((F33 (F23 p0)).getD 31 0) (ai .u8 (p0.getD 31 0) 128)):Int) != p0.getD 31 0) (fun h2=>?_) (fun h2=>?_)
 have h2':=bY h2
 refine Xu [Eb 32 true] (some [0,1,0,4,12,28,63,0,128,384,1023,2047,4095,8191,4095,20479,53247,131071,262143]) [Eb 39 true] [6] [] [240] 576 (pu (Yi 31 32) (pu (Yl 31 32) (v1 (pu (pl (show (0:Int)≤31∧31<(p0.length:Int) from by (have hl:=et (p0:=p0) (by assumption);omega))) (pu (pl (show 31<p0.length from by (have hl:=et (p0:=p0) (by assumption);omega))) (v3 (pu (pl (show (0:Int)≤31∧31<(p0.length:Int) from by (have hl:=et (p0:=p0) (by assumption);omega))) (pu (pl (show 31<p0.length from by (have hl:=et (p0:=p0) (by assumption);omega))) (v1 (pg h2 (v7 pT))))))))))) ?_
 exact Tri.cond_true (by kernel_rfl) <|Xt [Eb 3 false] [39,4,0] [] [128] 624 (v1 (pu (Yz 20) (v1 pT))) <|Xy [] (pa pT pz) (by simp only [ez,eb,h1,h2,aF,aD] <;> rfl)
 have h2':=bJ h2
 refine Xu [Eb 32 false] (some [0,1,0,4,12,28,63,0,128,384,1023,2047,4095,8191,4095,20479,53247,131071,262143]) [Eb 39 (!(aP (aC (((F33 (F23 p0)).drop 0).take 31)) (aC ((p0.drop 0).take 31))))] [6] [] [240] 576 (pu (Yi 31 32) (pu (Yl 31 32) (v1 (pu (pl (show (0:Int)≤31∧31<(p0.length:Int) from by (have hl:=et (p0:=p0) (by assumption);omega))) (pu (pl (show 31<p0.length from by (have hl:=et (p0:=p0) (by assumption);omega))) (v3 (pu (pl (show (0:Int)≤31∧31<(p0.length:Int) from by (have hl:=et (p0:=p0) (by assumption);omega))) (pu (pl (show 31<p0.length from by (have hl:=et (p0:=p0) (by assumption);omega))) (v1 (pg h2 (pu (pa (lo ((0:Int)≤0∧(0:Int)≤31∧31≤((32:Nat):Int))) (Ye 32 32)) (pu (Ye (0+31) 32) (v1 (pu (pl (show (0:Int)≤0∧(0:Int)≤31∧31≤(p0.length:Int) from by (have hl:=et (p0:=p0) (by assumption);omega))) (v3 pT))))))))))))))) ?_
 refine Xa (fun h3=>?_) (fun h3=>?_)
 exact Xt [Eb 3 false] [39,4,0] [] [128] 624 (v1 (pu (Yz 20) (v1 pT))) <|Xy [] (pa pT pz) (by simp only [ez,eb,h1,h2,h3,aF,aD] <;> rfl)
 refine Tri.skip <|Xt [Ep 7 624] [39] [Mk 624 .u64 5 (F20 (F23 p0) (F23 p0))] [] 656 (v2 (pu pz (v1 (pu (Yz 5) pT)))) <|Xu [] (some [0,0,3,0,7,31,63,127,255,511,1023,2047,4095,4095,0,24575,65535]) [Eb 9 (np (F20 (F18 (F20 (F23 p0) (F23 p0)) (F30 1)) (F25 (F16 (F20 (F20 (F23 p0) (F23 p0)) (bR)) (F30 1))))),Ep 8 880] [7] [Mk 880 .u64 5 (F34 (F20 (F18 (F20 (F23 p0) (F23 p0)) (F30 1)) (F25 (F16 (F20 (F20 (F23 p0) (F23 p0)) (bR)) (F30 1)))))] [624] 928 (v1 (pu pz (pu pz (v1 (pu pz (pu pz (pu pz (pu pz (pu pz (pu pz (pu pz (v4 (pu (Yz 5) (v1 pT)))))))))))))) <|Xs [Eb 10 (decide ((p0.getD 31 0:Int) ≥ 128))] [0] 1008 (v1 (pu (pl (show (0:Int)≤31∧31<(p0.length:Int) from by (have hl:=et (p0:=p0) (by assumption);omega))) (pu (pl (show 31<p0.length from by (have hl:=et (p0:=p0) (by assumption);omega))) (v2 pT)))) ?_
 refine Tri.seq <|Tri.split (!(np (F20 (F18 (F20 (F23 p0) (F23 p0)) (F30 1)) (F25 (F16 (F20 (F20 (F23 p0) (F23 p0)) (bR)) (F30 1)))))) (fun h4=>?_) (fun h4=>?_)
 exact Xu [Eb 64 true] (some [0,1,3,7,7,31,63,127,255,511]) [Eb 71 true] [9] [] [] 1168 (v2 (pg h4 (v7 pT))) <|Tri.cond_true (by kernel_rfl) <|Xt [Eb 3 false] [71,10,8,4] [] [880,128] 1216 (v1 (pu (Yz 20) (v1 pT))) <|Xy [] (pa pT pz) (by simp only [ez,eb,h1,h2,h3,h4,aF,aD] <;> rfl)
 refine Tri.split (F29 (F34 (F20 (F18 (F20 (F23 p0) (F23 p0)) (F30 1)) (F25 (F16 (F20 (F20 (F23 p0) (F23 p0)) (bR)) (F30 1))))) (F30 0)) (fun h5=>?_) (fun h5=>?_)
 refine Xu [Eb 64 false,Eb 68 true] (some [0,1,3,7,7,31,63,127,255,511]) [Eb 71 (decide ((p0.getD 31 0:Int) ≥ 128))] [9] [] [] 1168 (v2 (pg h4 (v1 (pu pz (pu pz (pg h5 (v3 pT))))))) <|Xb (fun h6 h6'=>?_) (fun h6 h6'=>?_)
 exact Xt [Eb 3 false] [71,10,8,4] [] [880,128] 1216 (v1 (pu (Yz 20) (v1 pT))) <|Xy [] (pa pT pz) (by simp only [ez,eb,h1,h2,h3,h4,h5,h6,aF,aD] <;> rfl)
 refine Tri.skip <|Tri.seq <|Xs [Eb 76 (!((F32 (F34 (F20 (F18 (F20 (F23 p0) (F23 p0)) (F30 1)) (F25 (F16 (F20 (F20 (F23 p0) (F23 p0)) (bR)) (F30 1))))))==(decide ((p0.getD 31 0:Int) ≥ 128))))] [71,10] 1232 (v1 (pu pz (v2 pT))) <|Xj (x:=(!((F32 (F34 (F20 (F18 (F20 (F23 p0) (F23 p0)) (F30 1)) (F25 (F16 (F20 (F20 (F23 p0) (F23 p0)) (bR)) (F30 1))))))==(decide ((p0.getD 31 0:Int) ≥ 128))))) (fun bb=>[]) [76] (fun bb=>[Mk 880 .u64 5 (sel bb (F18 (F30 0) (F34 (F20 (F18 (F20 (F23 p0) (F23 p0)) (F30 1)) (F25 (F16 (F20 (F20 (F23 p0) (F23 p0)) (bR)) (F30 1)))))) (F34 (F20 (F18 (F20 (F23 p0) (F23 p0)) (F30 1)) (F25 (F16 (F20 (F20 (F23 p0) (F23 p0)) (bR)) (F30 1))))))]) [880] 1296 (fun h7=>?_) (fun h7=>?_) ?_
 exact Wu [] (some [0,0,3,7]) [] [76] [Mk 880 .u64 5 (F18 (F30 0) (F34 (F20 (F18 (F20 (F23 p0) (F23 p0)) (F30 1)) (F25 (F16 (F20 (F20 (F23 p0) (F23 p0)) (bR)) (F30 1))))))] [880] 1296 (pu pz (v1 (pu pz (pu (Yz 5) pT)))) <|Xe [] [Mk 880 .u64 5 (F18 (F30 0) (F34 (F20 (F18 (F20 (F23 p0) (F23 p0)) (F30 1)) (F25 (F16 (F20 (F20 (F23 p0) (F23 p0)) (bR)) (F30 1))))))]
 exact Tri.skip <|Xe [] [Mk 880 .u64 5 (F34 (F20 (F18 (F20 (F23 p0) (F23 p0)) (F30 1)) (F25 (F16 (F20 (F20 (F23 p0) (F23 p0)) (bR)) (F30 1)))))]
 exact Xu [] (some [0,0,0,0,0,28,63,127,255]) [Eb 3 true] [8,4] [Mk 16 .u64 20 (aT (aT (aT (aT [0,0,0,0,0,0,0,0,0,0,0,0,0,0,0,0,0,0,0,0] 0 (sel (!((F32 (F34 (F20 (F18 (F20 (F23 p0) (F23 p0)) (F30 1)) (F25 (F16 (F20 (F20 (F23 p0) (F23 p0)) (bR)) (F30 1))))))==(decide ((p0.getD 31 0:Int) ≥ 128)))) (F18 (F30 0) (F34 (F20 (F18 (F20 (F23 p0) (F23 p0)) (F30 1)) (F25 (F16 (F20 (F20 (F23 p0) (F23 p0)) (bR)) (F30 1)))))) (F34 (F20 (F18 (F20 (F23 p0) (F23 p0)) (F30 1)) (F25 (F16 (F20 (F20 (F23 p0) (F23 p0)) (bR)) (F30 1))))))) 5 (F23 p0)) 10 (F30 1)) 15 (F20 (sel (!((F32 (F34 (F20 (F18 (F20 (F23 p0) (F23 p0)) (F30 1)) (F25 (F16 (F20 (F20 (F23 p0) (F23 p0)) (bR)) (F30 1))))))==(decide ((p0.getD 31 0:Int) ≥ 128)))) (F18 (F30 0) (F34 (F20 (F18 (F20 (F23 p0) (F23 p0)) (F30 1)) (F25 (F16 (F20 (F20 (F23 p0) (F23 p0)) (bR)) (F30 1)))))) (F34 (F20 (F18 (F20 (F23 p0) (F23 p0)) (F30 1)) (F25 (F16 (F20 (F20 (F23 p0) (F23 p0)) (bR)) (F30 1)))))) (F23 p0)))] [880,128,16] 1440 (v2 (pu pz (v2 (pu pz (pu (pa (pa (Ye (0+5) 20) (Yr 5)) (pa (pa (Ye (5+5) 20) (Yr 5)) (pa (pa (Ye (10+5) 20) (Yr 5)) (pa (pa (Ye (15+5) 20) (Yr 5)) pT)))) (pu (Yz 20) (v1 pT))))))) <|Xy (r':=⟨.tup [.ints .u64 20 (aT (aT (aT (aT [0,0,0,0,0,0,0,0,0,0,0,0,0,0,0,0,0,0,0,0] 0 (sel (!((F32 (F34 (F20 (F18 (F20 (F23 p0) (F23 p0)) (F30 1)) (F25 (F16 (F20 (F20 (F23 p0) (F23 p0)) (bR)) (F30 1))))))==(decide ((p0.getD 31 0:Int) ≥ 128)))) (F18 (F30 0) (F34 (F20 (F18 (F20 (F23 p0) (F23 p0)) (F30 1)) (F25 (F16 (F20 (F20 (F23 p0) (F23 p0)) (bR)) (F30 1)))))) (F34 (F20 (F18 (F20 (F23 p0) (F23 p0)) (F30 1)) (F25 (F16 (F20 (F20 (F23 p0) (F23 p0)) (bR)) (F30 1))))))) 5 (F23 p0)) 10 (F30 1)) 15 (F20 (sel (!((F32 (F34 (F20 (F18 (F20 (F23 p0) (F23 p0)) (F30 1)) (F25 (F16 (F20 (F20 (F23 p0) (F23 p0)) (bR)) (F30 1))))))==(decide ((p0.getD 31 0:Int) ≥ 128)))) (F18 (F30 0) (F34 (F20 (F18 (F20 (F23 p0) (F23 p0)) (F30 1)) (F25 (F16 (F20 (F20 (F23 p0) (F23 p0)) (bR)) (F30 1)))))) (F34 (F20 (F18 (F20 (F23 p0) (F23 p0)) (F30 1)) (F25 (F16 (F20 (F20 (F23 p0) (F23 p0)) (bR)) (F30 1)))))) (F23 p0))),.sc (.b true)],[]⟩) [] (pa pT pz) (by simp only [ez,eb,h1,h2,h3,h4,h5,h6,aF,aD])
 refine Xu [Eb 64 false,Eb 68 false] (some [0,1,3,7,7,31,63,127,255,511]) [Eb 71 false] [9] [] [] 1168 (v2 (pg h4 (v1 (pu pz (pu pz (pg h5 (v3 pT))))))) <|Tri.cond_false (by kernel_rfl) <|Tri.skip <|Tri.seq <|Xs [Eb 76 (!((F32 (F34 (F20 (F18 (F20 (F23 p0) (F23 p0)) (F30 1)) (F25 (F16 (F20 (F20 (F23 p0) (F23 p0)) (bR)) (F30 1))))))==(decide ((p0.getD 31 0:Int) ≥ 128))))] [71,10] 1232 (v1 (pu pz (v2 pT))) <|Xj (x:=(!((F32 (F34 (F20 (F18 (F20 (F23 p0) (F23 p0)) (F30 1)) (F25 (F16 (F20 (F20 (F23 p0) (F23 p0)) (bR)) (F30 1))))))==(decide ((p0.getD 31 0:Int) ≥ 128))))) (fun bb=>[]) [76] (fun bb=>[Mk 880 .u64 5 (sel bb (F18 (F30 0) (F34 (F20 (F18 (F20 (F23 p0) (F23 p0)) (F30 1)) (F25 (F16 (F20 (F20 (F23 p0) (F23 p0)) (bR)) (F30 1)))))) (F34 (F20 (F18 (F20 (F23 p0) (F23 p0)) (F30 1)) (F25 (F16 (F20 (F20 (F23 p0) (F23 p0)) (bR)) (F30 1))))))]) [880] 1296 (fun h8=>?_) (fun h8=>?_) ?_
 exact Wu [] (some [0,0,3,7]) [] [76] [Mk 880 .u64 5 (F18 (F30 0) (F34 (F20 (F18 (F20 (F23 p0) (F23 p0)) (F30 1)) (F25 (F16 (F20 (F20 (F23 p0) (F23 p0)) (bR)) (F30 1))))))] [880] 1296 (pu pz (v1 (pu pz (pu (Yz 5) pT)))) <|Xe [] [Mk 880 .u64 5 (F18 (F30 0) (F34 (F20 (F18 (F20 (F23 p0) (F23 p0)) (F30 1)) (F25 (F16 (F20 (F20 (F23 p0) (F23 p0)) (bR)) (F30 1))))))]
 exact Tri.skip <|Xe [] [Mk 880 .u64 5 (F34 (F20 (F18 (F20 (F23 p0) (F23 p0)) (F30 1)) (F25 (F16 (F20 (F20 (F23 p0) (F23 p0)) (bR)) (F30 1)))))]
 exact Xu [] (some [0,0,0,0,0,28,63,127,255]) [Eb 3 true] [8,4] [Mk 16 .u64 20 (aT (aT (aT (aT [0,0,0,0,0,0,0,0,0,0,0,0,0,0,0,0,0,0,0,0] 0 (sel (!((F32 (F34 (F20 (F18 (F20 (F23 p0) (F23 p0)) (F30 1)) (F25 (F16 (F20 (F20 (F23 p0) (F23 p0)) (bR)) (F30 1))))))==(decide ((p0.getD 31 0:Int) ≥ 128)))) (F18 (F30 0) (F34 (F20 (F18 (F20 (F23 p0) (F23 p0)) (F30 1)) (F25 (F16 (F20 (F20 (F23 p0) (F23 p0)) (bR)) (F30 1)))))) (F34 (F20 (F18 (F20 (F23 p0) (F23 p0)) (F30 1)) (F25 (F16 (F20 (F20 (F23 p0) (F23 p0)) (bR)) (F30 1))))))) 5 (F23 p0)) 10 (F30 1)) 15 (F20 (sel (!((F32 (F34 (F20 (F18 (F20 (F23 p0) (F23 p0)) (F30 1)) (F25 (F16 (F20 (F20 (F23 p0) (F23 p0)) (bR)) (F30 1))))))==(decide ((p0.getD 31 0:Int) ≥ 128)))) (F18 (F30 0) (F34 (F20 (F18 (F20 (F23 p0) (F23 p0)) (F30 1)) (F25 (F16 (F20 (F20 (F23 p0) (F23 p0)) (bR)) (F30 1)))))) (F34 (F20 (F18 (F20 (F23 p0) (F23 p0)) (F30 1)) (F25 (F16 (F20 (F20 (F23 p0) (F23 p0)) (bR)) (F30 1)))))) (F23 p0)))] [880,128,16] 1440 (v2 (pu pz (v2 (pu pz (pu (pa (pa (Ye (0+5) 20) (Yr 5)) (pa (pa (Ye (5+5) 20) (Yr 5)) (pa (pa (Ye (10+5) 20) (Yr 5)) (pa (pa (Ye (15+5) 20) (Yr 5)) pT)))) (pu (Yz 20) (v1 pT))))))) <|Xy [] (pa pT pz) (by simp only [ez,eb,h1,h2,h3,h4,h5,aF,aD] <;> rfl)
theorem jP {p0:List Int} (h:(!(eb p0))=false):p0.length=32:=by
 unfold eb at h
 cases hb:(!(ge p0))
 ·exact et hb
 ·rw [hb,aF] at h
  cases h
def uZ (p0:List Int):List Int :=
 (sel (F32 (F20 ((p0.drop 0).take 5) (F25 ((p0.drop 10).take 5)))) ((F33 (F20 ((p0.drop 5).take 5) (F25 ((p0.drop 10).take 5)))).set 31 (iOr .u8 ((F33 (F20 ((p0.drop 5).take 5) (F25 ((p0.drop 10).take 5)))).getD 31 0) 128)) (F33 (F20 ((p0.drop 5).take 5) (F25 ((p0.drop 10).take 5)))))
def vJ:List AV→List Blk→Option (Prop × Ret)
 |[.ints .u64 20 p0],[]=>some (True,⟨.sc (.sl 0 0 32 1 (some 32)),[some (.ints .u8 32 (uZ p0))]⟩)
 |_,_=>none
theorem we:Known Tryz.prog gD 63 ⟨0,1,vJ⟩:=by
 refine Xw Tryz.f63 23 (Zv K33 192 1 <|Zv K25 80 1 <|Zv K20 176 2 <|Zv K20 288 2 <|Zv K32 304 1 <|Zn) mixed <|fun E args ks C r h hC hlen=>?_
 simp only at h
 unfold vJ at h
 split at h
 rotate_left
 cases h
 rename_i p0
 cases h
 simp only [bB] at hlen
 refine ⟨rfl,?_⟩
 refine Xt [Ep 1 16] [0] [Mk 16 .u64 20 p0] [] 48 (v2 pT) <|Xt [Ep 3 96] [] [Mk 96 .u64 5 (F25 ((p0.drop 10).take 5))] [] 128 (v1 (pu (Ye (10+5) 20) (pu pz (v1 (pu (Yz 5) pT))))) <|Xt [Ep 4 208] [] [Mi 208 32 (F33 (F20 ((p0.drop 5).take 5) (F25 ((p0.drop 10).take 5))))] [] 240 (v1 (pu (Ye (5+5) 20) (v1 (pu pz (pu pz (v1 (pu (Yz 32) pT))))))) <|Tri.seq <|Xt [Eb 17 (F32 (F20 ((p0.drop 0).take 5) (F25 ((p0.drop 10).take 5))))] [3,1] [] [96,16] 320 (v1 (pu (Ye (0+5) 20) (v1 (pu pz (pu pz pT))))) <|Xj (x:=(F32 (F20 ((p0.drop 0).take 5) (F25 ((p0.drop 10).take 5))))) (fun bb=>[]) [17] (fun bb=>[Mi 208 32 (sel bb ((F33 (F20 ((p0.drop 5).take 5) (F25 ((p0.drop 10).take 5)))).set 31 (iOr .u8 ((F33 (F20 ((p0.drop 5).take 5) (F25 ((p0.drop 10).take 5)))).getD 31 0) 128)) (F33 (F20 ((p0.drop 5).take 5) (F25 ((p0.drop 10).take 5)))))]) [208] 400 (fun h1=>?_) (fun h1=>?_) ?_
 exact Wt [] [17] [Mi 208 32 ((F33 (F20 ((p0.drop 5).take 5) (F25 ((p0.drop 10).take 5)))).set 31 (iOr .u8 ((F33 (F20 ((p0.drop 5).take 5) (F25 ((p0.drop 10).take 5)))).getD 31 0) 128))] [208] 400 (pu (Yi 31 32) (pu (Yl 31 32) (v1 (pu (Yi 31 32) (pu (Ys 31 32) pT))))) <|Xe [] [Mi 208 32 ((F33 (F20 ((p0.drop 5).take 5) (F25 ((p0.drop 10).take 5)))).set 31 (iOr .u8 ((F33 (F20 ((p0.drop 5).take 5) (F25 ((p0.drop 10).take 5)))).getD 31 0) 128))]
 exact Tri.skip <|Xe [] [Mi 208 32 (F33 (F20 ((p0.drop 5).take 5) (F25 ((p0.drop 10).take 5))))]
 exact Xs [(2,.sc (.sl 208 0 32 1 (some 32)))] [4] 432 (pu (pa (lo ((0:Int)≤0∧(0:Int)≤32∧32≤((32:Nat):Int))) (Ye 32 32)) (v1 pT)) <|Xz [(208,0)] pz
def gu (p0:List Int) (p1:List Int) (p2:List Int):List Int :=
 aT (aT (aT (aT [0,0,0,0,0,0,0,0,0,0,0,0,0,0,0,0,0,0,0,0] 0 (F20 (F18 (F20 (F16 ((p0.drop 5).take 5) ((p0.drop 0).take 5)) (F16 ((p1.drop 5).take 5) ((p1.drop 0).take 5))) (F20 (F18 ((p0.drop 5).take 5) ((p0.drop 0).take 5)) (F18 ((p1.drop 5).take 5) ((p1.drop 0).take 5)))) (F18 (F16 (F20 ((p0.drop 10).take 5) ((p1.drop 10).take 5)) (F20 ((p0.drop 10).take 5) ((p1.drop 10).take 5))) (F20 (F20 ((p0.drop 15).take 5) ((p1.drop 15).take 5)) p2)))) 5 (F20 (F16 (F16 (F20 ((p0.drop 10).take 5) ((p1.drop 10).take 5)) (F20 ((p0.drop 10).take 5) ((p1.drop 10).take 5))) (F20 (F20 ((p0.drop 15).take 5) ((p1.drop 15).take 5)) p2)) (F16 (F20 (F16 ((p0.drop 5).take 5) ((p0.drop 0).take 5)) (F16 ((p1.drop 5).take 5) ((p1.drop 0).take 5))) (F20 (F18 ((p0.drop 5).take 5) ((p0.drop 0).take 5)) (F18 ((p1.drop 5).take 5) ((p1.drop 0).take 5)))))) 10 (F20 (F18 (F16 (F20 ((p0.drop 10).take 5) ((p1.drop 10).take 5)) (F20 ((p0.drop 10).take 5) ((p1.drop 10).take 5))) (F20 (F20 ((p0.drop 15).take 5) ((p1.drop 15).take 5)) p2)) (F16 (F16 (F20 ((p0.drop 10).take 5) ((p1.drop 10).take 5)) (F20 ((p0.drop 10).take 5) ((p1.drop 10).take 5))) (F20 (F20 ((p0.drop 15).take 5) ((p1.drop 15).take 5)) p2)))) 15 (F20 (F18 (F20 (F16 ((p0.drop 5).take 5) ((p0.drop 0).take 5)) (F16 ((p1.drop 5).take 5) ((p1.drop 0).take 5))) (F20 (F18 ((p0.drop 5).take 5) ((p0.drop 0).take 5)) (F18 ((p1.drop 5).take 5) ((p1.drop 0).take 5)))) (F16 (F20 (F16 ((p0.drop 5).take 5) ((p0.drop 0).take 5)) (F16 ((p1.drop 5).take 5) ((p1.drop 0).take 5))) (F20 (F18 ((p0.drop 5).take 5) ((p0.drop 0).take 5)) (F18 ((p1.drop 5).take 5) ((p1.drop 0).take 5)))))
def vt:List AV→List Blk→Option (Prop × Ret)
 |[.ints .u64 20 p0,.ints .u64 20 p1,.ints .u64 5 p2],[]=>some (True,⟨.ints .u64 20 (gu p0 p1 p2),[]⟩)
 |_,_=>none
def wL:KL Tryz.prog gD:=Zv K16 320 2 <|Zv K16 400 2 <|Zv K16 784 2 <|Zv K16 944 2 <|Zv K16 992 2 <|Zv K20 240 2 <|Zv K20 416 2 <|Zv K20 560 2 <|Zv K20 592 2 <|Zv K20 672 2 <|Zv K20 1168 2 <|Zv K20 1216 2 <|Zv K20 1264 2 <|Zv K20 1312 2 <|Zv K18 144 2 <|Zv K18 224 2 <|Zv K18 848 2 <|Zv K18 896 2 <|Zn
theorem uT:Known Tryz.prog gD 107 ⟨0,0,vt⟩:=by
 refine Xw Tryz.f107 77 wL mixed <|fun E args ks C r h hC hlen=>?_
 simp only at h
 unfold vt at h
 split at h
 rotate_left
 cases h
 rename_i p0 p1 p2
 cases h
 simp only [bB] at hlen
 refine ⟨rfl,?_⟩
 exact Xt [Ep 6 64,Ep 5 48,Ep 4 32,Ep 3 16] [0,1,2] [Mk 64 .u64 20 [0,0,0,0,0,0,0,0,0,0,0,0,0,0,0,0,0,0,0,0],Mk 48 .u64 5 p2,Mk 32 .u64 20 p1,Mk 16 .u64 20 p0] [] 80 (v4 pT) <|Xu [] (some [0,1,0,4,15,0,32,0,128,511,1023,0,2048,0,8192,32767,0,65536,0,262144,1048575,2097151,0,0,16777215,33554431]) [Ep 8 448,Ep 7 432] [] [Mk 448 .u64 5 (F20 (F16 ((p0.drop 5).take 5) ((p0.drop 0).take 5)) (F16 ((p1.drop 5).take 5) ((p1.drop 0).take 5))),Mk 432 .u64 5 (F20 (F18 ((p0.drop 5).take 5) ((p0.drop 0).take 5)) (F18 ((p1.drop 5).take 5) ((p1.drop 0).take 5)))] [] 496 (v1 (pu (Ye (5+5) 20) (v1 (pu (Ye (0+5) 20) (pu pz (v1 (pu (Ye (5+5) 20) (v1 (pu (Ye (0+5) 20) (pu pz (pu pz (v1 (pu (Ye (5+5) 20) (v1 (pu (Ye (0+5) 20) (pu pz (v1 (pu (Ye (5+5) 20) (v1 (pu (Ye (0+5) 20) (pu pz (pu pz (v2 (pu (Yz 5) (pu (Yz 5) pT))))))))))))))))))))))))) <|Xu [] (some [0,1,0,4,15,0,63,0,128,0,512,2047,0,0,16383,32767]) [Ep 10 704,Ep 9 688] [5,4,3] [Mk 704 .u64 5 (F20 ((p0.drop 10).take 5) ((p1.drop 10).take 5)),Mk 688 .u64 5 (F20 (F20 ((p0.drop 15).take 5) ((p1.drop 15).take 5)) p2)] [48,32,16] 752 (v1 (pu (Ye (15+5) 20) (v1 (pu (Ye (15+5) 20) (pu pz (v1 (pu pz (v1 (pu (Ye (10+5) 20) (v1 (pu (Ye (10+5) 20) (pu pz (v2 (pu (Yz 5) (pu (Yz 5) pT))))))))))))))) <|Xt [] [] [Mk 704 .u64 5 (F16 (F20 ((p0.drop 10).take 5) ((p1.drop 10).take 5)) (F20 ((p0.drop 10).take 5) ((p1.drop 10).take 5)))] [704] 816 (v2 (pu pz (pu (Yz 5) pT))) <|Xu [] (some [0,0,3,0,0,31,0,0,255,0,0,2047,0,0,0,0,65535,131071,262143,524287]) [Ep 14 1056,Ep 13 1040,Ep 12 1024,Ep 11 1008] [10,9,8,7] [Mk 1056 .u64 5 (F16 (F20 (F16 ((p0.drop 5).take 5) ((p0.drop 0).take 5)) (F16 ((p1.drop 5).take 5) ((p1.drop 0).take 5))) (F20 (F18 ((p0.drop 5).take 5) ((p0.drop 0).take 5)) (F18 ((p1.drop 5).take 5) ((p1.drop 0).take 5)))),Mk 1040 .u64 5 (F16 (F16 (F20 ((p0.drop 10).take 5) ((p1.drop 10).take 5)) (F20 ((p0.drop 10).take 5) ((p1.drop 10).take 5))) (F20 (F20 ((p0.drop 15).take 5) ((p1.drop 15).take 5)) p2)),Mk 1024 .u64 5 (F18 (F16 (F20 ((p0.drop 10).take 5) ((p1.drop 10).take 5)) (F20 ((p0.drop 10).take 5) ((p1.drop 10).take 5))) (F20 (F20 ((p0.drop 15).take 5) ((p1.drop 15).take 5)) p2)),Mk 1008 .u64 5 (F18 (F20 (F16 ((p0.drop 5).take 5) ((p0.drop 0).take 5)) (F16 ((p1.drop 5).take 5) ((p1.drop 0).take 5))) (F20 (F18 ((p0.drop 5).take 5) ((p0.drop 0).take 5)) (F18 ((p1.drop 5).take 5) ((p1.drop 0).take 5))))] [704,688,448,432] 1136 (v2 (pu pz (v2 (pu pz (v2 (pu pz (v2 (pu pz (v4 (pu (Yz 5) (pu (Yz 5) (pu (Yz 5) (pu (Yz 5) pT))))))))))))) <|Xu [] (some [0,0,3,0,0,31,0,0,255,0,0,2047,4095,8191]) [] [14,13,12,11] [Mk 64 .u64 20 (aT (aT (aT (aT [0,0,0,0,0,0,0,0,0,0,0,0,0,0,0,0,0,0,0,0] 0 (F20 (F18 (F20 (F16 ((p0.drop 5).take 5) ((p0.drop 0).take 5)) (F16 ((p1.drop 5).take 5) ((p1.drop 0).take 5))) (F20 (F18 ((p0.drop 5).take 5) ((p0.drop 0).take 5)) (F18 ((p1.drop 5).take 5) ((p1.drop 0).take 5)))) (F18 (F16 (F20 ((p0.drop 10).take 5) ((p1.drop 10).take 5)) (F20 ((p0.drop 10).take 5) ((p1.drop 10).take 5))) (F20 (F20 ((p0.drop 15).take 5) ((p1.drop 15).take 5)) p2)))) 5 (F20 (F16 (F16 (F20 ((p0.drop 10).take 5) ((p1.drop 10).take 5)) (F20 ((p0.drop 10).take 5) ((p1.drop 10).take 5))) (F20 (F20 ((p0.drop 15).take 5) ((p1.drop 15).take 5)) p2)) (F16 (F20 (F16 ((p0.drop 5).take 5) ((p0.drop 0).take 5)) (F16 ((p1.drop 5).take 5) ((p1.drop 0).take 5))) (F20 (F18 ((p0.drop 5).take 5) ((p0.drop 0).take 5)) (F18 ((p1.drop 5).take 5) ((p1.drop 0).take 5)))))) 10 (F20 (F18 (F16 (F20 ((p0.drop 10).take 5) ((p1.drop 10).take 5)) (F20 ((p0.drop 10).take 5) ((p1.drop 10).take 5))) (F20 (F20 ((p0.drop 15).take 5) ((p1.drop 15).take 5)) p2)) (F16 (F16 (F20 ((p0.drop 10).take 5) ((p1.drop 10).take 5)) (F20 ((p0.drop 10).take 5) ((p1.drop 10).take 5))) (F20 (F20 ((p0.drop 15).take 5) ((p1.drop 15).take 5)) p2)))) 15 (F20 (F18 (F20 (F16 ((p0.drop 5).take 5) ((p0.drop 0).take 5)) (F16 ((p1.drop 5).take 5) ((p1.drop 0).take 5))) (F20 (F18 ((p0.drop 5).take 5) ((p0.drop 0).take 5)) (F18 ((p1.drop 5).take 5) ((p1.drop 0).take 5)))) (F16 (F20 (F16 ((p0.drop 5).take 5) ((p0.drop 0).take 5)) (F16 ((p1.drop 5).take 5) ((p1.drop 0).take 5))) (F20 (F18 ((p0.drop 5).take 5) ((p0.drop 0).take 5)) (F18 ((p1.drop 5).take 5) ((p1.drop 0).take 5))))))] [1056,1040,1024,1008,64] 1360 (v2 (pu pz (v2 (pu pz (v2 (pu pz (v2 (pu pz (pu (pa (pa (Ye (0+5) 20) (Yr 5)) (pa (pa (Ye (5+5) 20) (Yr 5)) (pa (pa (Ye (10+5) 20) (Yr 5)) (pa (pa (Ye (15+5) 20) (Yr 5)) pT)))) (pu (Yz 20) pT)))))))))) <|Xz [] pz
def oV (p0:List Int) (p1:List Int) (k0:Nat) (z0:List Int):List Int :=
 (sel (((ai .u8 (ag .u8 (p1.getD (((8*p1.length)-1-k0)/8) 0) ((((8*p1.length)-1-k0) % 8:Nat):Int)) 1):Int)==1) (gu (gu z0 z0 (F16 (bR) (bR))) p0 (F16 (bR) (bR))) (gu z0 z0 (F16 (bR) (bR))))
def pN (p0:List Int) (p1:List Int):List Int :=
 (itr (oV p0 p1) (8*p1.length) (aT (aT [0,0,0,0,0,0,0,0,0,0,0,0,0,0,0,0,0,0,0,0] 5 (F30 1)) 10 (F30 1)))
def vL:List AV→List Blk→Option (Prop × Ret)
 |[.ints .u64 20 p0,.sc (.ro .u8 p1)],[]=>some ((p1.length≤1000000),⟨.ints .u64 20 (pN p0 p1),[]⟩)
 |_,_=>none
theorem vP:Known Tryz.prog gD 62 ⟨0,0,vL⟩:=by
 refine Xw Tryz.f62 42 (Zv uq 48 0 <|Zv K16 128 2 <|Zv K30 160 1 <|Zv K30 176 1 <|Zv uT 400 3 <|Zv uT 640 3 <|Zn) mixed <|fun E args ks C r h hC hlen=>?_
 simp only at h
 unfold vL at h
 split at h
 rotate_left
 cases h
 rename_i p0 p1
 cases h
 simp only [bB] at hlen
 refine ⟨rfl,?_⟩
 refine Xt [Ep 4 32,Ep 2 16] [0] [Mk 32 .u64 20 [0,0,0,0,0,0,0,0,0,0,0,0,0,0,0,0,0,0,0,0],Mk 16 .u64 20 p0] [] 48 (v2 pT) <|Xt [Ep 5 64] [] [Mk 64 .u64 5 (bR)] [] 96 (pu pz (v1 (pu (Yz 5) pT))) <|Xt [] [] [Mk 64 .u64 5 (F16 (bR) (bR))] [64] 160 (v2 (pu pz (pu (Yz 5) pT))) <|Xt [Ep 6 208] [] [Mk 208 .u64 20 (aT (aT [0,0,0,0,0,0,0,0,0,0,0,0,0,0,0,0,0,0,0,0] 5 (F30 1)) 10 (F30 1))] [] 240 (pu pz (pu pz (pu (pa (pa (Ye (5+5) 20) (Yr 5)) (pa (pa (Ye (10+5) 20) (Yr 5)) pT)) (v1 (pu (Yz 20) pT))))) <|Tri.seq <|Xu [Ej 17 (8*p1.length),Ei 18 (((8*p1.length:Nat):Int)-1-((0:Nat):Int))] none [Ei 7 (((8*p1.length:Nat):Int)-1-((0:Nat):Int))] [] [] [] 320 (v2 (pv pT (Yt 8 p1.length) (pv pT (pl (show (bS .i64 ((8*p1.length:Nat):Int) 1)=(((8*p1.length:Nat):Int)-1-((0:Nat):Int)) from ie (by omega))) (v1 pT)))) <|Tri.block <|Xc (8*p1.length) (oV p0 p1) (aT (aT [0,0,0,0,0,0,0,0,0,0,0,0,0,0,0,0,0,0,0,0] 5 (F30 1)) 10 (F30 1)) (fun k0 z0=>True) (fun k0 z0=>[Ei 7 (((8*p1.length:Nat):Int)-1-((k0:Nat):Int))]) (fun k0 z0=>[Mk 208 .u64 20 z0]) trivial <|fun k0 z0 hk0 hz0 hJ0=>Tri.seq <|Xs [Eb 20 (decide (((((8*p1.length:Nat):Int)-1-((k0:Nat):Int)):Int) ≥ 0))] [] 352 (v2 pT) <|Xb (fun h1 h1'=>?_) (fun h1 h1'=>?_)
 refine Tri.skip <|Tri.seq <|Tri.block <|Xt [] [20] [Mk 208 .u64 20 (gu z0 z0 (F16 (bR) (bR)))] [208] 432 (v3 (pu pz (pu (Yz 20) pT))) <|Xu [Ej 29 (((8*p1.length)-1-k0)/8),Ej 33 (((8*p1.length)-1-k0) % 8)] none [Eb 36 (((ai .u8 (ag .u8 (p1.getD (((8*p1.length)-1-k0)/8) 0) ((((8*p1.length)-1-k0) % 8:Nat):Int)) 1):Int)==1)] [] [] [] 592 (v2 (pv (Yn 8) (pl (show (oJ .i64 (((8*p1.length:Nat):Int)-1-((k0:Nat):Int)) 8)=((((8*p1.length)-1-k0)/8:Nat):Int) from by rw [iC (by omega)];exact cr (b:=8) (by omega))) (pu (Yj (((8*p1.length)-1-k0)/8) p1.length) (pu (Yl (((8*p1.length)-1-k0)/8) p1.length) (v1 (pv (Yn 8) (pl (show (bM (((8*p1.length:Nat):Int)-1-((k0:Nat):Int)) 8)=((((8*p1.length)-1-k0) % 8:Nat):Int) from by rw [iC (by omega)];exact cn (b:=8))) (pu (Y0 ((((8*p1.length)-1-k0) % 8:Nat):Int)) (v2 pT)))))))) ?_
 refine Xj (x:=(((ai .u8 (ag .u8 (p1.getD (((8*p1.length)-1-k0)/8) 0) ((((8*p1.length)-1-k0) % 8:Nat):Int)) 1):Int)==1)) (fun bb=>[]) [36] (fun bb=>[Mk 208 .u64 20 (sel bb (gu (gu z0 z0 (F16 (bR) (bR))) p0 (F16 (bR) (bR))) (gu z0 z0 (F16 (bR) (bR))))]) [208] 672 (fun h2=>?_) (fun h2=>?_) ?_
 have h2':=bn h2
 exact Wt [] [36] [Mk 208 .u64 20 (gu (gu z0 z0 (F16 (bR) (bR))) p0 (F16 (bR) (bR)))] [208] 672 (v3 (pu pz (pu (Yz 20) pT))) <|Xe [] [Mk 208 .u64 20 (gu (gu z0 z0 (F16 (bR) (bR))) p0 (F16 (bR) (bR)))]
 have h2':=bp h2
 exact Tri.skip <|Xe [] [Mk 208 .u64 20 (gu z0 z0 (F16 (bR) (bR)))]
 exact Wu [Ei 22 (((8*p1.length:Nat):Int)-1-((k0+1:Nat):Int))] none [Ei 7 (((8*p1.length:Nat):Int)-1-((k0+1:Nat):Int))] [7] [] [] 720 (v1 (pv pT (pl (show (bS .i64 (((8*p1.length:Nat):Int)-1-((k0:Nat):Int)) 1)=(((8*p1.length:Nat):Int)-1-((k0+1:Nat):Int)) from ju (by omega) (by omega))) (v1 pT))) <|Xo [] trivial
 refine Tri.exit <|?_
 obtain rfl:k0=(8*p1.length):=(by omega);subst hz0
 exact Xt [] [20,7,6,5,2,1] [Mk 32 .u64 20 (itr (oV p0 p1) (8*p1.length) (aT (aT [0,0,0,0,0,0,0,0,0,0,0,0,0,0,0,0,0,0,0,0] 5 (F30 1)) 10 (F30 1)))] [208,64,32,16] 384 (v1 (pu (Yz 20) pT)) <|Xz [] pz
def sx:List Int :=
 (ez (aA (F33 (oP 4 5)) 32 0 32))
def vN:List AV→List Blk→Option (Prop × Ret)
 |[],[]=>some (True,⟨.ints .u64 20 (sx),[]⟩)
 |_,_=>none
theorem wR:Known Tryz.prog gD 61 ⟨0,0,vN⟩:=by
 refine Xw Tryz.f61 12 (Zv vr 32 2 <|Zv K33 48 1 <|Zc wB 112 [.ro .u8] [64] [] <|Zn) mixed <|fun E args ks C r h hC hlen=>?_
 simp only at h
 unfold vN at h
 split at h
 rotate_left
 cases h
 cases h
 simp only [bB] at hlen
 refine ⟨rfl,?_⟩
 exact Xt [Ep 0 16] [] [Mk 16 .u64 20 [0,0,0,0,0,0,0,0,0,0,0,0,0,0,0,0,0,0,0,0]] [] 32 (v1 pT) <|Xt [Ep 1 64] [] [Mi 64 32 (F33 (oP 4 5))] [] 96 (pu pz (pu pz (v1 (pu (Yz 32) pT)))) <|Tri.len 64 rfl <|fun hl1=>Xt [Ep 2 176] [1] [Mk 176 .u64 20 (ez (aA (F33 (oP 4 5)) 32 0 32))] [64] 224 (pu (pa (lo ((0:Int)≤0∧(0:Int)≤32∧32≤((32:Nat):Int))) (Ye 32 32)) (pu (pa (pa (Yw 32) pT) pT) (v4 (pu (Yz 20) (v1 pT))))) <|Tri.len 176 rfl <|fun hl2=>Xt [] [2] [Mk 16 .u64 20 (ez (aA (F33 (oP 4 5)) 32 0 32))] [176,16] 256 (v1 (pu (Yz 20) pT)) <|Xz [] pz
theorem ll (x y c:Int):0≤fQ x y c∧fQ x y c≤1:=by unfold fQ;split <;> omega
theorem mL (x y c:Int):0≤je x y c∧je x y c<18446744073709551616:=rk _
theorem mH:rng oo:=eJ (by decide)
theorem kI:rng ((oo.drop 0).take 4):=mH
def pG (p0:List Int) (p1:List Int) (k0:Nat) (z0:Int):Int :=
 (fQ (p0.getD k0 0) (p1.getD k0 0) z0)
def oD (p0:List Int) (p1:List Int):Bool :=
 (((itr (pG p0 p1) 4 0):Int)==1)
def vF:List AV→List Blk→Option (Prop × Ret)
 |[.ints .u64 4 p0,.ints .u64 4 p1],[]=>some ((rng p0∧rng p1),⟨.sc (.b (oD p0 p1)),[]⟩)
 |_,_=>none
theorem vg:Known Tryz.prog gD 114 ⟨0,0,vF⟩:=by
 refine Xw Tryz.f114 24 (Zv vd 256 3 <|Zn) mixed <|fun E args ks C r h hC hlen=>?_
 simp only at h
 unfold vF at h
 split at h
 rotate_left
 cases h
 rename_i p0 p1
 cases h
 simp only [bB] at hlen
 have hf1:=hC.1
 have hf2:=hC.2
 refine ⟨rfl,?_⟩
 refine Xt [Ep 3 32,Ep 2 16] [0,1] [Mk 32 .u64 4 p1,Mk 16 .u64 4 p0] [] 64 (v3 pT) <|Xs [Ek 5 .u64 0] [] 80 (v1 pT) <|Tri.seq <|Xs [Ei 7 0] [] 96 (v1 pT) <|Tri.block <|Xc 4 (pG p0 p1) 0 (fun k0 z0=>0≤z0∧z0≤1) (fun k0 z0=>[Ej 7 k0,Ek 5 .u64 z0]) (fun k0 z0=>[]) (by omega) <|fun k0 z0 hk0 hz0 hJ0=>Xs [Eb 8 (decide ((((k0:Nat):Int):Int)<4))] [] 112 (v1 pT) <|Tri.seq <|Xb (fun h1 h1'=>?_) (fun h1 h1'=>?_)
 exact Tri.skip <|Tri.seq <|Tri.block <|Xs [Ej 6 k0] [8] 144 (v2 pT) <|Wu [] (some [0,1,3,0,8,24,0,127,255,511,511,2047]) [Ek 5 .u64 (fQ (p0.getD k0 0) (p1.getD k0 0) z0)] [6,5] [] [] 336 (v1 (pu (Yj k0 4) (pu (Yl k0 4) (v1 (pu (Yj k0 4) (pu (Yl k0 4) (v1 (pu (pa pT (pl (show ((0:Int)≤(p0.getD k0 0)∧((p0.getD k0 0):Int)<18446744073709551616)∧((0:Int)≤(p1.getD k0 0)∧((p1.getD k0 0):Int)<18446744073709551616)∧(0:Int)≤z0∧(z0:Int)≤1 from ⟨hf1 k0,hf2 k0,hJ0.1,hJ0.2⟩))) (v4 pT))))))))) <|Wu [Ej 21 (k0+1)] none [Ej 7 (k0+1)] [7] [] [] 368 (pv pT (Yp k0 1) (v1 pT)) <|Xo [] (ll _ _ _)
 refine Tri.exit <|?_
 obtain rfl:k0=4:=(by omega);subst hz0
 exact Xt [Eb 4 (((itr (pG p0 p1) 4 0):Int)==1)] [8,7,5,3,2] [] [32,16] 160 (v3 pT) <|Xz [] pz
def dj (k0:Nat) (z0:Int × List Int):Int × List Int :=
 ((ag .u64 (z0.2.getD k0 0) 63),z0.2.set k0 (iOr .u64 (dE .u64 (z0.2.getD k0 0) 1) z0.1))
def iz (k1:Nat) (z1:Int × List Int):Int × List Int :=
 ((fQ (z1.2.getD k1 0) (oo.getD (0+k1) 0) z1.1),z1.2.set k1 (je (z1.2.getD k1 0) (oo.getD (0+k1) 0) z1.1))
def sH (p0:List Int) (p1:Int):List Int :=
 (sel (!(oD ((itr (dj) 4 (p1,p0)).2) ((oo.drop 0).take 4))) ((itr (iz) 4 (0,(itr (dj) 4 (p1,p0)).2)).2) ((itr (dj) 4 (p1,p0)).2))
def uy:List AV→List Blk→Option (Prop × Ret)
 |[.ints .u64 4 p0,.sc (.i .u64 p1)],[]=>some ((rng p0),⟨.ints .u64 4 (sH p0 p1),[]⟩)
 |_,_=>none
theorem wS:Known Tryz.prog gD 111 ⟨0,0,uy⟩:=by
 refine Xw Tryz.f111 46 (Zv vg 112 2 <|Zv vd 352 3 <|Zn) mixed <|fun E args ks C r h hC hlen=>?_
 simp only at h
 unfold uy at h
 split at h
 rotate_left
 cases h
 rename_i p0 p1
 cases h
 simp only [bB] at hlen
 have hg:oo.length=4:=rfl
 refine ⟨rfl,?_⟩
 refine Xt [Ep 4 32,Ep 2 16] [0] [Mk 32 .u64 4 [0,0,0,0],Mk 16 .u64 4 p0] [] 48 (v2 pT) <|Tri.seq <|Xs [Ei 8 0] [] 64 (v1 pT) <|Tri.block <|Xc 4 (dj) (p1,p0) (fun k0 z0=>rng z0.2) (fun k0 z0=>[Ej 8 k0,Ek 1 .u64 z0.1]) (fun k0 z0=>[Mk 16 .u64 4 z0.2]) hC <|fun k0 z0 hk0 hz0 hJ0=>Xs [Eb 9 (decide ((((k0:Nat):Int):Int)<4))] [] 80 (v1 pT) <|Tri.seq <|Xb (fun h1 h1'=>?_) (fun h1 h1'=>?_)
 exact Tri.skip <|Tri.seq <|Tri.block <|Xs [Ej 5 k0] [9] 112 (v2 pT) <|Wu [] (some [0,0,2,6,14,0,62,0,128,384,896,1023,3071,8191]) [Ek 1 .u64 (ag .u64 (z0.2.getD k0 0) 63)] [5,1] [Mk 16 .u64 4 (z0.2.set k0 (iOr .u64 (dE .u64 (z0.2.getD k0 0) 1) z0.1))] [16] 336 (v2 (pu (Yj k0 4) (pu (Yl k0 4) (pu (Y0 1) (v3 (pu (Yj k0 4) (pu (Yl k0 4) (pu (Y0 63) (pu (Yj k0 4) (pu (Ys k0 4) (v1 pT))))))))))) <|Wu [Ej 23 (k0+1)] none [Ej 8 (k0+1)] [8] [] [] 368 (pv pT (Yp k0 1) (v1 pT)) <|Xo [] (show rng (List.set _ _ _) from fx hJ0 (eK _))
 refine Tri.exit <|?_
 obtain rfl:k0=4:=(by omega);subst hz0
 refine Tri.seq <|Xs [Eb 27 (!(oD ((itr (dj) 4 (p1,p0)).2) ((oo.drop 0).take 4)))] [9,8,1] 144 (v1 (pu (Ye (0+4) oo.length) (pu (pa pT (pl (show rng ((itr (dj) 4 (p1,p0)).2)∧rng ((oo.drop 0).take 4) from ⟨hJ0,kI⟩))) (v1 pT)))) <|Xj (x:=(!(oD ((itr (dj) 4 (p1,p0)).2) ((oo.drop 0).take 4)))) (fun bb=>[]) [27] (fun bb=>[Mk 32 .u64 4 [0,0,0,0],Mk 16 .u64 4 (sel bb ((itr (iz) 4 (0,(itr (dj) 4 (p1,p0)).2)).2) ((itr (dj) 4 (p1,p0)).2))]) [32,16] 192 (fun h2=>?_) (fun h2=>?_) ?_
 refine Xs [Ek 6 .u64 0] [27] 160 (v1 pT) <|Xs [Ei 28 0] [] 176 (v1 pT) <|Tri.block <|Xc 4 (iz) (0,(itr (dj) 4 (p1,p0)).2) (fun k1 z1=>rng z1.2∧0≤z1.1∧z1.1≤1) (fun k1 z1=>[Ej 28 k1,Ek 6 .u64 z1.1]) (fun k1 z1=>[Mk 16 .u64 4 z1.2]) (⟨hJ0,Int.le_refl 0,(show (0:Int)≤1 by decide)⟩) <|fun k1 z1 hk1 hz1 hJ1=>Xs [Eb 29 (decide ((((k1:Nat):Int):Int)<4))] [] 192 (v1 pT) <|Tri.seq <|Xb (fun h3 h3'=>?_) (fun h3 h3'=>?_)
 exact Tri.skip <|Tri.seq <|Tri.block <|Xs [Ej 7 k1] [29] 224 (v2 pT) <|Wu [] (some [0,0,2,6,0,16,48,0,254,510,1022,1022,2047,6143,16383]) [Ek 6 .u64 (fQ (z1.2.getD k1 0) (oo.getD (0+k1) 0) z1.1)] [7,6] [Mk 16 .u64 4 (z1.2.set k1 (je (z1.2.getD k1 0) (oo.getD (0+k1) 0) z1.1))] [16] 464 (v2 (pu (Yj k1 4) (pu (Yl k1 4) (v1 (pu (Yj k1 4) (pu (Yl (0+k1) oo.length) (v1 (pu (pa pT (pl (show ((0:Int)≤(z1.2.getD k1 0)∧((z1.2.getD k1 0):Int)<18446744073709551616)∧((0:Int)≤(oo.getD (0+k1) 0)∧((oo.getD (0+k1) 0):Int)<18446744073709551616)∧(0:Int)≤z1.1∧(z1.1:Int)≤1 from ⟨hJ1.1 _,mH _,hJ1.2⟩))) (v3 (pu (Yj k1 4) (pu (Ys k1 4) (v1 pT)))))))))))) <|Wu [Ej 44 (k1+1)] none [Ej 28 (k1+1)] [28] [] [] 496 (pv pT (Yp k1 1) (v1 pT)) <|Xo [] (show rng (List.set _ _ _)∧_∧_ from ⟨fx hJ1.1 (mL _ _ _),ll _ _ _⟩)
 refine Tri.exit <|?_
 obtain rfl:k1=4:=(by omega);subst hz1
 exact Xe [] [Mk 32 .u64 4 [0,0,0,0],Mk 16 .u64 4 ((itr (iz) 4 (0,(itr (dj) 4 (p1,p0)).2)).2)]
 exact Tri.skip <|Xe [] [Mk 32 .u64 4 [0,0,0,0],Mk 16 .u64 4 ((itr (dj) 4 (p1,p0)).2)]
 exact Xt [] [2] [Mk 32 .u64 4 (sel (!(oD ((itr (dj) 4 (p1,p0)).2) ((oo.drop 0).take 4))) ((itr (iz) 4 (0,(itr (dj) 4 (p1,p0)).2)).2) ((itr (dj) 4 (p1,p0)).2))] [32,16] 224 (v1 (pu (Yz 4) pT)) <|Xz [] pz
theorem ux {p0:List Int} (h:rng p0) (p1:Int):rng (sH p0 p1):=by
 have h0:∀ n z,rng z.2→rng (itr dj n z).2:=by
  intro n z hz
  induction n with
  |zero=>rw [bq];exact hz
  |succ n ih=>rw [bf];exact fx ih (eK _)
 have h1:∀ n z,rng z.2→rng (itr iz n z).2:=by
  intro n z hz
  induction n with
  |zero=>rw [bq];exact hz
  |succ n ih=>rw [bf];exact fx ih (mL _ _ _)
 unfold sH
 cases (!(oD ((itr (dj) 4 (p1,p0)).2) ((oo.drop 0).take 4)))
 ·exact h0 4 _ h
 ·exact h1 4 _ (h0 4 _ h)
theorem oF:rng [0,0,0,0]:=eJ (by decide)
def oT (p0:List Int) (k0:Nat) (z0:List Int):List Int :=
 (sH z0 (IntKind.wrap .u64 (ai .u8 (ag .u8 (p0.getD (((8*p0.length)-1-k0)/8) 0) ((((8*p0.length)-1-k0) % 8:Nat):Int)) 1)))
def qz (p0:List Int):List Int :=
 (itr (oT p0) (8*p0.length) [0,0,0,0])
def vY:List AV→List Blk→Option (Prop × Ret)
 |[.sc (.ro .u8 p0)],[]=>some ((p0.length≤1000000),⟨.ints .u64 4 (qz p0),[]⟩)
 |_,_=>none
theorem wY:Known Tryz.prog gD 65 ⟨0,0,vY⟩:=by
 refine Xw Tryz.f65 26 (Zv wS 336 2 <|Zn) mixed <|fun E args ks C r h hC hlen=>?_
 simp only at h
 unfold vY at h
 split at h
 rotate_left
 cases h
 rename_i p0
 cases h
 simp only [bB] at hlen
 refine ⟨rfl,?_⟩
 refine Xt [Ep 2 16] [] [Mk 16 .u64 4 [0,0,0,0]] [] 32 (v1 pT) <|Xt [Ep 3 32] [] [Mk 32 .u64 4 [0,0,0,0]] [] 48 (v1 pT) <|Tri.seq <|Xu [Ej 7 (8*p0.length),Ei 8 (((8*p0.length:Nat):Int)-1-((0:Nat):Int))] none [Ei 4 (((8*p0.length:Nat):Int)-1-((0:Nat):Int))] [] [] [] 128 (v2 (pv pT (Yt 8 p0.length) (pv pT (pl (show (bS .i64 ((8*p0.length:Nat):Int) 1)=(((8*p0.length:Nat):Int)-1-((0:Nat):Int)) from ie (by omega))) (v1 pT)))) <|Tri.block <|Xc (8*p0.length) (oT p0) [0,0,0,0] (fun k0 z0=>rng z0) (fun k0 z0=>[Ei 4 (((8*p0.length:Nat):Int)-1-((k0:Nat):Int))]) (fun k0 z0=>[Mk 32 .u64 4 z0]) oF <|fun k0 z0 hk0 hz0 hJ0=>Tri.seq <|Xs [Eb 10 (decide (((((8*p0.length:Nat):Int)-1-((k0:Nat):Int)):Int) ≥ 0))] [] 160 (v2 pT) <|Xb (fun h1 h1'=>?_) (fun h1 h1'=>?_)
 refine Tri.skip <|Tri.seq <|Tri.block <|Wu [Ej 16 (((8*p0.length)-1-k0)/8),Ej 20 (((8*p0.length)-1-k0) % 8)] (some [0,0,0,4,14,30,0,64,254,510,1022,2047,4095]) [] [10] [Mk 32 .u64 4 (sH z0 (IntKind.wrap .u64 (ai .u8 (ag .u8 (p0.getD (((8*p0.length)-1-k0)/8) 0) ((((8*p0.length)-1-k0) % 8:Nat):Int)) 1)))] [32] 368 (v3 (pv (Yn 8) (pl (show (oJ .i64 (((8*p0.length:Nat):Int)-1-((k0:Nat):Int)) 8)=((((8*p0.length)-1-k0)/8:Nat):Int) from by rw [iC (by omega)];exact cr (b:=8) (by omega))) (pu (Yj (((8*p0.length)-1-k0)/8) p0.length) (pu (Yl (((8*p0.length)-1-k0)/8) p0.length) (v1 (pv (Yn 8) (pl (show (bM (((8*p0.length:Nat):Int)-1-((k0:Nat):Int)) 8)=((((8*p0.length)-1-k0) % 8:Nat):Int) from by rw [iC (by omega)];exact cn (b:=8))) (pu (Y0 ((((8*p0.length)-1-k0) % 8:Nat):Int)) (v2 (pu (pa pT (pl hJ0)) (pu (Yz 4) pT)))))))))) ?_
 exact Wu [Ei 12 (((8*p0.length:Nat):Int)-1-((k0+1:Nat):Int))] none [Ei 4 (((8*p0.length:Nat):Int)-1-((k0+1:Nat):Int))] [4] [] [] 416 (v1 (pv pT (pl (show (bS .i64 (((8*p0.length:Nat):Int)-1-((k0:Nat):Int)) 1)=(((8*p0.length:Nat):Int)-1-((k0+1:Nat):Int)) from ju (by omega) (by omega))) (v1 pT))) <|Xo [] (ux hJ0 _)
 refine Tri.exit <|?_
 obtain rfl:k0=(8*p0.length):=(by omega);subst hz0
 exact Xt [] [10,4,3,0] [Mk 16 .u64 4 (itr (oT p0) (8*p0.length) [0,0,0,0])] [32,16] 192 (v1 (pu (Yz 4) pT)) <|Xz [] pz
def fe (p0:List Int) (k0:Nat) (k1:Nat) (z1:Nat × List Int):Nat × List Int :=
 (z1.1+1,z1.2++[(IntKind.wrap .u8 (ag .u64 (p0.getD k0 0) ((8*k1:Nat):Int)))])
def eV (p0:List Int) (k0:Nat) (z0:Nat × List Int):Nat × List Int :=
 ((itr (fe p0 k0) 8 (z0.1,z0.2)).1,(itr (fe p0 k0) 8 (z0.1,z0.2)).2)
def kO (p0:List Int):List Int :=
 (itr (eV p0) 4 (0,([]:List Int))).2
theorem wa (p0:List Int):(itr (eV p0) 4 (0,[])).1=32:=by
 have h1:∀ (j k:Nat) (z:Nat × List Int),(itr (fe p0 j) k z).1=z.1+k:=by
  intro j k z
  induction k with
  |zero=>rw [bq];rfl
  |succ k ih=>rw [bf];show (itr (fe p0 j) k z).1+1=_;rw [ih];omega
 have h0:∀ (k:Nat),(itr (eV p0) k (0,[])).1=8*k:=by
  intro k
  induction k with
  |zero=>rw [bq]
  |succ k ih=>rw [bf];show (itr (fe p0 k) 8 ((itr (eV p0) k (0,[])).1,(itr (eV p0) k (0,[])).2)).1=_;rw [h1,ih];show 8*k+8=_;omega
 rw [h0]
def vp:List AV→List Blk→Option (Prop × Ret)
 |[.ints .u64 4 p0],[]=>some (True,⟨.sc (.sl 0 0 32 1 none),[some (.ints .u8 32 (kO p0))]⟩)
 |_,_=>none
theorem vC:Known Tryz.prog gD 66 ⟨0,1,vp⟩:=by
 refine Xw Tryz.f66 25 Zn mixed <|fun E args ks C r h hC hlen=>?_
 simp only at h
 unfold vp at h
 split at h
 rotate_left
 cases h
 rename_i p0
 cases h
 simp only [bB] at hlen
 refine ⟨rfl,?_⟩
 refine Xt [Ep 1 16] [0] [Mk 16 .u64 4 p0] [] 48 (v2 pT) <|Xs [(3,.sc (.nils))] [] 64 (v1 pT) <|Tri.seq <|Xt [Ei 8 0,(7,.ints .u64 4 p0)] [1] [] [16] 96 (v2 pT) <|Tri.block <|Tri.sub (Sub.openNil (U:=96) (U':=112) 3 96 1 .u8 none (.inl rfl) (by decide) (by decide) (by kernel_rfl) (by kernel_rfl)) <|Xc 4 (eV p0) (0,([]:List Int)) (fun k0 z0=>z0.1=8*k0) (fun k0 z0=>[El 3 96 z0.1,Ej 8 k0]) (fun k0 z0=>[Mi 96 z0.1 z0.2]) rfl <|fun k0 z0 hk0 hz0 hJ0=>Xs [Eb 9 (decide ((((k0:Nat):Int):Int)<4))] [] 128 (v1 pT) <|Tri.seq <|Xb (fun h1 h1'=>?_) (fun h1 h1'=>?_)
 refine Tri.skip <|Tri.seq <|Tri.block <|Xs [Ek 5 .u64 (p0.getD k0 0)] [9] 160 (pu (pa (Yj k0 4) (Yl k0 4)) (v1 pT)) <|Xs [Ei 11 0] [] 176 (v1 pT) <|Tri.block <|Xc 8 (fe p0 k0) (z0.1,z0.2) (fun k1 z1=>z1.1=z0.1+1*k1∧z1.1=8*k0+k1) (fun k1 z1=>[Ej 11 k1,El 3 96 z1.1]) (fun k1 z1=>[Mi 96 z1.1 z1.2]) (⟨(by simp),hJ0⟩) <|fun k1 z1 hk1 hz1 hJ1=>Xs [Eb 12 (decide ((((k1:Nat):Int):Int)<8))] [] 192 (v1 pT) <|Tri.seq <|Xb (fun h2 h2'=>?_) (fun h2 h2'=>?_)
 exact Tri.skip <|Tri.seq <|Tri.block <|Xs [Ej 6 k1] [12] 224 (v2 pT) <|Wu [Ej 17 (8*k1)] none [El 3 336 (z1.1+1)] [6,3] [Mi 336 (z1.1+1) (z1.2++[(IntKind.wrap .u8 (ag .u64 (p0.getD k0 0) ((8*k1:Nat):Int)))])] [96] 368 (v3 (pv pT (Yt 8 k1) (pu (Y0 ((8*k1:Nat):Int)) (v1 (pu (Yf 1) (pu (Ya (Yw 1) 1 (z1.1+1) 1 1 z1.1 z1.1) (v1 pT))))))) <|Wu [Ej 22 (k1+1)] none [Ej 11 (k1+1)] [11] [] [] 400 (pv pT (Yp k1 1) (v1 pT)) <|Xo [(96,336)] (⟨(show z1.1+1=z0.1+1*(k1+1) by omega),(show z1.1+1=8*k0+(k1+1) by omega)⟩)
 refine Tri.exit <|?_
 obtain rfl:k1=8:=(by omega);subst hz1
 exact Wu [Ej 23 (k0+1)] none [Ej 8 (k0+1)] [12,11,5,8] [] [] 224 (pv pT (Yp k0 1) (v1 pT)) <|Xo [] (show (itr (fe p0 k0) 8 (z0.1,z0.2)).1=8*(k0+1) by omega)
 refine Tri.exit <|?_
 obtain rfl:k0=4:=(by omega);subst hz0
 exact Xs [El 2 96 ((itr (eV p0) 4 (0,([]:List Int))).1)] [9,3,8,7] 160 (v2 pT) <|Xy (r':=⟨.sc (.sl 0 0 ((itr (eV p0) 4 (0,([]:List Int))).1) 1 none),[some (.ints .u8 ((itr (eV p0) 4 (0,([]:List Int))).1) ((itr (eV p0) 4 (0,([]:List Int))).2))]⟩) [(96,0)] pz (by simp only [kO,wa,aF,aD])
theorem si (p0:List Int):(kO p0).length=32:=by
 have h1:∀ (j k:Nat) (z:Nat × List Int),(itr (fe p0 j) k z).2.length=z.2.length+k:=by
  intro j k z
  induction k with
  |zero=>rw [bq];rfl
  |succ k ih=>rw [bf];show ((itr (fe p0 j) k z).2++[_]).length=_;rw [List.length_append,ih];rfl
 have h0:∀ (k:Nat),(itr (eV p0) k (0,[])).2.length=8*k:=by
  intro k
  induction k with
  |zero=>rw [bq];rfl
  |succ k ih=>rw [bf];show (itr (fe p0 k) 8 ((itr (eV p0) k (0,[])).1,(itr (eV p0) k (0,[])).2)).2.length=_;rw [h1];show (itr (eV p0) k (0,[])).2.length+8=_;rw [ih];omega
 exact h0 4
def be (p:List (List Int)):Nat→Nat
 |0=>0
 |k+1=>be p k+(p.getD k []).length
theorem qQ (p:List (List Int)) {k n:Nat} (h:k≤n):be p k≤be p n:=by
 induction n with
 |zero=>rw [Nat.le_zero.1 h];exact Nat.le_refl _
 |succ n ih =>
  by_cases e:k=n+1
  ·rw [e];exact Nat.le_refl _
  ·exact Nat.le_trans (ih (by omega)) (Nat.le_add_right _ _)
theorem px {p:List (List Int)} {k z c:Nat} (hz:z=c+be p k) (hk:k<p.length):z+(p.getD k []).length≤c+be p p.length:=by
 have h:be p k+(p.getD k []).length≤be p p.length:=qQ p (show k+1≤p.length from hk)
 omega
def fN (p0:List (List Int)) (k0:Nat) (z0:Nat × List Int):Nat × List Int :=
 (z0.1+((p0.getD k0 []).length),z0.2++(p0.getD k0 []))
def ko (p0:List (List Int)):List Int :=
 (itr (fN p0) p0.length (0,([]:List Int))).2
theorem wT (p0:List (List Int)):(itr (fN p0) p0.length (0,[])).1=be p0 p0.length:=by
 have h0:∀ k,(itr (fN p0) k (0,[])).1=be p0 k:=by
  intro k
  induction k with
  |zero=>rw [bq];rfl
  |succ k ih=>rw [bf];show (itr (fN p0) k (0,[])).1+(p0.getD k []).length=be p0 k+(p0.getD k []).length;rw [ih]
 exact h0 _
def vo:List AV→List Blk→Option (Prop × Ret)
 |[.sc (.rob p0)],[]=>some ((be p0 p0.length≤100000∧p0.length≤100000),⟨.sc (.sl 0 0 (be p0 p0.length) 1 none),[some (.ints .u8 (be p0 p0.length) (ko p0))]⟩)
 |_,_=>none
theorem wb:Known Tryz.prog gD 64 ⟨0,1,vo⟩:=by
 refine Xw Tryz.f64 17 Zn mixed <|fun E args ks C r h hC hlen=>?_
 simp only at h
 unfold vo at h
 split at h
 rotate_left
 cases h
 rename_i p0
 cases h
 simp only [bB] at hlen
 refine ⟨rfl,?_⟩
 refine Xs [] [] 32 (v1 pT) <|Xs [(3,.sc (.nils))] [] 48 (v1 pT) <|Tri.seq <|Xs [Ei 8 0,Ej 7 p0.length,(6,.sc (.rob p0))] [0] 96 (v3 pT) <|Tri.block <|Tri.sub (Sub.openNil (U:=96) (U':=112) 3 96 1 .u8 none (.inl rfl) (by decide) (by decide) (by kernel_rfl) (by kernel_rfl)) <|Xc p0.length (fN p0) (0,([]:List Int)) (fun k0 z0=>z0.1=0+be p0 k0) (fun k0 z0=>[El 3 96 z0.1,Ej 8 k0]) (fun k0 z0=>[Mi 96 z0.1 z0.2]) rfl <|fun k0 z0 hk0 hz0 hJ0=>Xs [Eb 9 (decide ((((k0:Nat):Int):Int)<((p0.length:Nat):Int)))] [] 128 (v1 pT) <|Tri.seq <|Xb (fun h1 h1'=>?_) (fun h1 h1'=>?_)
 refine Tri.skip <|Tri.seq <|Tri.block <|Xs [Er 5 (p0.getD k0 [])] [9] 176 (pu (Yj k0 p0.length) (v2 pT)) <|Wt [El 3 208 (z0.1+((p0.getD k0 []).length))] [5,3] [Mi 208 (z0.1+((p0.getD k0 []).length)) (z0.2++(p0.getD k0 []))] [96] 240 (v2 (pu (pa (pa (pa (Yz 1) (pa (Yl 0 1) (pa (pl (show (z0.1+((p0.getD k0 []).length))*1≤140737488355328 from by (have hq:=px hJ0 (by omega);omega))) (pl (show z0.1+((p0.getD k0 []).length)≤140737488355328 from by (have hq:=px hJ0 (by omega);omega)))))) (lo ((p0.getD k0 []).length=((p0.getD k0 []).length)*1))) (pa (Yr 1) (lo (0+z0.1*1=z0.1)))) (v1 pT))) ?_
 exact Wu [Ej 15 (k0+1)] none [Ej 8 (k0+1)] [8] [] [] 272 (pv pT (Yp k0 1) (v1 pT)) <|Xo [(96,208)] (show z0.1+(p0.getD k0 []).length=0+(be p0 k0+(p0.getD k0 []).length) by omega)
 refine Tri.exit <|?_
 obtain rfl:k0=p0.length:=(by omega);subst hz0
 exact Xs [El 2 96 ((itr (fN p0) p0.length (0,([]:List Int))).1)] [9,3,8,7,6] 160 (v2 pT) <|Xy (r':=⟨.sc (.sl 0 0 ((itr (fN p0) p0.length (0,([]:List Int))).1) 1 none),[some (.ints .u8 ((itr (fN p0) p0.length (0,([]:List Int))).1) ((itr (fN p0) p0.length (0,([]:List Int))).2))]⟩) [(96,0)] pz (by simp only [ko,wT,aF,aD])
theorem ub (p0:List (List Int)):(ko p0).length=be p0 p0.length:=by
 have h0:∀ k,(itr (fN p0) k (0,[])).2.length=be p0 k:=by
  intro k
  induction k with
  |zero=>rw [bq];rfl
  |succ k ih=>rw [bf];show ((itr (fN p0) k (0,[])).2++p0.getD k []).length=be p0 k+(p0.getD k []).length;rw [List.length_append,ih]
 exact h0 _
end Go.Vm
namespace Go.Vm
open Go Go.Proofs
theorem lE {a b c:List Int} (h:a.length≤20000) (h':b.length≤20000) (h'':c.length≤20000):be [a,b,c] [a,b,c].length≤100000∧[a,b,c].length≤100000:=⟨(show 0+a.length+b.length+c.length≤100000 by omega),(show 3≤100000 by omega)⟩
theorem tR {X:List (List Int)} (h:be X X.length≤100000):(aA (ko X) (be X X.length) 0 (be X X.length)).length≤100000000:=bP (Nat.le_trans h (by decide)) (by rw [ub];exact Nat.le_trans h (by decide))
def gN (p2:List Int) (k0:Nat) (z0:List Int):List Int :=
 z0.set (k0/8) (iOr .u64 (z0.getD (k0/8) 0) (dE .u64 (IntKind.wrap .u64 (p2.getD (32+k0) 0)) ((8*(k0 % 8):Nat):Int)))
def qW (p0:List Int) (p1:List Int) (p2:List Int):Bool :=
 (sel ((((p2.length:Nat):Int):Int) != 64) false (sel (!(eb p0)) false (sel (!(oD (itr (gN p2) 32 [0,0,0,0]) ((oo.drop 0).take 4))) false (aP (aC (((uZ (gu (pN (sx) (aA (kO (itr (gN p2) 32 [0,0,0,0])) 32 0 32)) (pN (aT (aT (ez p0) 0 (F18 (F30 0) (((ez p0).drop 0).take 5))) 15 (F18 (F30 0) (((ez p0).drop 15).take 5))) (aA (kO (qz (aA (oc (aA (ko [(p2.drop 0).take 32,p0,p1]) (be [(p2.drop 0).take 32,p0,p1] [(p2.drop 0).take 32,p0,p1].length) 0 (be [(p2.drop 0).take 32,p0,p1] [(p2.drop 0).take 32,p0,p1].length))) 64 0 64))) 32 0 32)) (F16 (bR) (bR)))).drop 0).take 32)) (aC ((p2.drop 0).take 32))))))
def vy:List AV→List Blk→Option (Prop × Ret)
 |[.sc (.ro .u8 p0),.sc (.ro .u8 p1),.sc (.ro .u8 p2)],[]=>some ((p1.length≤10000),⟨.sc (.b (qW p0 p1 p2)),[]⟩)
 |_,_=>none
def wP:KL Tryz.prog gD:=Zc wH 480 [.ro .u8] [464] [] <|Zv wR 768 0 <|Zc vP 816 [.val,.ro .u8] [800] [] <|Zc vP 896 [.val,.ro .u8] [880] [] <|Zv we 1024 1 <|Zc wb 464 [.rob] [448] [] <|Zc wY 864 [.ro .u8] [496] [] <|Zv vC 800 1 <|Zv vC 880 1 <|Zc wB 96 [.ro .u8] [] [] <|Zv uq 720 0 <|Zv K16 944 2 <|Zv K30 528 1 <|Zv K30 592 1 <|Zv uT 960 3 <|Zv vg 336 2 <|Zv K18 576 2 <|Zv K18 640 2 <|Zn
theorem wQ:Known Tryz.prog gD 82 ⟨0,0,vy⟩:=by
 refine Xw Tryz.f82 88 wP mixed <|fun E args ks C r h hC hlen=>?_
 simp only at h
 unfold vy at h
 split at h
 rotate_left
 cases h
 rename_i p0 p1 p2
 cases h
 simp only [bB] at hlen
 refine ⟨rfl,?_⟩
 refine Xs [] [] 32 (v1 pT) <|Tri.seq <|Xs [Eb 16 ((((p2.length:Nat):Int):Int) != 64)] [] 80 (v3 pT) <|Xa (fun h1=>?_) (fun h1=>?_)
 have h1':=bY h1
 exact Xs [Eb 6 false] [16,0,1,2] 96 (v1 pT) <|Xy [] pz (by simp only [qW,h1,aF,aD] <;> rfl)
 have h1':=bJ h1
 refine Tri.skip <|Xt [Eb 8 (eb p0),Ep 7 160] [16] [Mk 160 .u64 20 (ez p0)] [] 208 (v1 (pu (pa pz pT) (v4 (pu (Yz 20) (v1 pT))))) <|Xt [Ep 9 208] [] [Mk 208 .u64 4 [0,0,0,0]] [] 224 (v1 pT) <|Tri.seq <|Xs [Ei 22 0] [] 240 (v1 pT) <|Tri.block <|Xc 32 (gN p2) [0,0,0,0] (fun k0 z0=>rng z0) (fun k0 z0=>[Ej 22 k0]) (fun k0 z0=>[Mk 208 .u64 4 z0]) oF <|fun k0 z0 hk0 hz0 hJ0=>Xs [Eb 23 (decide ((((k0:Nat):Int):Int)<32))] [] 256 (v1 pT) <|Tri.seq <|Xb (fun h2 h2'=>?_) (fun h2 h2'=>?_)
 exact Tri.skip <|Tri.seq <|Tri.block <|Xs [Ej 10 k0] [23] 288 (v2 pT) <|Wu [Ej 26 (k0/8),Ej 31 (32+k0),Ej 36 (k0 % 8),Ej 37 (8*(k0 % 8))] (some [0,1,3,7,0,0,32,112,240,496,0,1024,3072,8176,16383,32767,65535]) [] [10] [Mk 208 .u64 4 (z0.set (k0/8) (iOr .u64 (z0.getD (k0/8) 0) (dE .u64 (IntKind.wrap .u64 (p2.getD (32+k0) 0)) ((8*(k0 % 8):Nat):Int))))] [208] 560 (v1 (pv (Yn 8) (pl (cr (a:=k0) (b:=8) (by omega))) (pu (Yj (k0/8) 4) (pu (Yl (k0/8) 4) (v2 (pv pT (Yp 32 k0) (pu (Yj (32+k0) p2.length) (pu (Yl (32+k0) p2.length) (v2 (pv (Yn 8) (pl (cn (a:=k0) (b:=8))) (pv pT (Yt 8 (k0 % 8)) (pu (Y0 ((8*(k0 % 8):Nat):Int)) (v1 (pu (Yj (k0/8) 4) (pu (Ys (k0/8) 4) pT))))))))))))))) <|Wu [Ej 41 (k0+1)] none [Ej 22 (k0+1)] [22] [] [] 592 (pv pT (Yp k0 1) (v1 pT)) <|Xo [] (show rng (List.set _ _ _) from fx hJ0 (eK _))
 refine Tri.exit <|?_
 obtain rfl:k0=32:=(by omega);subst hz0
 refine Tri.seq <|Tri.split (!(eb p0)) (fun h3=>?_) (fun h3=>?_)
 exact Xu [Eb 44 true] none [Eb 49 true] [23,22,8] [] [] 384 (v2 (pg h3 (v5 pT))) <|Tri.cond_true (by kernel_rfl) <|Xt [Eb 6 false] [49,9,7,0,1,2] [] [208,160] 400 (v1 pT) <|Xy [] pz (by simp only [qW,h1,h3,aF,aD] <;> rfl)
 refine Xu [Eb 44 false] none [Eb 49 (!(oD (itr (gN p2) 32 [0,0,0,0]) ((oo.drop 0).take 4)))] [23,22,8] [] [] 384 (v2 (pg h3 (v1 (pu (Ye (0+4) oo.length) (pu (pa pT (pl (show rng (itr (gN p2) 32 [0,0,0,0])∧rng ((oo.drop 0).take 4) from ⟨hJ0,kI⟩))) (v2 pT)))))) <|Xa (fun h4=>?_) (fun h4=>?_)
 exact Xt [Eb 6 false] [49,9,7,0,1,2] [] [208,160] 400 (v1 pT) <|Xy [] pz (by simp only [qW,h1,h3,h4,aF,aD] <;> rfl)
 refine Tri.skip <|Tri.len 208 rfl <|fun hl5=>Tri.len 160 rfl <|fun hl6=>Xt [Ep 11 496] [49,0,1] [Mi 496 64 (oc (aA (ko [(p2.drop 0).take 32,p0,p1]) (be [(p2.drop 0).take 32,p0,p1] [(p2.drop 0).take 32,p0,p1].length) 0 (be [(p2.drop 0).take 32,p0,p1] [(p2.drop 0).take 32,p0,p1].length)))] [] 528 (v1 (pu (lo ((0:Int)≤0∧(0:Int)≤32∧32≤(p2.length:Int))) (v2 (pu (Yf 3) (pu (pa (pa (pa (ld (0+3≤3)) (pa pT (pa pT pz))) pT) (pl (show be [(p2.drop 0).take 32,p0,p1] [(p2.drop 0).take 32,p0,p1].length≤100000∧[(p2.drop 0).take 32,p0,p1].length≤100000 from by exact lE (by first|omega|(have hl:=jP (p0:=p0) (by assumption);omega)|exact bP (by omega) (by omega)|(rw [List.length_take];omega)) (by first|omega|(have hl:=jP (p0:=p0) (by assumption);omega)|exact bP (by omega) (by omega)|(rw [List.length_take];omega)) (by first|omega|(have hl:=jP (p0:=p0) (by assumption);omega)|exact bP (by omega) (by omega)|(rw [List.length_take];omega))))) (pu (pa (pa (Yw (be [(p2.drop 0).take 32,p0,p1] [(p2.drop 0).take 32,p0,p1].length)) pT) (pl (show (aA (ko [(p2.drop 0).take 32,p0,p1]) (be [(p2.drop 0).take 32,p0,p1] [(p2.drop 0).take 32,p0,p1].length) 0 (be [(p2.drop 0).take 32,p0,p1] [(p2.drop 0).take 32,p0,p1].length)).length≤100000000 from by exact tR (lE (by first|omega|(have hl:=jP (p0:=p0) (by assumption);omega)|exact bP (by omega) (by omega)|(rw [List.length_take];omega)) (by first|omega|(have hl:=jP (p0:=p0) (by assumption);omega)|exact bP (by omega) (by omega)|(rw [List.length_take];omega)) (by first|omega|(have hl:=jP (p0:=p0) (by assumption);omega)|exact bP (by omega) (by omega)|(rw [List.length_take];omega))).1))) (v1 (pu (Yz 64) pT)))))))) ?_
 refine Xu [] (some [0,0,2,7,15,0,32,127,111,511,1023,2047]) [] [] [Mk 160 .u64 20 (aT (aT (ez p0) 0 (F18 (F30 0) (((ez p0).drop 0).take 5))) 15 (F18 (F30 0) (((ez p0).drop 15).take 5)))] [160] 720 (pu pz (v1 (pu (Ye (0+5) 20) (pu pz (pu pz (v1 (pu (Ye (15+5) 20) (pu pz (v1 (pu (pa (Ye (0+5) 20) (Yr 5)) (v1 (pu (pa (Ye (15+5) 20) (Yr 5)) pT)))))))))))) <|Xt [Ep 12 736] [] [Mk 736 .u64 5 (bR)] [] 768 (pu pz (v1 (pu (Yz 5) pT))) <|Tri.len 736 rfl <|fun hl7=>Tri.len 160 rfl <|fun hl8=>Tri.len 496 rfl <|fun hl9=>Tri.len 208 rfl <|fun hl10=>Xu [] (some [0,0,3,7,0,0,47,111,255,0,0,2047,4095,0,16383]) [Ep 13 976] [12,11,9,7] [Mk 976 .u64 20 (gu (pN (sx) (aA (kO (itr (gN p2) 32 [0,0,0,0])) 32 0 32)) (pN (aT (aT (ez p0) 0 (F18 (F30 0) (((ez p0).drop 0).take 5))) 15 (F18 (F30 0) (((ez p0).drop 15).take 5))) (aA (kO (qz (aA (oc (aA (ko [(p2.drop 0).take 32,p0,p1]) (be [(p2.drop 0).take 32,p0,p1] [(p2.drop 0).take 32,p0,p1].length) 0 (be [(p2.drop 0).take 32,p0,p1] [(p2.drop 0).take 32,p0,p1].length))) 64 0 64))) 32 0 32)) (F16 (bR) (bR)))] [736,160,496,208] 1008 (pu pz (v1 (pu pz (pu (pa (pa (Yw 32) pT) (pl (show (aA (kO (itr (gN p2) 32 [0,0,0,0])) 32 0 32).length≤1000000 from by exact bP (by decide) (by rw [si];decide)))) (v1 (pu (pa (lo ((0:Int)≤0∧(0:Int)≤64∧64≤((64:Nat):Int))) (Ye 64 64)) (pu (pa (pa (Yw 64) pT) (Ye ((aA (oc (aA (ko [(p2.drop 0).take 32,p0,p1]) (be [(p2.drop 0).take 32,p0,p1] [(p2.drop 0).take 32,p0,p1].length) 0 (be [(p2.drop 0).take 32,p0,p1] [(p2.drop 0).take 32,p0,p1].length))) 64 0 64).length) 1000000)) (pu pz (pu (pa (pa (Yw 32) pT) (pl (show (aA (kO (qz (aA (oc (aA (ko [(p2.drop 0).take 32,p0,p1]) (be [(p2.drop 0).take 32,p0,p1] [(p2.drop 0).take 32,p0,p1].length) 0 (be [(p2.drop 0).take 32,p0,p1] [(p2.drop 0).take 32,p0,p1].length))) 64 0 64))) 32 0 32).length≤1000000 from by exact bP (by decide) (by rw [si];decide)))) (v2 (pu pz (pu pz (v1 (pu (Yz 20) pT)))))))))))))) ?_
 exact Tri.len 976 rfl <|fun hl11=>Xu [] (some [0,1,3,0,8,24,63,127]) [Eb 6 (aP (aC (((uZ (gu (pN (sx) (aA (kO (itr (gN p2) 32 [0,0,0,0])) 32 0 32)) (pN (aT (aT (ez p0) 0 (F18 (F30 0) (((ez p0).drop 0).take 5))) 15 (F18 (F30 0) (((ez p0).drop 15).take 5))) (aA (kO (qz (aA (oc (aA (ko [(p2.drop 0).take 32,p0,p1]) (be [(p2.drop 0).take 32,p0,p1] [(p2.drop 0).take 32,p0,p1].length) 0 (be [(p2.drop 0).take 32,p0,p1] [(p2.drop 0).take 32,p0,p1].length))) 64 0 64))) 32 0 32)) (F16 (bR) (bR)))).drop 0).take 32)) (aC ((p2.drop 0).take 32)))] [13,2] [] [976] 1136 (v1 (pu pz (pu (Yw 32) (v1 (pu (lo ((0:Int)≤0∧(0:Int)≤32∧32≤(p2.length:Int))) (v3 pT)))))) <|Xy [] pz (by simp only [qW,h1,h3,h4,aF,aD] <;> rfl)
end Go.Vm
namespace Go.Vm
open Go Go.Proofs
theorem nh (p:List Int) (o:Nat) (h:o+32≤64):(aA (dJ p) 64 o 32).length=32:=by
 rw [fg (mF p),List.length_take,List.length_drop,mF]
 omega
def cI (p0:List Int) (p1:List Int):List Int :=
 (F19 p0 p1)
def wE:List AV→List Blk→Option (Prop × Ret)
 |[.ints .i64 16 p0,.ints .i64 16 p1],[]=>some (True,⟨.ints .i64 16 (cI p0 p1),[]⟩)
 |_,_=>none
theorem tP:Known Tryz.prog gD 89 ⟨0,0,wE⟩:=by
 refine Xw Tryz.f89 8 (Zv K19 96 2 <|Zn) mixed <|fun E args ks C r h hC hlen=>?_
 simp only at h
 unfold wE at h
 split at h
 rotate_left
 cases h
 rename_i p0 p1
 cases h
 simp only [bB] at hlen
 refine ⟨rfl,?_⟩
 exact Xt [Ep 4 48,Ep 3 32,Ep 2 16] [0,1] [Mk 48 .i64 16 [0,0,0,0,0,0,0,0,0,0,0,0,0,0,0,0],Mk 32 .i64 16 p1,Mk 16 .i64 16 p0] [] 64 (v3 pT) <|Xt [] [3,2] [Mk 48 .i64 16 (F19 p0 p1)] [48,32,16] 128 (v2 (pu pz (pu (Yz 16) pT))) <|Xz [] pz
def ao (p0:Int):List Int :=
 (F31 p0)
def vW:List AV→List Blk→Option (Prop × Ret)
 |[.sc (.i .i64 p0)],[]=>some (True,⟨.ints .i64 16 (ao p0),[]⟩)
 |_,_=>none
theorem jr:Known Tryz.prog gD 90 ⟨0,0,vW⟩:=by
 refine Xw Tryz.f90 5 (Zv K31 48 1 <|Zn) mixed <|fun E args ks C r h hC hlen=>?_
 simp only at h
 unfold vW at h
 split at h
 rotate_left
 cases h
 rename_i p0
 cases h
 simp only [bB] at hlen
 refine ⟨rfl,?_⟩
 exact Xt [Ep 2 16] [] [Mk 16 .i64 16 [0,0,0,0,0,0,0,0,0,0,0,0,0,0,0,0]] [] 32 (v1 pT) <|Xt [] [0] [Mk 16 .i64 16 (F31 p0)] [16] 80 (v1 (pu pz (pu (Yz 16) pT))) <|Xz [] pz
def aL (p0:List Int) (p1:List Int):List Int :=
 (F21 p0 p1)
def vS:List AV→List Blk→Option (Prop × Ret)
 |[.ints .i64 16 p0,.ints .i64 16 p1],[]=>some (True,⟨.ints .i64 16 (aL p0 p1),[]⟩)
 |_,_=>none
theorem ft:Known Tryz.prog gD 95 ⟨0,0,vS⟩:=by
 refine Xw Tryz.f95 8 (Zv K21 96 2 <|Zn) mixed <|fun E args ks C r h hC hlen=>?_
 simp only at h
 unfold vS at h
 split at h
 rotate_left
 cases h
 rename_i p0 p1
 cases h
 simp only [bB] at hlen
 refine ⟨rfl,?_⟩
 exact Xt [Ep 4 48,Ep 3 32,Ep 2 16] [0,1] [Mk 48 .i64 16 [0,0,0,0,0,0,0,0,0,0,0,0,0,0,0,0],Mk 32 .i64 16 p1,Mk 16 .i64 16 p0] [] 64 (v3 pT) <|Xt [] [3,2] [Mk 48 .i64 16 (F21 p0 p1)] [48,32,16] 128 (v2 (pu pz (pu (Yz 16) pT))) <|Xz [] pz
def cZ (p0:List Int) (p1:List Int):List Int :=
 (F17 p0 p1)
def vM:List AV→List Blk→Option (Prop × Ret)
 |[.ints .i64 16 p0,.ints .i64 16 p1],[]=>some (True,⟨.ints .i64 16 (cZ p0 p1),[]⟩)
 |_,_=>none
theorem tQ:Known Tryz.prog gD 119 ⟨0,0,vM⟩:=by
 refine Xw Tryz.f119 8 (Zv K17 96 2 <|Zn) mixed <|fun E args ks C r h hC hlen=>?_
 simp only at h
 unfold vM at h
 split at h
 rotate_left
 cases h
 rename_i p0 p1
 cases h
 simp only [bB] at hlen
 refine ⟨rfl,?_⟩
 exact Xt [Ep 4 48,Ep 3 32,Ep 2 16] [0,1] [Mk 48 .i64 16 [0,0,0,0,0,0,0,0,0,0,0,0,0,0,0,0],Mk 32 .i64 16 p1,Mk 16 .i64 16 p0] [] 64 (v3 pT) <|Xt [] [3,2] [Mk 48 .i64 16 (F17 p0 p1)] [48,32,16] 128 (v2 (pu pz (pu (Yz 16) pT))) <|Xz [] pz
def cm:List Int :=
 (cI (ao 0) (aL (ao 121665) (F28 (ao 121666))))
def vc:List AV→List Blk→Option (Prop × Ret)
 |[],[]=>some (True,⟨.ints .i64 16 (cm),[]⟩)
 |_,_=>none
theorem vQ:Known Tryz.prog gD 92 ⟨0,0,vc⟩:=by
 refine Xw Tryz.f92 7 (Zv tP 112 2 <|Zv jr 32 1 <|Zv jr 48 1 <|Zv jr 64 1 <|Zv K28 80 1 <|Zv ft 96 2 <|Zn) mixed <|fun E args ks C r h hC hlen=>?_
 simp only at h
 unfold vc at h
 split at h
 rotate_left
 cases h
 cases h
 simp only [bB] at hlen
 refine ⟨rfl,?_⟩
 exact Xt [Ep 0 16] [] [Mk 16 .i64 16 [0,0,0,0,0,0,0,0,0,0,0,0,0,0,0,0]] [] 32 (v1 pT) <|Xt [] [] [Mk 16 .i64 16 (cI (ao 0) (aL (ao 121665) (F28 (ao 121666))))] [16] 144 (pu pz (pu pz (pu pz (pu pz (pu pz (pu pz (pu (Yz 16) pT))))))) <|Xz [] pz
def oX (p0:List Int) (p1:List Int) (p2:List Int):List Int :=
 aT (aT (aT [0,0,0,0,0,0,0,0,0,0,0,0,0,0,0,0,0,0,0,0,0,0,0,0,0,0,0,0,0,0,0,0,0,0,0,0,0,0,0,0,0,0,0,0,0,0,0,0] 0 (aL (aL (cZ (aL ((p0.drop 0).take 16) ((p1.drop 16).take 16)) (aL ((p1.drop 0).take 16) ((p0.drop 16).take 16))) (aL ((p0.drop 32).take 16) ((p1.drop 32).take 16))) (cI (aL (aL ((p0.drop 32).take 16) ((p1.drop 32).take 16)) (aL ((p0.drop 32).take 16) ((p1.drop 32).take 16))) (aL p2 (aL (aL ((p0.drop 0).take 16) ((p1.drop 0).take 16)) (aL ((p0.drop 16).take 16) ((p1.drop 16).take 16))))))) 16 (aL (aL (cZ (aL ((p0.drop 16).take 16) ((p1.drop 16).take 16)) (aL ((p0.drop 0).take 16) ((p1.drop 0).take 16))) (aL ((p0.drop 32).take 16) ((p1.drop 32).take 16))) (cZ (aL (aL ((p0.drop 32).take 16) ((p1.drop 32).take 16)) (aL ((p0.drop 32).take 16) ((p1.drop 32).take 16))) (aL p2 (aL (aL ((p0.drop 0).take 16) ((p1.drop 0).take 16)) (aL ((p0.drop 16).take 16) ((p1.drop 16).take 16))))))) 32 (aL (cZ (aL (aL ((p0.drop 32).take 16) ((p1.drop 32).take 16)) (aL ((p0.drop 32).take 16) ((p1.drop 32).take 16))) (aL p2 (aL (aL ((p0.drop 0).take 16) ((p1.drop 0).take 16)) (aL ((p0.drop 16).take 16) ((p1.drop 16).take 16))))) (cI (aL (aL ((p0.drop 32).take 16) ((p1.drop 32).take 16)) (aL ((p0.drop 32).take 16) ((p1.drop 32).take 16))) (aL p2 (aL (aL ((p0.drop 0).take 16) ((p1.drop 0).take 16)) (aL ((p0.drop 16).take 16) ((p1.drop 16).take 16))))))
def vU:List AV→List Blk→Option (Prop × Ret)
 |[.ints .i64 48 p0,.ints .i64 48 p1,.ints .i64 16 p2],[]=>some (True,⟨.ints .i64 48 (oX p0 p1 p2),[]⟩)
 |_,_=>none
def wV:KL Tryz.prog gD:=Zv tP 896 2 <|Zv ft 144 2 <|Zv ft 224 2 <|Zv ft 304 2 <|Zv ft 480 2 <|Zv ft 560 2 <|Zv ft 672 2 <|Zv ft 688 2 <|Zv ft 768 2 <|Zv ft 1008 2 <|Zv ft 1040 2 <|Zv ft 1120 2 <|Zv ft 1152 2 <|Zv ft 1200 2 <|Zv tQ 576 2 <|Zv tQ 848 2 <|Zv tQ 1088 2 <|Zn
theorem vv:Known Tryz.prog gD 91 ⟨0,0,vU⟩:=by
 refine Xw Tryz.f91 71 wV mixed <|fun E args ks C r h hC hlen=>?_
 simp only at h
 unfold vU at h
 split at h
 rotate_left
 cases h
 rename_i p0 p1 p2
 cases h
 simp only [bB] at hlen
 refine ⟨rfl,?_⟩
 exact Xt [Ep 6 64,Ep 5 48,Ep 4 32,Ep 3 16] [0,1,2] [Mk 64 .i64 48 [0,0,0,0,0,0,0,0,0,0,0,0,0,0,0,0,0,0,0,0,0,0,0,0,0,0,0,0,0,0,0,0,0,0,0,0,0,0,0,0,0,0,0,0,0,0,0,0],Mk 48 .i64 16 p2,Mk 32 .i64 48 p1,Mk 16 .i64 48 p0] [] 80 (v4 pT) <|Xu [] (some [0,1,0,4,15,0,32,0,128,511,0,1024,0,4096,16383,0,0,0,262143,524287,1048575]) [Ep 9 352,Ep 8 336,Ep 7 320] [] [Mk 352 .i64 16 (aL ((p0.drop 32).take 16) ((p1.drop 32).take 16)),Mk 336 .i64 16 (aL ((p0.drop 16).take 16) ((p1.drop 16).take 16)),Mk 320 .i64 16 (aL ((p0.drop 0).take 16) ((p1.drop 0).take 16))] [] 416 (v1 (pu (Ye (0+16) 48) (v1 (pu (Ye (0+16) 48) (pu pz (v1 (pu (Ye (16+16) 48) (v1 (pu (Ye (16+16) 48) (pu pz (v1 (pu (Ye (32+16) 48) (v1 (pu (Ye (32+16) 48) (pu pz (v3 (pu (Yz 16) (pu (Yz 16) (pu (Yz 16) pT))))))))))))))))))) <|Xu [] (some [0,1,0,4,15,0,32,0,128,511,1023,0,4095]) [Ep 10 592] [4,3] [Mk 592 .i64 16 (cZ (aL ((p0.drop 0).take 16) ((p1.drop 16).take 16)) (aL ((p1.drop 0).take 16) ((p0.drop 16).take 16)))] [32,16] 624 (v1 (pu (Ye (0+16) 48) (v1 (pu (Ye (16+16) 48) (pu pz (v1 (pu (Ye (0+16) 48) (v1 (pu (Ye (16+16) 48) (pu pz (pu pz (v1 (pu (Yz 16) pT))))))))))))) <|Xu [] (some [0,0,0,6,15,0,63]) [Ep 11 704] [5] [Mk 704 .i64 16 (aL p2 (aL (aL ((p0.drop 0).take 16) ((p1.drop 0).take 16)) (aL ((p0.drop 16).take 16) ((p1.drop 16).take 16))))] [48] 736 (v3 (pu pz (pu pz (v1 (pu (Yz 16) pT))))) <|Xt [Ep 12 784] [] [Mk 784 .i64 16 (aL (aL ((p0.drop 32).take 16) ((p1.drop 32).take 16)) (aL ((p0.drop 32).take 16) ((p1.drop 32).take 16)))] [] 816 (v2 (pu pz (v1 (pu (Yz 16) pT)))) <|Xu [] (some [0,0,3,0,0,31,0,0,255,511]) [Ep 14 928,Ep 13 912] [12,11] [Mk 928 .i64 16 (cI (aL (aL ((p0.drop 32).take 16) ((p1.drop 32).take 16)) (aL ((p0.drop 32).take 16) ((p1.drop 32).take 16))) (aL p2 (aL (aL ((p0.drop 0).take 16) ((p1.drop 0).take 16)) (aL ((p0.drop 16).take 16) ((p1.drop 16).take 16))))),Mk 912 .i64 16 (cZ (aL (aL ((p0.drop 32).take 16) ((p1.drop 32).take 16)) (aL ((p0.drop 32).take 16) ((p1.drop 32).take 16))) (aL p2 (aL (aL ((p0.drop 0).take 16) ((p1.drop 0).take 16)) (aL ((p0.drop 16).take 16) ((p1.drop 16).take 16)))))] [784,704] 976 (v2 (pu pz (v2 (pu pz (v2 (pu (Yz 16) (pu (Yz 16) pT))))))) <|Xu [] (some [0,0,3,0,15,0,0,127,0,511,0,2047,0,0,16383,32767,65535]) [] [14,13,10,9,8,7] [Mk 64 .i64 48 (aT (aT (aT [0,0,0,0,0,0,0,0,0,0,0,0,0,0,0,0,0,0,0,0,0,0,0,0,0,0,0,0,0,0,0,0,0,0,0,0,0,0,0,0,0,0,0,0,0,0,0,0] 0 (aL (aL (cZ (aL ((p0.drop 0).take 16) ((p1.drop 16).take 16)) (aL ((p1.drop 0).take 16) ((p0.drop 16).take 16))) (aL ((p0.drop 32).take 16) ((p1.drop 32).take 16))) (cI (aL (aL ((p0.drop 32).take 16) ((p1.drop 32).take 16)) (aL ((p0.drop 32).take 16) ((p1.drop 32).take 16))) (aL p2 (aL (aL ((p0.drop 0).take 16) ((p1.drop 0).take 16)) (aL ((p0.drop 16).take 16) ((p1.drop 16).take 16))))))) 16 (aL (aL (cZ (aL ((p0.drop 16).take 16) ((p1.drop 16).take 16)) (aL ((p0.drop 0).take 16) ((p1.drop 0).take 16))) (aL ((p0.drop 32).take 16) ((p1.drop 32).take 16))) (cZ (aL (aL ((p0.drop 32).take 16) ((p1.drop 32).take 16)) (aL ((p0.drop 32).take 16) ((p1.drop 32).take 16))) (aL p2 (aL (aL ((p0.drop 0).take 16) ((p1.drop 0).take 16)) (aL ((p0.drop 16).take 16) ((p1.drop 16).take 16))))))) 32 (aL (cZ (aL (aL ((p0.drop 32).take 16) ((p1.drop 32).take 16)) (aL ((p0.drop 32).take 16) ((p1.drop 32).take 16))) (aL p2 (aL (aL ((p0.drop 0).take 16) ((p1.drop 0).take 16)) (aL ((p0.drop 16).take 16) ((p1.drop 16).take 16))))) (cI (aL (aL ((p0.drop 32).take 16) ((p1.drop 32).take 16)) (aL ((p0.drop 32).take 16) ((p1.drop 32).take 16))) (aL p2 (aL (aL ((p0.drop 0).take 16) ((p1.drop 0).take 16)) (aL ((p0.drop 16).take 16) ((p1.drop 16).take 16)))))))] [928,912,592,352,336,320,64] 1248 (v2 (pu pz (v1 (pu pz (v2 (pu pz (v1 (pu pz (v1 (pu pz (v2 (pu pz (pu (pa (pa (Ye (0+16) 48) (Yr 16)) (pa (pa (Ye (16+16) 48) (Yr 16)) (pa (pa (Ye (32+16) 48) (Yr 16)) pT))) (pu (Yz 48) pT)))))))))))))) <|Xz [] pz
def ov (p0:List Int) (k0:Nat) (z0:List Int × List Int):List Int × List Int :=
 ((sel (((bM (ag .u8 (p0.getD (k0/8) 0) ((k0 % 8:Nat):Int)) 2):Int)==1) (oX z0.1 z0.2 (cm)) z0.1),(oX z0.2 z0.2 (cm)))
def uU (p0:List Int) (p1:List Int):List Int :=
 (itr (ov p0) (8*p0.length) (aT (aT [0,0,0,0,0,0,0,0,0,0,0,0,0,0,0,0,0,0,0,0,0,0,0,0,0,0,0,0,0,0,0,0,0,0,0,0,0,0,0,0,0,0,0,0,0,0,0,0] 16 (ao 1)) 32 (ao 1),p1)).1
def vB:List AV→List Blk→Option (Prop × Ret)
 |[.sc (.ro .u8 p0),.ints .i64 48 p1],[]=>some ((p0.length≤1000000),⟨.ints .i64 48 (uU p0 p1),[]⟩)
 |_,_=>none
theorem wX:Known Tryz.prog gD 55 ⟨0,0,vB⟩:=by
 refine Xw Tryz.f55 38 (Zv jr 96 1 <|Zv jr 112 1 <|Zv vv 480 3 <|Zv vv 560 3 <|Zv vQ 48 0 <|Zn) mixed <|fun E args ks C r h hC hlen=>?_
 simp only at h
 unfold vB at h
 split at h
 rotate_left
 cases h
 rename_i p0 p1
 cases h
 simp only [bB] at hlen
 refine ⟨rfl,?_⟩
 refine Xt [Ep 4 32,Ep 3 16] [1] [Mk 32 .i64 48 [0,0,0,0,0,0,0,0,0,0,0,0,0,0,0,0,0,0,0,0,0,0,0,0,0,0,0,0,0,0,0,0,0,0,0,0,0,0,0,0,0,0,0,0,0,0,0,0],Mk 16 .i64 48 p1] [] 48 (v2 pT) <|Xt [Ep 5 64] [] [Mk 64 .i64 16 (cm)] [] 96 (pu pz (v1 (pu (Yz 16) pT))) <|Xt [Ep 6 144] [] [Mk 144 .i64 48 (aT (aT [0,0,0,0,0,0,0,0,0,0,0,0,0,0,0,0,0,0,0,0,0,0,0,0,0,0,0,0,0,0,0,0,0,0,0,0,0,0,0,0,0,0,0,0,0,0,0,0] 16 (ao 1)) 32 (ao 1))] [] 176 (pu pz (pu pz (pu (pa (pa (Ye (16+16) 48) (Yr 16)) (pa (pa (Ye (32+16) 48) (Yr 16)) pT)) (v1 (pu (Yz 48) pT))))) <|Tri.seq <|Xs [Ei 7 0] [] 192 (v1 pT) <|Tri.block <|Xc (8*p0.length) (ov p0) (aT (aT [0,0,0,0,0,0,0,0,0,0,0,0,0,0,0,0,0,0,0,0,0,0,0,0,0,0,0,0,0,0,0,0,0,0,0,0,0,0,0,0,0,0,0,0,0,0,0,0] 16 (ao 1)) 32 (ao 1),p1) (fun k0 z0=>True) (fun k0 z0=>[Ej 7 k0]) (fun k0 z0=>[Mk 144 .i64 48 z0.1,Mk 16 .i64 48 z0.2]) trivial <|fun k0 z0 hk0 hz0 hJ0=>Tri.seq <|Xu [Ej 15 (8*p0.length)] none [Eb 16 (decide ((((k0:Nat):Int):Int)<((8*p0.length:Nat):Int)))] [] [] [] 272 (v3 (pv pT (Yt 8 p0.length) (v1 pT))) <|Xb (fun h1 h1'=>?_) (fun h1 h1'=>?_)
 refine Tri.skip <|Tri.seq <|Tri.block <|Tri.seq <|Xu [Ej 21 (k0/8),Ej 25 (k0 % 8)] none [Eb 28 (((bM (ag .u8 (p0.getD (k0/8) 0) ((k0 % 8:Nat):Int)) 2):Int)==1)] [16] [] [] 432 (v2 (pv (Yn 8) (pl (cr (a:=k0) (b:=8) (by omega))) (pu (Yj (k0/8) p0.length) (pu (Yl (k0/8) p0.length) (v1 (pv (Yn 8) (pl (cn (a:=k0) (b:=8))) (pu (Y0 ((k0 % 8:Nat):Int)) (pu (Yn 2) (v1 pT))))))))) <|Xj (x:=(((bM (ag .u8 (p0.getD (k0/8) 0) ((k0 % 8:Nat):Int)) 2):Int)==1)) (fun bb=>[]) [28] (fun bb=>[Mk 144 .i64 48 (sel bb (oX z0.1 z0.2 (cm)) z0.1)]) [144] 512 (fun h2=>?_) (fun h2=>?_) ?_
 have h2':=bn h2
 exact Wt [] [28] [Mk 144 .i64 48 (oX z0.1 z0.2 (cm))] [144] 512 (v3 (pu pz (pu (Yz 48) pT))) <|Xe [] [Mk 144 .i64 48 (oX z0.1 z0.2 (cm))]
 have h2':=bp h2
 exact Tri.skip <|Xe [] [Mk 144 .i64 48 z0.1]
 exact Wt [] [] [Mk 16 .i64 48 (oX z0.2 z0.2 (cm))] [16] 592 (v3 (pu pz (pu (Yz 48) pT))) <|Wu [Ej 18 (k0+1)] none [Ej 7 (k0+1)] [7] [] [] 640 (v1 (pv pT (Yp k0 1) (v1 pT))) <|Xo [] trivial
 refine Tri.exit <|?_
 obtain rfl:k0=(8*p0.length):=(by omega);subst hz0
 exact Xt [] [16,7,6,5,3,0] [Mk 32 .i64 48 ((itr (ov p0) (8*p0.length) (aT (aT [0,0,0,0,0,0,0,0,0,0,0,0,0,0,0,0,0,0,0,0,0,0,0,0,0,0,0,0,0,0,0,0,0,0,0,0,0,0,0,0,0,0,0,0,0,0,0,0] 16 (ao 1)) 32 (ao 1),p1)).1)] [144,64,32,16] 304 (v1 (pu (Yz 48) pT)) <|Xz [] pz
def rL (p0:List Int):List Int :=
 (sel (((bM ((aL ((p0.drop 0).take 16) (F28 ((p0.drop 32).take 16))).getD 0 0) 2):Int)==1) ((F49 (aL ((p0.drop 16).take 16) (F28 ((p0.drop 32).take 16)))).set 31 (aM .u8 ((F49 (aL ((p0.drop 16).take 16) (F28 ((p0.drop 32).take 16)))).getD 31 0) 128)) (F49 (aL ((p0.drop 16).take 16) (F28 ((p0.drop 32).take 16)))))
def wG:List AV→List Blk→Option (Prop × Ret)
 |[.ints .i64 48 p0],[]=>some (True,⟨.sc (.sl 0 0 32 1 none),[some (.ints .u8 32 (rL p0))]⟩)
 |_,_=>none
theorem wW:Known Tryz.prog gD 54 ⟨0,1,wG⟩:=by
 refine Xw Tryz.f54 26 (Zv K28 80 1 <|Zv K49 192 1 <|Zv ft 176 2 <|Zv ft 272 2 <|Zn) mixed <|fun E args ks C r h hC hlen=>?_
 simp only at h
 unfold wG at h
 split at h
 rotate_left
 cases h
 rename_i p0
 cases h
 simp only [bB] at hlen
 refine ⟨rfl,?_⟩
 refine Xt [Ep 1 16] [0] [Mk 16 .i64 48 p0] [] 48 (v2 pT) <|Xt [Ep 3 96] [] [Mk 96 .i64 16 (F28 ((p0.drop 32).take 16))] [] 128 (v1 (pu (Ye (32+16) 48) (pu pz (v1 (pu (Yz 16) pT))))) <|Xt [El 4 192 32] [] [Mi 192 32 (F49 (aL ((p0.drop 16).take 16) (F28 ((p0.drop 32).take 16))))] [] 224 (v1 (pu (Ye (16+16) 48) (v1 (pu pz (pu pz (v1 pT)))))) <|Tri.seq <|Xt [Eb 19 (((bM ((aL ((p0.drop 0).take 16) (F28 ((p0.drop 32).take 16))).getD 0 0) 2):Int)==1)] [3,1] [] [96,16] 336 (v1 (pu (Ye (0+16) 48) (v1 (pu pz (pu (pa (Yi 0 16) (Yl 0 16)) (pu (Yn 2) (v1 pT))))))) <|Xj (x:=(((bM ((aL ((p0.drop 0).take 16) (F28 ((p0.drop 32).take 16))).getD 0 0) 2):Int)==1)) (fun bb=>[]) [19] (fun bb=>[Mi 192 32 (sel bb ((F49 (aL ((p0.drop 16).take 16) (F28 ((p0.drop 32).take 16)))).set 31 (aM .u8 ((F49 (aL ((p0.drop 16).take 16) (F28 ((p0.drop 32).take 16)))).getD 31 0) 128)) (F49 (aL ((p0.drop 16).take 16) (F28 ((p0.drop 32).take 16)))))]) [192] 432 (fun h1=>?_) (fun h1=>?_) ?_
 have h1':=bn h1
 exact Wt [] [19] [Mi 192 32 ((F49 (aL ((p0.drop 16).take 16) (F28 ((p0.drop 32).take 16)))).set 31 (aM .u8 ((F49 (aL ((p0.drop 16).take 16) (F28 ((p0.drop 32).take 16)))).getD 31 0) 128))] [192] 432 (v1 (pu (Yi 31 32) (pu (Yl 31 32) (v1 (pu (Yi 31 32) (pu (Ys 31 32) pT)))))) <|Xe [] [Mi 192 32 ((F49 (aL ((p0.drop 16).take 16) (F28 ((p0.drop 32).take 16)))).set 31 (aM .u8 ((F49 (aL ((p0.drop 16).take 16) (F28 ((p0.drop 32).take 16)))).getD 31 0) 128))]
 have h1':=bp h1
 exact Tri.skip <|Xe [] [Mi 192 32 (F49 (aL ((p0.drop 16).take 16) (F28 ((p0.drop 32).take 16))))]
 exact Xs [El 2 192 32] [4] 464 (v2 pT) <|Xz [(192,0)] pz
theorem uI (p0:List Int):(rL p0).length=32:=by
 unfold rL
 cases (((bM ((aL ((p0.drop 0).take 16) (F28 ((p0.drop 32).take 16))).getD 0 0) 2):Int)==1)
 ·rw [aD,sA]
 ·rw [aF,List.length_set,sA]
def lX (p0:List Int):List Int :=
 (sel ((((p0.length:Nat):Int):Int) != 32) [0,0,0,0,0,0,0,0,0,0,0,0,0,0,0,0,0,0,0,0,0,0,0,0,0,0,0,0,0,0,0,0,0,0,0,0,0,0,0,0,0,0,0,0,0,0,0,0] (sel (!(aP (aC (((sel (decide ((p0.getD 31 0:Int) ≥ 128)) ((F49 (F24 p0)).set 31 (aM .u8 ((F49 (F24 p0)).getD 31 0) 128)) (F49 (F24 p0))).drop 0).take 32)) (aC p0))) [0,0,0,0,0,0,0,0,0,0,0,0,0,0,0,0,0,0,0,0,0,0,0,0,0,0,0,0,0,0,0,0,0,0,0,0,0,0,0,0,0,0,0,0,0,0,0,0] (sel (!(nn (aL (cI (aL (F24 p0) (F24 p0)) (ao 1)) (F28 (cZ (aL (cm) (aL (F24 p0) (F24 p0))) (ao 1)))))) [0,0,0,0,0,0,0,0,0,0,0,0,0,0,0,0,0,0,0,0,0,0,0,0,0,0,0,0,0,0,0,0,0,0,0,0,0,0,0,0,0,0,0,0,0,0,0,0] (sel (((F35 (aL (cI (aL (F24 p0) (F24 p0)) (ao 1)) (F28 (cZ (aL (cm) (aL (F24 p0) (F24 p0))) (ao 1))))):List Int)==(ao 0)) (sel (decide ((p0.getD 31 0:Int) ≥ 128)) [0,0,0,0,0,0,0,0,0,0,0,0,0,0,0,0,0,0,0,0,0,0,0,0,0,0,0,0,0,0,0,0,0,0,0,0,0,0,0,0,0,0,0,0,0,0,0,0] (aT (aT (aT [0,0,0,0,0,0,0,0,0,0,0,0,0,0,0,0,0,0,0,0,0,0,0,0,0,0,0,0,0,0,0,0,0,0,0,0,0,0,0,0,0,0,0,0,0,0,0,0] 0 (sel (!((((bM ((F35 (aL (cI (aL (F24 p0) (F24 p0)) (ao 1)) (F28 (cZ (aL (cm) (aL (F24 p0) (F24 p0))) (ao 1))))).getD 0 0) 2):Int)==1)==(decide ((p0.getD 31 0:Int) ≥ 128)))) (cI (ao 0) (F35 (aL (cI (aL (F24 p0) (F24 p0)) (ao 1)) (F28 (cZ (aL (cm) (aL (F24 p0) (F24 p0))) (ao 1)))))) (F35 (aL (cI (aL (F24 p0) (F24 p0)) (ao 1)) (F28 (cZ (aL (cm) (aL (F24 p0) (F24 p0))) (ao 1))))))) 16 (F24 p0)) 32 (ao 1))) (aT (aT (aT [0,0,0,0,0,0,0,0,0,0,0,0,0,0,0,0,0,0,0,0,0,0,0,0,0,0,0,0,0,0,0,0,0,0,0,0,0,0,0,0,0,0,0,0,0,0,0,0] 0 (sel (!((((bM ((F35 (aL (cI (aL (F24 p0) (F24 p0)) (ao 1)) (F28 (cZ (aL (cm) (aL (F24 p0) (F24 p0))) (ao 1))))).getD 0 0) 2):Int)==1)==(decide ((p0.getD 31 0:Int) ≥ 128)))) (cI (ao 0) (F35 (aL (cI (aL (F24 p0) (F24 p0)) (ao 1)) (F28 (cZ (aL (cm) (aL (F24 p0) (F24 p0))) (ao 1)))))) (F35 (aL (cI (aL (F24 p0) (F24 p0)) (ao 1)) (F28 (cZ (aL (cm) (aL (F24 p0) (F24 p0))) (ao 1))))))) 16 (F24 p0)) 32 (ao 1))))))
def iE (p0:List Int):Bool :=
 (sel ((((p0.length:Nat):Int):Int) != 32) false (sel (!(aP (aC (((sel (decide ((p0.getD 31 0:Int) ≥ 128)) ((F49 (F24 p0)).set 31 (aM .u8 ((F49 (F24 p0)).getD 31 0) 128)) (F49 (F24 p0))).drop 0).take 32)) (aC p0))) false (sel (!(nn (aL (cI (aL (F24 p0) (F24 p0)) (ao 1)) (F28 (cZ (aL (cm) (aL (F24 p0) (F24 p0))) (ao 1)))))) false (sel (((F35 (aL (cI (aL (F24 p0) (F24 p0)) (ao 1)) (F28 (cZ (aL (cm) (aL (F24 p0) (F24 p0))) (ao 1))))):List Int)==(ao 0)) (sel (decide ((p0.getD 31 0:Int) ≥ 128)) false true) true))))
def vX:List AV→List Blk→Option (Prop × Ret)
 |[.sc (.ro .u8 p0)],[]=>some (True,⟨.tup [.ints .i64 48 (lX p0),.sc (.b (iE p0))],[]⟩)
 |_,_=>none
def wd:KL Tryz.prog gD:=Zv tP 592 2 <|Zv tP 1120 2 <|Zv jr 576 1 <|Zv jr 656 1 <|Zv jr 896 1 <|Zv jr 1088 1 <|Zv jr 1184 1 <|Zv vQ 608 0 <|Zv K28 688 1 <|Zv K49 176 1 <|Zv ft 512 2 <|Zv ft 640 2 <|Zv ft 704 2 <|Zc K24 112 [.ro .u8] [] [] <|Zv K35 720 1 <|Zv tQ 672 2 <|Zn
theorem wh:Known Tryz.prog gD 86 ⟨0,0,vX⟩:=by
 refine Xw Tryz.f86 75 wd mixed <|fun E args ks C r h hC hlen=>?_
 simp only at h
 unfold vX at h
 split at h
 rotate_left
 cases h
 rename_i p0
 cases h
 simp only [bB] at hlen
 refine ⟨rfl,?_⟩
 refine Xt [Ep 2 16] [] [Mk 16 .i64 48 [0,0,0,0,0,0,0,0,0,0,0,0,0,0,0,0,0,0,0,0,0,0,0,0,0,0,0,0,0,0,0,0,0,0,0,0,0,0,0,0,0,0,0,0,0,0,0,0]] [] 48 (v2 pT) <|Tri.seq <|Xs [Eb 12 ((((p0.length:Nat):Int):Int) != 32)] [] 96 (v3 pT) <|Xa (fun h1=>?_) (fun h1=>?_)
 have h1':=bY h1
 exact Xs [Eb 3 false] [12,0] 144 (v1 (pu (Yz 48) (v1 pT))) <|Tri.ret <|rt <|jQ.conv (r':=⟨.tup [.ints .i64 48 [0,0,0,0,0,0,0,0,0,0,0,0,0,0,0,0,0,0,0,0,0,0,0,0,0,0,0,0,0,0,0,0,0,0,0,0,0,0,0,0,0,0,0,0,0,0,0,0],.sc (.b false)],[]⟩) (by simp only [lX,iE];try simp only [h1,aF,aD]) <|er [] (pa pT pz)
 have h1':=bJ h1
 refine Tri.skip <|Xt [Ep 4 128] [12] [Mk 128 .i64 16 (F24 p0)] [] 160 (v1 (pu (pa pz (lo (p0.length=32))) (v1 (pu (Yz 16) pT)))) <|Xt [El 5 176 32] [] [Mi 176 32 (F49 (F24 p0))] [] 208 (v1 (pu pz (v1 pT))) <|Xs [Eb 6 (decide ((p0.getD 31 0:Int) ≥ 128))] [] 288 (v1 (pu (Yi 31 p0.length) (pu (Yl 31 p0.length) (v2 pT)))) <|Tri.seq <|Xs [Eb 22 (decide ((p0.getD 31 0:Int) ≥ 128))] [] 304 (v1 pT) <|Xj (x:=(decide ((p0.getD 31 0:Int) ≥ 128))) (fun bb=>[]) [22] (fun bb=>[Mi 176 32 (sel bb ((F49 (F24 p0)).set 31 (aM .u8 ((F49 (F24 p0)).getD 31 0) 128)) (F49 (F24 p0)))]) [176] 400 (fun h2=>?_) (fun h2=>?_) ?_
 have h2':=of_decide_eq_true h2
 exact Wt [] [22] [Mi 176 32 ((F49 (F24 p0)).set 31 (aM .u8 ((F49 (F24 p0)).getD 31 0) 128))] [176] 400 (v1 (pu (Yi 31 32) (pu (Yl 31 32) (v1 (pu (Yi 31 32) (pu (Ys 31 32) pT)))))) <|Xe [] [Mi 176 32 ((F49 (F24 p0)).set 31 (aM .u8 ((F49 (F24 p0)).getD 31 0) 128))]
 have h2':=of_decide_eq_false h2
 exact Tri.skip <|Xe [] [Mi 176 32 (F49 (F24 p0))]
 refine Tri.seq <|Xt [Eb 32 (!(aP (aC (((sel (decide ((p0.getD 31 0:Int) ≥ 128)) ((F49 (F24 p0)).set 31 (aM .u8 ((F49 (F24 p0)).getD 31 0) 128)) (F49 (F24 p0))).drop 0).take 32)) (aC p0)))] [5,0] [] [176] 480 (v1 (pu (Yw 32) (v3 pT))) <|Xa (fun h3=>?_) (fun h3=>?_)
 exact Xt [Eb 3 false] [32,6,4] [] [128] 528 (v1 (pu (Yz 48) (v1 pT))) <|Tri.ret <|rt <|jQ.conv (r':=⟨.tup [.ints .i64 48 [0,0,0,0,0,0,0,0,0,0,0,0,0,0,0,0,0,0,0,0,0,0,0,0,0,0,0,0,0,0,0,0,0,0,0,0,0,0,0,0,0,0,0,0,0,0,0,0],.sc (.b false)],[]⟩) (by simp only [lX,iE];try simp only [h1,aF,aD];try simp only [h3,aF,aD]) <|er [] (pa pT pz)
 refine Tri.skip <|Xt [Ep 7 528] [32] [Mk 528 .i64 16 (aL (F24 p0) (F24 p0))] [] 560 (v2 (pu pz (v1 (pu (Yz 16) pT)))) <|Xu [] (some [0,0,3,7,0,31,63,127,255,511,1023,2047,4095,4095,0,24575,65535]) [Eb 9 (nn (aL (cI (aL (F24 p0) (F24 p0)) (ao 1)) (F28 (cZ (aL (cm) (aL (F24 p0) (F24 p0))) (ao 1))))),Ep 8 784] [7] [Mk 784 .i64 16 (F35 (aL (cI (aL (F24 p0) (F24 p0)) (ao 1)) (F28 (cZ (aL (cm) (aL (F24 p0) (F24 p0))) (ao 1)))))] [528] 832 (v1 (pu pz (pu pz (pu pz (v1 (pu pz (pu pz (pu pz (pu pz (pu pz (pu pz (v4 (pu (Yz 16) (v1 pT)))))))))))))) <|Tri.seq <|Tri.split (!(nn (aL (cI (aL (F24 p0) (F24 p0)) (ao 1)) (F28 (cZ (aL (cm) (aL (F24 p0) (F24 p0))) (ao 1)))))) (fun h4=>?_) (fun h4=>?_)
 exact Xu [Eb 53 true] (some [0,1,3,7,7,31,63,127,255,511]) [Eb 60 true] [9] [] [] 992 (v2 (pg h4 (v7 pT))) <|Tri.cond_true (by kernel_rfl) <|Xt [Eb 3 false] [60,8,6,4] [] [784,128] 1040 (v1 (pu (Yz 48) (v1 pT))) <|Tri.ret <|rt <|jQ.conv (r':=⟨.tup [.ints .i64 48 [0,0,0,0,0,0,0,0,0,0,0,0,0,0,0,0,0,0,0,0,0,0,0,0,0,0,0,0,0,0,0,0,0,0,0,0,0,0,0,0,0,0,0,0,0,0,0,0],.sc (.b false)],[]⟩) (by simp only [lX,iE];try simp only [h1,aF,aD];try simp only [h3,aF,aD];try simp only [h4,aF,aD]) <|er [] (pa pT pz)
 refine Tri.split (((F35 (aL (cI (aL (F24 p0) (F24 p0)) (ao 1)) (F28 (cZ (aL (cm) (aL (F24 p0) (F24 p0))) (ao 1))))):List Int)==(ao 0)) (fun h5=>?_) (fun h5=>?_)
 refine Xu [Eb 53 false,Eb 57 true] (some [0,1,3,7,7,31,63,127,255,511]) [Eb 60 (decide ((p0.getD 31 0:Int) ≥ 128))] [9] [] [] 992 (v2 (pg h4 (v1 (pu pz (v1 (pg h5 (v3 pT))))))) <|Xb (fun h6 h6'=>?_) (fun h6 h6'=>?_)
 exact Xt [Eb 3 false] [60,8,6,4] [] [784,128] 1040 (v1 (pu (Yz 48) (v1 pT))) <|Tri.ret <|rt <|jQ.conv (r':=⟨.tup [.ints .i64 48 [0,0,0,0,0,0,0,0,0,0,0,0,0,0,0,0,0,0,0,0,0,0,0,0,0,0,0,0,0,0,0,0,0,0,0,0,0,0,0,0,0,0,0,0,0,0,0,0],.sc (.b false)],[]⟩) (by simp only [lX,iE];try simp only [h1,aF,aD];try simp only [h3,aF,aD];try simp only [h4,aF,aD];try simp only [h5,aF,aD];try simp only [h6,aF,aD]) <|er [] (pa pT pz)
 refine Tri.skip <|Tri.seq <|Xs [Eb 67 (!((((bM ((F35 (aL (cI (aL (F24 p0) (F24 p0)) (ao 1)) (F28 (cZ (aL (cm) (aL (F24 p0) (F24 p0))) (ao 1))))).getD 0 0) 2):Int)==1)==(decide ((p0.getD 31 0:Int) ≥ 128))))] [60,6] 1088 (pu (Yi 0 16) (pu (Yl 0 16) (pu (Yn 2) (v3 pT)))) <|Xj (x:=(!((((bM ((F35 (aL (cI (aL (F24 p0) (F24 p0)) (ao 1)) (F28 (cZ (aL (cm) (aL (F24 p0) (F24 p0))) (ao 1))))).getD 0 0) 2):Int)==1)==(decide ((p0.getD 31 0:Int) ≥ 128))))) (fun bb=>[]) [67] (fun bb=>[Mk 784 .i64 16 (sel bb (cI (ao 0) (F35 (aL (cI (aL (F24 p0) (F24 p0)) (ao 1)) (F28 (cZ (aL (cm) (aL (F24 p0) (F24 p0))) (ao 1)))))) (F35 (aL (cI (aL (F24 p0) (F24 p0)) (ao 1)) (F28 (cZ (aL (cm) (aL (F24 p0) (F24 p0))) (ao 1))))))]) [784] 1152 (fun h7=>?_) (fun h7=>?_) ?_
 exact Wu [] (some [0,0,3,7]) [] [67] [Mk 784 .i64 16 (cI (ao 0) (F35 (aL (cI (aL (F24 p0) (F24 p0)) (ao 1)) (F28 (cZ (aL (cm) (aL (F24 p0) (F24 p0))) (ao 1))))))] [784] 1152 (pu pz (v1 (pu pz (pu (Yz 16) pT)))) <|Xe [] [Mk 784 .i64 16 (cI (ao 0) (F35 (aL (cI (aL (F24 p0) (F24 p0)) (ao 1)) (F28 (cZ (aL (cm) (aL (F24 p0) (F24 p0))) (ao 1))))))]
 exact Tri.skip <|Xe [] [Mk 784 .i64 16 (F35 (aL (cI (aL (F24 p0) (F24 p0)) (ao 1)) (F28 (cZ (aL (cm) (aL (F24 p0) (F24 p0))) (ao 1)))))]
 exact Xu [] (some [0,0,0,7,15,31]) [Eb 3 true] [8,4] [Mk 16 .i64 48 (aT (aT (aT [0,0,0,0,0,0,0,0,0,0,0,0,0,0,0,0,0,0,0,0,0,0,0,0,0,0,0,0,0,0,0,0,0,0,0,0,0,0,0,0,0,0,0,0,0,0,0,0] 0 (sel (!((((bM ((F35 (aL (cI (aL (F24 p0) (F24 p0)) (ao 1)) (F28 (cZ (aL (cm) (aL (F24 p0) (F24 p0))) (ao 1))))).getD 0 0) 2):Int)==1)==(decide ((p0.getD 31 0:Int) ≥ 128)))) (cI (ao 0) (F35 (aL (cI (aL (F24 p0) (F24 p0)) (ao 1)) (F28 (cZ (aL (cm) (aL (F24 p0) (F24 p0))) (ao 1)))))) (F35 (aL (cI (aL (F24 p0) (F24 p0)) (ao 1)) (F28 (cZ (aL (cm) (aL (F24 p0) (F24 p0))) (ao 1))))))) 16 (F24 p0)) 32 (ao 1))] [784,128,16] 1248 (v2 (pu pz (pu (pa (pa (Ye (0+16) 48) (Yr 16)) (pa (pa (Ye (16+16) 48) (Yr 16)) (pa (pa (Ye (32+16) 48) (Yr 16)) pT))) (pu (Yz 48) (v1 pT))))) <|Tri.ret <|rt <|jQ.conv (r':=⟨.tup [.ints .i64 48 (aT (aT (aT [0,0,0,0,0,0,0,0,0,0,0,0,0,0,0,0,0,0,0,0,0,0,0,0,0,0,0,0,0,0,0,0,0,0,0,0,0,0,0,0,0,0,0,0,0,0,0,0] 0 (sel (!((((bM ((F35 (aL (cI (aL (F24 p0) (F24 p0)) (ao 1)) (F28 (cZ (aL (cm) (aL (F24 p0) (F24 p0))) (ao 1))))).getD 0 0) 2):Int)==1)==(decide ((p0.getD 31 0:Int) ≥ 128)))) (cI (ao 0) (F35 (aL (cI (aL (F24 p0) (F24 p0)) (ao 1)) (F28 (cZ (aL (cm) (aL (F24 p0) (F24 p0))) (ao 1)))))) (F35 (aL (cI (aL (F24 p0) (F24 p0)) (ao 1)) (F28 (cZ (aL (cm) (aL (F24 p0) (F24 p0))) (ao 1))))))) 16 (F24 p0)) 32 (ao 1)),.sc (.b true)],[]⟩) (by simp only [lX,iE];try simp only [h1,aF,aD];try simp only [h3,aF,aD];try simp only [h4,aF,aD];try simp only [h5,aF,aD];try simp only [h6,aF,aD]) <|er [] (pa pT pz)
 refine Xu [Eb 53 false,Eb 57 false] (some [0,1,3,7,7,31,63,127,255,511]) [Eb 60 false] [9] [] [] 992 (v2 (pg h4 (v1 (pu pz (v1 (pg h5 (v3 pT))))))) <|Tri.cond_false (by kernel_rfl) <|Tri.skip <|Tri.seq <|Xs [Eb 67 (!((((bM ((F35 (aL (cI (aL (F24 p0) (F24 p0)) (ao 1)) (F28 (cZ (aL (cm) (aL (F24 p0) (F24 p0))) (ao 1))))).getD 0 0) 2):Int)==1)==(decide ((p0.getD 31 0:Int) ≥ 128))))] [60,6] 1088 (pu (Yi 0 16) (pu (Yl 0 16) (pu (Yn 2) (v3 pT)))) <|Xj (x:=(!((((bM ((F35 (aL (cI (aL (F24 p0) (F24 p0)) (ao 1)) (F28 (cZ (aL (cm) (aL (F24 p0) (F24 p0))) (ao 1))))).getD 0 0) 2):Int)==1)==(decide ((p0.getD 31 0:Int) ≥ 128))))) (fun bb=>[]) [67] (fun bb=>[Mk 784 .i64 16 (sel bb (cI (ao 0) (F35 (aL (cI (aL (F24 p0) (F24 p0)) (ao 1)) (F28 (cZ (aL (cm) (aL (F24 p0) (F24 p0))) (ao 1)))))) (F35 (aL (cI (aL (F24 p0) (F24 p0)) (ao 1)) (F28 (cZ (aL (cm) (aL (F24 p0) (F24 p0))) (ao 1))))))]) [784] 1152 (fun h8=>?_) (fun h8=>?_) ?_
 exact Wu [] (some [0,0,3,7]) [] [67] [Mk 784 .i64 16 (cI (ao 0) (F35 (aL (cI (aL (F24 p0) (F24 p0)) (ao 1)) (F28 (cZ (aL (cm) (aL (F24 p0) (F24 p0))) (ao 1))))))] [784] 1152 (pu pz (v1 (pu pz (pu (Yz 16) pT)))) <|Xe [] [Mk 784 .i64 16 (cI (ao 0) (F35 (aL (cI (aL (F24 p0) (F24 p0)) (ao 1)) (F28 (cZ (aL (cm) (aL (F24 p0) (F24 p0))) (ao 1))))))]
 exact Tri.skip <|Xe [] [Mk 784 .i64 16 (F35 (aL (cI (aL (F24 p0) (F24 p0)) (ao 1)) (F28 (cZ (aL (cm) (aL (F24 p0) (F24 p0))) (ao 1)))))]
 exact Xu [] (some [0,0,0,7,15,31]) [Eb 3 true] [8,4] [Mk 16 .i64 48 (aT (aT (aT [0,0,0,0,0,0,0,0,0,0,0,0,0,0,0,0,0,0,0,0,0,0,0,0,0,0,0,0,0,0,0,0,0,0,0,0,0,0,0,0,0,0,0,0,0,0,0,0] 0 (sel (!((((bM ((F35 (aL (cI (aL (F24 p0) (F24 p0)) (ao 1)) (F28 (cZ (aL (cm) (aL (F24 p0) (F24 p0))) (ao 1))))).getD 0 0) 2):Int)==1)==(decide ((p0.getD 31 0:Int) ≥ 128)))) (cI (ao 0) (F35 (aL (cI (aL (F24 p0) (F24 p0)) (ao 1)) (F28 (cZ (aL (cm) (aL (F24 p0) (F24 p0))) (ao 1)))))) (F35 (aL (cI (aL (F24 p0) (F24 p0)) (ao 1)) (F28 (cZ (aL (cm) (aL (F24 p0) (F24 p0))) (ao 1))))))) 16 (F24 p0)) 32 (ao 1))] [784,128,16] 1248 (v2 (pu pz (pu (pa (pa (Ye (0+16) 48) (Yr 16)) (pa (pa (Ye (16+16) 48) (Yr 16)) (pa (pa (Ye (32+16) 48) (Yr 16)) pT))) (pu (Yz 48) (v1 pT))))) <|Tri.ret <|rt <|jQ.conv (r':=⟨.tup [.ints .i64 48 (aT (aT (aT [0,0,0,0,0,0,0,0,0,0,0,0,0,0,0,0,0,0,0,0,0,0,0,0,0,0,0,0,0,0,0,0,0,0,0,0,0,0,0,0,0,0,0,0,0,0,0,0] 0 (sel (!((((bM ((F35 (aL (cI (aL (F24 p0) (F24 p0)) (ao 1)) (F28 (cZ (aL (cm) (aL (F24 p0) (F24 p0))) (ao 1))))).getD 0 0) 2):Int)==1)==(decide ((p0.getD 31 0:Int) ≥ 128)))) (cI (ao 0) (F35 (aL (cI (aL (F24 p0) (F24 p0)) (ao 1)) (F28 (cZ (aL (cm) (aL (F24 p0) (F24 p0))) (ao 1)))))) (F35 (aL (cI (aL (F24 p0) (F24 p0)) (ao 1)) (F28 (cZ (aL (cm) (aL (F24 p0) (F24 p0))) (ao 1))))))) 16 (F24 p0)) 32 (ao 1)),.sc (.b true)],[]⟩) (by simp only [lX,iE];try simp only [h1,aF,aD];try simp only [h3,aF,aD];try simp only [h4,aF,aD];try simp only [h5,aF,aD]) <|er [] (pa pT pz)
def uM:List Int :=
 (lX (aA (F49 (aL (ao 4) (F28 (ao 5)))) 32 0 32))
def vw:List AV→List Blk→Option (Prop × Ret)
 |[],[]=>some (True,⟨.ints .i64 48 (uM),[]⟩)
 |_,_=>none
theorem wc:Known Tryz.prog gD 58 ⟨0,0,vw⟩:=by
 refine Xw Tryz.f58 13 (Zc wh 112 [.ro .u8] [96] [] <|Zv jr 32 1 <|Zv jr 48 1 <|Zv K28 64 1 <|Zv K49 96 1 <|Zv ft 80 2 <|Zn) mixed <|fun E args ks C r h hC hlen=>?_
 simp only at h
 unfold vw at h
 split at h
 rotate_left
 cases h
 cases h
 simp only [bB] at hlen
 refine ⟨rfl,?_⟩
 exact Xt [Ep 0 16] [] [Mk 16 .i64 48 [0,0,0,0,0,0,0,0,0,0,0,0,0,0,0,0,0,0,0,0,0,0,0,0,0,0,0,0,0,0,0,0,0,0,0,0,0,0,0,0,0,0,0,0,0,0,0,0]] [] 32 (v1 pT) <|Xt [Ep 1 176] [] [Mk 176 .i64 48 (lX (aA (F49 (aL (ao 4) (F28 (ao 5)))) 32 0 32))] [] 224 (pu pz (pu pz (pu pz (pu pz (pu pz (pu (pa (pa (Yw 32) pT) pT) (v4 (pu (Yz 48) (v1 pT))))))))) <|Tri.len 176 rfl <|fun hl1=>Xt [] [1] [Mk 16 .i64 48 (lX (aA (F49 (aL (ao 4) (F28 (ao 5)))) 32 0 32))] [176,16] 256 (v1 (pu (Yz 48) pT)) <|Xz [] pz
end Go.Vm
namespace Go.Vm
open Go Go.Proofs
def rl (p0:List Int):List Int :=
 (rL (uU (aA (F44 (aA (dJ p0) 64 0 32)) ((aA (dJ p0) 64 0 32).length) 0 ((aA (dJ p0) 64 0 32).length)) (uM)))
def vq:List AV→List Blk→Option (Prop × Ret)
 |[.sc (.ro .u8 p0)],[]=>some ((p0.length=32),⟨.sc (.sl 0 0 32 1 none),[some (.ints .u8 32 (rl p0))]⟩)
 |_,_=>none
theorem uf:Known Tryz.prog gD 24 ⟨0,1,vq⟩:=by
 refine Xw Tryz.f24 10 (Zv wW 128 1 <|Zc wX 112 [.ro .u8,.val] [80] [] <|Zc K44 80 [.ro .u8] [48] [] <|Zc tF 48 [.ro .u8,.val] [] [] <|Zv wc 96 0 <|Zn) mixed <|fun E args ks C r h hC hlen=>?_
 simp only at h
 unfold vq at h
 split at h
 rotate_left
 cases h
 rename_i p0
 cases h
 simp only [bB] at hlen
 have hh:=nh p0 0 (by decide)
 have hh2:=nh p0 32 (by decide)
 refine ⟨rfl,?_⟩
 refine Xs [] [] 32 (v1 pT) <|Xt [El 2 128 32] [0] [Mi 128 32 (rL (uU (aA (F44 (aA (dJ p0) 64 0 32)) ((aA (dJ p0) 64 0 32).length) 0 ((aA (dJ p0) 64 0 32).length)) (uM)))] [] 160 (v1 (pu (pa pz (pa (Yr (64:Int)) (Ye p0.length 100000000))) (pu (lo ((0:Int)≤0∧(0:Int)≤32∧32≤((64:Nat):Int))) (pu (pa (pa (Ye (0+32) 64) pT) (pl (show (aA (dJ p0) 64 0 32).length=32 from hh))) (pu pz (pu (pa (pa (Yw ((aA (dJ p0) 64 0 32).length)) pT) (pl (show (aA (F44 (aA (dJ p0) 64 0 32)) ((aA (dJ p0) 64 0 32).length) 0 ((aA (dJ p0) 64 0 32).length)).length≤1000000 from by exact bP (by omega) (by rw [vE];omega)))) (pu pz (v1 pT)))))))) ?_
 exact Xz [(128,0)] pz
theorem uX (p0:List Int):(rl p0).length=32:=uI _
end Go.Vm
namespace Go.Vm
open Go Go.Proofs
def sU:List AV→List Blk→Option (Prop × Ret)
 |[.sc (.ro .u8 p0)],[]=>some (True,⟨.sc (.p 0 0),[some (.cells [.ro .u8 p0,.b false])]⟩)
 |_,_=>none
theorem uL:Known Tryz.prog gD 41 ⟨0,1,sU⟩:=by
 refine Xw Tryz.f41 6 Zn mixed <|fun E args ks C r h hC hlen=>?_
 simp only at h
 unfold sU at h
 split at h
 rotate_left
 cases h
 rename_i p0
 cases h
 simp only [bB] at hlen
 refine ⟨rfl,?_⟩
 exact Xs [] [] 32 (v1 pT) <|Xt [Ep 2 64] [0] [Mc 64 [.ro .u8 p0,.b false]] [] 96 (v1 (pu (pa (Ys 0 2) pT) (v2 pT))) <|Xz [(64,0)] pz
def dK (p0:List Int) (p1:Bool) (p2:Int):List Int :=
 (p0.drop 0).take (((p2).toNat)-0)
def eL (p0:List Int) (p1:Bool) (p2:Int):List Int :=
 (p0.drop ((p2).toNat)).take (p0.length-((p2).toNat))
def nY:List AV→List Blk→Option (Prop × Ret)
 |[.sc (.p 0 0),.sc (.i .i64 p2)],[.cells [.ro .u8 p0,.b p1]]=>some (((p1=false)∧(((decide ((p2:Int)>((p0.length:Nat):Int)))=false)∧((0:Int)≤p2))),⟨.sc (.ro .u8 (dK p0 p1 p2)),[some (.cells [.ro .u8 (eL p0 p1 p2),.b p1])]⟩)
 |_,_=>none
theorem sn:Known Tryz.prog gD 74 ⟨1,0,nY⟩:=by
 refine Xw Tryz.f74 48 Zn mixed <|fun E args ks C r h hC hlen=>?_
 simp only at h
 unfold nY at h
 split at h
 rotate_left
 cases h
 rename_i p2 p0 p1
 cases h
 simp only [bB] at hlen
 have hG0:=hC.1
 have hG1:=hC.2.1
 have hG1':=of_decide_eq_false hG1
 have hC:=hC.2.2
 refine ⟨rfl,?_⟩
 refine Xs [] [] 32 (v1 pT) <|Tri.seq <|Xu [Eb 14 false] none [Eb 22 (decide ((p2:Int)>((p0.length:Nat):Int)))] [] [] [] 304 (v6 (pu (Yl 1 2) (v1 (pg hG0 (v4 (pu (Yl 0 2) (v3 pT))))))) <|Tri.cond (x:=(decide ((p2:Int)>((p0.length:Nat):Int)))) (by kernel_rfl) (fun h=>absurd (h.symm.trans hG1) (by decide)) (fun h=>?_)
 exact Tri.skip <|Xs [Er 5 ((p0.drop 0).take (((p2).toNat)-0))] [22] 432 (v3 (pu (Yl 0 2) (v2 (pu (lo ((0:Int)≤0∧(0:Int)≤p2∧(p2:Int)≤p2∧(p2:Int)≤(p0.length:Int))) (v1 pT))))) <|Xt [] [0,1] [Mc 0 [.ro .u8 ((p0.drop ((p2).toNat)).take (p0.length-((p2).toNat))),.b p1]] [0] 592 (v4 (pu (Yl 0 2) (v1 (pu (lo ((0:Int)≤p2∧(p2:Int)≤((p0.length:Nat):Int)∧((p0.length:Nat):Int)≤(p0.length:Int))) (v2 (pu (Ys 0 2) pT)))))) <|Xs [Er 4 ((p0.drop 0).take (((p2).toNat)-0))] [5] 624 (v2 pT) <|Xz [(0,0)] pz
theorem fv {p0:List Int} {p1:Bool} {p2:Int} (h:(decide ((p2:Int)>((p0.length:Nat):Int)))=false) (h0:0≤p2):((dK p0 p1 p2).length:Int)=p2:=by
 have:=of_decide_eq_false h
 unfold dK
 simp only [List.length_take,List.length_drop]
 omega
def nc:List AV→List Blk→Option (Prop × Ret)
 |[.sc (.p 0 0),.sc (.i .i64 p2)],[.cells [.ro .u8 p0,.b p1]]=>some (((p1=false)∧(((decide ((p2:Int)>((p0.length:Nat):Int)))=true)∧True)),⟨.sc (.nils),[some (.cells [.ro .u8 ([]:List Int),.b true])]⟩)
 |_,_=>none
theorem su:Known Tryz.prog gD 74 ⟨1,0,nc⟩:=by
 refine Xw Tryz.f74 48 Zn mixed <|fun E args ks C r h hC hlen=>?_
 simp only at h
 unfold nc at h
 split at h
 rotate_left
 cases h
 rename_i p2 p0 p1
 cases h
 simp only [bB] at hlen
 have hG0:=hC.1
 have hG1:=hC.2.1
 have hG1':=of_decide_eq_true hG1
 have hC:=hC.2.2
 refine ⟨rfl,?_⟩
 refine Xs [] [] 32 (v1 pT) <|Tri.seq <|Xu [Eb 14 false] none [Eb 22 (decide ((p2:Int)>((p0.length:Nat):Int)))] [] [] [] 304 (v6 (pu (Yl 1 2) (v1 (pg hG0 (v4 (pu (Yl 0 2) (v3 pT))))))) <|Tri.cond (x:=(decide ((p2:Int)>((p0.length:Nat):Int)))) (by kernel_rfl) (fun h=>?_) (fun h=>absurd (h.symm.trans hG1) (by decide))
 exact Tri.seq <|Xs [Eb 24 true] [22,1] 336 (v2 pT) <|Tri.cond_true (by kernel_rfl) <|Wt [] [24,0] [Mc 0 [.nils,.b true]] [0] 464 (v4 (pu (Ys 1 2) (v2 (pu (Ys 0 2) pT)))) <|Xs [(4,.sc (.nils))] [] 480 (v1 pT) <|Tri.sub (Sub.nilCell (l:=[.nils,.b true]) 0 0 .u8 (by kernel_rfl) (by kernel_rfl)) <|Xz [(0,0)] pz
def lu:List AV→List Blk→Option (Prop × Ret)
 |[.sc (.p 0 0),.sc (.i .i64 p2)],[.cells [.ro .u8 p0,.b p1]]=>some (((p1=true)∧True),⟨.sc (.nils),[some (.cells [.ro .u8 ([]:List Int),.b true])]⟩)
 |_,_=>none
theorem qZ:Known Tryz.prog gD 74 ⟨1,0,lu⟩:=by
 refine Xw Tryz.f74 48 Zn mixed <|fun E args ks C r h hC hlen=>?_
 simp only at h
 unfold lu at h
 split at h
 rotate_left
 cases h
 rename_i p2 p0 p1
 cases h
 simp only [bB] at hlen
 have hG0:=hC.1
 have hC:=hC.2
 refine ⟨rfl,?_⟩
 exact Xs [] [] 32 (v1 pT) <|Tri.seq <|Xu [Eb 14 true] none [Eb 22 true] [] [] [] 304 (v6 (pu (Yl 1 2) (v1 (pg hG0 (v8 pT))))) <|Tri.cond_true (by kernel_rfl) <|Tri.seq <|Xs [Eb 24 true] [22,1] 336 (v2 pT) <|Tri.cond_true (by kernel_rfl) <|Wt [] [24,0] [Mc 0 [.nils,.b true]] [0] 464 (v4 (pu (Ys 1 2) (v2 (pu (Ys 0 2) pT)))) <|Xs [(4,.sc (.nils))] [] 480 (v1 pT) <|Tri.sub (Sub.nilCell (l:=[.nils,.b true]) 0 0 .u8 (by kernel_rfl) (by kernel_rfl)) <|Xz [(0,0)] pz
def cC (p0:List Int) (p1:Bool) (p2:Int):List Int :=
 (sel p1 ([]:List Int) (sel (decide ((p2:Int)>((p0.length:Nat):Int))) ([]:List Int) ((p0.drop 0).take (((p2).toNat)-0))))
def cY (p0:List Int) (p1:Bool) (p2:Int):List Int :=
 (sel p1 ([]:List Int) (sel (decide ((p2:Int)>((p0.length:Nat):Int))) ([]:List Int) ((p0.drop ((p2).toNat)).take (p0.length-((p2).toNat)))))
def cw (p0:List Int) (p1:Bool) (p2:Int):Bool :=
 (sel p1 true (sel (decide ((p2:Int)>((p0.length:Nat):Int))) true p1))
def qJ:List AV→List Blk→Option (Prop × Ret)
 |[.sc (.p 0 0),.sc (.i .i64 p2)],[.cells [.ro .u8 p0,.b p1]]=>some (((0:Int)≤p2),⟨.sc (.ro .u8 (cC p0 p1 p2)),[some (.cells [.ro .u8 (cY p0 p1 p2),.b (cw p0 p1 p2)])]⟩)
 |_,_=>none
theorem nD:Known Tryz.prog gD 74 ⟨1,0,qJ⟩:=by
 refine Xw Tryz.f74 48 Zn mixed <|fun E args ks C r h hC hlen=>?_
 simp only at h
 unfold qJ at h
 split at h
 rotate_left
 cases h
 rename_i p2 p0 p1
 cases h
 simp only [bB] at hlen
 refine ⟨rfl,?_⟩
 refine Xs [] [] 32 (v1 pT) <|Tri.seq <|Tri.split p1 (fun h1=>?_) (fun h1=>?_)
 exact Xu [Eb 14 true] none [Eb 22 true] [] [] [] 304 (v6 (pu (Yl 1 2) (v1 (pg h1 (v8 pT))))) <|Tri.cond_true (by kernel_rfl) <|Tri.seq <|Xs [Eb 24 true] [22,1] 336 (v2 pT) <|Tri.cond_true (by kernel_rfl) <|Wt [] [24,0] [Mc 0 [.nils,.b true]] [0] 464 (v4 (pu (Ys 1 2) (v2 (pu (Ys 0 2) pT)))) <|Xs [(4,.sc (.nils))] [] 480 (v1 pT) <|Tri.sub (Sub.nilRo 4 .u8 (by kernel_rfl)) <|Tri.sub (Sub.nilCell (l:=[.nils,.b true]) 0 0 .u8 (by kernel_rfl) (by kernel_rfl)) <|Xy [(0,0)] pz (by simp only [cC,cY,cw,h1,aF,aD] <;> rfl)
 refine Xu [Eb 14 false] none [Eb 22 (decide ((p2:Int)>((p0.length:Nat):Int)))] [] [] [] 304 (v6 (pu (Yl 1 2) (v1 (pg h1 (v4 (pu (Yl 0 2) (v3 pT))))))) <|Xb (fun h2 h2'=>?_) (fun h2 h2'=>?_)
 exact Tri.seq <|Xs [Eb 24 true] [22,1] 336 (v2 pT) <|Tri.cond_true (by kernel_rfl) <|Wt [] [24,0] [Mc 0 [.nils,.b true]] [0] 464 (v4 (pu (Ys 1 2) (v2 (pu (Ys 0 2) pT)))) <|Xs [(4,.sc (.nils))] [] 480 (v1 pT) <|Tri.sub (Sub.nilRo 4 .u8 (by kernel_rfl)) <|Tri.sub (Sub.nilCell (l:=[.nils,.b true]) 0 0 .u8 (by kernel_rfl) (by kernel_rfl)) <|Xy [(0,0)] pz (by simp only [cC,cY,cw,h1,h2,aF,aD] <;> rfl)
 exact Tri.skip <|Xs [Er 5 ((p0.drop 0).take (((p2).toNat)-0))] [22] 432 (v3 (pu (Yl 0 2) (v2 (pu (lo ((0:Int)≤0∧(0:Int)≤p2∧(p2:Int)≤p2∧(p2:Int)≤(p0.length:Int))) (v1 pT))))) <|Xt [] [0,1] [Mc 0 [.ro .u8 ((p0.drop ((p2).toNat)).take (p0.length-((p2).toNat))),.b p1]] [0] 592 (v4 (pu (Yl 0 2) (v1 (pu (lo ((0:Int)≤p2∧(p2:Int)≤((p0.length:Nat):Int)∧((p0.length:Nat):Int)≤(p0.length:Int))) (v2 (pu (Ys 0 2) pT)))))) <|Xs [Er 4 ((p0.drop 0).take (((p2).toNat)-0))] [5] 624 (v2 pT) <|Xy (r':=⟨.sc (.ro .u8 ((p0.drop 0).take (((p2).toNat)-0))),[some (.cells [.ro .u8 ((p0.drop ((p2).toNat)).take (p0.length-((p2).toNat))),.b p1])]⟩) [(0,0)] pz (by simp only [cC,cY,cw,h1,h2,aF,aD])
theorem kh (p0:List Int) (p1:Bool) (p2:Int):(cC p0 p1 p2).length≤p2.toNat:=by
 unfold cC
 cases p1
 ·simp only [aD]
  cases (decide ((p2:Int)>((p0.length:Nat):Int)))
  ·simp only [aD,List.length_take,List.length_drop];omega
  ·simp only [aF,List.length_nil];omega
 ·simp only [aF,List.length_nil];omega
def cS (p0:List Int) (p1:Bool):Int :=
 (sel p1 0 (sel (decide ((1:Int)>((p0.length:Nat):Int))) 0 ((dK p0 p1 1).getD 0 0)))
def aq (p0:List Int) (p1:Bool):List Int :=
 (sel p1 ([]:List Int) (sel (decide ((1:Int)>((p0.length:Nat):Int))) ([]:List Int) (eL p0 p1 1)))
def au (p0:List Int) (p1:Bool):Bool :=
 (sel p1 true (sel (decide ((1:Int)>((p0.length:Nat):Int))) true p1))
def sT:List AV→List Blk→Option (Prop × Ret)
 |[.sc (.p 0 0)],[.cells [.ro .u8 p0,.b p1]]=>some (True,⟨.sc (.i .u8 (cS p0 p1)),[some (.cells [.ro .u8 (aq p0 p1),.b (au p0 p1)])]⟩)
 |_,_=>none
theorem qo:Known Tryz.prog gD 42 ⟨1,0,sT⟩:=by
 refine Xw Tryz.f42 11 (Zc qZ 48 [.io,.val] [] [0] <|Zc su 144 [.io,.val] [] [0] <|Zc sn 240 [.io,.val] [] [0] <|Zn) mixed <|fun E args ks C r h hC hlen=>?_
 simp only at h
 unfold sT at h
 split at h
 rotate_left
 cases h
 rename_i p0 p1
 cases h
 simp only [bB] at hlen
 refine ⟨rfl,?_⟩
 refine Xs [] [] 32 (v1 pT) <|Tri.seq <|Tri.split p1 (fun h1=>?_) (fun h1=>?_)
 exact Xt [(3,.sc (.nils))] [0] [Mc 0 [.ro .u8 ([]:List Int),.b true]] [0] 80 (v1 (pu (pa pT (pa (pl h1) pT)) (v1 pT))) <|Xs [Eb 7 false] [] 112 (v2 pT) <|Tri.cond_false (by kernel_rfl) <|Tri.skip <|Xs [Ek 2 .u8 0] [7,3] 128 (v1 pT) <|Xy [(0,0)] pz (by simp only [cS,aq,au,h1,aF,aD] <;> rfl)
 refine Tri.sub (Sub.up (U':=128) (by decide)) <|Tri.split (decide ((1:Int)>((p0.length:Nat):Int))) (fun h2=>?_) (fun h2=>?_)
 have h2':=of_decide_eq_true h2
 exact Xt [(3,.sc (.nils))] [0] [Mc 0 [.ro .u8 ([]:List Int),.b true]] [0] 176 (v1 (pu (pa pT (pa (pl h1) (pa (pl h2) pT))) (v1 pT))) <|Xs [Eb 7 false] [] 208 (v2 pT) <|Tri.cond_false (by kernel_rfl) <|Tri.skip <|Xs [Ek 2 .u8 0] [7,3] 224 (v1 pT) <|Xy [(0,0)] pz (by simp only [cS,aq,au,h1,h2,aF,aD] <;> rfl)
 have h2':=of_decide_eq_false h2
 refine Tri.sub (Sub.up (U':=224) (by decide)) <|Xt [Er 3 (dK p0 p1 1)] [0] [Mc 0 [.ro .u8 (eL p0 p1 1),.b p1]] [0] 272 (v1 (pu (pa pT (pa (pl h1) (pa (pl h2) (Y0 1)))) (v1 pT))) <|Xs [Eb 7 true] [] 304 (v1 (pu (pl (show 0<(dK p0 p1 1).length from by (have hq:=fv (p0:=p0) (p1:=p1) (p2:=1) (by assumption) (by decide);omega))) pT)) ?_
 refine Tri.cond_true (by kernel_rfl) <|Xs [Ek 2 .u8 ((dK p0 p1 1).getD 0 0)] [7,3] 368 (v1 (pu (pl (show (0:Int)≤0∧0<((dK p0 p1 1).length:Int) from by (have hq:=fv (p0:=p0) (p1:=p1) (p2:=1) (by assumption) (by decide);omega))) (pu (pl (show 0<(dK p0 p1 1).length from by (have hq:=fv (p0:=p0) (p1:=p1) (p2:=1) (by assumption) (by decide);omega))) (v1 pT)))) ?_
 exact Xy (r':=⟨.sc (.i .u8 ((dK p0 p1 1).getD 0 0)),[some (.cells [.ro .u8 (eL p0 p1 1),.b p1])]⟩) [(0,0)] pz (by simp only [cS,aq,au,h1,h2,aF,aD])
def dk (p0:List Int) (p1:Bool):Bool :=
 (((cS p0 p1):Int) != 0)
def ax (p0:List Int) (p1:Bool):List Int :=
 (aq p0 p1)
def bF (p0:List Int) (p1:Bool):Bool :=
 (au p0 p1)
def rV:List AV→List Blk→Option (Prop × Ret)
 |[.sc (.p 0 0)],[.cells [.ro .u8 p0,.b p1]]=>some (True,⟨.sc (.b (dk p0 p1)),[some (.cells [.ro .u8 (ax p0 p1),.b (bF p0 p1)])]⟩)
 |_,_=>none
theorem rC:Known Tryz.prog gD 78 ⟨1,0,rV⟩:=by
 refine Xw Tryz.f78 6 (Zc qo 48 [.io] [] [0] <|Zn) mixed <|fun E args ks C r h hC hlen=>?_
 simp only at h
 unfold rV at h
 split at h
 rotate_left
 cases h
 rename_i p0 p1
 cases h
 simp only [bB] at hlen
 refine ⟨rfl,?_⟩
 exact Xs [] [] 32 (v1 pT) <|Xt [Eb 2 (((cS p0 p1):Int) != 0)] [0] [Mc 0 [.ro .u8 (aq p0 p1),.b (au p0 p1)]] [0] 96 (v1 (pu pz (v2 pT))) <|Xz [(0,0)] pz
def qq (p0:List Int) (p1:Bool):Bool :=
 (!p1)
def vD:List AV→List Blk→Option (Prop × Ret)
 |[.sc (.p 0 0)],[.cells [.ro .u8 p0,.b p1]]=>some (True,⟨.sc (.b (qq p0 p1)),[some (.cells [.ro .u8 p0,.b p1])]⟩)
 |_,_=>none
theorem ve:Known Tryz.prog gD 76 ⟨1,0,vD⟩:=by
 refine Xw Tryz.f76 12 Zn mixed <|fun E args ks C r h hC hlen=>?_
 simp only at h
 unfold vD at h
 split at h
 rotate_left
 cases h
 rename_i p0 p1
 cases h
 simp only [bB] at hlen
 refine ⟨rfl,?_⟩
 exact Xs [] [] 32 (v1 pT) <|Xs [Eb 2 (!p1)] [0] 192 (v6 (pu (Yl 1 2) (v3 pT))) <|Xz [(0,0)] pz
def dg (p0:List Int) (p1:Bool):Bool :=
 (sel (qq p0 p1) ((((p0.length:Nat):Int):Int)==0) false)
def tu:List AV→List Blk→Option (Prop × Ret)
 |[.sc (.p 0 0)],[.cells [.ro .u8 p0,.b p1]]=>some (True,⟨.sc (.b (dg p0 p1)),[some (.cells [.ro .u8 p0,.b p1])]⟩)
 |_,_=>none
theorem gI:Known Tryz.prog gD 44 ⟨1,0,tu⟩:=by
 refine Xw Tryz.f44 13 (Zc ve 48 [.io] [] [0] <|Zn) mixed <|fun E args ks C r h hC hlen=>?_
 simp only at h
 unfold tu at h
 split at h
 rotate_left
 cases h
 rename_i p0 p1
 cases h
 simp only [bB] at hlen
 refine ⟨rfl,?_⟩
 refine Xs [] [] 32 (v1 pT) <|Tri.split (qq p0 p1) (fun h1=>?_) (fun h1=>?_)
 exact Xu [Eb 5 true] none [Eb 2 ((((p0.length:Nat):Int):Int)==0)] [0] [] [] 208 (v1 (pu pz (pg h1 (v3 (pu (Yl 0 2) (v4 pT)))))) <|Xy [(0,0)] pz (by simp only [dg,h1,aF,aD] <;> rfl)
 exact Xu [Eb 5 false] none [Eb 2 false] [0] [] [] 208 (v1 (pu pz (pg h1 (v8 pT)))) <|Xy [(0,0)] pz (by simp only [dg,h1,aF,aD] <;> rfl)
def fY (p0:List Int) (p1:Bool) (k0:Nat) (z0:Int):Int :=
 (iOr .u32 (dE .u32 z0 8) (IntKind.wrap .u32 ((cC p0 p1 4).getD k0 0)))
def dv (p0:List Int) (p1:Bool):Int :=
 (itr (fY p0 p1) ((cC p0 p1 4).length) 0)
def cz (p0:List Int) (p1:Bool):List Int :=
 (cY p0 p1 4)
def dV (p0:List Int) (p1:Bool):Bool :=
 (cw p0 p1 4)
def tw:List AV→List Blk→Option (Prop × Ret)
 |[.sc (.p 0 0)],[.cells [.ro .u8 p0,.b p1]]=>some (True,⟨.sc (.i .u32 (dv p0 p1)),[some (.cells [.ro .u8 (cz p0 p1),.b (dV p0 p1)])]⟩)
 |_,_=>none
theorem vG:Known Tryz.prog gD 75 ⟨1,0,tw⟩:=by
 refine Xw Tryz.f75 20 (Zc nD 64 [.io,.val] [] [0] <|Zn) mixed <|fun E args ks C r h hC hlen=>?_
 simp only at h
 unfold tw at h
 split at h
 rotate_left
 cases h
 rename_i p0 p1
 cases h
 simp only [bB] at hlen
 have hf0:(cC p0 p1 4).length≤4:=kh p0 p1 4
 refine ⟨rfl,?_⟩
 refine Xs [] [] 32 (v1 pT) <|Xs [Ek 3 .u32 0] [] 48 (v1 pT) <|Tri.seq <|Xt [Ei 9 0,Ej 8 ((cC p0 p1 4).length),Er 7 (cC p0 p1 4)] [0] [Mc 0 [.ro .u8 (cY p0 p1 4),.b (cw p0 p1 4)]] [0] 112 (v1 (pu (pa pT (Y0 4)) (v2 pT))) <|Tri.block <|Xc ((cC p0 p1 4).length) (fY p0 p1) 0 (fun k0 z0=>True) (fun k0 z0=>[Ej 9 k0,Ek 3 .u32 z0]) (fun k0 z0=>[]) trivial <|fun k0 z0 hk0 hz0 hJ0=>Xs [Eb 10 (decide ((((k0:Nat):Int):Int)<(((cC p0 p1 4).length:Nat):Int)))] [] 128 (v1 pT) <|Tri.seq <|Xb (fun h1 h1'=>?_) (fun h1 h1'=>?_)
 exact Tri.skip <|Tri.seq <|Tri.block <|Xs [Ek 5 .u8 ((cC p0 p1 4).getD k0 0)] [10] 176 (pu (Yj k0 ((cC p0 p1 4).length)) (pu (Yl k0 ((cC p0 p1 4).length)) (v1 pT))) <|Ws [Ek 3 .u32 (iOr .u32 (dE .u32 z0 8) (IntKind.wrap .u32 ((cC p0 p1 4).getD k0 0)))] [5,3] 272 (v1 (pu (Y0 8) (v4 pT))) <|Wu [Ej 18 (k0+1)] none [Ej 9 (k0+1)] [9] [] [] 304 (pv pT (Yp k0 1) (v1 pT)) <|Xo [] trivial
 refine Tri.exit <|?_
 obtain rfl:k0=((cC p0 p1 4).length):=(by omega);subst hz0
 exact Xs [Ek 2 .u32 (itr (fY p0 p1) ((cC p0 p1 4).length) 0)] [10,9,8,7,3] 160 (v2 pT) <|Xz [(0,0)] pz
theorem nf (p0:List Int) (p1:Bool):0≤dv p0 p1∧dv p0 p1<4294967296:=by
 have h0:∀ n,0≤itr (fY p0 p1) n 0∧itr (fY p0 p1) n 0<4294967296:=by
  intro n
  cases n with
  |zero=>rw [bq];decide
  |succ k=>rw [bf];unfold fY iOr;rw [gf];omega
 exact h0 _
theorem qu (p0:List Int) (p1:Bool):0≤IntKind.wrap .i64 (dv p0 p1):=by
 have:=nf p0 p1
 rw [cO (by omega) (by omega)]
 exact this.1
def aR (p0:List Int) (p1:Bool):ByteArray :=
 (sel (decide (((dv p0 p1):Int)>16384)) (⟨#[]⟩:ByteArray) (aC (cC (cz p0 p1) (dV p0 p1) (IntKind.wrap .i64 (dv p0 p1)))))
def aa (p0:List Int) (p1:Bool):List Int :=
 (sel (decide (((dv p0 p1):Int)>16384)) (cY (cz p0 p1) (dV p0 p1) 1073741824) (cY (cz p0 p1) (dV p0 p1) (IntKind.wrap .i64 (dv p0 p1))))
def af (p0:List Int) (p1:Bool):Bool :=
 (sel (decide (((dv p0 p1):Int)>16384)) (cw (cz p0 p1) (dV p0 p1) 1073741824) (cw (cz p0 p1) (dV p0 p1) (IntKind.wrap .i64 (dv p0 p1))))
def rQ:List AV→List Blk→Option (Prop × Ret)
 |[.sc (.p 0 0)],[.cells [.ro .u8 p0,.b p1]]=>some (True,⟨.sc (.s (aR p0 p1)),[some (.cells [.ro .u8 (aa p0 p1),.b (af p0 p1)])]⟩)
 |_,_=>none
theorem dl:Known Tryz.prog gD 43 ⟨1,0,rQ⟩:=by
 refine Xw Tryz.f43 15 (Zc nD 128 [.io,.val] [] [0] <|Zc nD 160 [.io,.val] [] [0] <|Zc vG 48 [.io] [] [0] <|Zn) mixed <|fun E args ks C r h hC hlen=>?_
 simp only at h
 unfold rQ at h
 split at h
 rotate_left
 cases h
 rename_i p0 p1
 cases h
 simp only [bB] at hlen
 refine ⟨rfl,?_⟩
 refine Xs [] [] 32 (v1 pT) <|Xt [Ek 3 .u32 (dv p0 p1)] [] [Mc 0 [.ro .u8 (cz p0 p1),.b (dV p0 p1)]] [0] 80 (v1 (pu pz (v1 pT))) <|Tri.seq <|Xs [Eb 7 (decide (((dv p0 p1):Int)>16384))] [] 112 (v2 pT) <|Xb (fun h1 h1'=>?_) (fun h1 h1'=>?_)
 exact Xt [] [7,3,0] [Mc 0 [.ro .u8 (cY (cz p0 p1) (dV p0 p1) 1073741824),.b (cw (cz p0 p1) (dV p0 p1) 1073741824)]] [0] 144 (v1 (pu (pa pT (Y0 1073741824)) pT)) <|Xs [Es 2 (⟨#[]⟩:ByteArray)] [] 160 (v1 pT) <|Xy [(0,0)] pz (by simp only [aR,aa,af,h1,aF,aD] <;> rfl)
 exact Tri.skip <|Xt [Es 2 (aC (cC (cz p0 p1) (dV p0 p1) (IntKind.wrap .i64 (dv p0 p1))))] [7,3,0] [Mc 0 [.ro .u8 (cY (cz p0 p1) (dV p0 p1) (IntKind.wrap .i64 (dv p0 p1))),.b (cw (cz p0 p1) (dV p0 p1) (IntKind.wrap .i64 (dv p0 p1)))]] [0] 208 (v3 (pu (pa pT (pl (show (0:Int)≤(IntKind.wrap .i64 (dv p0 p1)) from qu _ _))) (v2 pT))) <|Xy [(0,0)] pz (by simp only [aR,aa,af,h1,aF,aD] <;> rfl)
theorem cf (p0:List Int) (p1:Bool):(aR p0 p1).size≤16384:=by
 unfold aR
 cases h:(decide (((dv p0 p1):Int)>16384))
 ·have h0:=of_decide_eq_false h
  have h1:=nf p0 p1
  have h2:=kh (cz p0 p1) (dV p0 p1) (IntKind.wrap .i64 (dv p0 p1))
  rw [cO (by omega) (by omega)] at h2 ⊢
  rw [aD]
  have h3:∀ xs:List Int,(aC xs).size=xs.length:=fun xs=>by simp [aC,ByteArray.size]
  rw [h3]
  omega
 ·rw [aF];decide
end Go.Vm
namespace Go.Vm
open Go Go.Proofs
def ki (p0:Nat) (p2:List Int) (p3:Int):List Int :=
 p2++[(IntKind.wrap .u8 (ag .u32 p3 24)),(IntKind.wrap .u8 (ag .u32 p3 16)),(IntKind.wrap .u8 (ag .u32 p3 8)),(IntKind.wrap .u8 p3)]
def sW:List AV→List Blk→Option (Prop × Ret)
 |[.sc (.sl 0 0 p0 1 none),.sc (.i .u32 p3)],[.ints .u8 p1 p2]=>some (((p0=p1)∧(p0≤1000000000)),⟨.sc (.sl 1 0 (p0+4) 1 none),[none,some (.ints .u8 (p0+4) (ki p0 p2 p3))]⟩)
 |_,_=>none
theorem uW:Known Tryz.prog gD 69 ⟨1,1,sW⟩:=by
 refine Xw Tryz.f69 19 Zn mixed <|fun E args ks C r h hC hlen=>?_
 simp only at h
 unfold sW at h
 split at h
 rotate_left
 cases h
 rename_i p0 p3 p1 p2
 cases h
 simp only [bB] at hlen
 obtain ⟨hEp1,hC⟩:=hC
 subst hEp1
 refine ⟨rfl,?_⟩
 exact Xs [] [] 32 (v1 pT) <|Xt [El 4 240 (p0+4)] [0,1] [Mi 240 (p0+4) (p2++[(IntKind.wrap .u8 (ag .u32 p3 24)),(IntKind.wrap .u8 (ag .u32 p3 16)),(IntKind.wrap .u8 (ag .u32 p3 8)),(IntKind.wrap .u8 p3)])] [0] 272 (v2 (pu (Y0 24) (v2 (pu (Y0 16) (v2 (pu (Y0 8) (v3 (pu (Yf 4) (pu (Ya (Yw 4) 1 (p0+4) 4 4 p0 p0) (v1 pT)))))))))) <|Xz [(240,1)] pz
def iL (p3:Int):List Int :=
 [(IntKind.wrap .u8 (ag .u32 p3 24)),(IntKind.wrap .u8 (ag .u32 p3 16)),(IntKind.wrap .u8 (ag .u32 p3 8)),(IntKind.wrap .u8 p3)]
def qG:List AV→List Blk→Option (Prop × Ret)
 |[.sc (.nils),.sc (.i .u32 p3)],[]=>some (True,⟨.sc (.sl 0 0 4 1 none),[some (.ints .u8 4 (iL p3))]⟩)
 |_,_=>none
theorem sy:Known Tryz.prog gD 69 ⟨0,1,qG⟩:=by
 refine Xw Tryz.f69 19 Zn mixed <|fun E args ks C r h hC hlen=>?_
 simp only at h
 unfold qG at h
 split at h
 rotate_left
 cases h
 rename_i p3
 cases h
 simp only [bB] at hlen
 refine ⟨rfl,?_⟩
 exact Xs [] [] 32 (v1 pT) <|Xt [El 4 240 4] [0,1] [Mi 240 4 [(IntKind.wrap .u8 (ag .u32 p3 24)),(IntKind.wrap .u8 (ag .u32 p3 16)),(IntKind.wrap .u8 (ag .u32 p3 8)),(IntKind.wrap .u8 p3)]] [] 272 (v2 (pu (Y0 24) (v2 (pu (Y0 16) (v2 (pu (Y0 8) (v3 (pu (Yf 4) (pu (YN (Yw 4) 1 4 4 4) (v1 pT)))))))))) <|Xz [(240,0)] pz
def cN (p0:Nat) (p2:List Int) (p3:ByteArray):List Int :=
 (ki p0 p2 (IntKind.wrap .u32 ((p3.size:Nat):Int)))++(aQ p3)
def ph:List AV→List Blk→Option (Prop × Ret)
 |[.sc (.sl 0 0 p0 1 none),.sc (.s p3)],[.ints .u8 p1 p2]=>some (((p0=p1)∧(p0≤1000000000∧p3.size≤1000000000)),⟨.sc (.sl 1 0 ((p0+4)+p3.size) 1 none),[none,some (.ints .u8 ((p0+4)+p3.size) (cN p0 p2 p3))]⟩)
 |_,_=>none
theorem de:Known Tryz.prog gD 32 ⟨1,1,ph⟩:=by
 refine Xw Tryz.f32 12 (Zc uW 96 [.io,.val] [] [0] <|Zn) mixed <|fun E args ks C r h hC hlen=>?_
 simp only at h
 unfold ph at h
 split at h
 rotate_left
 cases h
 rename_i p0 p3 p1 p2
 cases h
 simp only [bB] at hlen
 obtain ⟨hEp1,hC⟩:=hC
 subst hEp1
 refine ⟨rfl,?_⟩
 exact Xs [] [] 32 (v1 pT) <|Xt [El 4 128 ((p0+4)+p3.size)] [0,1] [Mi 128 ((p0+4)+p3.size) ((ki p0 p2 (IntKind.wrap .u32 ((p3.size:Nat):Int)))++(aQ p3))] [0] 160 (v4 (pu (pa pT (pa (Yr p0) (Ye p0 1000000000))) (v1 (pu (Ya pT 1 ((p0+4)+p3.size) p3.size p3.size (p0+4) (p0+4)) (v1 pT))))) <|Xz [(128,1)] pz
def eT (p3:ByteArray):List Int :=
 (iL (IntKind.wrap .u32 ((p3.size:Nat):Int)))++(aQ p3)
def nw:List AV→List Blk→Option (Prop × Ret)
 |[.sc (.nils),.sc (.s p3)],[]=>some ((p3.size≤1000000000),⟨.sc (.sl 0 0 (4+p3.size) 1 none),[some (.ints .u8 (4+p3.size) (eT p3))]⟩)
 |_,_=>none
theorem ny:Known Tryz.prog gD 32 ⟨0,1,nw⟩:=by
 refine Xw Tryz.f32 12 (Zv sy 96 2 <|Zn) mixed <|fun E args ks C r h hC hlen=>?_
 simp only at h
 unfold nw at h
 split at h
 rotate_left
 cases h
 rename_i p3
 cases h
 simp only [bB] at hlen
 refine ⟨rfl,?_⟩
 exact Xs [] [] 32 (v1 pT) <|Xt [El 4 128 (4+p3.size)] [0,1] [Mi 128 (4+p3.size) ((iL (IntKind.wrap .u32 ((p3.size:Nat):Int)))++(aQ p3))] [] 160 (v4 (pu pz (v1 (pu (Ya pT 1 (4+p3.size) p3.size p3.size 4 4) (v1 pT))))) <|Xz [(128,0)] pz
def nd (p0:Nat) (p2:List Int) (p3:List ByteArray):List Int :=
 (cN p0 p2 (gJ p3 (⟨#[44]⟩:ByteArray)))
def dh (p0:Nat) (p2:List Int) (p3:List ByteArray):Nat :=
 (p0+4)+(gJ p3 (⟨#[44]⟩:ByteArray)).size
def nO:List AV→List Blk→Option (Prop × Ret)
 |[.sc (.sl 0 0 p0 1 none),.sc (.ros p3)],[.ints .u8 p1 p2]=>some (((p0=p1)∧(p0≤1000000000∧p3.length≤1000000000∧(gJ p3 (⟨#[44]⟩:ByteArray)).size≤1000000000)),⟨.sc (.sl 1 0 (dh p0 p2 p3) 1 none),[none,some (.ints .u8 (dh p0 p2 p3) (nd p0 p2 p3))]⟩)
 |_,_=>none
theorem sv:Known Tryz.prog gD 83 ⟨1,1,nO⟩:=by
 refine Xw Tryz.f83 9 (Zc de 80 [.io,.val] [] [0] <|Zc vR 64 [.ros,.val] [] [] <|Zn) mixed <|fun E args ks C r h hC hlen=>?_
 simp only at h
 unfold nO at h
 split at h
 rotate_left
 cases h
 rename_i p0 p3 p1 p2
 cases h
 simp only [bB] at hlen
 obtain ⟨hEp1,hC⟩:=hC
 subst hEp1
 refine ⟨rfl,?_⟩
 exact Xs [] [] 32 (v1 pT) <|Xt [El 4 80 ((p0+4)+(gJ p3 (⟨#[44]⟩:ByteArray)).size)] [0,1] [Mi 80 ((p0+4)+(gJ p3 (⟨#[44]⟩:ByteArray)).size) (cN p0 p2 (gJ p3 (⟨#[44]⟩:ByteArray)))] [0] 112 (v2 (pu (pa pT (lo (p3.length≤1000000000∧(gJ p3 (⟨#[44]⟩:ByteArray)).size≤1000000000))) (pu (pa pT (pa (Yr p0) (lo (p0≤1000000000∧(gJ p3 (⟨#[44]⟩:ByteArray)).size≤1000000000)))) (v1 pT)))) <|Xz [(80,1)] pz
def ei (p0:Nat) (p2:List Int) (p3:Bool):List Int :=
 (sel p3 (p2++[1]) (p2++[0]))
def qI:List AV→List Blk→Option (Prop × Ret)
 |[.sc (.sl 0 0 p0 1 none),.sc (.b p3)],[.ints .u8 p1 p2]=>some (((p0=p1)∧(p0≤1000000000)),⟨.sc (.sl 1 0 (p0+1) 1 none),[none,some (.ints .u8 (p0+1) (ei p0 p2 p3))]⟩)
 |_,_=>none
theorem jt:Known Tryz.prog gD 33 ⟨1,1,qI⟩:=by
 refine Xw Tryz.f33 12 Zn mixed <|fun E args ks C r h hC hlen=>?_
 simp only at h
 unfold qI at h
 split at h
 rotate_left
 cases h
 rename_i p0 p3 p1 p2
 cases h
 simp only [bB] at hlen
 obtain ⟨hEp1,hC⟩:=hC
 subst hEp1
 refine ⟨rfl,?_⟩
 refine Xs [] [] 32 (v1 pT) <|Tri.seq <|Xs [Eb 5 p3] [1] 48 (v1 pT) <|Xa (fun h1=>?_) (fun h1=>?_)
 exact Xt [El 4 80 (p0+1)] [5,0] [Mi 80 (p0+1) (p2++[1])] [0] 112 (v1 (pu (Yf 1) (pu (Ya (Yw 1) 1 (p0+1) 1 1 p0 p0) (v1 pT)))) <|Xy [(80,1)] pz (by simp only [ei,h1,aF,aD] <;> rfl)
 exact Tri.skip <|Xt [El 4 80 (p0+1)] [5,0] [Mi 80 (p0+1) (p2++[0])] [0] 112 (v1 (pu (Yf 1) (pu (Ya (Yw 1) 1 (p0+1) 1 1 p0 p0) (v1 pT)))) <|Xy [(80,1)] pz (by simp only [ei,h1,aF,aD] <;> rfl)
end Go.Vm
namespace Go.Vm
open Go Go.Proofs
def bH (p0:Nat) (p2:List Int):List Int :=
 aA p2 p0 0 p0
def pm:List AV→List Blk→Option (Prop × Ret)
 |[.sc (.sl 0 0 p0 1 none)],[.ints .u8 p1 p2]=>some (((p0=p1)∧True),⟨.sc (.p 1 0),[none,some (.cells [.ro .u8 (bH p0 p2),.b false])]⟩)
 |_,_=>none
theorem mz:Known Tryz.prog gD 41 ⟨1,1,pm⟩:=by
 refine Xw Tryz.f41 6 Zn mixed <|fun E args ks C r h hC hlen=>?_
 simp only at h
 unfold pm at h
 split at h
 rotate_left
 cases h
 rename_i p0 p1 p2
 cases h
 simp only [bB] at hlen
 obtain ⟨hEp1,hC⟩:=hC
 subst hEp1
 refine ⟨rfl,?_⟩
 refine Tri.sub (Xf 0 (.ints .u8 p0 p2) (show 0+p0≤p0 from by first|omega|(rw [dH];omega)|exact dF _ _|exact dB _ _|exact bP (by omega) (by first|omega|(simp only [List.length_append];omega))|decide)) ?_
 exact Xs [] [] 32 (v1 pT) <|Xt [Ep 2 64] [0] [Mc 64 [.ro .u8 (aA p2 p0 0 p0),.b false]] [] 96 (v1 (pu (pa (Ys 0 2) pT) (v2 pT))) <|Xz [(64,1)] pz
def oN:List Int :=
 (eT (⟨#[115,115,104,45,101,100,50,53,53,49,57]⟩:ByteArray))
def kt (p0:ByteArray):List Int :=
 (cN (4+(⟨#[115,115,104,45,101,100,50,53,53,49,57]⟩:ByteArray).size) (oN) p0)
def cQ (p0:ByteArray):ByteArray :=
 (aC (((kt p0).drop 0).take (((4+(⟨#[115,115,104,45,101,100,50,53,53,49,57]⟩:ByteArray).size)+4)+p0.size)))
def qt:List AV→List Blk→Option (Prop × Ret)
 |[.sc (.s p0)],[]=>some ((p0.size≤1000000000),⟨.sc (.s (cQ p0)),[]⟩)
 |_,_=>none
theorem um:Known Tryz.prog gD 29 ⟨0,0,qt⟩:=by
 refine Xw Tryz.f29 7 (Zv ny 32 2 <|Zc de 64 [.io,.val] [] [32] <|Zn) mixed <|fun E args ks C r h hC hlen=>?_
 simp only at h
 unfold qt at h
 split at h
 rotate_left
 cases h
 rename_i p0
 cases h
 simp only [bB] at hlen
 have sz:(⟨#[115,115,104,45,101,100,50,53,53,49,57]⟩:ByteArray).size=11:=rfl
 refine ⟨rfl,?_⟩
 exact Xs [] [] 32 (v1 pT) <|Xs [Es 2 (aC (((kt p0).drop 0).take (((4+(⟨#[115,115,104,45,101,100,50,53,53,49,57]⟩:ByteArray).size)+4)+p0.size)))] [0] 112 (pu (pa pT (Ye ((⟨#[115,115,104,45,101,100,50,53,53,49,57]⟩:ByteArray).size) 1000000000)) (v1 (pu (pa pT (pa (Yr (4+(⟨#[115,115,104,45,101,100,50,53,53,49,57]⟩:ByteArray).size)) (lo ((4+(⟨#[115,115,104,45,101,100,50,53,53,49,57]⟩:ByteArray).size)≤1000000000∧p0.size≤1000000000)))) (pu (Yw (((4+(⟨#[115,115,104,45,101,100,50,53,53,49,57]⟩:ByteArray).size)+4)+p0.size)) (v1 pT))))) <|Xz [] pz
theorem gt (s:ByteArray):(cQ s).size≤s.size+19:=by
 have sz:(⟨#[115,115,104,45,101,100,50,53,53,49,57]⟩:ByteArray).size=11:=rfl
 unfold cQ
 rw [cF,List.length_take,sz]
 omega
def dp (p0:ByteArray):ByteArray :=
 (aR (aa (bH p0.size (aQ p0)) false) (af (bH p0.size (aQ p0)) false))
def fA (p0:ByteArray):List Int :=
 (aa (aa (bH p0.size (aQ p0)) false) (af (bH p0.size (aQ p0)) false))
def fC (p0:ByteArray):Bool :=
 (af (aa (bH p0.size (aQ p0)) false) (af (bH p0.size (aQ p0)) false))
def bI (p0:ByteArray):ByteArray :=
 (sel (!(dg (fA p0) (fC p0))) (⟨#[]⟩:ByteArray) (sel (!(aP (aR (bH p0.size (aQ p0)) false) (⟨#[115,115,104,45,101,100,50,53,53,49,57]⟩:ByteArray))) (⟨#[]⟩:ByteArray) (sel (((((dp p0).size:Nat):Int):Int) != 32) (⟨#[]⟩:ByteArray) (dp p0))))
def ky:List AV→List Blk→Option (Prop × Ret)
 |[.sc (.s p0)],[]=>some ((p0.size≤1000000000),⟨.sc (.s (bI p0)),[]⟩)
 |_,_=>none
theorem pR:Known Tryz.prog gD 80 ⟨0,0,ky⟩:=by
 refine Xw Tryz.f80 26 (Zc mz 64 [.io] [] [48] <|Zc dl 112 [.io] [] [64] <|Zc dl 144 [.io] [] [64] <|Zc gI 208 [.io] [] [64] <|Zn) mixed <|fun E args ks C r h hC hlen=>?_
 simp only at h
 unfold ky at h
 split at h
 rotate_left
 cases h
 rename_i p0
 cases h
 simp only [bB] at hlen
 refine ⟨rfl,?_⟩
 refine Xs [] [] 32 (v1 pT) <|Xt [Ep 3 64] [0] [Mc 64 [.ro .u8 (bH p0.size (aQ p0)),.b false]] [] 96 (v2 (pu (pa pT (pa (Yr p0.size) pT)) (v1 pT))) <|Xt [Es 5 (dp p0),Es 4 (aR (bH p0.size (aQ p0)) false)] [] [Mc 64 [.ro .u8 (fA p0),.b (fC p0)]] [64] 192 (v1 (pu pz (v1 (pu pz (v2 pT))))) <|Tri.seq <|Tri.split (!(dg (fA p0) (fC p0))) (fun h1=>?_) (fun h1=>?_)
 exact Xu [Eb 16 true] none [Eb 24 true] [4,3] [] [64] 384 (v1 (pu pz (v1 (pg h1 (v8 pT))))) <|Tri.cond_true (by kernel_rfl) <|Xs [Es 2 (⟨#[]⟩:ByteArray)] [24,5] 400 (v1 pT) <|Xy [] pz (by simp only [bI,h1,aF,aD] <;> rfl)
 refine Tri.split (!(aP (aR (bH p0.size (aQ p0)) false) (⟨#[115,115,104,45,101,100,50,53,53,49,57]⟩:ByteArray))) (fun h2=>?_) (fun h2=>?_)
 exact Xu [Eb 16 false,Eb 20 true] none [Eb 24 true] [4,3] [] [64] 384 (v1 (pu pz (v1 (pg h1 (v3 (pg h2 (v4 pT))))))) <|Tri.cond_true (by kernel_rfl) <|Xs [Es 2 (⟨#[]⟩:ByteArray)] [24,5] 400 (v1 pT) <|Xy [] pz (by simp only [bI,h1,h2,aF,aD] <;> rfl)
 refine Xu [Eb 16 false,Eb 20 false] none [Eb 24 (((((dp p0).size:Nat):Int):Int) != 32)] [4,3] [] [64] 384 (v1 (pu pz (v1 (pg h1 (v3 (pg h2 (v4 pT))))))) <|Xa (fun h3=>?_) (fun h3=>?_)
 have h3':=bY h3
 exact Xs [Es 2 (⟨#[]⟩:ByteArray)] [24,5] 400 (v1 pT) <|Xy [] pz (by simp only [bI,h1,h2,h3,aF,aD] <;> rfl)
 have h3':=bJ h3
 exact Tri.skip <|Xs [Es 2 (dp p0)] [24,5] 416 (v2 pT) <|Xy [] pz (by simp only [bI,h1,h2,h3,aF,aD] <;> rfl)
def eq (p0:ByteArray):ByteArray :=
 (aR (aa (bH p0.size (aQ p0)) false) (af (bH p0.size (aQ p0)) false))
def fT (p0:ByteArray):List Int :=
 (aa (aa (bH p0.size (aQ p0)) false) (af (bH p0.size (aQ p0)) false))
def fX (p0:ByteArray):Bool :=
 (af (aa (bH p0.size (aQ p0)) false) (af (bH p0.size (aQ p0)) false))
def gL (p0:ByteArray):Bool:=sel (!(dg (fT p0) (fX p0))) true (sel (!(aP (aR (bH p0.size (aQ p0)) false) (⟨#[115,115,104,45,101,100,50,53,53,49,57]⟩:ByteArray))) true (((((eq p0).size:Nat):Int):Int) != 64))
theorem pi {p0:ByteArray} (h:gL p0=false):(!(dg (fT p0) (fX p0)))=false∧(!(aP (aR (bH p0.size (aQ p0)) false) (⟨#[115,115,104,45,101,100,50,53,53,49,57]⟩:ByteArray)))=false∧(((((eq p0).size:Nat):Int):Int) != 64)=false:=by
 unfold gL at h
 revert h
 generalize (!(dg (fT p0) (fX p0)))=a
 generalize (!(aP (aR (bH p0.size (aQ p0)) false) (⟨#[115,115,104,45,101,100,50,53,53,49,57]⟩:ByteArray)))=b
 generalize (((((eq p0).size:Nat):Int):Int) != 64)=c
 intro h
 cases a
 ·cases b
  ·rw [aD,aD] at h;exact ⟨rfl,rfl,h⟩
  ·rw [aD,aF] at h;cases h
 ·rw [aF] at h;cases h
theorem tc {p0:ByteArray} (h:gL p0=true) (h1:(!(dg (fT p0) (fX p0)))=false) (h2:(!(aP (aR (bH p0.size (aQ p0)) false) (⟨#[115,115,104,45,101,100,50,53,53,49,57]⟩:ByteArray)))=false):(((((eq p0).size:Nat):Int):Int) != 64)=true:=by
 unfold gL at h
 rw [h1,h2,aD,aD] at h
 exact h
def ap (p0:ByteArray):ByteArray :=
 (aR (aa (bH p0.size (aQ p0)) false) (af (bH p0.size (aQ p0)) false))
def hI (p0:ByteArray):List Int :=
 (aa (aa (bH p0.size (aQ p0)) false) (af (bH p0.size (aQ p0)) false))
def hE (p0:ByteArray):Bool :=
 (af (aa (bH p0.size (aQ p0)) false) (af (bH p0.size (aQ p0)) false))
def el (p0:ByteArray):List Int :=
 aQ (ap p0)
def ji:List AV→List Blk→Option (Prop × Ret)
 |[.sc (.s p0)],[]=>some ((((gL p0)=false)∧(p0.size≤1000000000)),⟨.sc (.sl 0 0 ((ap p0).size) 1 none),[some (.ints .u8 ((ap p0).size) (el p0))]⟩)
 |_,_=>none
theorem gb:Known Tryz.prog gD 81 ⟨0,1,ji⟩:=by
 refine Xw Tryz.f81 27 (Zc mz 64 [.io] [] [48] <|Zc dl 112 [.io] [] [64] <|Zc dl 144 [.io] [] [64] <|Zc gI 208 [.io] [] [64] <|Zn) mixed <|fun E args ks C r h hC hlen=>?_
 simp only at h
 unfold ji at h
 split at h
 rotate_left
 cases h
 rename_i p0
 cases h
 simp only [bB] at hlen
 have hG0:=hC.1
 have hC:=hC.2
 have hsig:=pi hG0
 refine ⟨rfl,?_⟩
 refine Xs [] [] 32 (v1 pT) <|Xt [Ep 3 64] [0] [Mc 64 [.ro .u8 (bH p0.size (aQ p0)),.b false]] [] 96 (v2 (pu (pa pT (pa (Yr p0.size) pT)) (v1 pT))) <|Xt [Es 5 (ap p0),Es 4 (aR (bH p0.size (aQ p0)) false)] [] [Mc 64 [.ro .u8 (hI p0),.b (hE p0)]] [64] 192 (v1 (pu pz (v1 (pu pz (v2 pT))))) <|Tri.seq <|Xu [Eb 16 false,Eb 20 false] none [Eb 24 (((((ap p0).size:Nat):Int):Int) != 64)] [4,3] [] [64] 384 (v1 (pu pz (v1 (pv pT (pl (show (!(dg (hI p0) (hE p0)))=false from hsig.1)) (v3 (pv pT (pl (show (!(aP (aR (bH p0.size (aQ p0)) false) (⟨#[115,115,104,45,101,100,50,53,53,49,57]⟩:ByteArray)))=false from hsig.2.1)) (v4 pT))))))) <|Tri.cond (x:=(((((ap p0).size:Nat):Int):Int) != 64)) (by kernel_rfl) (fun h=>absurd (h.symm.trans hsig.2.2) (by decide)) (fun h=>?_)
 exact Tri.skip <|Xt [El 2 400 ((ap p0).size)] [24,5] [Mi 400 ((ap p0).size) (aQ (ap p0))] [] 432 (v3 pT) <|Xz [(400,0)] pz
theorem tS {p0:ByteArray} (h:gL p0=false):0<(ap p0).size:=by
 have h3:=bJ (pi h).2.2
 have e:(ap p0).size=(eq p0).size:=rfl
 omega
def fb (p0:ByteArray):ByteArray :=
 (aR (aa (bH p0.size (aQ p0)) false) (af (bH p0.size (aQ p0)) false))
def gv (p0:ByteArray):List Int :=
 (aa (aa (bH p0.size (aQ p0)) false) (af (bH p0.size (aQ p0)) false))
def hZ (p0:ByteArray):Bool :=
 (af (aa (bH p0.size (aQ p0)) false) (af (bH p0.size (aQ p0)) false))
def ja:List AV→List Blk→Option (Prop × Ret)
 |[.sc (.s p0)],[]=>some ((((gL p0)=true)∧(p0.size≤1000000000)),⟨.sc (.nils),[]⟩)
 |_,_=>none
theorem nZ:Known Tryz.prog gD 81 ⟨0,0,ja⟩:=by
 refine Xw Tryz.f81 27 (Zc mz 64 [.io] [] [48] <|Zc dl 112 [.io] [] [64] <|Zc dl 144 [.io] [] [64] <|Zc gI 208 [.io] [] [64] <|Zn) mixed <|fun E args ks C r h hC hlen=>?_
 simp only at h
 unfold ja at h
 split at h
 rotate_left
 cases h
 rename_i p0
 cases h
 simp only [bB] at hlen
 have hG0:=hC.1
 have hC:=hC.2
 refine ⟨rfl,?_⟩
 refine Xs [] [] 32 (v1 pT) <|Xt [Ep 3 64] [0] [Mc 64 [.ro .u8 (bH p0.size (aQ p0)),.b false]] [] 96 (v2 (pu (pa pT (pa (Yr p0.size) pT)) (v1 pT))) <|Xt [Es 5 (fb p0),Es 4 (aR (bH p0.size (aQ p0)) false)] [] [Mc 64 [.ro .u8 (gv p0),.b (hZ p0)]] [64] 192 (v1 (pu pz (v1 (pu pz (v2 pT))))) <|Tri.seq <|Tri.split (!(dg (gv p0) (hZ p0))) (fun h1=>?_) (fun h1=>?_)
 exact Xu [Eb 16 true] none [Eb 24 true] [4,3] [] [64] 384 (v1 (pu pz (v1 (pg h1 (v8 pT))))) <|Tri.cond_true (by kernel_rfl) <|Xs [(2,.sc (.nils))] [24,5] 400 (v1 pT) <|Xy [] pz rfl
 refine Tri.split (!(aP (aR (bH p0.size (aQ p0)) false) (⟨#[115,115,104,45,101,100,50,53,53,49,57]⟩:ByteArray))) (fun h2=>?_) (fun h2=>?_)
 exact Xu [Eb 16 false,Eb 20 true] none [Eb 24 true] [4,3] [] [64] 384 (v1 (pu pz (v1 (pg h1 (v3 (pg h2 (v4 pT))))))) <|Tri.cond_true (by kernel_rfl) <|Xs [(2,.sc (.nils))] [24,5] 400 (v1 pT) <|Xy [] pz rfl
 refine Xu [Eb 16 false,Eb 20 false] none [Eb 24 (((((fb p0).size:Nat):Int):Int) != 64)] [4,3] [] [64] 384 (v1 (pu pz (v1 (pg h1 (v3 (pg h2 (v4 pT))))))) <|Tri.cond (x:=(((((fb p0).size:Nat):Int):Int) != 64)) (by kernel_rfl) (fun h=>?_) (fun h=>absurd (h.symm.trans (tc hG0 h1 h2)) (by decide))
 exact Xs [(2,.sc (.nils))] [24,5] 400 (v1 pT) <|Xy [] pz rfl
end Go.Vm
namespace Go.Vm
open Go Go.Proofs
def lJ (p0:Int) (k0:Nat) (z0:List Int):List Int :=
 z0.set k0 p0
def ij (p0:Int):List Int :=
 (itr (lJ p0) 32 (List.replicate 32 0))
def ba (p0:Int):ByteArray :=
 (aC (((ij p0).drop 0).take 32))
def qx:List AV→List Blk→Option (Prop × Ret)
 |[.sc (.i .u8 p0)],[]=>some (True,⟨.sc (.s (ba p0)),[]⟩)
 |_,_=>none
theorem od:Known Tryz.prog gD 25 ⟨0,0,qx⟩:=by
 refine Xw Tryz.f25 18 Zn mixed <|fun E args ks C r h hC hlen=>?_
 simp only at h
 unfold qx at h
 split at h
 rotate_left
 cases h
 rename_i p0
 cases h
 simp only [bB] at hlen
 refine ⟨rfl,?_⟩
 refine Xs [] [] 32 (v1 pT) <|Xt [El 3 32 32] [] [Mi 32 32 (List.replicate 32 0)] [] 64 (pu (pa (lo ((0:Int)≤32∧(32:Int)=32)) (pa (lo (32≤(140737488355328:Int))) (lo (((1:Nat):Int)*32≤281474976710656)))) (v1 pT)) <|Tri.seq <|Xs [Ei 8 0,Ei 7 32] [] 112 (v3 pT) <|Tri.block <|Xc 32 (lJ p0) (List.replicate 32 0) (fun k0 z0=>True) (fun k0 z0=>[Ej 8 k0]) (fun k0 z0=>[Mi 32 32 z0]) trivial <|fun k0 z0 hk0 hz0 hJ0=>Xs [Eb 9 (decide ((((k0:Nat):Int):Int)<32))] [] 128 (v1 pT) <|Tri.seq <|Xb (fun h1 h1'=>?_) (fun h1 h1'=>?_)
 exact Tri.skip <|Tri.seq <|Tri.block <|Xs [Ej 4 k0] [9] 160 (v2 pT) <|Wt [] [4] [Mi 32 32 (z0.set k0 p0)] [32] 240 (v3 (pu (Yj k0 32) (pu (Ys k0 32) pT))) <|Wu [Ej 15 (k0+1)] none [Ej 8 (k0+1)] [8] [] [] 272 (pv pT (Yp k0 1) (v1 pT)) <|Xo [] trivial
 refine Tri.exit <|?_
 obtain rfl:k0=32:=(by omega);obtain rfl:z0=(ij p0):=hz0
 exact Xt [Es 2 (aC (((ij p0).drop 0).take 32))] [9,8,7,3,0] [] [32] 176 (v1 (pu (Yw 32) (v1 pT))) <|Xz [] pz
theorem qS (c:Int):(ba c).size=32:=by
 have h:∀ (f:Nat→List Int→List Int) (hf:∀ k z,(f k z).length=z.length) (n:Nat) (z:List Int),(itr f n z).length=z.length:=by
  intro f hf n z
  induction n with
  |zero=>rw [bq]
  |succ n ih=>rw [bf,hf,ih]
 unfold ba ij
 rw [cF,List.length_take,List.drop_zero,h _ (fun k z=>by unfold lJ;rw [List.length_set])]
 decide
theorem fo (c:Int):(aA (aQ (ba c)) (ba c).size 0 (ba c).size).length=32:=by rw [cy (bL _),bL,qS]
def iv:List Int :=
 (rl (aA (aQ (ba 107)) ((ba 107).size) 0 ((ba 107).size)))
def mE:List Int :=
 (rl (aA (aQ (ba 99)) ((ba 99).size) 0 ((ba 99).size)))
def dq:ByteArray :=
 (aC (((iv).drop 0).take 32))
def cl:ByteArray :=
 (aC (((mE).drop 0).take 32))
def UA:List Sc:=[.s (⟨#[97,110,110]⟩:ByteArray),.s (⟨#[115,101,99,114,101,116]⟩:ByteArray),.s (⟨#[]⟩:ByteArray),.nils,.s (⟨#[98,111,98]⟩:ByteArray),.s (⟨#[]⟩:ByteArray),.s (dq),.nils,.s (⟨#[99,121]⟩:ByteArray),.s (⟨#[119,111,114,100]⟩:ByteArray),.s (cl),.nils,.s (⟨#[110,105,108]⟩:ByteArray),.s (⟨#[]⟩:ByteArray),.s (⟨#[]⟩:ByteArray),.nils]
def pe:List AV→List Blk→Option (Prop × Ret)
 |[],[]=>some (True,⟨.sc (.sl 0 0 4 4 none),[some (.cells UA)]⟩)
 |_,_=>none
theorem nJ:Known Tryz.prog gD 19 ⟨0,1,pe⟩:=by
 refine Xw Tryz.f19 16 (Zc uf 64 [.ro .u8] [48] [] <|Zc uf 192 [.ro .u8] [176] [] <|Zv od 32 1 <|Zv od 160 1 <|Zn) mixed <|fun E args ks C r h hC hlen=>?_
 simp only at h
 unfold pe at h
 split at h
 rotate_left
 cases h
 cases h
 simp only [bB] at hlen
 refine ⟨rfl,?_⟩
 exact Xs [] [] 32 (v1 pT) <|Xs [Es 1 (aC (((iv).drop 0).take 32))] [] 112 (pu pz (v1 (pu (pa (pa (Yw ((ba 107).size)) pT) (pl (show (aA (aQ (ba 107)) ((ba 107).size) 0 ((ba 107).size)).length=32 from fo _))) (pu (Yw 32) (v1 pT))))) <|Xt [(0,.sc (.sl 256 0 4 4 none))] [1] [Mc 256 [.s (⟨#[97,110,110]⟩:ByteArray),.s (⟨#[115,101,99,114,101,116]⟩:ByteArray),.s (⟨#[]⟩:ByteArray),.nils,.s (⟨#[98,111,98]⟩:ByteArray),.s (⟨#[]⟩:ByteArray),.s (aC (((iv).drop 0).take 32)),.nils,.s (⟨#[99,121]⟩:ByteArray),.s (⟨#[119,111,114,100]⟩:ByteArray),.s (aC (((mE).drop 0).take 32)),.nils,.s (⟨#[110,105,108]⟩:ByteArray),.s (⟨#[]⟩:ByteArray),.s (⟨#[]⟩:ByteArray),.nils]] [] 288 (pu (pa (Ys 0 4) (pa (Ys 1 4) pT)) (v1 (pu (pa (Ys 0 4) (pa (Ys 2 4) pT)) (pu pz (v1 (pu (pa (pa (Yw ((ba 99).size)) pT) (pl (show (aA (aQ (ba 99)) ((ba 99).size) 0 ((ba 99).size)).length=32 from fo _))) (pu (Yw 32) (pu (pa (Ys 0 4) (pa (Ys 1 4) (pa (Ys 2 4) pT))) (pu (pa (Ys 0 4) pT) (pu (pa (pa (pa (Ye (0+4) 16) (Yr 4)) (pa (pa (Ye (4+4) 16) (Yr 4)) (pa (pa (Ye (8+4) 16) (Yr 4)) (pa (pa (Ye (12+4) 16) (Yr 4)) pT)))) (pa (Ye (4*4) 16777216) (Yr 4))) (v1 pT))))))))))) <|Xz [(256,0)] pz
def uB:List AV→List Blk→Option (Prop × Ret)
 |[.sc (.sl 0 0 4 4 none),.sc (.ro .u8 p1),.sc (.i .i64 p2)],[.cells p9]=>some (((UA=p9)∧(p1.length≤100000)),⟨.sc (.p 1 0),[some (.cells UA),some (.cells [.sl 0 0 4 4 none,.sl 2 0 p1.length 1 none,.i .i64 p2,.b false,.s (⟨#[]⟩:ByteArray),.b false]),some (.ints .u8 p1.length p1)]⟩)
 |_,_=>none
theorem tn:Known Tryz.prog gD 18 ⟨1,2,uB⟩:=by
 refine Xw Tryz.f18 13 Zn mixed <|fun E args ks C r h hC hlen=>?_
 simp only at h
 unfold uB at h
 split at h
 rotate_left
 cases h
 rename_i p1 p2 p9
 cases h
 simp only [bB] at hlen
 obtain ⟨hEp9,hC⟩:=hC
 subst hEp9
 refine ⟨rfl,?_⟩
 exact Xs [] [] 32 (v1 pT) <|Xt [Ep 6 112] [0,1,2] [Mc 112 [.sl 0 0 4 4 none,.sl 64 0 p1.length 1 none,.i .i64 p2,.b false,.s (⟨#[]⟩:ByteArray),.b false],Mi 64 p1.length p1] [] 144 (v2 (pu (YN pT 1 p1.length p1.length p1.length) (v1 (pu (pa (Ys 0 6) (pa (Ys 1 6) (pa (Ys 2 6) pT))) (v2 pT))))) <|Xz [(0,0),(112,1),(64,2)] pz
def dT (p3:ByteArray) (p4:Bool):ByteArray :=
 (sel (!p4) (⟨#[]⟩:ByteArray) p3)
def qn:List AV→List Blk→Option (Prop × Ret)
 |[.sc (.p 0 0)],[.cells [.sl 1 0 4 4 none,.sl 2 0 p10 1 none,.i .i64 p1,.b p2,.s p3,.b p4],.cells p9,.ints .u8 p11 p0]=>some (((p10=p11)∧((UA=p9)∧True)),⟨.sc (.s (dT p3 p4)),[some (.cells [.sl 1 0 4 4 none,.sl 2 0 p10 1 none,.i .i64 p1,.b p2,.s p3,.b p4]),some (.cells UA),some (.ints .u8 p10 p0)]⟩)
 |_,_=>none
theorem pK:Known Tryz.prog gD 21 ⟨3,0,qn⟩:=by
 refine Xw Tryz.f21 16 Zn mixed <|fun E args ks C r h hC hlen=>?_
 simp only at h
 unfold qn at h
 split at h
 rotate_left
 cases h
 rename_i p10 p1 p2 p3 p4 p9 p11 p0
 cases h
 simp only [bB] at hlen
 obtain ⟨hEp11,hC⟩:=hC
 obtain ⟨hEp9,hC⟩:=hC
 subst hEp11
 subst hEp9
 refine ⟨rfl,?_⟩
 refine Xs [] [] 32 (v1 pT) <|Tri.seq <|Xs [Eb 11 (!p4)] [] 176 (v6 (pu (Yl 5 6) (v2 pT))) <|Xa (fun h1=>?_) (fun h1=>?_)
 exact Xs [Es 2 (⟨#[]⟩:ByteArray)] [11,0] 192 (v1 pT) <|Xy (r':=⟨.sc (.s (⟨#[]⟩:ByteArray)),[some (.cells [.sl 1 0 4 4 none,.sl 2 0 p10 1 none,.i .i64 p1,.b p2,.s p3,.b p4]),some (.cells UA),some (.ints .u8 p10 p0)]⟩) [(0,0),(1,1),(2,2)] pz (by simp only [dT,h1,aF,aD])
 exact Tri.skip <|Xs [Es 2 p3] [11,0] 256 (v3 (pu (Yl 4 6) (v1 pT))) <|Xy (r':=⟨.sc (.s p3),[some (.cells [.sl 1 0 4 4 none,.sl 2 0 p10 1 none,.i .i64 p1,.b p2,.s p3,.b p4]),some (.cells UA),some (.ints .u8 p10 p0)]⟩) [(0,0),(1,1),(2,2)] pz (by simp only [dT,h1,aF,aD])
def iD (p5:ByteArray):ByteArray :=
 (sel (aP (⟨#[97,110,110]⟩:ByteArray) p5) (⟨#[97,110,110]⟩:ByteArray) (sel (aP (⟨#[98,111,98]⟩:ByteArray) p5) (⟨#[98,111,98]⟩:ByteArray) (sel (aP (⟨#[99,121]⟩:ByteArray) p5) (⟨#[99,121]⟩:ByteArray) (sel (aP (⟨#[110,105,108]⟩:ByteArray) p5) (⟨#[110,105,108]⟩:ByteArray) (⟨#[]⟩:ByteArray)))))
def dD (p5:ByteArray):ByteArray :=
 (sel (aP (⟨#[97,110,110]⟩:ByteArray) p5) (⟨#[115,101,99,114,101,116]⟩:ByteArray) (sel (aP (⟨#[98,111,98]⟩:ByteArray) p5) (⟨#[]⟩:ByteArray) (sel (aP (⟨#[99,121]⟩:ByteArray) p5) (⟨#[119,111,114,100]⟩:ByteArray) (⟨#[]⟩:ByteArray))))
def cG (p5:ByteArray):ByteArray :=
 (sel (aP (⟨#[97,110,110]⟩:ByteArray) p5) (⟨#[]⟩:ByteArray) (sel (aP (⟨#[98,111,98]⟩:ByteArray) p5) (dq) (sel (aP (⟨#[99,121]⟩:ByteArray) p5) (cl) (⟨#[]⟩:ByteArray))))
def rn:List AV→List Blk→Option (Prop × Ret)
 |[.sc (.p 0 0),.sc (.s p5)],[.cells [.sl 1 0 4 4 none,.sl 2 0 p10 1 none,.i .i64 p1,.b p2,.s p3,.b p4],.cells p9,.ints .u8 p11 p0]=>some (((p10=p11)∧((UA=p9)∧True)),⟨.agg [.s (iD p5),.s (dD p5),.s (cG p5),.nils],[some (.cells [.sl 1 0 4 4 none,.sl 2 0 p10 1 none,.i .i64 p1,.b p2,.s p3,.b p4]),some (.cells UA),some (.ints .u8 p10 p0)]⟩)
 |_,_=>none
theorem uj:Known Tryz.prog gD 77 ⟨3,0,rn⟩:=by
 refine Xw Tryz.f77 23 Zn mixed <|fun E args ks C r h hC hlen=>?_
 simp only at h
 unfold rn at h
 split at h
 rotate_left
 cases h
 rename_i p5 p10 p1 p2 p3 p4 p9 p11 p0
 cases h
 simp only [bB] at hlen
 obtain ⟨hEp11,hC⟩:=hC
 obtain ⟨hEp9,hC⟩:=hC
 subst hEp11
 subst hEp9
 refine ⟨rfl,?_⟩
 refine Xt [Ep 4 16] [] [Mc 16 [.s (⟨#[]⟩:ByteArray),.s (⟨#[]⟩:ByteArray),.s (⟨#[]⟩:ByteArray),.nils]] [] 32 (v1 pT) <|Tri.seq <|Xs [Ei 12 0,Ei 11 4,(10,.sc (.sl 1 0 4 4 none))] [0] 128 (v3 (pu (Yl 0 6) (v2 pT))) <|Tri.block <|Tri.rounds 4 <|Xs [Eb 13 true] [] 144 (v1 pT) <|Tri.seq <|Tri.cond_true (by kernel_rfl) <|Tri.skip <|Tri.seq <|Tri.block <|Xt [Ep 6 176] [13] [Mc 176 [.s (⟨#[97,110,110]⟩:ByteArray),.s (⟨#[115,101,99,114,101,116]⟩:ByteArray),.s (⟨#[]⟩:ByteArray),.nils]] [] 208 (pu (Yi 0 4) (pu (Ye (0+4) 16) (v1 (pu (pa (Yw 4) (Yr 4)) pT)))) <|Xs [Eb 19 (aP (⟨#[97,110,110]⟩:ByteArray) p5)] [] 272 (v1 (pu (Yl 0 4) (v2 pT))) <|Xa (fun h1=>?_) (fun h1=>?_)
 exact Xt [] [19,6,12,11,10,1] [Mc 16 [.s (⟨#[97,110,110]⟩:ByteArray),.s (⟨#[115,101,99,114,101,116]⟩:ByteArray),.s (⟨#[]⟩:ByteArray),.nils]] [176,16] 304 (pu (Yw 4) (pu (pa (Yw 4) (Yr 4)) pT)) <|Xy [(0,0),(1,1),(2,2)] (pa (Yw 4) pT) (by simp only [iD,dD,cG,h1,aF,aD] <;> rfl)
 refine Tri.skip <|Wt [Ei 12 1] [19,6,12] [] [176] 304 (v2 pT) <|Xs [Eb 13 true] [] 320 (v1 pT) <|Tri.seq <|Tri.cond_true (by kernel_rfl) <|Tri.skip <|Tri.seq <|Tri.block <|Xt [Ep 6 352] [13] [Mc 352 [.s (⟨#[98,111,98]⟩:ByteArray),.s (⟨#[]⟩:ByteArray),.s (dq),.nils]] [] 384 (pu (Yi 1 4) (pu (Ye (4+4) 16) (v1 (pu (pa (Yw 4) (Yr 4)) pT)))) <|Xs [Eb 19 (aP (⟨#[98,111,98]⟩:ByteArray) p5)] [] 448 (v1 (pu (Yl 0 4) (v2 pT))) <|Xa (fun h2=>?_) (fun h2=>?_)
 exact Xt [] [19,6,12,11,10,1] [Mc 16 [.s (⟨#[98,111,98]⟩:ByteArray),.s (⟨#[]⟩:ByteArray),.s (dq),.nils]] [352,16] 480 (pu (Yw 4) (pu (pa (Yw 4) (Yr 4)) pT)) <|Xy [(0,0),(1,1),(2,2)] (pa (Yw 4) pT) (by simp only [iD,dD,cG,h1,h2,aF,aD] <;> rfl)
 refine Tri.skip <|Wt [Ei 12 2] [19,6,12] [] [352] 480 (v2 pT) <|Xs [Eb 13 true] [] 496 (v1 pT) <|Tri.seq <|Tri.cond_true (by kernel_rfl) <|Tri.skip <|Tri.seq <|Tri.block <|Xt [Ep 6 528] [13] [Mc 528 [.s (⟨#[99,121]⟩:ByteArray),.s (⟨#[119,111,114,100]⟩:ByteArray),.s (cl),.nils]] [] 560 (pu (Yi 2 4) (pu (Ye (8+4) 16) (v1 (pu (pa (Yw 4) (Yr 4)) pT)))) <|Xs [Eb 19 (aP (⟨#[99,121]⟩:ByteArray) p5)] [] 624 (v1 (pu (Yl 0 4) (v2 pT))) <|Xa (fun h3=>?_) (fun h3=>?_)
 exact Xt [] [19,6,12,11,10,1] [Mc 16 [.s (⟨#[99,121]⟩:ByteArray),.s (⟨#[119,111,114,100]⟩:ByteArray),.s (cl),.nils]] [528,16] 656 (pu (Yw 4) (pu (pa (Yw 4) (Yr 4)) pT)) <|Xy [(0,0),(1,1),(2,2)] (pa (Yw 4) pT) (by simp only [iD,dD,cG,h1,h2,h3,aF,aD] <;> rfl)
 refine Tri.skip <|Wt [Ei 12 3] [19,6,12] [] [528] 656 (v2 pT) <|Xs [Eb 13 true] [] 672 (v1 pT) <|Tri.seq <|Tri.cond_true (by kernel_rfl) <|Tri.skip <|Tri.seq <|Tri.block <|Xt [Ep 6 704] [13] [Mc 704 [.s (⟨#[110,105,108]⟩:ByteArray),.s (⟨#[]⟩:ByteArray),.s (⟨#[]⟩:ByteArray),.nils]] [] 736 (pu (Yi 3 4) (pu (Ye (12+4) 16) (v1 (pu (pa (Yw 4) (Yr 4)) pT)))) <|Xs [Eb 19 (aP (⟨#[110,105,108]⟩:ByteArray) p5)] [] 800 (v1 (pu (Yl 0 4) (v2 pT))) <|Xa (fun h4=>?_) (fun h4=>?_)
 exact Xt [] [19,6,12,11,10,1] [Mc 16 [.s (⟨#[110,105,108]⟩:ByteArray),.s (⟨#[]⟩:ByteArray),.s (⟨#[]⟩:ByteArray),.nils]] [704,16] 832 (pu (Yw 4) (pu (pa (Yw 4) (Yr 4)) pT)) <|Xy [(0,0),(1,1),(2,2)] (pa (Yw 4) pT) (by simp only [iD,dD,cG,h1,h2,h3,h4,aF,aD] <;> rfl)
 exact Tri.skip <|Wt [Ei 12 4] [19,6,12] [] [704] 832 (v2 pT) <|Xs [Eb 13 false] [] 848 (v1 pT) <|Tri.seq <|Tri.cond_false (by kernel_rfl) <|Tri.exit <|Xs [] [13,12,11,10,1] 880 (v1 (pu (pa (Yw 4) (Yr 4)) pT)) <|Xy [(0,0),(1,1),(2,2)] (pa (Yw 4) pT) (by simp only [iD,dD,cG,h1,h2,h3,h4,aF,aD] <;> rfl)
def iw (p0:ByteArray):List Int :=
 (cN 1 [5] p0)
def lj:List AV→List Blk→Option (Prop × Ret)
 |[.sc (.s p0)],[]=>some ((p0.size≤100000),⟨.sc (.sl 0 0 ((1+4)+p0.size) 1 none),[some (.ints .u8 ((1+4)+p0.size) (iw p0))]⟩)
 |_,_=>none
theorem lx:Known Tryz.prog gD 22 ⟨0,1,lj⟩:=by
 refine Xw Tryz.f22 6 (Zc de 64 [.io,.val] [] [32] <|Zn) mixed <|fun E args ks C r h hC hlen=>?_
 simp only at h
 unfold lj at h
 split at h
 rotate_left
 cases h
 rename_i p0
 cases h
 simp only [bB] at hlen
 refine ⟨rfl,?_⟩
 exact Xs [] [] 32 (v1 pT) <|Xt [El 2 64 ((1+4)+p0.size)] [0] [Mi 64 ((1+4)+p0.size) (cN 1 [5] p0)] [] 96 (pu (Yf 1) (v1 (pu (pa pT (pa (Yr 1) (lo (1≤1000000000∧p0.size≤1000000000)))) (v1 pT)))) <|Xz [(64,0)] pz
def kn (p0:ByteArray):List Int :=
 (cN 1 [6] p0)
def nT:List AV→List Blk→Option (Prop × Ret)
 |[.sc (.s p0)],[]=>some ((p0.size≤100000),⟨.sc (.sl 0 0 ((1+4)+p0.size) 1 none),[some (.ints .u8 ((1+4)+p0.size) (kn p0))]⟩)
 |_,_=>none
theorem oM:Known Tryz.prog gD 27 ⟨0,1,nT⟩:=by
 refine Xw Tryz.f27 6 (Zc de 64 [.io,.val] [] [32] <|Zn) mixed <|fun E args ks C r h hC hlen=>?_
 simp only at h
 unfold nT at h
 split at h
 rotate_left
 cases h
 rename_i p0
 cases h
 simp only [bB] at hlen
 refine ⟨rfl,?_⟩
 exact Xs [] [] 32 (v1 pT) <|Xt [El 2 64 ((1+4)+p0.size)] [0] [Mi 64 ((1+4)+p0.size) (cN 1 [6] p0)] [] 96 (pu (Yf 1) (v1 (pu (pa pT (pa (Yr 1) (lo (1≤1000000000∧p0.size≤1000000000)))) (v1 pT)))) <|Xz [(64,0)] pz
def lL (p0:ByteArray):List Int :=
 (cN ((1+4)+p0.size) (cN 1 [50] p0) (⟨#[115,115,104,45,99,111,110,110,101,99,116,105,111,110]⟩:ByteArray))
def iO (p0:ByteArray) (p1:ByteArray):List Int :=
 (cN ((((1+4)+p0.size)+4)+(⟨#[115,115,104,45,99,111,110,110,101,99,116,105,111,110]⟩:ByteArray).size) (lL p0) p1)
def gc (p0:ByteArray) (p1:ByteArray):List Int :=
 (iO p0 p1)
def aU (p0:ByteArray) (p1:ByteArray):Nat :=
 (((((1+4)+p0.size)+4)+(⟨#[115,115,104,45,99,111,110,110,101,99,116,105,111,110]⟩:ByteArray).size)+4)+p1.size
def rc:List AV→List Blk→Option (Prop × Ret)
 |[.sc (.s p0),.sc (.s p1)],[]=>some ((p0.size≤100000∧p1.size≤100000),⟨.sc (.sl 0 0 (aU p0 p1) 1 none),[some (.ints .u8 (aU p0 p1) (gc p0 p1))]⟩)
 |_,_=>none
theorem pC:Known Tryz.prog gD 34 ⟨0,1,rc⟩:=by
 refine Xw Tryz.f34 11 (Zc de 64 [.io,.val] [] [32] <|Zc de 80 [.io,.val] [] [64] <|Zc de 112 [.io,.val] [] [80] <|Zn) mixed <|fun E args ks C r h hC hlen=>?_
 simp only at h
 unfold rc at h
 split at h
 rotate_left
 cases h
 rename_i p0 p1
 cases h
 simp only [bB] at hlen
 have sz0:(⟨#[115,115,104,45,99,111,110,110,101,99,116,105,111,110]⟩:ByteArray).size=14:=rfl
 refine ⟨rfl,?_⟩
 exact Xs [] [] 32 (v1 pT) <|Xt [El 4 112 ((((((1+4)+p0.size)+4)+(⟨#[115,115,104,45,99,111,110,110,101,99,116,105,111,110]⟩:ByteArray).size)+4)+p1.size)] [0,1] [Mi 112 ((((((1+4)+p0.size)+4)+(⟨#[115,115,104,45,99,111,110,110,101,99,116,105,111,110]⟩:ByteArray).size)+4)+p1.size) (iO p0 p1)] [] 144 (pu (Yf 1) (v1 (pu (pa pT (pa (Yr 1) (lo (1≤1000000000∧p0.size≤1000000000)))) (pu (pa pT (pa (Yr ((1+4)+p0.size)) (lo (((1+4)+p0.size)≤1000000000∧(⟨#[115,115,104,45,99,111,110,110,101,99,116,105,111,110]⟩:ByteArray).size≤1000000000)))) (v1 (pu (pa pT (pa (Yr ((((1+4)+p0.size)+4)+(⟨#[115,115,104,45,99,111,110,110,101,99,116,105,111,110]⟩:ByteArray).size)) (lo (((((1+4)+p0.size)+4)+(⟨#[115,115,104,45,99,111,110,110,101,99,116,105,111,110]⟩:ByteArray).size)≤1000000000∧p1.size≤1000000000)))) (v1 pT))))))) <|Xz [(112,0)] pz
theorem ea (k:Nat) (xs:List Int) (s:ByteArray):(cN k xs s).length=xs.length+4+s.size:=by unfold cN ki;simp only [List.length_append,bL,List.length_cons,List.length_nil]
theorem mK (k:Nat) (xs:List Int) (b:Bool):(ei k xs b).length=xs.length+1:=by cases b <;> (unfold ei;simp only [aF,aD,List.length_append,List.length_cons,List.length_nil])
theorem pU (s:ByteArray):(eT s).length=4+s.size:=by unfold eT iL;simp only [List.length_append,bL,List.length_cons,List.length_nil]
theorem kN (a b:ByteArray):(gc a b).length=aU a b:=by
 unfold gc iO lL aU
 rw [ea,ea,ea]
 rfl
def mn (p0:ByteArray):List Int :=
 (ei (aU p0 (⟨#[112,97,115,115,119,111,114,100]⟩:ByteArray)) (gc p0 (⟨#[112,97,115,115,119,111,114,100]⟩:ByteArray)) false)
def iQ (p0:ByteArray) (p1:ByteArray):List Int :=
 (cN ((aU p0 (⟨#[112,97,115,115,119,111,114,100]⟩:ByteArray))+1) (mn p0) p1)
def kT (p0:ByteArray) (p1:ByteArray):List Int :=
 (iQ p0 p1)
def aY (p0:ByteArray) (p1:ByteArray):Nat :=
 (((aU p0 (⟨#[112,97,115,115,119,111,114,100]⟩:ByteArray))+1)+4)+p1.size
def kv:List AV→List Blk→Option (Prop × Ret)
 |[.sc (.s p0),.sc (.s p1)],[]=>some ((p0.size≤100000∧p1.size≤100000),⟨.sc (.sl 0 0 (aY p0 p1) 1 none),[some (.ints .u8 (aY p0 p1) (kT p0 p1))]⟩)
 |_,_=>none
theorem of:Known Tryz.prog gD 11 ⟨0,1,kv⟩:=by
 refine Xw Tryz.f11 10 (Zc de 96 [.io,.val] [] [64] <|Zc jt 64 [.io,.val] [] [48] <|Zv pC 48 2 <|Zn) mixed <|fun E args ks C r h hC hlen=>?_
 simp only at h
 unfold kv at h
 split at h
 rotate_left
 cases h
 rename_i p0 p1
 cases h
 simp only [bB] at hlen
 have sz0:(⟨#[115,115,104,45,99,111,110,110,101,99,116,105,111,110]⟩:ByteArray).size=14:=rfl
 have sz1:(⟨#[112,97,115,115,119,111,114,100]⟩:ByteArray).size=8:=rfl
 refine ⟨rfl,?_⟩
 refine Xs [] [] 32 (v1 pT) <|Xt [El 4 96 ((((aU p0 (⟨#[112,97,115,115,119,111,114,100]⟩:ByteArray))+1)+4)+p1.size)] [0,1] [Mi 96 ((((aU p0 (⟨#[112,97,115,115,119,111,114,100]⟩:ByteArray))+1)+4)+p1.size) (iQ p0 p1)] [] 128 (v1 (pu (pa pT (lo (p0.size≤100000∧(⟨#[112,97,115,115,119,111,114,100]⟩:ByteArray).size≤100000))) (pu (pa pT (pa (Yr (aU p0 (⟨#[112,97,115,115,119,111,114,100]⟩:ByteArray))) (pl (show (aU p0 (⟨#[112,97,115,115,119,111,114,100]⟩:ByteArray))≤1000000000 from by (unfold aU;omega))))) (v1 (pu (pa pT (pa (Yr ((aU p0 (⟨#[112,97,115,115,119,111,114,100]⟩:ByteArray))+1)) (pl (show ((aU p0 (⟨#[112,97,115,115,119,111,114,100]⟩:ByteArray))+1)≤1000000000∧p1.size≤1000000000 from by (unfold aU;omega))))) (v1 pT)))))) ?_
 exact Xz [(96,0)] pz
def kg (p0:ByteArray):List Int :=
 (gc p0 (⟨#[112,117,98,108,105,99,107,101,121]⟩:ByteArray))
def kR (p0:ByteArray):List Int :=
 (ei (aU p0 (⟨#[112,117,98,108,105,99,107,101,121]⟩:ByteArray)) (kg p0) false)
def lG (p0:ByteArray):List Int :=
 (cN ((aU p0 (⟨#[112,117,98,108,105,99,107,101,121]⟩:ByteArray))+1) (kR p0) (⟨#[115,115,104,45,101,100,50,53,53,49,57]⟩:ByteArray))
def iM (p0:ByteArray) (p1:ByteArray):List Int :=
 (cN ((((aU p0 (⟨#[112,117,98,108,105,99,107,101,121]⟩:ByteArray))+1)+4)+(⟨#[115,115,104,45,101,100,50,53,53,49,57]⟩:ByteArray).size) (lG p0) (cQ p1))
def fM (p0:ByteArray) (p1:ByteArray):List Int :=
 (iM p0 p1)
def aE (p0:ByteArray) (p1:ByteArray):Nat :=
 (((((aU p0 (⟨#[112,117,98,108,105,99,107,101,121]⟩:ByteArray))+1)+4)+(⟨#[115,115,104,45,101,100,50,53,53,49,57]⟩:ByteArray).size)+4)+(cQ p1).size
def rK:List AV→List Blk→Option (Prop × Ret)
 |[.sc (.s p0),.sc (.s p1)],[]=>some ((p0.size≤100000∧p1.size≤1000),⟨.sc (.sl 0 0 (aE p0 p1) 1 none),[some (.ints .u8 (aE p0 p1) (fM p0 p1))]⟩)
 |_,_=>none
theorem uO:Known Tryz.prog gD 13 ⟨0,1,rK⟩:=by
 refine Xw Tryz.f13 12 (Zv um 112 1 <|Zc de 80 [.io,.val] [] [64] <|Zc de 128 [.io,.val] [] [80] <|Zc jt 64 [.io,.val] [] [48] <|Zv pC 48 2 <|Zn) mixed <|fun E args ks C r h hC hlen=>?_
 simp only at h
 unfold rK at h
 split at h
 rotate_left
 cases h
 rename_i p0 p1
 cases h
 simp only [bB] at hlen
 have sz0:(⟨#[115,115,104,45,99,111,110,110,101,99,116,105,111,110]⟩:ByteArray).size=14:=rfl
 have sz1:(⟨#[112,117,98,108,105,99,107,101,121]⟩:ByteArray).size=9:=rfl
 have sz2:(⟨#[115,115,104,45,101,100,50,53,53,49,57]⟩:ByteArray).size=11:=rfl
 refine ⟨rfl,?_⟩
 refine Xs [] [] 32 (v1 pT) <|Xt [El 4 128 ((((((aU p0 (⟨#[112,117,98,108,105,99,107,101,121]⟩:ByteArray))+1)+4)+(⟨#[115,115,104,45,101,100,50,53,53,49,57]⟩:ByteArray).size)+4)+(cQ p1).size)] [0,1] [Mi 128 ((((((aU p0 (⟨#[112,117,98,108,105,99,107,101,121]⟩:ByteArray))+1)+4)+(⟨#[115,115,104,45,101,100,50,53,53,49,57]⟩:ByteArray).size)+4)+(cQ p1).size) (iM p0 p1)] [] 160 (v1 (pu (pa pT (lo (p0.size≤100000∧(⟨#[112,117,98,108,105,99,107,101,121]⟩:ByteArray).size≤100000))) (pu (pa pT (pa (Yr (aU p0 (⟨#[112,117,98,108,105,99,107,101,121]⟩:ByteArray))) (pl (show (aU p0 (⟨#[112,117,98,108,105,99,107,101,121]⟩:ByteArray))≤1000000000 from by (unfold aU;omega))))) (pu (pa pT (pa (Yr ((aU p0 (⟨#[112,117,98,108,105,99,107,101,121]⟩:ByteArray))+1)) (pl (show ((aU p0 (⟨#[112,117,98,108,105,99,107,101,121]⟩:ByteArray))+1)≤1000000000∧(⟨#[115,115,104,45,101,100,50,53,53,49,57]⟩:ByteArray).size≤1000000000 from by (unfold aU;omega))))) (v1 (pu (pa pT (Ye p1.size 1000000000)) (pu (pa pT (pa (Yr ((((aU p0 (⟨#[112,117,98,108,105,99,107,101,121]⟩:ByteArray))+1)+4)+(⟨#[115,115,104,45,101,100,50,53,53,49,57]⟩:ByteArray).size)) (pl (show ((((aU p0 (⟨#[112,117,98,108,105,99,107,101,121]⟩:ByteArray))+1)+4)+(⟨#[115,115,104,45,101,100,50,53,53,49,57]⟩:ByteArray).size)≤1000000000∧(cQ p1).size≤1000000000 from ⟨by unfold aU;omega,Nat.le_trans (gt _) (by omega)⟩)))) (v1 pT)))))))) ?_
 exact Xz [(128,0)] pz
theorem qM (a b:ByteArray):(fM a b).length=aE a b:=by
 unfold fM iM lG kR kg aE
 rw [ea,ea,mK,kN]
theorem tl (a b:ByteArray):aE a b≤a.size+b.size+200:=by
 have hb:=gt b
 have sz0:(⟨#[115,115,104,45,99,111,110,110,101,99,116,105,111,110]⟩:ByteArray).size=14:=rfl;have sz1:(⟨#[112,117,98,108,105,99,107,101,121]⟩:ByteArray).size=9:=rfl;have sz2:(⟨#[115,115,104,45,101,100,50,53,53,49,57]⟩:ByteArray).size=11:=rfl
 unfold aE aU
 omega
theorem ma {a b:ByteArray} {n:Nat} (h:a.size+b.size+200≤n):(aA (fM a b) (aE a b) 0 (aE a b)).length≤n:=bP (Nat.le_trans (tl a b) h) (by rw [qM];exact Nat.le_trans (tl a b) h)
def oO:List Int :=
 (nd 1 [51] ([(⟨#[112,117,98,108,105,99,107,101,121]⟩:ByteArray),(⟨#[112,97,115,115,119,111,114,100]⟩:ByteArray)]))
def jg:List Int :=
 (ei (dh 1 [51] ([(⟨#[112,117,98,108,105,99,107,101,121]⟩:ByteArray),(⟨#[112,97,115,115,119,111,114,100]⟩:ByteArray)])) (oO) false)
def ec:List Int :=
 (jg)
def cH:Nat :=
 (dh 1 [51] ([(⟨#[112,117,98,108,105,99,107,101,121]⟩:ByteArray),(⟨#[112,97,115,115,119,111,114,100]⟩:ByteArray)]))+1
def mB:List AV→List Blk→Option (Prop × Ret)
 |[],[]=>some (True,⟨.sc (.sl 0 0 (cH) 1 none),[some (.ints .u8 (cH) (ec))]⟩)
 |_,_=>none
theorem mD:Known Tryz.prog gD 46 ⟨0,1,mB⟩:=by
 refine Xw Tryz.f46 5 (Zc jt 80 [.io,.val] [] [64] <|Zc sv 64 [.io,.ros] [48] [32] <|Zn) mixed <|fun E args ks C r h hC hlen=>?_
 simp only at h
 unfold mB at h
 split at h
 rotate_left
 cases h
 cases h
 simp only [bB] at hlen
 refine ⟨rfl,?_⟩
 exact Xs [] [] 32 (v1 pT) <|Xt [El 0 80 ((dh 1 [51] ([(⟨#[112,117,98,108,105,99,107,101,121]⟩:ByteArray),(⟨#[112,97,115,115,119,111,114,100]⟩:ByteArray)]))+1)] [] [Mi 80 ((dh 1 [51] ([(⟨#[112,117,98,108,105,99,107,101,121]⟩:ByteArray),(⟨#[112,97,115,115,119,111,114,100]⟩:ByteArray)]))+1) (jg)] [] 112 (pu (Yf 1) (pu (Yf 2) (pu (pa (pa (ld (0+2≤2)) pT) (pa (Yr 1) (lo (1≤1000000000∧([(⟨#[112,117,98,108,105,99,107,101,121]⟩:ByteArray),(⟨#[112,97,115,115,119,111,114,100]⟩:ByteArray)]).length≤1000000000∧(gJ ([(⟨#[112,117,98,108,105,99,107,101,121]⟩:ByteArray),(⟨#[112,97,115,115,119,111,114,100]⟩:ByteArray)]) (⟨#[44]⟩:ByteArray)).size≤1000000000)))) (pu (pa pT (pa (Yr (dh 1 [51] ([(⟨#[112,117,98,108,105,99,107,101,121]⟩:ByteArray),(⟨#[112,97,115,115,119,111,114,100]⟩:ByteArray)]))) (Ye (dh 1 [51] ([(⟨#[112,117,98,108,105,99,107,101,121]⟩:ByteArray),(⟨#[112,97,115,115,119,111,114,100]⟩:ByteArray)])) 1000000000))) (v1 pT))))) <|Xz [(80,0)] pz
def iH (p1:ByteArray):List Int :=
 (gc p1 (⟨#[112,117,98,108,105,99,107,101,121]⟩:ByteArray))
def lK (p0:List Int) (p1:ByteArray):List Int :=
 (ei ((4+(aC p0).size)+(aU p1 (⟨#[112,117,98,108,105,99,107,101,121]⟩:ByteArray))) ((eT (aC p0))++(aA (iH p1) (aU p1 (⟨#[112,117,98,108,105,99,107,101,121]⟩:ByteArray)) 0 (aU p1 (⟨#[112,117,98,108,105,99,107,101,121]⟩:ByteArray)))) true)
def kP (p0:List Int) (p1:ByteArray):List Int :=
 (cN (((4+(aC p0).size)+(aU p1 (⟨#[112,117,98,108,105,99,107,101,121]⟩:ByteArray)))+1) (lK p0 p1) (⟨#[115,115,104,45,101,100,50,53,53,49,57]⟩:ByteArray))
def iJ (p0:List Int) (p1:ByteArray) (p2:ByteArray):List Int :=
 (cN (((((4+(aC p0).size)+(aU p1 (⟨#[112,117,98,108,105,99,107,101,121]⟩:ByteArray)))+1)+4)+(⟨#[115,115,104,45,101,100,50,53,53,49,57]⟩:ByteArray).size) (kP p0 p1) p2)
def gU (p0:List Int) (p1:ByteArray) (p2:ByteArray):List Int :=
 (iJ p0 p1 p2)
def cb (p0:List Int) (p1:ByteArray) (p2:ByteArray):Nat :=
 ((((((4+(aC p0).size)+(aU p1 (⟨#[112,117,98,108,105,99,107,101,121]⟩:ByteArray)))+1)+4)+(⟨#[115,115,104,45,101,100,50,53,53,49,57]⟩:ByteArray).size)+4)+p2.size
def nt:List AV→List Blk→Option (Prop × Ret)
 |[.sc (.ro .u8 p0),.sc (.s p1),.sc (.s p2)],[]=>some ((p0.length≤20000∧p1.size≤20000∧p2.size≤20000),⟨.sc (.sl 0 0 (cb p0 p1 p2) 1 none),[some (.ints .u8 (cb p0 p1 p2) (gU p0 p1 p2))]⟩)
 |_,_=>none
theorem rg:Known Tryz.prog gD 31 ⟨0,1,nt⟩:=by
 refine Xw Tryz.f31 20 (Zv ny 64 2 <|Zc de 208 [.io,.val] [] [192] <|Zc de 240 [.io,.val] [] [208] <|Zc jt 192 [.io,.val] [] [144] <|Zv pC 128 2 <|Zn) mixed <|fun E args ks C r h hC hlen=>?_
 simp only at h
 unfold nt at h
 split at h
 rotate_left
 cases h
 rename_i p0 p1 p2
 cases h
 simp only [bB] at hlen
 have sz0:(⟨#[115,115,104,45,99,111,110,110,101,99,116,105,111,110]⟩:ByteArray).size=14:=rfl
 have sz1:(⟨#[112,117,98,108,105,99,107,101,121]⟩:ByteArray).size=9:=rfl
 have sz2:(⟨#[115,115,104,45,101,100,50,53,53,49,57]⟩:ByteArray).size=11:=rfl
 refine ⟨rfl,?_⟩
 refine Xs [] [] 32 (v1 pT) <|Xt [El 7 64 (4+(aC p0).size)] [0] [Mi 64 (4+(aC p0).size) (eT (aC p0))] [] 96 (v2 (pu (pa pT (pl (show (aC p0).size≤1000000000 from by (rw [cF];omega)))) (v1 pT))) ?_
 refine Tri.len 64 rfl <|fun hl1=>Xt [El 7 144 ((4+(aC p0).size)+(aU p1 (⟨#[112,117,98,108,105,99,107,101,121]⟩:ByteArray)))] [7,1] [Mi 144 ((4+(aC p0).size)+(aU p1 (⟨#[112,117,98,108,105,99,107,101,121]⟩:ByteArray))) ((eT (aC p0))++(aA (iH p1) (aU p1 (⟨#[112,117,98,108,105,99,107,101,121]⟩:ByteArray)) 0 (aU p1 (⟨#[112,117,98,108,105,99,107,101,121]⟩:ByteArray))))] [64] 176 (v2 (pu (pa pT (lo (p1.size≤100000∧(⟨#[112,117,98,108,105,99,107,101,121]⟩:ByteArray).size≤100000))) (pu (pa (pa (pa (pa (Yw (aU p1 (⟨#[112,117,98,108,105,99,107,101,121]⟩:ByteArray))) (Yr 1)) (pa (Yl 0 1) (pa (pl (show ((4+(aC p0).size)+(aU p1 (⟨#[112,117,98,108,105,99,107,101,121]⟩:ByteArray)))*1≤140737488355328 from by (simp only [cF];unfold aU;omega))) (pl (show (4+(aC p0).size)+(aU p1 (⟨#[112,117,98,108,105,99,107,101,121]⟩:ByteArray))≤140737488355328 from by (simp only [cF];unfold aU;omega)))))) (lo ((aU p1 (⟨#[112,117,98,108,105,99,107,101,121]⟩:ByteArray))=(aU p1 (⟨#[112,117,98,108,105,99,107,101,121]⟩:ByteArray))*1))) (pa (Yr 1) (lo (0+(4+(aC p0).size)*1=4+(aC p0).size)))) (v1 pT)))) ?_
 refine Xt [El 6 240 (((((((4+(aC p0).size)+(aU p1 (⟨#[112,117,98,108,105,99,107,101,121]⟩:ByteArray)))+1)+4)+(⟨#[115,115,104,45,101,100,50,53,53,49,57]⟩:ByteArray).size)+4)+p2.size)] [7,2] [Mi 240 (((((((4+(aC p0).size)+(aU p1 (⟨#[112,117,98,108,105,99,107,101,121]⟩:ByteArray)))+1)+4)+(⟨#[115,115,104,45,101,100,50,53,53,49,57]⟩:ByteArray).size)+4)+p2.size) (iJ p0 p1 p2)] [144] 272 (v1 (pu (pa pT (pa (Yr ((4+(aC p0).size)+(aU p1 (⟨#[112,117,98,108,105,99,107,101,121]⟩:ByteArray)))) (pl (show ((4+(aC p0).size)+(aU p1 (⟨#[112,117,98,108,105,99,107,101,121]⟩:ByteArray)))≤1000000000 from by (simp only [cF];unfold aU;omega))))) (pu (pa pT (pa (Yr (((4+(aC p0).size)+(aU p1 (⟨#[112,117,98,108,105,99,107,101,121]⟩:ByteArray)))+1)) (pl (show (((4+(aC p0).size)+(aU p1 (⟨#[112,117,98,108,105,99,107,101,121]⟩:ByteArray)))+1)≤1000000000∧(⟨#[115,115,104,45,101,100,50,53,53,49,57]⟩:ByteArray).size≤1000000000 from by (simp only [cF];unfold aU;omega))))) (v1 (pu (pa pT (pa (Yr (((((4+(aC p0).size)+(aU p1 (⟨#[112,117,98,108,105,99,107,101,121]⟩:ByteArray)))+1)+4)+(⟨#[115,115,104,45,101,100,50,53,53,49,57]⟩:ByteArray).size)) (pl (show (((((4+(aC p0).size)+(aU p1 (⟨#[112,117,98,108,105,99,107,101,121]⟩:ByteArray)))+1)+4)+(⟨#[115,115,104,45,101,100,50,53,53,49,57]⟩:ByteArray).size)≤1000000000∧p2.size≤1000000000 from by (simp only [cF];unfold aU;omega))))) (v1 pT)))))) ?_
 exact Xz [(240,0)] pz
theorem qi (p0:List Int) (p1 p2:ByteArray):cb p0 p1 p2≤p0.length+p1.size+p2.size+200:=by
 have sz0:(⟨#[115,115,104,45,99,111,110,110,101,99,116,105,111,110]⟩:ByteArray).size=14:=rfl;have sz1:(⟨#[112,117,98,108,105,99,107,101,121]⟩:ByteArray).size=9:=rfl;have sz2:(⟨#[115,115,104,45,101,100,50,53,53,49,57]⟩:ByteArray).size=11:=rfl
 unfold cb
 try unfold aU
 simp only [cF]
 omega
theorem oR (p0:List Int) (p1 p2:ByteArray):(gU p0 p1 p2).length=cb p0 p1 p2:=by
 unfold gU iJ kP lK iH cb
 rw [ea,ea,mK,List.length_append,pU,cy (kN _ _),kN]
end Go.Vm
namespace Go.Vm
open Go Go.Proofs
def pE (p0:List Int) (p1:List Int) (k0:Nat) (z0:Int):Int :=
 (iOr .i64 z0 (IntKind.wrap .i64 (cP .u8 (p0.getD k0 0) (p1.getD k0 0))))
def vH (p0:List Int) (p1:List Int):Bool :=
 (((itr (pE p0 p1) (min p0.length p1.length) (cP .i64 ((p0.length:Nat):Int) ((p1.length:Nat):Int))):Int)==0)
def vT:List AV→List Blk→Option (Prop × Ret)
 |[.sc (.ro .u8 p0),.sc (.ro .u8 p1)],[]=>some ((p0.length≤100000),⟨.sc (.b (vH p0 p1)),[]⟩)
 |_,_=>none
theorem wJ:Known Tryz.prog gD 79 ⟨0,0,vT⟩:=by
 refine Xw Tryz.f79 35 Zn mixed <|fun E args ks C r h hC hlen=>?_
 simp only at h
 unfold vT at h
 split at h
 rotate_left
 cases h
 rename_i p0 p1
 cases h
 simp only [bB] at hlen
 refine ⟨rfl,?_⟩
 refine Xs [] [] 32 (v1 pT) <|Xs [Ei 5 (cP .i64 ((p0.length:Nat):Int) ((p1.length:Nat):Int))] [] 128 (v6 pT) <|Tri.seq <|Xu [Ej 16 (min p0.length p1.length)] none [Ei 17 0,Ej 16 (min p0.length p1.length)] [] [] [] 224 (v4 (pv pT (pl (show (lU ((p0.length:Nat):Int) ((p1.length:Nat):Int))=((min p0.length p1.length:Nat):Int) from rW p0.length p1.length)) (v1 pT))) <|Tri.block <|Xc (min p0.length p1.length) (pE p0 p1) (cP .i64 ((p0.length:Nat):Int) ((p1.length:Nat):Int)) (fun k0 z0=>True) (fun k0 z0=>[Ej 17 k0,Ei 5 z0]) (fun k0 z0=>[]) trivial <|fun k0 z0 hk0 hz0 hJ0=>Xs [Eb 18 (decide ((((k0:Nat):Int):Int)<((min p0.length p1.length:Nat):Int)))] [] 240 (v1 pT) <|Tri.seq <|Xb (fun h1 h1'=>?_) (fun h1 h1'=>?_)
 exact Tri.skip <|Tri.seq <|Tri.block <|Xs [Ej 6 k0] [18] 272 (v2 pT) <|Wu [] (some [0,0,0,6,14,0,0,96,224,510,1022,2047,4095]) [Ei 5 (iOr .i64 z0 (IntKind.wrap .i64 (cP .u8 (p0.getD k0 0) (p1.getD k0 0))))] [6,5] [] [] 480 (v3 (pu (Yj k0 p0.length) (pu (Yl k0 p0.length) (v2 (pu (Yj k0 p1.length) (pu (Yl k0 p1.length) (v4 pT))))))) <|Wu [Ej 32 (k0+1)] none [Ej 17 (k0+1)] [17] [] [] 512 (pv pT (Yp k0 1) (v1 pT)) <|Xo [] trivial
 refine Tri.exit <|?_
 obtain rfl:k0=(min p0.length p1.length):=(by omega);subst hz0
 exact Xs [Eb 4 (((itr (pE p0 p1) (min p0.length p1.length) (cP .i64 ((p0.length:Nat):Int) ((p1.length:Nat):Int))):Int)==0)] [18,17,16,5,0,1] 288 (v3 pT) <|Xz [] pz
theorem kC (p:List Int) (b:Bool) (n:Int):(cC p b n).length+(cY p b n).length≤p.length:=by
 unfold cC cY
 cases b
 ·rw [aD,aD]
  cases decide ((n:Int)>((p.length:Nat):Int))
  ·rw [aD,aD,List.length_take,List.length_take,List.length_drop,List.length_drop];omega
  ·rw [aF,aF];exact Nat.zero_le _
 ·rw [aF,aF];exact Nat.zero_le _
theorem fk (p:List Int) (b:Bool):(aR p b).size+(aa p b).length≤p.length:=by
 have h1:=kC p b 4
 have h2:=fun n=>kC (cz p b) (dV p b) n
 have h3:(cz p b).length≤p.length:=by unfold cz;omega
 unfold aR aa
 cases decide (((dv p b):Int)>16384)
 ·rw [aD,aD,cF];have:=h2 (IntKind.wrap .i64 (dv p b));omega
 ·rw [aF,aF];have:=h2 1073741824;show 0+_≤_;omega
theorem lk (p:List Int) (b:Bool):(ax p b).length≤p.length:=by
 unfold ax aq eL
 cases b
 ·rw [aD]
  cases decide ((1:Int)>((p.length:Nat):Int))
  ·rw [aD,List.length_take,List.length_drop];omega
  ·rw [aF];exact Nat.zero_le _
 ·rw [aF];exact Nat.zero_le _
def mo (p5:List Int) (p6:Bool) (p7:ByteArray):Bool :=
 (vH (aA (aQ (aR (ax p5 p6) (bF p5 p6))) ((aR (ax p5 p6) (bF p5 p6)).size) 0 ((aR (ax p5 p6) (bF p5 p6)).size)) (aA (aQ (dD p7)) ((dD p7).size) 0 ((dD p7).size)))
def iY (p5:List Int) (p6:Bool):Bool :=
 (dg (aa (ax p5 p6) (bF p5 p6)) (af (ax p5 p6) (bF p5 p6)))
def bN (p5:List Int) (p6:Bool):ByteArray :=
 (aR (aa (ax p5 p6) (bF p5 p6)) (af (ax p5 p6) (bF p5 p6)))
def am (p5:List Int) (p6:Bool):List Int :=
 (aa (aa (ax p5 p6) (bF p5 p6)) (af (ax p5 p6) (bF p5 p6)))
def an (p5:List Int) (p6:Bool):Bool :=
 (af (aa (ax p5 p6) (bF p5 p6)) (af (ax p5 p6) (bF p5 p6)))
def eR (p5:List Int) (p6:Bool):Bool :=
 (dg (aa (am p5 p6) (an p5 p6)) (af (am p5 p6) (an p5 p6)))
def pk (p10:Nat) (p0:List Int) (p5:List Int) (p6:Bool) (p7:ByteArray):Bool :=
 (qW (aA (aQ (bI (bN p5 p6))) ((bI (bN p5 p6)).size) 0 ((bI (bN p5 p6)).size)) (aA (gU (aA p0 p10 0 p10) p7 (bN p5 p6)) (cb (aA p0 p10 0 p10) p7 (bN p5 p6)) 0 (cb (aA p0 p10 0 p10) p7 (bN p5 p6))) (aA (el (aR (am p5 p6) (an p5 p6))) ((ap (aR (am p5 p6) (an p5 p6))).size) 0 ((ap (aR (am p5 p6) (an p5 p6))).size)))
def eN (p10:Nat) (p0:List Int) (p5:List Int) (p6:Bool) (p7:ByteArray) (p8:ByteArray):Bool :=
 (sel (aP p8 (⟨#[110,111,110,101]⟩:ByteArray)) false (sel (aP p8 (⟨#[112,97,115,115,119,111,114,100]⟩:ByteArray)) (sel (!(aP (dD p7) (⟨#[]⟩:ByteArray))) (mo p5 p6 p7) false) (sel (aP p8 (⟨#[112,117,98,108,105,99,107,101,121]⟩:ByteArray)) (sel (aP (aR (ax p5 p6) (bF p5 p6)) (⟨#[115,115,104,45,101,100,50,53,53,49,57]⟩:ByteArray)) (sel (!(aP (bI (bN p5 p6)) (⟨#[]⟩:ByteArray))) (sel (!(dk p5 p6)) false (sel (gL (aR (am p5 p6) (an p5 p6))) false (sel (aP (bI (bN p5 p6)) (cG p7)) (pk p10 p0 p5 p6 p7) false))) false) false) false)))
def cR (p5:List Int) (p6:Bool) (p7:ByteArray) (p8:ByteArray):ByteArray :=
 (sel (aP p8 (⟨#[110,111,110,101]⟩:ByteArray)) (⟨#[]⟩:ByteArray) (sel (aP p8 (⟨#[112,97,115,115,119,111,114,100]⟩:ByteArray)) (⟨#[]⟩:ByteArray) (sel (aP p8 (⟨#[112,117,98,108,105,99,107,101,121]⟩:ByteArray)) (sel (aP (aR (ax p5 p6) (bF p5 p6)) (⟨#[115,115,104,45,101,100,50,53,53,49,57]⟩:ByteArray)) (sel (!(aP (bI (bN p5 p6)) (⟨#[]⟩:ByteArray))) (sel (!(dk p5 p6)) (sel (aP (bI (bN p5 p6)) (cG p7)) (bN p5 p6) (⟨#[]⟩:ByteArray)) (⟨#[]⟩:ByteArray)) (⟨#[]⟩:ByteArray)) (⟨#[]⟩:ByteArray)) (⟨#[]⟩:ByteArray))))
def cW (p5:List Int) (p6:Bool) (p8:ByteArray):Bool :=
 (sel (aP p8 (⟨#[110,111,110,101]⟩:ByteArray)) (dg p5 p6) (sel (aP p8 (⟨#[112,97,115,115,119,111,114,100]⟩:ByteArray)) (sel (iY p5 p6) (!(dk p5 p6)) false) (sel (aP p8 (⟨#[112,117,98,108,105,99,107,101,121]⟩:ByteArray)) (sel (!(dk p5 p6)) (dg (am p5 p6) (an p5 p6)) (eR p5 p6)) (qq p5 p6))))
def cu (p5:List Int) (p6:Bool) (p8:ByteArray):List Int :=
 (sel (aP p8 (⟨#[110,111,110,101]⟩:ByteArray)) p5 (sel (aP p8 (⟨#[112,97,115,115,119,111,114,100]⟩:ByteArray)) (aa (ax p5 p6) (bF p5 p6)) (sel (aP p8 (⟨#[112,117,98,108,105,99,107,101,121]⟩:ByteArray)) (sel (!(dk p5 p6)) (am p5 p6) (aa (am p5 p6) (an p5 p6))) p5)))
def cv (p5:List Int) (p6:Bool) (p8:ByteArray):Bool :=
 (sel (aP p8 (⟨#[110,111,110,101]⟩:ByteArray)) p6 (sel (aP p8 (⟨#[112,97,115,115,119,111,114,100]⟩:ByteArray)) (af (ax p5 p6) (bF p5 p6)) (sel (aP p8 (⟨#[112,117,98,108,105,99,107,101,121]⟩:ByteArray)) (sel (!(dk p5 p6)) (an p5 p6) (af (am p5 p6) (an p5 p6))) p6)))
theorem sY (p5:List Int) (p6:Bool):(bN p5 p6).size≤p5.length:=by
 have h1:=lk p5 p6
 have h2:=fk (ax p5 p6) (bF p5 p6)
 have h3:=fk (aa (ax p5 p6) (bF p5 p6)) (af (ax p5 p6) (bF p5 p6))
 unfold bN
 omega
theorem kW {p0:List Int} {n:Nat} {a b:ByteArray} (h:p0.length=n):cb (aA p0 n 0 n) a b≤n+a.size+b.size+200:=by
 rw [cy h]
 have:=qi p0 a b
 omega
theorem nX {s:ByteArray} {n:Nat} (h:s.size≤n):(aA (aQ s) s.size 0 s.size).length≤n:=by rw [cy (bL s),bL];exact h
def uA:List AV→List Blk→Option (Prop × Ret)
 |[.sc (.p 0 0),.sc (.p 3 0),.sc (.s p7),.sc (.s p8)],[.cells [.sl 1 0 4 4 none,.sl 2 0 p10 1 none,.i .i64 p1,.b p2,.s p3,.b p4],.cells p9,.ints .u8 p11 p0,.cells [.ro .u8 p5,.b p6]]=>some (((p10=p11)∧((UA=p9)∧(p5.length+p7.size≤6000∧p10≤1000))),⟨.tup [.sc (.b (eN p10 p0 p5 p6 p7 p8)),.sc (.s (cR p5 p6 p7 p8)),.sc (.b (cW p5 p6 p8))],[some (.cells [.sl 1 0 4 4 none,.sl 2 0 p10 1 none,.i .i64 p1,.b p2,.s p3,.b p4]),some (.cells UA),some (.ints .u8 p10 p0),some (.cells [.ro .u8 (cu p5 p6 p8),.b (cv p5 p6 p8)])]⟩)
 |_,_=>none
def vA:KL Tryz.prog gD:=Zc rg 1408 [.ro .u8,.val,.val] [2] [] <|Zc dl 272 [.io] [] [3] <|Zc dl 304 [.io] [] [3] <|Zc dl 336 [.io] [] [3] <|Zc dl 704 [.io] [] [3] <|Zc dl 1136 [.io] [] [3] <|Zc dl 1568 [.io] [] [3] <|Zc dl 2000 [.io] [] [3] <|Zc gI 208 [.io] [] [3] <|Zc gI 512 [.io] [] [3] <|Zc gI 736 [.io] [] [3] <|Zc gI 768 [.io] [] [3] <|Zc gI 1056 [.io] [] [3] <|Zc gI 1488 [.io] [] [3] <|Zc gI 1920 [.io] [] [3] <|Zc gI 2352 [.io] [] [3] <|Zc ve 272 [.io] [] [3] <|Zc uj 96 [.io,.val] [] [0,1,2] <|Zc rC 240 [.io] [] [3] <|Zc rC 272 [.io] [] [3] <|Zc wJ 464 [.ro .u8,.ro .u8] [400,448] [] <|Zv pR 416 1 <|Zv nZ 720 1 <|Zv gb 1152 1 <|Zv gb 1584 1 <|Zv gb 2016 1 <|Zc wQ 1440 [.ro .u8,.ro .u8,.ro .u8] [1296,1408,1152] [] <|Zn
theorem vl:Known Tryz.prog gD 45 ⟨4,0,uA⟩:=by
 refine Xw Tryz.f45 105 vA mixed <|fun E args ks C r h hC hlen=>?_
 simp only at h
 unfold uA at h
 split at h
 rotate_left
 cases h
 rename_i p7 p8 p10 p1 p2 p3 p4 p9 p11 p0 p5 p6
 cases h
 simp only [bB] at hlen
 obtain ⟨hEp11,hC⟩:=hC
 obtain ⟨hEp9,hC⟩:=hC
 subst hEp11
 subst hEp9
 have hb:=sY p5 p6
 refine ⟨rfl,?_⟩
 refine Xs [Es 9 (⟨#[]⟩:ByteArray)] [] 64 (v3 pT) <|Xt [Ep 11 112] [] [Mc 112 [.s (iD p7),.s (dD p7),.s (cG p7),.nils],Mi 2 p10 p0,Mc 1 UA] [1,2] 144 (v2 (pu (pa pT (pa (Yr p10) (pa (Yr UA) pT))) (v1 (pu (pa (Yw 4) (Yr 4)) pT)))) <|Tri.seq <|Xs [Es 23 p8] [3] 160 (v1 pT) <|Tri.block <|Xs [Eb 24 (aP p8 (⟨#[110,111,110,101]⟩:ByteArray))] [] 192 (v2 pT) <|Xa (fun h1=>?_) (fun h1=>?_)
 exact Xt [Eb 10 (dg p5 p6),Es 9 (⟨#[]⟩:ByteArray),Eb 8 false] [24,23,11,9,0,1,2] [Mc 3 [.ro .u8 p5,.b p6]] [112,3] 272 (v1 (pu pz (v3 pT))) <|Xy [(0,0),(1,1),(2,2),(3,3)] (pa pT (pa pT pz)) (by simp only [eN,cR,cW,cu,cv,h1,aF,aD] <;> rfl)
 refine Xs [Eb 28 (aP p8 (⟨#[112,97,115,115,119,111,114,100]⟩:ByteArray))] [24] 224 (v2 pT) <|Xa (fun h2=>?_) (fun h2=>?_)
 refine Xt [Es 13 (aR (ax p5 p6) (bF p5 p6)),Eb 12 (dk p5 p6)] [28,23,9,0,2] [Mc 3 [.ro .u8 (aa (ax p5 p6) (bF p5 p6)),.b (af (ax p5 p6) (bF p5 p6))]] [3] 320 (v1 (pu pz (v1 (pu pz (v2 pT))))) <|Tri.split (!(aP (dD p7) (⟨#[]⟩:ByteArray))) (fun h3=>?_) (fun h3=>?_)
 refine Tri.split (iY p5 p6) (fun h4=>?_) (fun h4=>?_)
 exact Tri.len 2 rfl <|fun hl5=>Xu [Eb 37 true,Eb 47 true] none [Eb 10 (!(dk p5 p6)),Es 9 (⟨#[]⟩:ByteArray),Eb 8 (mo p5 p6 p7)] [13,12,11,1] [] [112] 640 (v1 (pu (Yl 1 4) (v1 (pg h3 (v3 (pu (Yl 1 4) (v1 (pu (pa (pa (Yw ((aR (ax p5 p6) (bF p5 p6)).size)) (pa (Yw ((dD p7).size)) pT)) (pl (show (aA (aQ (aR (ax p5 p6) (bF p5 p6))) ((aR (ax p5 p6) (bF p5 p6)).size) 0 ((aR (ax p5 p6) (bF p5 p6)).size)).length≤100000 from nX (Nat.le_trans (cf _ _) (by decide))))) (v2 (pu pz (pg h4 (v6 pT)))))))))))) <|Xy [(0,0),(1,1),(2,2),(3,3)] (pa pT (pa pT pz)) (by simp only [eN,cR,cW,cu,cv,h1,h2,h3,h4,aF,aD] <;> rfl)
 exact Tri.len 2 rfl <|fun hl6=>Xu [Eb 37 true,Eb 47 false] none [Eb 10 false,Es 9 (⟨#[]⟩:ByteArray),Eb 8 (mo p5 p6 p7)] [13,12,11,1] [] [112] 640 (v1 (pu (Yl 1 4) (v1 (pg h3 (v3 (pu (Yl 1 4) (v1 (pu (pa (pa (Yw ((aR (ax p5 p6) (bF p5 p6)).size)) (pa (Yw ((dD p7).size)) pT)) (pl (show (aA (aQ (aR (ax p5 p6) (bF p5 p6))) ((aR (ax p5 p6) (bF p5 p6)).size) 0 ((aR (ax p5 p6) (bF p5 p6)).size)).length≤100000 from nX (Nat.le_trans (cf _ _) (by decide))))) (v2 (pu pz (pg h4 (v6 pT)))))))))))) <|Xy [(0,0),(1,1),(2,2),(3,3)] (pa pT (pa pT pz)) (by simp only [eN,cR,cW,cu,cv,h1,h2,h3,h4,aF,aD] <;> rfl)
 refine Tri.split (iY p5 p6) (fun h7=>?_) (fun h7=>?_)
 exact Xu [Eb 37 false,Eb 47 true] none [Eb 10 (!(dk p5 p6)),Es 9 (⟨#[]⟩:ByteArray),Eb 8 false] [13,12,11,1] [] [112] 640 (v1 (pu (Yl 1 4) (v1 (pg h3 (v8 (pu pz (pg h7 (v6 pT)))))))) <|Xy [(0,0),(1,1),(2,2),(3,3)] (pa pT (pa pT pz)) (by simp only [eN,cR,cW,cu,cv,h1,h2,h3,h7,aF,aD] <;> rfl)
 exact Xu [Eb 37 false,Eb 47 false] none [Eb 10 false,Es 9 (⟨#[]⟩:ByteArray),Eb 8 false] [13,12,11,1] [] [112] 640 (v1 (pu (Yl 1 4) (v1 (pg h3 (v8 (pu pz (pg h7 (v6 pT)))))))) <|Xy [(0,0),(1,1),(2,2),(3,3)] (pa pT (pa pT pz)) (by simp only [eN,cR,cW,cu,cv,h1,h2,h3,h7,aF,aD] <;> rfl)
 refine Xs [Eb 51 (aP p8 (⟨#[112,117,98,108,105,99,107,101,121]⟩:ByteArray))] [28,23] 256 (v2 pT) <|Xa (fun h8=>?_) (fun h8=>?_)
 refine Xt [Es 16 (bN p5 p6),Es 15 (aR (ax p5 p6) (bF p5 p6)),Eb 14 (dk p5 p6)] [51] [Mc 3 [.ro .u8 (am p5 p6),.b (an p5 p6)]] [3] 400 (v1 (pu pz (v1 (pu pz (v1 (pu pz (v3 pT))))))) <|Xs [Es 17 (bI (bN p5 p6))] [] 448 (v1 (pu (pa pT (Ye ((bN p5 p6).size) 1000000000)) (v1 pT))) <|Tri.split (aP (aR (ax p5 p6) (bF p5 p6)) (⟨#[115,115,104,45,101,100,50,53,53,49,57]⟩:ByteArray)) (fun h9=>?_) (fun h9=>?_)
 refine Tri.split (!(aP (bI (bN p5 p6)) (⟨#[]⟩:ByteArray))) (fun h10=>?_) (fun h10=>?_)
 refine Xu [Eb 63 true,Eb 67 true] none [Eb 18 (aP (bI (bN p5 p6)) (cG p7))] [15,11] [] [112] 656 (v2 (pg h9 (v3 (pg h10 (v2 (pu (Yl 2 4) (v3 pT))))))) <|Tri.seq <|Xs [Eb 74 (!(dk p5 p6))] [14] 688 (v2 pT) <|Xa (fun h11=>?_) (fun h11=>?_)
 refine Tri.seq <|Xs [Eb 75 (aP (bI (bN p5 p6)) (cG p7))] [74,18,17,0,2] 704 (v1 pT) <|Xj (x:=(aP (bI (bN p5 p6)) (cG p7))) (fun bb=>[Es 9 (sel bb (bN p5 p6) (⟨#[]⟩:ByteArray))]) [75,16,9] (fun bb=>[]) [] 736 (fun h12=>?_) (fun h12=>?_) ?_
 exact Ws [Es 9 (bN p5 p6)] [75,16,9] 736 (v2 pT) <|Xe [Es 9 (bN p5 p6)] []
 exact Tri.skip <|Xe [Es 9 (⟨#[]⟩:ByteArray)] []
 exact Xs [Eb 10 (dg (am p5 p6) (an p5 p6)),Es 9 (sel (aP (bI (bN p5 p6)) (cG p7)) (bN p5 p6) (⟨#[]⟩:ByteArray)),Eb 8 false] [9,1] 832 (v2 (pu pz (v3 pT))) <|Xy [(0,0),(1,1),(2,2),(3,3)] (pa pT (pa pT pz)) (by simp only [eN,cR,cW,cu,cv,h1,h2,h8,h9,h10,h11,aF,aD] <;> rfl)
 refine Tri.skip <|Tri.split (gL (aR (am p5 p6) (an p5 p6))) (fun h13=>?_) (fun h13=>?_)
 refine Xt [(19,.sc (.nils))] [74,9] [Mc 3 [.ro .u8 (aa (am p5 p6) (an p5 p6)),.b (af (am p5 p6) (an p5 p6))]] [3] 752 (v1 (pu pz (pu (pa pT (pa (pl h13) (pl (show (aR (am p5 p6) (an p5 p6)).size≤1000000000 from Nat.le_trans (cf _ _) (by decide))))) (v1 pT)))) <|Tri.split (aP (bI (bN p5 p6)) (cG p7)) (fun h14=>?_) (fun h14=>?_)
 exact Xu [Eb 84 true] none [Eb 10 (eR p5 p6),Es 9 (⟨#[]⟩:ByteArray),Eb 8 false] [19,18,17,16,0,1,2] [] [] 1120 (v1 (pg h14 (v8 (v9 (pu pz (v3 pT)))))) <|Xy [(0,0),(1,1),(2,2),(3,3)] (pa pT (pa pT pz)) (by simp only [eN,cR,cW,cu,cv,h1,h2,h8,h9,h10,h11,h13,h14,aF,aD] <;> rfl)
 exact Xu [Eb 84 false] none [Eb 10 (eR p5 p6),Es 9 (⟨#[]⟩:ByteArray),Eb 8 false] [19,18,17,16,0,1,2] [] [] 1120 (v1 (pg h14 (v8 (v9 (pu pz (v3 pT)))))) <|Xy [(0,0),(1,1),(2,2),(3,3)] (pa pT (pa pT pz)) (by simp only [eN,cR,cW,cu,cv,h1,h2,h8,h9,h10,h11,h13,h14,aF,aD] <;> rfl)
 refine Tri.sub (Sub.up (U':=1120) (by decide)) <|Xt [El 19 1152 ((ap (aR (am p5 p6) (an p5 p6))).size)] [74,9] [Mi 1152 ((ap (aR (am p5 p6) (an p5 p6))).size) (el (aR (am p5 p6) (an p5 p6))),Mc 3 [.ro .u8 (aa (am p5 p6) (an p5 p6)),.b (af (am p5 p6) (an p5 p6))]] [3] 1184 (v1 (pu pz (pu (pa pT (pa (pl h13) (pl (show (aR (am p5 p6) (an p5 p6)).size≤1000000000 from Nat.le_trans (cf _ _) (by decide))))) (v1 pT)))) <|Tri.split (aP (bI (bN p5 p6)) (cG p7)) (fun h15=>?_) (fun h15=>?_)
 exact Tri.len 1152 rfl <|fun hl16=>Tri.len 2 rfl <|fun hl17=>Xu [Eb 84 true] none [Eb 10 (eR p5 p6),Es 9 (⟨#[]⟩:ByteArray),Eb 8 (pk p10 p0 p5 p6 p7)] [19,18,17,16,0,1,2] [] [1152] 1552 (v1 (pg h15 (v1 (pu (pl (show 0<(ap (aR (am p5 p6) (an p5 p6))).size from tS (by assumption))) (v7 (pu (Yl 1 6) (v2 (pu (pa (pa (Yw p10) pT) (pl (show (aA p0 p10 0 p10).length≤20000∧p7.size≤20000∧(bN p5 p6).size≤20000 from ⟨bP (by omega) (by omega),by omega,by omega⟩))) (v1 (pu (pa (pa (Yw ((bI (bN p5 p6)).size)) (pa (Yw (cb (aA p0 p10 0 p10) p7 (bN p5 p6))) (pa (Yw ((ap (aR (am p5 p6) (an p5 p6))).size)) pT))) (pl (show (aA (gU (aA p0 p10 0 p10) p7 (bN p5 p6)) (cb (aA p0 p10 0 p10) p7 (bN p5 p6)) 0 (cb (aA p0 p10 0 p10) p7 (bN p5 p6))).length≤10000 from bP (Nat.le_trans (kW (by assumption)) (by omega)) (by rw [oR];exact Nat.le_trans (kW (by assumption)) (by omega))))) (v2 (pu pz (v3 pT))))))))))))) <|Xy [(0,0),(1,1),(2,2),(3,3)] (pa pT (pa pT pz)) (by simp only [eN,cR,cW,cu,cv,h1,h2,h8,h9,h10,h11,h13,h15,aF,aD] <;> rfl)
 exact Xu [Eb 84 false] none [Eb 10 (eR p5 p6),Es 9 (⟨#[]⟩:ByteArray),Eb 8 false] [19,18,17,16,0,1,2] [] [1152] 1552 (v1 (pg h15 (v8 (v9 (pu pz (v3 pT)))))) <|Xy [(0,0),(1,1),(2,2),(3,3)] (pa pT (pa pT pz)) (by simp only [eN,cR,cW,cu,cv,h1,h2,h8,h9,h10,h11,h13,h15,aF,aD] <;> rfl)
 refine Xu [Eb 63 true,Eb 67 false] none [Eb 18 false] [15,11] [] [112] 656 (v2 (pg h9 (v3 (pg h10 (v6 pT))))) <|Tri.seq <|Xs [Eb 74 (!(dk p5 p6))] [14] 688 (v2 pT) <|Xa (fun h18=>?_) (fun h18=>?_)
 exact Tri.seq <|Xs [Eb 75 false] [74,18,17,0,2] 704 (v1 pT) <|Tri.cond_false (by kernel_rfl) <|Tri.skip <|Xs [Eb 10 (dg (am p5 p6) (an p5 p6)),Es 9 (⟨#[]⟩:ByteArray),Eb 8 false] [75,16,9,1] 800 (v2 (pu pz (v3 pT))) <|Xy [(0,0),(1,1),(2,2),(3,3)] (pa pT (pa pT pz)) (by simp only [eN,cR,cW,cu,cv,h1,h2,h8,h9,h10,h18,aF,aD] <;> rfl)
 refine Tri.skip <|Tri.split (gL (aR (am p5 p6) (an p5 p6))) (fun h19=>?_) (fun h19=>?_)
 exact Xt [(19,.sc (.nils))] [74,9] [Mc 3 [.ro .u8 (aa (am p5 p6) (an p5 p6)),.b (af (am p5 p6) (an p5 p6))]] [3] 752 (v1 (pu pz (pu (pa pT (pa (pl h19) (pl (show (aR (am p5 p6) (an p5 p6)).size≤1000000000 from Nat.le_trans (cf _ _) (by decide))))) (v1 pT)))) <|Xs [Eb 10 (eR p5 p6),Es 9 (⟨#[]⟩:ByteArray),Eb 8 false] [19,18,17,16,0,1,2] 1120 (v1 (v9 (v9 (pu pz (v3 pT))))) <|Xy [(0,0),(1,1),(2,2),(3,3)] (pa pT (pa pT pz)) (by simp only [eN,cR,cW,cu,cv,h1,h2,h8,h9,h10,h18,h19,aF,aD] <;> rfl)
 exact Tri.sub (Sub.up (U':=1552) (by decide)) <|Xt [El 19 1584 ((ap (aR (am p5 p6) (an p5 p6))).size)] [74,9] [Mi 1584 ((ap (aR (am p5 p6) (an p5 p6))).size) (el (aR (am p5 p6) (an p5 p6))),Mc 3 [.ro .u8 (aa (am p5 p6) (an p5 p6)),.b (af (am p5 p6) (an p5 p6))]] [3] 1616 (v1 (pu pz (pu (pa pT (pa (pl h19) (pl (show (aR (am p5 p6) (an p5 p6)).size≤1000000000 from Nat.le_trans (cf _ _) (by decide))))) (v1 pT)))) <|Xt [Eb 10 (eR p5 p6),Es 9 (⟨#[]⟩:ByteArray),Eb 8 false] [19,18,17,16,0,1,2] [] [1584] 1984 (v1 (v9 (v9 (pu pz (v3 pT))))) <|Xy [(0,0),(1,1),(2,2),(3,3)] (pa pT (pa pT pz)) (by simp only [eN,cR,cW,cu,cv,h1,h2,h8,h9,h10,h18,h19,aF,aD] <;> rfl)
 refine Xu [Eb 63 false] none [Eb 18 false] [15,11] [] [112] 656 (v2 (pg h9 (v1 (v9 pT)))) <|Tri.seq <|Xs [Eb 74 (!(dk p5 p6))] [14] 688 (v2 pT) <|Xa (fun h20=>?_) (fun h20=>?_)
 exact Tri.seq <|Xs [Eb 75 false] [74,18,17,0,2] 704 (v1 pT) <|Tri.cond_false (by kernel_rfl) <|Tri.skip <|Xs [Eb 10 (dg (am p5 p6) (an p5 p6)),Es 9 (⟨#[]⟩:ByteArray),Eb 8 false] [75,16,9,1] 800 (v2 (pu pz (v3 pT))) <|Xy [(0,0),(1,1),(2,2),(3,3)] (pa pT (pa pT pz)) (by simp only [eN,cR,cW,cu,cv,h1,h2,h8,h9,h20,aF,aD] <;> rfl)
 refine Tri.skip <|Tri.split (gL (aR (am p5 p6) (an p5 p6))) (fun h21=>?_) (fun h21=>?_)
 exact Xt [(19,.sc (.nils))] [74,9] [Mc 3 [.ro .u8 (aa (am p5 p6) (an p5 p6)),.b (af (am p5 p6) (an p5 p6))]] [3] 752 (v1 (pu pz (pu (pa pT (pa (pl h21) (pl (show (aR (am p5 p6) (an p5 p6)).size≤1000000000 from Nat.le_trans (cf _ _) (by decide))))) (v1 pT)))) <|Xs [Eb 10 (eR p5 p6),Es 9 (⟨#[]⟩:ByteArray),Eb 8 false] [19,18,17,16,0,1,2] 1120 (v1 (v9 (v9 (pu pz (v3 pT))))) <|Xy [(0,0),(1,1),(2,2),(3,3)] (pa pT (pa pT pz)) (by simp only [eN,cR,cW,cu,cv,h1,h2,h8,h9,h20,h21,aF,aD] <;> rfl)
 exact Tri.sub (Sub.up (U':=1984) (by decide)) <|Xt [El 19 2016 ((ap (aR (am p5 p6) (an p5 p6))).size)] [74,9] [Mi 2016 ((ap (aR (am p5 p6) (an p5 p6))).size) (el (aR (am p5 p6) (an p5 p6))),Mc 3 [.ro .u8 (aa (am p5 p6) (an p5 p6)),.b (af (am p5 p6) (an p5 p6))]] [3] 2048 (v1 (pu pz (pu (pa pT (pa (pl h21) (pl (show (aR (am p5 p6) (an p5 p6)).size≤1000000000 from Nat.le_trans (cf _ _) (by decide))))) (v1 pT)))) <|Xt [Eb 10 (eR p5 p6),Es 9 (⟨#[]⟩:ByteArray),Eb 8 false] [19,18,17,16,0,1,2] [] [2016] 2416 (v1 (v9 (v9 (pu pz (v3 pT))))) <|Xy [(0,0),(1,1),(2,2),(3,3)] (pa pT (pa pT pz)) (by simp only [eN,cR,cW,cu,cv,h1,h2,h8,h9,h20,h21,aF,aD] <;> rfl)
 exact Tri.skip <|Xt [Eb 10 (qq p5 p6),Es 9 (⟨#[]⟩:ByteArray),Eb 8 false] [51,11,9,0,1,2] [Mc 3 [.ro .u8 p5,.b p6]] [112,3] 336 (v1 (pu pz (v3 pT))) <|Xy [(0,0),(1,1),(2,2),(3,3)] (pa pT (pa pT pz)) (by simp only [eN,cR,cW,cu,cv,h1,h2,h8,aF,aD] <;> rfl)
end Go.Vm
namespace Go.Vm
open Go Go.Proofs
def fO (p5:List Int):Bool :=
 (dg (aa (aq p5 false) (au p5 false)) (af (aq p5 false) (au p5 false)))
def kY:List Int :=
 (kn (⟨#[115,115,104,45,117,115,101,114,97,117,116,104]⟩:ByteArray))
def eA (p5:List Int):ByteArray :=
 (aR (aa (aq p5 false) (au p5 false)) (af (aq p5 false) (au p5 false)))
def bX (p5:List Int):List Int :=
 (aa (aa (aq p5 false) (au p5 false)) (af (aq p5 false) (au p5 false)))
def bh (p5:List Int):Bool :=
 (af (aa (aq p5 false) (au p5 false)) (af (aq p5 false) (au p5 false)))
def eG (p10:Nat) (p0:List Int) (p5:List Int):Bool :=
 (eN p10 p0 (aa (bX p5) (bh p5)) (af (bX p5) (bh p5)) (aR (aq p5 false) (au p5 false)) (aR (bX p5) (bh p5)))
def cT (p5:List Int):ByteArray :=
 (cR (aa (bX p5) (bh p5)) (af (bX p5) (bh p5)) (aR (aq p5 false) (au p5 false)) (aR (bX p5) (bh p5)))
def eI (p5:List Int):Bool :=
 (cW (aa (bX p5) (bh p5)) (af (bX p5) (bh p5)) (aR (bX p5) (bh p5)))
def qY:List Int :=
 (cN 1 [60] (⟨#[115,115,104,45,101,100,50,53,53,49,57]⟩:ByteArray))
def gh (p5:List Int):List Int :=
 (cN ((1+4)+(⟨#[115,115,104,45,101,100,50,53,53,49,57]⟩:ByteArray).size) (qY) (cT p5))
def bQ (p10:Nat) (p0:List Int) (p1:Int) (p2:Bool) (p4:Bool) (p5:List Int):Int :=
 (sel p4 8 (sel (((cS p5 false):Int)==5) (sel (!(fO p5)) 3 (sel (!(aP (aR (aq p5 false) (au p5 false)) (⟨#[115,115,104,45,117,115,101,114,97,117,116,104]⟩:ByteArray))) 3 0)) (sel (((cS p5 false):Int) != 50) 3 (sel (!p2) 3 (sel (!(eI p5)) 3 (sel (!(aP (eA p5) (⟨#[115,115,104,45,99,111,110,110,101,99,116,105,111,110]⟩:ByteArray))) 3 (sel (eG p10 p0 p5) 0 (sel (!(aP (cT p5) (⟨#[]⟩:ByteArray))) 0 (sel (!(aP (aR (bX p5) (bh p5)) (⟨#[110,111,110,101]⟩:ByteArray))) (sel (((bS .i64 (gK p1 1) 1):Int)==0) 9 0) 0)))))))))
def aK (p10:Nat) (p0:List Int) (p1:Int) (p2:Bool) (p4:Bool) (p5:List Int):Int :=
 (sel p4 p1 (sel (((cS p5 false):Int)==5) p1 (sel (((cS p5 false):Int) != 50) p1 (sel (!p2) p1 (sel (!(eI p5)) p1 (sel (!(aP (eA p5) (⟨#[115,115,104,45,99,111,110,110,101,99,116,105,111,110]⟩:ByteArray))) p1 (sel (eG p10 p0 p5) p1 (sel (!(aP (cT p5) (⟨#[]⟩:ByteArray))) p1 (sel (!(aP (aR (bX p5) (bh p5)) (⟨#[110,111,110,101]⟩:ByteArray))) (bS .i64 (gK p1 1) 1) p1)))))))))
def bg (p2:Bool) (p4:Bool) (p5:List Int):Bool :=
 (sel p4 p2 (sel (((cS p5 false):Int)==5) (sel (!(fO p5)) p2 (sel (!(aP (aR (aq p5 false) (au p5 false)) (⟨#[115,115,104,45,117,115,101,114,97,117,116,104]⟩:ByteArray))) p2 true)) p2))
def bW (p10:Nat) (p0:List Int) (p2:Bool) (p3:ByteArray) (p4:Bool) (p5:List Int):ByteArray :=
 (sel p4 p3 (sel (((cS p5 false):Int)==5) p3 (sel (((cS p5 false):Int) != 50) p3 (sel (!p2) p3 (sel (!(eI p5)) p3 (sel (!(aP (eA p5) (⟨#[115,115,104,45,99,111,110,110,101,99,116,105,111,110]⟩:ByteArray))) p3 (sel (eG p10 p0 p5) (aR (aq p5 false) (au p5 false)) p3)))))))
def bV (p10:Nat) (p0:List Int) (p2:Bool) (p4:Bool) (p5:List Int):Bool :=
 (sel p4 p4 (sel (((cS p5 false):Int)==5) p4 (sel (((cS p5 false):Int) != 50) p4 (sel (!p2) p4 (sel (!(eI p5)) p4 (sel (!(aP (eA p5) (⟨#[115,115,104,45,99,111,110,110,101,99,116,105,111,110]⟩:ByteArray))) p4 (sel (eG p10 p0 p5) true p4)))))))
def bd (p10:Nat) (p0:List Int) (p1:Int) (p2:Bool) (p4:Bool) (p5:List Int):List Int :=
 (sel p4 ([]:List Int) (sel (((cS p5 false):Int)==5) (sel (!(fO p5)) ([]:List Int) (sel (!(aP (aR (aq p5 false) (au p5 false)) (⟨#[115,115,104,45,117,115,101,114,97,117,116,104]⟩:ByteArray))) ([]:List Int) (kY))) (sel (((cS p5 false):Int) != 50) ([]:List Int) (sel (!p2) ([]:List Int) (sel (!(eI p5)) ([]:List Int) (sel (!(aP (eA p5) (⟨#[115,115,104,45,99,111,110,110,101,99,116,105,111,110]⟩:ByteArray))) ([]:List Int) (sel (eG p10 p0 p5) [52] (sel (!(aP (cT p5) (⟨#[]⟩:ByteArray))) (gh p5) (sel (!(aP (aR (bX p5) (bh p5)) (⟨#[110,111,110,101]⟩:ByteArray))) (sel (((bS .i64 (gK p1 1) 1):Int)==0) ([]:List Int) (ec)) (ec))))))))))
def aO (p10:Nat) (p0:List Int) (p1:Int) (p2:Bool) (p4:Bool) (p5:List Int):Nat :=
 (sel p4 0 (sel (((cS p5 false):Int)==5) (sel (!(fO p5)) 0 (sel (!(aP (aR (aq p5 false) (au p5 false)) (⟨#[115,115,104,45,117,115,101,114,97,117,116,104]⟩:ByteArray))) 0 ((1+4)+(⟨#[115,115,104,45,117,115,101,114,97,117,116,104]⟩:ByteArray).size))) (sel (((cS p5 false):Int) != 50) 0 (sel (!p2) 0 (sel (!(eI p5)) 0 (sel (!(aP (eA p5) (⟨#[115,115,104,45,99,111,110,110,101,99,116,105,111,110]⟩:ByteArray))) 0 (sel (eG p10 p0 p5) 1 (sel (!(aP (cT p5) (⟨#[]⟩:ByteArray))) ((((1+4)+(⟨#[115,115,104,45,101,100,50,53,53,49,57]⟩:ByteArray).size)+4)+(cT p5).size) (sel (!(aP (aR (bX p5) (bh p5)) (⟨#[110,111,110,101]⟩:ByteArray))) (sel (((bS .i64 (gK p1 1) 1):Int)==0) 0 (cH)) (cH))))))))))
theorem qb (p5:List Int):(aa (bX p5) (bh p5)).length+(aR (aq p5 false) (au p5 false)).size≤p5.length:=by
 have h1:=lk p5 false
 have h2:=fk (aq p5 false) (au p5 false)
 have h3:=fk (aa (aq p5 false) (au p5 false)) (af (aq p5 false) (au p5 false))
 have h4:=fk (bX p5) (bh p5)
 unfold ax at h1
 unfold bX at h4 ⊢
 omega
theorem tb (p5:List Int):(cT p5).size≤16384:=by
 have h0:(⟨#[]⟩:ByteArray).size≤16384:=by decide
 have hs:∀ (b:Bool) (x y:ByteArray),x.size≤16384→y.size≤16384→(sel b x y).size≤16384:=fun b x y hx hy=>by cases b;exact hy;exact hx
 unfold cT cR
 repeat first|exact h0|exact cf _ _|(unfold bN;exact cf _ _)|refine hs _ _ _ ?_ ?_
def sG:List AV→List Blk→Option (Prop × Ret)
 |[.sc (.p 0 0),.sc (.ro .u8 p5)],[.cells [.sl 1 0 4 4 none,.sl 2 0 p10 1 none,.i .i64 p1,.b p2,.s p3,.b p4],.cells p9,.ints .u8 p11 p0]=>some (((p10=p11)∧((UA=p9)∧(p5.length≤6000∧p10≤1000))),⟨.tup [.sc (.sl 3 0 (aO p10 p0 p1 p2 p4 p5) 1 none),.sc (.i .i64 (bQ p10 p0 p1 p2 p4 p5))],[some (.cells [.sl 1 0 4 4 none,.sl 2 0 p10 1 none,.i .i64 (aK p10 p0 p1 p2 p4 p5),.b (bg p2 p4 p5),.s (bW p10 p0 p2 p3 p4 p5),.b (bV p10 p0 p2 p4 p5)]),some (.cells UA),some (.ints .u8 p10 p0),some (.ints .u8 (aO p10 p0 p1 p2 p4 p5) (bd p10 p0 p1 p2 p4 p5))]⟩)
 |_,_=>none
def uN:KL Tryz.prog gD:=Zv oM 544 1 <|Zc de 1024 [.io,.val] [] [1008] <|Zc de 1056 [.io,.val] [] [1024] <|Zc uL 192 [.ro .u8] [] [] <|Zc qo 240 [.io] [] [192] <|Zc dl 336 [.io] [] [192] <|Zc dl 496 [.io] [] [192] <|Zc dl 528 [.io] [] [192] <|Zc dl 560 [.io] [] [192] <|Zc gI 384 [.io] [] [192] <|Zc vl 688 [.io,.io,.val,.val] [] [0,1,2,192] <|Zv mD 1040 0 <|Zv mD 1280 0 <|Zn
theorem ml:Known Tryz.prog gD 20 ⟨3,1,sG⟩:=by
 refine Xw Tryz.f20 109 uN mixed <|fun E args ks C r h hC hlen=>?_
 simp only at h
 unfold sG at h
 split at h
 rotate_left
 cases h
 rename_i p5 p10 p1 p2 p3 p4 p9 p11 p0
 cases h
 simp only [bB] at hlen
 obtain ⟨hEp11,hC⟩:=hC
 obtain ⟨hEp9,hC⟩:=hC
 subst hEp11
 subst hEp9
 have ht:=qb p5
 have hf:=tb p5
 have sz0:(⟨#[115,115,104,45,101,100,50,53,53,49,57]⟩:ByteArray).size=11:=rfl
 refine ⟨rfl,?_⟩
 refine Xs [] [] 48 (v2 pT) <|Tri.seq <|Xs [Eb 22 p4] [] 176 (v6 (pu (Yl 5 6) (v1 pT))) <|Xa (fun h1=>?_) (fun h1=>?_)
 exact Xs [Ei 5 8,(4,.sc (.nils))] [22,0,1] 208 (v2 pT) <|Tri.sub (Sub.openNil (U:=208) (U':=224) 4 208 1 .u8 none (.inl rfl) (by decide) (by decide) (by kernel_rfl) (by kernel_rfl)) <|Xy (r':=⟨.tup [.sc (.sl 3 0 0 1 none),.sc (.i .i64 8)],[some (.cells [.sl 1 0 4 4 none,.sl 2 0 p10 1 none,.i .i64 p1,.b p2,.s p3,.b p4]),some (.cells UA),some (.ints .u8 p10 p0),some (.ints .u8 0 ([]:List Int))]⟩) [(0,0),(1,1),(2,2),(208,3)] (pa pT pz) (by simp only [bQ,aK,bg,bW,bV,bd,aO,h1,aF,aD])
 refine Tri.skip <|Xt [Ep 6 192] [22,1] [Mc 192 [.ro .u8 p5,.b false]] [] 224 (v1 (pu (pa pz pT) (v1 pT))) <|Tri.seq <|Xt [Ek 7 .u8 (cS p5 false)] [] [Mc 192 [.ro .u8 (aq p5 false),.b (au p5 false)]] [192] 272 (v1 (pu pz (v1 pT))) <|Tri.block <|Xs [Eb 27 (((cS p5 false):Int)==5)] [] 320 (v3 pT) <|Xa (fun h2=>?_) (fun h2=>?_)
 have h2':=bn h2
 refine Tri.seq <|Xt [Es 8 (aR (aq p5 false) (au p5 false))] [27,7] [Mc 192 [.ro .u8 (aa (aq p5 false) (au p5 false)),.b (af (aq p5 false) (au p5 false))]] [192] 368 (v1 (pu pz (v1 pT))) <|Tri.split (!(fO p5)) (fun h3=>?_) (fun h3=>?_)
 exact Xu [Eb 35 true] none [Eb 38 true] [8,6] [] [192] 480 (v1 (pu pz (v1 (pg h3 (v3 pT))))) <|Tri.cond_true (by kernel_rfl) <|Xs [Ei 5 3,(4,.sc (.nils))] [38,0] 512 (v2 pT) <|Tri.sub (Sub.openNil (U:=512) (U':=528) 4 512 1 .u8 none (.inl rfl) (by decide) (by decide) (by kernel_rfl) (by kernel_rfl)) <|Xy (r':=⟨.tup [.sc (.sl 3 0 0 1 none),.sc (.i .i64 3)],[some (.cells [.sl 1 0 4 4 none,.sl 2 0 p10 1 none,.i .i64 p1,.b p2,.s p3,.b p4]),some (.cells UA),some (.ints .u8 p10 p0),some (.ints .u8 0 ([]:List Int))]⟩) [(0,0),(1,1),(2,2),(512,3)] (pa pT pz) (by simp only [bQ,aK,bg,bW,bV,bd,aO,h1,h2,h3,aF,aD])
 refine Xu [Eb 35 false] none [Eb 38 (!(aP (aR (aq p5 false) (au p5 false)) (⟨#[115,115,104,45,117,115,101,114,97,117,116,104]⟩:ByteArray)))] [8,6] [] [192] 480 (v1 (pu pz (v1 (pg h3 (v3 pT))))) <|Xa (fun h4=>?_) (fun h4=>?_)
 exact Xs [Ei 5 3,(4,.sc (.nils))] [38,0] 512 (v2 pT) <|Tri.sub (Sub.openNil (U:=512) (U':=528) 4 512 1 .u8 none (.inl rfl) (by decide) (by decide) (by kernel_rfl) (by kernel_rfl)) <|Xy (r':=⟨.tup [.sc (.sl 3 0 0 1 none),.sc (.i .i64 3)],[some (.cells [.sl 1 0 4 4 none,.sl 2 0 p10 1 none,.i .i64 p1,.b p2,.s p3,.b p4]),some (.cells UA),some (.ints .u8 p10 p0),some (.ints .u8 0 ([]:List Int))]⟩) [(0,0),(1,1),(2,2),(512,3)] (pa pT pz) (by simp only [bQ,aK,bg,bW,bV,bd,aO,h1,h2,h3,h4,aF,aD])
 exact Tri.skip <|Xt [] [38,0] [Mc 0 [.sl 1 0 4 4 none,.sl 2 0 p10 1 none,.i .i64 p1,.b true,.s p3,.b p4]] [0] 544 (v3 (pu (Ys 3 6) pT)) <|Xt [Ei 5 0,El 4 544 ((1+4)+(⟨#[115,115,104,45,117,115,101,114,97,117,116,104]⟩:ByteArray).size)] [] [Mi 544 ((1+4)+(⟨#[115,115,104,45,117,115,101,114,97,117,116,104]⟩:ByteArray).size) (kY)] [] 592 (pu (pa pT (Ye ((⟨#[115,115,104,45,117,115,101,114,97,117,116,104]⟩:ByteArray).size) 100000)) (v2 pT)) <|Xy (r':=⟨.tup [.sc (.sl 3 0 ((1+4)+(⟨#[115,115,104,45,117,115,101,114,97,117,116,104]⟩:ByteArray).size) 1 none),.sc (.i .i64 0)],[some (.cells [.sl 1 0 4 4 none,.sl 2 0 p10 1 none,.i .i64 p1,.b true,.s p3,.b p4]),some (.cells UA),some (.ints .u8 p10 p0),some (.ints .u8 ((1+4)+(⟨#[115,115,104,45,117,115,101,114,97,117,116,104]⟩:ByteArray).size) (kY))]⟩) [(0,0),(1,1),(2,2),(544,3)] (pa pT pz) (by simp only [bQ,aK,bg,bW,bV,bd,aO,h1,h2,h3,h4,aF,aD])
 have h2':=bp h2
 refine Tri.split (((cS p5 false):Int) != 50) (fun h5=>?_) (fun h5=>?_)
 have h5':=bY h5
 exact Xu [Eb 46 true] none [Eb 43 true] [27,7] [] [] 480 (v2 (pg h5 (v7 pT))) <|Tri.cond_true (by kernel_rfl) <|Xt [Ei 5 3,(4,.sc (.nils))] [43,6,0] [] [192] 512 (v2 pT) <|Tri.sub (Sub.openNil (U:=512) (U':=528) 4 512 1 .u8 none (.inl rfl) (by decide) (by decide) (by kernel_rfl) (by kernel_rfl)) <|Xy (r':=⟨.tup [.sc (.sl 3 0 0 1 none),.sc (.i .i64 3)],[some (.cells [.sl 1 0 4 4 none,.sl 2 0 p10 1 none,.i .i64 p1,.b p2,.s p3,.b p4]),some (.cells UA),some (.ints .u8 p10 p0),some (.ints .u8 0 ([]:List Int))]⟩) [(0,0),(1,1),(2,2),(512,3)] (pa pT pz) (by simp only [bQ,aK,bg,bW,bV,bd,aO,h1,h2,h5,aF,aD])
 have h5':=bJ h5
 refine Xu [Eb 46 false] none [Eb 43 (!p2)] [27,7] [] [] 480 (v2 (pg h5 (v3 (pu (Yl 3 6) (v3 pT))))) <|Xa (fun h6=>?_) (fun h6=>?_)
 exact Xt [Ei 5 3,(4,.sc (.nils))] [43,6,0] [] [192] 512 (v2 pT) <|Tri.sub (Sub.openNil (U:=512) (U':=528) 4 512 1 .u8 none (.inl rfl) (by decide) (by decide) (by kernel_rfl) (by kernel_rfl)) <|Xy (r':=⟨.tup [.sc (.sl 3 0 0 1 none),.sc (.i .i64 3)],[some (.cells [.sl 1 0 4 4 none,.sl 2 0 p10 1 none,.i .i64 p1,.b p2,.s p3,.b p4]),some (.cells UA),some (.ints .u8 p10 p0),some (.ints .u8 0 ([]:List Int))]⟩) [(0,0),(1,1),(2,2),(512,3)] (pa pT pz) (by simp only [bQ,aK,bg,bW,bV,bd,aO,h1,h2,h5,h6,aF,aD])
 refine Tri.skip <|Xt [Es 11 (aR (bX p5) (bh p5)),Es 10 (eA p5),Es 9 (aR (aq p5 false) (au p5 false))] [43] [Mc 192 [.ro .u8 (aa (bX p5) (bh p5)),.b (af (bX p5) (bh p5))]] [192] 624 (v1 (pu pz (v1 (pu pz (v1 (pu pz (v3 pT))))))) <|Xt [Eb 14 (eI p5),Es 13 (cT p5),Eb 12 (eG p10 p0 p5)] [6] [Mi 2 p10 p0,Mc 1 UA] [192,1,2] 816 (v4 (pu (pa pT (pa (Yr p10) (pa (Yr UA) (lo ((aa (bX p5) (bh p5)).length+(aR (aq p5 false) (au p5 false)).size≤6000∧p10≤1000))))) (v7 pT))) <|Tri.seq <|Tri.block <|Tri.split (!(eI p5)) (fun h7=>?_) (fun h7=>?_)
 exact Xu [Eb 71 true] none [Eb 68 true] [14,10] [] [] 928 (v2 (pg h7 (v4 pT))) <|Tri.cond_true (by kernel_rfl) <|Xs [Ei 5 3,(4,.sc (.nils))] [68,13,12,11,9,0] 960 (v2 pT) <|Tri.sub (Sub.openNil (U:=960) (U':=976) 4 960 1 .u8 none (.inl rfl) (by decide) (by decide) (by kernel_rfl) (by kernel_rfl)) <|Xy (r':=⟨.tup [.sc (.sl 3 0 0 1 none),.sc (.i .i64 3)],[some (.cells [.sl 1 0 4 4 none,.sl 2 0 p10 1 none,.i .i64 p1,.b p2,.s p3,.b p4]),some (.cells UA),some (.ints .u8 p10 p0),some (.ints .u8 0 ([]:List Int))]⟩) [(0,0),(1,1),(2,2),(960,3)] (pa pT pz) (by simp only [bQ,aK,bg,bW,bV,bd,aO,h1,h2,h5,h6,h7,aF,aD])
 refine Xu [Eb 71 false] none [Eb 68 (!(aP (eA p5) (⟨#[115,115,104,45,99,111,110,110,101,99,116,105,111,110]⟩:ByteArray)))] [14,10] [] [] 928 (v2 (pg h7 (v4 pT))) <|Xa (fun h8=>?_) (fun h8=>?_)
 exact Xs [Ei 5 3,(4,.sc (.nils))] [68,13,12,11,9,0] 960 (v2 pT) <|Tri.sub (Sub.openNil (U:=960) (U':=976) 4 960 1 .u8 none (.inl rfl) (by decide) (by decide) (by kernel_rfl) (by kernel_rfl)) <|Xy (r':=⟨.tup [.sc (.sl 3 0 0 1 none),.sc (.i .i64 3)],[some (.cells [.sl 1 0 4 4 none,.sl 2 0 p10 1 none,.i .i64 p1,.b p2,.s p3,.b p4]),some (.cells UA),some (.ints .u8 p10 p0),some (.ints .u8 0 ([]:List Int))]⟩) [(0,0),(1,1),(2,2),(960,3)] (pa pT pz) (by simp only [bQ,aK,bg,bW,bV,bd,aO,h1,h2,h5,h6,h7,h8,aF,aD])
 refine Xs [Eb 75 (eG p10 p0 p5)] [68,12] 960 (v2 pT) <|Xa (fun h9=>?_) (fun h9=>?_)
 exact Xt [] [75,13,11,9,0] [Mc 0 [.sl 1 0 4 4 none,.sl 2 0 p10 1 none,.i .i64 p1,.b p2,.s (aR (aq p5 false) (au p5 false)),.b true]] [0] 1104 (v5 (pu (Ys 5 6) (v2 (pu (Ys 4 6) pT)))) <|Xt [Ei 5 0,El 4 1104 1] [] [Mi 1104 1 [52]] [] 1152 (pu (Yf 1) (v2 pT)) <|Xy (r':=⟨.tup [.sc (.sl 3 0 1 1 none),.sc (.i .i64 0)],[some (.cells [.sl 1 0 4 4 none,.sl 2 0 p10 1 none,.i .i64 p1,.b p2,.s (aR (aq p5 false) (au p5 false)),.b true]),some (.cells UA),some (.ints .u8 p10 p0),some (.ints .u8 1 [52])]⟩) [(0,0),(1,1),(2,2),(1104,3)] (pa pT pz) (by simp only [bQ,aK,bg,bW,bV,bd,aO,h1,h2,h5,h6,h7,h8,h9,aF,aD])
 refine Xs [Eb 85 (!(aP (cT p5) (⟨#[]⟩:ByteArray)))] [75,9] 1008 (v3 pT) <|Xa (fun h10=>?_) (fun h10=>?_)
 exact Xt [Ei 5 0,El 4 1056 ((((1+4)+(⟨#[115,115,104,45,101,100,50,53,53,49,57]⟩:ByteArray).size)+4)+(cT p5).size)] [85,13,11,0] [Mi 1056 ((((1+4)+(⟨#[115,115,104,45,101,100,50,53,53,49,57]⟩:ByteArray).size)+4)+(cT p5).size) (gh p5)] [] 1104 (pu (Yf 1) (pu (pa pT (pa (Yr 1) (lo (1≤1000000000∧(⟨#[115,115,104,45,101,100,50,53,53,49,57]⟩:ByteArray).size≤1000000000)))) (v1 (pu (pa pT (pa (Yr ((1+4)+(⟨#[115,115,104,45,101,100,50,53,53,49,57]⟩:ByteArray).size)) (lo (((1+4)+(⟨#[115,115,104,45,101,100,50,53,53,49,57]⟩:ByteArray).size)≤1000000000∧(cT p5).size≤1000000000)))) (v2 pT))))) <|Xy (r':=⟨.tup [.sc (.sl 3 0 ((((1+4)+(⟨#[115,115,104,45,101,100,50,53,53,49,57]⟩:ByteArray).size)+4)+(cT p5).size) 1 none),.sc (.i .i64 0)],[some (.cells [.sl 1 0 4 4 none,.sl 2 0 p10 1 none,.i .i64 p1,.b p2,.s p3,.b p4]),some (.cells UA),some (.ints .u8 p10 p0),some (.ints .u8 ((((1+4)+(⟨#[115,115,104,45,101,100,50,53,53,49,57]⟩:ByteArray).size)+4)+(cT p5).size) (gh p5))]⟩) [(0,0),(1,1),(2,2),(1056,3)] (pa pT pz) (by simp only [bQ,aK,bg,bW,bV,bd,aO,h1,h2,h5,h6,h7,h8,h9,h10,aF,aD])
 refine Tri.skip <|Tri.seq <|Xs [Eb 93 (!(aP (aR (bX p5) (bh p5)) (⟨#[110,111,110,101]⟩:ByteArray)))] [85,13,11] 1040 (v2 pT) <|Xa (fun h11=>?_) (fun h11=>?_)
 refine Xt [] [93] [Mc 0 [.sl 1 0 4 4 none,.sl 2 0 p10 1 none,.i .i64 (bS .i64 (gK p1 1) 1),.b p2,.s p3,.b p4]] [0] 1200 (v4 (pu (Yl 2 6) (v4 (pu (Ys 2 6) pT)))) <|Xs [Eb 107 (((bS .i64 (gK p1 1) 1):Int)==0)] [0] 1280 (v3 (pu (Yl 2 6) (v1 pT))) <|Xa (fun h12=>?_) (fun h12=>?_)
 have h12':=bn h12
 exact Xs [Ei 5 9,(4,.sc (.nils))] [107] 1312 (v2 pT) <|Tri.sub (Sub.openNil (U:=1312) (U':=1328) 4 1312 1 .u8 none (.inl rfl) (by decide) (by decide) (by kernel_rfl) (by kernel_rfl)) <|Xy (r':=⟨.tup [.sc (.sl 3 0 0 1 none),.sc (.i .i64 9)],[some (.cells [.sl 1 0 4 4 none,.sl 2 0 p10 1 none,.i .i64 (bS .i64 (gK p1 1) 1),.b p2,.s p3,.b p4]),some (.cells UA),some (.ints .u8 p10 p0),some (.ints .u8 0 ([]:List Int))]⟩) [(0,0),(1,1),(2,2),(1312,3)] (pa pT pz) (by simp only [bQ,aK,bg,bW,bV,bd,aO,h1,h2,h5,h6,h7,h8,h9,h10,h11,h12,aF,aD])
 have h12':=bp h12
 exact Tri.skip <|Xt [Ei 5 0,El 4 1280 (cH)] [107] [Mi 1280 (cH) (ec)] [] 1328 (pu pz (v2 pT)) <|Xy (r':=⟨.tup [.sc (.sl 3 0 (cH) 1 none),.sc (.i .i64 0)],[some (.cells [.sl 1 0 4 4 none,.sl 2 0 p10 1 none,.i .i64 (bS .i64 (gK p1 1) 1),.b p2,.s p3,.b p4]),some (.cells UA),some (.ints .u8 p10 p0),some (.ints .u8 (cH) (ec))]⟩) [(0,0),(1,1),(2,2),(1280,3)] (pa pT pz) (by simp only [bQ,aK,bg,bW,bV,bd,aO,h1,h2,h5,h6,h7,h8,h9,h10,h11,h12,aF,aD])
 exact Tri.skip <|Xt [Ei 5 0,El 4 1040 (cH)] [93,0] [Mi 1040 (cH) (ec)] [] 1088 (pu pz (v2 pT)) <|Xy (r':=⟨.tup [.sc (.sl 3 0 (cH) 1 none),.sc (.i .i64 0)],[some (.cells [.sl 1 0 4 4 none,.sl 2 0 p10 1 none,.i .i64 p1,.b p2,.s p3,.b p4]),some (.cells UA),some (.ints .u8 p10 p0),some (.ints .u8 (cH) (ec))]⟩) [(0,0),(1,1),(2,2),(1040,3)] (pa pT pz) (by simp only [bQ,aK,bg,bW,bV,bd,aO,h1,h2,h5,h6,h7,h8,h9,h10,h11,aF,aD])
theorem rT {b:Bool} {x y:Nat} {u v:Int} (h:sel b u v=0) (hx:u=0→0<x) (hy:v=0→0<y):0<sel b x y:=by
 cases b
 ·rw [aD] at h ⊢;exact hy h
 ·rw [aF] at h ⊢;exact hx h
theorem qr {p10:Nat} {p0:List Int} {p1:Int} {p2 p4:Bool} {p5:List Int} (h:bQ p10 p0 p1 p2 p4 p5=0):0<aO p10 p0 p1 p2 p4 p5:=by
 unfold bQ at h
 unfold aO
 revert h
 repeat' first
  |(intro h;exact absurd h (by decide))
  |(intro h;refine rT h ?_ ?_)
  |(intro _;omega)
  |(intro _;unfold cH;omega)
  |(intro _;exact (by decide))
end Go.Vm
namespace Go.Vm
open Go Go.Proofs
def bx:List Int :=
 (iw (⟨#[115,115,104,45,117,115,101,114,97,117,116,104]⟩:ByteArray))
def dQ:Bool :=
 (bg false false (aA (bx) ((1+4)+(⟨#[115,115,104,45,117,115,101,114,97,117,116,104]⟩:ByteArray).size) 0 ((1+4)+(⟨#[115,115,104,45,117,115,101,114,97,117,116,104]⟩:ByteArray).size)))
def qD:ByteArray :=
 (bW ((aA [115] 1 0 1).length) (aA [115] 1 0 1) false (⟨#[]⟩:ByteArray) false (aA (bx) ((1+4)+(⟨#[115,115,104,45,117,115,101,114,97,117,116,104]⟩:ByteArray).size) 0 ((1+4)+(⟨#[115,115,104,45,117,115,101,114,97,117,116,104]⟩:ByteArray).size)))
def dO:Bool :=
 (bV ((aA [115] 1 0 1).length) (aA [115] 1 0 1) false false (aA (bx) ((1+4)+(⟨#[115,115,104,45,117,115,101,114,97,117,116,104]⟩:ByteArray).size) 0 ((1+4)+(⟨#[115,115,104,45,117,115,101,114,97,117,116,104]⟩:ByteArray).size)))
def mv:List Int :=
 (bd ((aA [115] 1 0 1).length) (aA [115] 1 0 1) 3 false false (aA (bx) ((1+4)+(⟨#[115,115,104,45,117,115,101,114,97,117,116,104]⟩:ByteArray).size) 0 ((1+4)+(⟨#[115,115,104,45,117,115,101,114,97,117,116,104]⟩:ByteArray).size)))
def dP:List Int :=
 (kT (⟨#[97,110,110]⟩:ByteArray) (⟨#[115,101,99,114,101,116]⟩:ByteArray))
def tO:Bool :=
 (bg (dQ) (dO) (aA (dP) (aY (⟨#[97,110,110]⟩:ByteArray) (⟨#[115,101,99,114,101,116]⟩:ByteArray)) 0 (aY (⟨#[97,110,110]⟩:ByteArray) (⟨#[115,101,99,114,101,116]⟩:ByteArray))))
def mZ:ByteArray :=
 (bW ((aA [115] 1 0 1).length) (aA [115] 1 0 1) (dQ) (qD) (dO) (aA (dP) (aY (⟨#[97,110,110]⟩:ByteArray) (⟨#[115,101,99,114,101,116]⟩:ByteArray)) 0 (aY (⟨#[97,110,110]⟩:ByteArray) (⟨#[115,101,99,114,101,116]⟩:ByteArray))))
def mQ:Bool :=
 (bV ((aA [115] 1 0 1).length) (aA [115] 1 0 1) (dQ) (dO) (aA (dP) (aY (⟨#[97,110,110]⟩:ByteArray) (⟨#[115,101,99,114,101,116]⟩:ByteArray)) 0 (aY (⟨#[97,110,110]⟩:ByteArray) (⟨#[115,101,99,114,101,116]⟩:ByteArray))))
def mO:List Int :=
 (bd ((aA [115] 1 0 1).length) (aA [115] 1 0 1) (aK ((aA [115] 1 0 1).length) (aA [115] 1 0 1) 3 false false (aA (bx) ((1+4)+(⟨#[115,115,104,45,117,115,101,114,97,117,116,104]⟩:ByteArray).size) 0 ((1+4)+(⟨#[115,115,104,45,117,115,101,114,97,117,116,104]⟩:ByteArray).size))) (dQ) (dO) (aA (dP) (aY (⟨#[97,110,110]⟩:ByteArray) (⟨#[115,101,99,114,101,116]⟩:ByteArray)) 0 (aY (⟨#[97,110,110]⟩:ByteArray) (⟨#[115,101,99,114,101,116]⟩:ByteArray))))
def na:List Int :=
 (kn (⟨#[115,115,104,45,117,115,101,114,97,117,116,104]⟩:ByteArray))
def jV:Bool :=
 (sel (((aM .i64 (bQ ((aA [115] 1 0 1).length) (aA [115] 1 0 1) 3 false false (aA (bx) ((1+4)+(⟨#[115,115,104,45,117,115,101,114,97,117,116,104]⟩:ByteArray).size) 0 ((1+4)+(⟨#[115,115,104,45,117,115,101,114,97,117,116,104]⟩:ByteArray).size))) (bQ ((aA [115] 1 0 1).length) (aA [115] 1 0 1) (aK ((aA [115] 1 0 1).length) (aA [115] 1 0 1) 3 false false (aA (bx) ((1+4)+(⟨#[115,115,104,45,117,115,101,114,97,117,116,104]⟩:ByteArray).size) 0 ((1+4)+(⟨#[115,115,104,45,117,115,101,114,97,117,116,104]⟩:ByteArray).size))) (dQ) (dO) (aA (dP) (aY (⟨#[97,110,110]⟩:ByteArray) (⟨#[115,101,99,114,101,116]⟩:ByteArray)) 0 (aY (⟨#[97,110,110]⟩:ByteArray) (⟨#[115,101,99,114,101,116]⟩:ByteArray))))):Int)==0) (sel (aP (aC (((mv).drop 0).take (aO ((aA [115] 1 0 1).length) (aA [115] 1 0 1) 3 false false (aA (bx) ((1+4)+(⟨#[115,115,104,45,117,115,101,114,97,117,116,104]⟩:ByteArray).size) 0 ((1+4)+(⟨#[115,115,104,45,117,115,101,114,97,117,116,104]⟩:ByteArray).size))))) (aC (((na).drop 0).take ((1+4)+(⟨#[115,115,104,45,117,115,101,114,97,117,116,104]⟩:ByteArray).size)))) (sel (aP (aC (((mO).drop 0).take (aO ((aA [115] 1 0 1).length) (aA [115] 1 0 1) (aK ((aA [115] 1 0 1).length) (aA [115] 1 0 1) 3 false false (aA (bx) ((1+4)+(⟨#[115,115,104,45,117,115,101,114,97,117,116,104]⟩:ByteArray).size) 0 ((1+4)+(⟨#[115,115,104,45,117,115,101,114,97,117,116,104]⟩:ByteArray).size))) (dQ) (dO) (aA (dP) (aY (⟨#[97,110,110]⟩:ByteArray) (⟨#[115,101,99,114,101,116]⟩:ByteArray)) 0 (aY (⟨#[97,110,110]⟩:ByteArray) (⟨#[115,101,99,114,101,116]⟩:ByteArray)))))) (⟨#[52]⟩:ByteArray)) (aP (dT (mZ) (mQ)) (⟨#[97,110,110]⟩:ByteArray)) false) false) false)
def uF:List AV→List Blk→Option (Prop × Ret)
 |[],[]=>some (True,⟨.sc (.b (jV)),[]⟩)
 |_,_=>none
theorem wF:Known Tryz.prog gD 8 ⟨0,0,uF⟩:=by
 refine Xw Tryz.f8 43 (Zv of 256 2 <|Zc tn 80 [.io,.ro .u8,.val] [48] [32] <|Zv nJ 32 0 <|Zc ml 144 [.io,.ro .u8] [128] [80,32,81] <|Zc ml 272 [.io,.ro .u8] [256] [80,32,81] <|Zc pK 656 [.io] [] [80,32,81] <|Zv lx 128 1 <|Zv oM 480 1 <|Zn) mixed <|fun E args ks C r h hC hlen=>?_
 simp only at h
 unfold uF at h
 split at h
 rotate_left
 cases h
 cases h
 simp only [bB] at hlen
 refine ⟨rfl,?_⟩
 refine Xs [] [] 32 (v1 pT) <|Xt [Ep 1 80] [] [Mi 81 ((aA [115] 1 0 1).length) (aA [115] 1 0 1),Mc 80 [.sl 32 0 4 4 none,.sl 81 0 ((aA [115] 1 0 1).length) 1 none,.i .i64 3,.b false,.s (⟨#[]⟩:ByteArray),.b false],Mc 32 UA] [] 112 (pu pz (pu (Yf 1) (pu (pa (Yr 1) (pa (Yr 0) (Yl 0 1))) (pu (pa (pa (Yw 1) pT) (pa (Yr UA) (Ye ((aA [115] 1 0 1).length) 100000))) (v1 pT))))) <|Tri.len 81 rfl <|fun hl1=>Xt [Ei 3 (bQ ((aA [115] 1 0 1).length) (aA [115] 1 0 1) 3 false false (aA (bx) ((1+4)+(⟨#[115,115,104,45,117,115,101,114,97,117,116,104]⟩:ByteArray).size) 0 ((1+4)+(⟨#[115,115,104,45,117,115,101,114,97,117,116,104]⟩:ByteArray).size))),El 2 144 (aO ((aA [115] 1 0 1).length) (aA [115] 1 0 1) 3 false false (aA (bx) ((1+4)+(⟨#[115,115,104,45,117,115,101,114,97,117,116,104]⟩:ByteArray).size) 0 ((1+4)+(⟨#[115,115,104,45,117,115,101,114,97,117,116,104]⟩:ByteArray).size)))] [] [Mi 144 (aO ((aA [115] 1 0 1).length) (aA [115] 1 0 1) 3 false false (aA (bx) ((1+4)+(⟨#[115,115,104,45,117,115,101,114,97,117,116,104]⟩:ByteArray).size) 0 ((1+4)+(⟨#[115,115,104,45,117,115,101,114,97,117,116,104]⟩:ByteArray).size))) (mv),Mi 81 ((aA [115] 1 0 1).length) (aA [115] 1 0 1),Mc 32 UA,Mc 80 [.sl 32 0 4 4 none,.sl 81 0 ((aA [115] 1 0 1).length) 1 none,.i .i64 (aK ((aA [115] 1 0 1).length) (aA [115] 1 0 1) 3 false false (aA (bx) ((1+4)+(⟨#[115,115,104,45,117,115,101,114,97,117,116,104]⟩:ByteArray).size) 0 ((1+4)+(⟨#[115,115,104,45,117,115,101,114,97,117,116,104]⟩:ByteArray).size))),.b (dQ),.s (qD),.b (dO)]] [81,80,32] 240 (v1 (pu (pa pT (Ye ((⟨#[115,115,104,45,117,115,101,114,97,117,116,104]⟩:ByteArray).size) 100000)) (pu (pa (pa (Yw ((1+4)+(⟨#[115,115,104,45,117,115,101,114,97,117,116,104]⟩:ByteArray).size)) pT) (pa (Yr ((aA [115] 1 0 1).length)) (pa (Yr UA) (lo ((aA (bx) ((1+4)+(⟨#[115,115,104,45,117,115,101,114,97,117,116,104]⟩:ByteArray).size) 0 ((1+4)+(⟨#[115,115,104,45,117,115,101,114,97,117,116,104]⟩:ByteArray).size)).length≤6000∧((aA [115] 1 0 1).length)≤1000))))) (v5 pT)))) <|Tri.len 144 rfl <|fun hl2=>Tri.len 81 rfl <|fun hl3=>Xt [Ei 5 (bQ ((aA [115] 1 0 1).length) (aA [115] 1 0 1) (aK ((aA [115] 1 0 1).length) (aA [115] 1 0 1) 3 false false (aA (bx) ((1+4)+(⟨#[115,115,104,45,117,115,101,114,97,117,116,104]⟩:ByteArray).size) 0 ((1+4)+(⟨#[115,115,104,45,117,115,101,114,97,117,116,104]⟩:ByteArray).size))) (dQ) (dO) (aA (dP) (aY (⟨#[97,110,110]⟩:ByteArray) (⟨#[115,101,99,114,101,116]⟩:ByteArray)) 0 (aY (⟨#[97,110,110]⟩:ByteArray) (⟨#[115,101,99,114,101,116]⟩:ByteArray)))),El 4 272 (aO ((aA [115] 1 0 1).length) (aA [115] 1 0 1) (aK ((aA [115] 1 0 1).length) (aA [115] 1 0 1) 3 false false (aA (bx) ((1+4)+(⟨#[115,115,104,45,117,115,101,114,97,117,116,104]⟩:ByteArray).size) 0 ((1+4)+(⟨#[115,115,104,45,117,115,101,114,97,117,116,104]⟩:ByteArray).size))) (dQ) (dO) (aA (dP) (aY (⟨#[97,110,110]⟩:ByteArray) (⟨#[115,101,99,114,101,116]⟩:ByteArray)) 0 (aY (⟨#[97,110,110]⟩:ByteArray) (⟨#[115,101,99,114,101,116]⟩:ByteArray))))] [] [Mi 272 (aO ((aA [115] 1 0 1).length) (aA [115] 1 0 1) (aK ((aA [115] 1 0 1).length) (aA [115] 1 0 1) 3 false false (aA (bx) ((1+4)+(⟨#[115,115,104,45,117,115,101,114,97,117,116,104]⟩:ByteArray).size) 0 ((1+4)+(⟨#[115,115,104,45,117,115,101,114,97,117,116,104]⟩:ByteArray).size))) (dQ) (dO) (aA (dP) (aY (⟨#[97,110,110]⟩:ByteArray) (⟨#[115,101,99,114,101,116]⟩:ByteArray)) 0 (aY (⟨#[97,110,110]⟩:ByteArray) (⟨#[115,101,99,114,101,116]⟩:ByteArray)))) (mO),Mi 81 ((aA [115] 1 0 1).length) (aA [115] 1 0 1),Mc 32 UA,Mc 80 [.sl 32 0 4 4 none,.sl 81 0 ((aA [115] 1 0 1).length) 1 none,.i .i64 (aK ((aA [115] 1 0 1).length) (aA [115] 1 0 1) (aK ((aA [115] 1 0 1).length) (aA [115] 1 0 1) 3 false false (aA (bx) ((1+4)+(⟨#[115,115,104,45,117,115,101,114,97,117,116,104]⟩:ByteArray).size) 0 ((1+4)+(⟨#[115,115,104,45,117,115,101,114,97,117,116,104]⟩:ByteArray).size))) (dQ) (dO) (aA (dP) (aY (⟨#[97,110,110]⟩:ByteArray) (⟨#[115,101,99,114,101,116]⟩:ByteArray)) 0 (aY (⟨#[97,110,110]⟩:ByteArray) (⟨#[115,101,99,114,101,116]⟩:ByteArray)))),.b (tO),.s (mZ),.b (mQ)]] [81,32,80] 368 (v1 (pu (pa pT (lo ((⟨#[97,110,110]⟩:ByteArray).size≤100000∧(⟨#[115,101,99,114,101,116]⟩:ByteArray).size≤100000))) (pu (pa (pa (Yw (aY (⟨#[97,110,110]⟩:ByteArray) (⟨#[115,101,99,114,101,116]⟩:ByteArray))) pT) (pa (Yr ((aA [115] 1 0 1).length)) (pa (Yr UA) (lo ((aA (dP) (aY (⟨#[97,110,110]⟩:ByteArray) (⟨#[115,101,99,114,101,116]⟩:ByteArray)) 0 (aY (⟨#[97,110,110]⟩:ByteArray) (⟨#[115,101,99,114,101,116]⟩:ByteArray))).length≤6000∧((aA [115] 1 0 1).length)≤1000))))) (v5 pT)))) <|Tri.split (((aM .i64 (bQ ((aA [115] 1 0 1).length) (aA [115] 1 0 1) 3 false false (aA (bx) ((1+4)+(⟨#[115,115,104,45,117,115,101,114,97,117,116,104]⟩:ByteArray).size) 0 ((1+4)+(⟨#[115,115,104,45,117,115,101,114,97,117,116,104]⟩:ByteArray).size))) (bQ ((aA [115] 1 0 1).length) (aA [115] 1 0 1) (aK ((aA [115] 1 0 1).length) (aA [115] 1 0 1) 3 false false (aA (bx) ((1+4)+(⟨#[115,115,104,45,117,115,101,114,97,117,116,104]⟩:ByteArray).size) 0 ((1+4)+(⟨#[115,115,104,45,117,115,101,114,97,117,116,104]⟩:ByteArray).size))) (dQ) (dO) (aA (dP) (aY (⟨#[97,110,110]⟩:ByteArray) (⟨#[115,101,99,114,101,116]⟩:ByteArray)) 0 (aY (⟨#[97,110,110]⟩:ByteArray) (⟨#[115,101,99,114,101,116]⟩:ByteArray))))):Int)==0) (fun h4=>?_) (fun h4=>?_)
 have h4':=bn h4
 refine Tri.split (aP (aC (((mv).drop 0).take (aO ((aA [115] 1 0 1).length) (aA [115] 1 0 1) 3 false false (aA (bx) ((1+4)+(⟨#[115,115,104,45,117,115,101,114,97,117,116,104]⟩:ByteArray).size) 0 ((1+4)+(⟨#[115,115,104,45,117,115,101,114,97,117,116,104]⟩:ByteArray).size))))) (aC (((na).drop 0).take ((1+4)+(⟨#[115,115,104,45,117,115,101,114,97,117,116,104]⟩:ByteArray).size)))) (fun h5=>?_) (fun h5=>?_)
 refine Tri.split (aP (aC (((mO).drop 0).take (aO ((aA [115] 1 0 1).length) (aA [115] 1 0 1) (aK ((aA [115] 1 0 1).length) (aA [115] 1 0 1) 3 false false (aA (bx) ((1+4)+(⟨#[115,115,104,45,117,115,101,114,97,117,116,104]⟩:ByteArray).size) 0 ((1+4)+(⟨#[115,115,104,45,117,115,101,114,97,117,116,104]⟩:ByteArray).size))) (dQ) (dO) (aA (dP) (aY (⟨#[97,110,110]⟩:ByteArray) (⟨#[115,101,99,114,101,116]⟩:ByteArray)) 0 (aY (⟨#[97,110,110]⟩:ByteArray) (⟨#[115,101,99,114,101,116]⟩:ByteArray)))))) (⟨#[52]⟩:ByteArray)) (fun h6=>?_) (fun h6=>?_)
 exact Tri.len 272 rfl <|fun hl7=>Tri.len 81 rfl <|fun hl8=>Tri.len 144 rfl <|fun hl9=>Xu [Eb 26 true,Eb 33 true,Eb 38 true] (some [0,0,3,7,15,31,63,31,159,511,1023,2047,4095,8191,16383,32767,65535,131071,262143,524287,1048575,2097151]) [Eb 0 (aP (dT (mZ) (mQ)) (⟨#[97,110,110]⟩:ByteArray))] [5,4,3,2,1] [] [272,81,32,80,144] 720 (v4 (pg h4 (v1 (pu (Yw (aO ((aA [115] 1 0 1).length) (aA [115] 1 0 1) 3 false false (aA (bx) ((1+4)+(⟨#[115,115,104,45,117,115,101,114,97,117,116,104]⟩:ByteArray).size) 0 ((1+4)+(⟨#[115,115,104,45,117,115,101,114,97,117,116,104]⟩:ByteArray).size)))) (pu (pa pT (Ye ((⟨#[115,115,104,45,117,115,101,114,97,117,116,104]⟩:ByteArray).size) 100000)) (pu (Yw ((1+4)+(⟨#[115,115,104,45,117,115,101,114,97,117,116,104]⟩:ByteArray).size)) (v2 (pg h5 (v1 (pu (Yw (aO ((aA [115] 1 0 1).length) (aA [115] 1 0 1) (aK ((aA [115] 1 0 1).length) (aA [115] 1 0 1) 3 false false (aA (bx) ((1+4)+(⟨#[115,115,104,45,117,115,101,114,97,117,116,104]⟩:ByteArray).size) 0 ((1+4)+(⟨#[115,115,104,45,117,115,101,114,97,117,116,104]⟩:ByteArray).size))) (dQ) (dO) (aA (dP) (aY (⟨#[97,110,110]⟩:ByteArray) (⟨#[115,101,99,114,101,116]⟩:ByteArray)) 0 (aY (⟨#[97,110,110]⟩:ByteArray) (⟨#[115,101,99,114,101,116]⟩:ByteArray))))) (v2 (pg h6 (v1 (pu (pa pT (pa (Yr ((aA [115] 1 0 1).length)) (pa (Yr UA) pT))) (v3 pT))))))))))))))) <|Xy [] pz (by simp only [jV,h4,h5,h6,aF,aD] <;> rfl)
 exact Tri.len 272 rfl <|fun hl10=>Tri.len 81 rfl <|fun hl11=>Tri.len 144 rfl <|fun hl12=>Xu [Eb 26 true,Eb 33 true,Eb 38 false] (some [0,0,3,7,15,31,63,31,159,511,1023,2047,4095,8191,16383,32767,65535,131071,262143,524287,1048575,2097151]) [Eb 0 false] [5,4,3,2,1] [] [272,81,32,80,144] 720 (v4 (pg h4 (v1 (pu (Yw (aO ((aA [115] 1 0 1).length) (aA [115] 1 0 1) 3 false false (aA (bx) ((1+4)+(⟨#[115,115,104,45,117,115,101,114,97,117,116,104]⟩:ByteArray).size) 0 ((1+4)+(⟨#[115,115,104,45,117,115,101,114,97,117,116,104]⟩:ByteArray).size)))) (pu (pa pT (Ye ((⟨#[115,115,104,45,117,115,101,114,97,117,116,104]⟩:ByteArray).size) 100000)) (pu (Yw ((1+4)+(⟨#[115,115,104,45,117,115,101,114,97,117,116,104]⟩:ByteArray).size)) (v2 (pg h5 (v1 (pu (Yw (aO ((aA [115] 1 0 1).length) (aA [115] 1 0 1) (aK ((aA [115] 1 0 1).length) (aA [115] 1 0 1) 3 false false (aA (bx) ((1+4)+(⟨#[115,115,104,45,117,115,101,114,97,117,116,104]⟩:ByteArray).size) 0 ((1+4)+(⟨#[115,115,104,45,117,115,101,114,97,117,116,104]⟩:ByteArray).size))) (dQ) (dO) (aA (dP) (aY (⟨#[97,110,110]⟩:ByteArray) (⟨#[115,101,99,114,101,116]⟩:ByteArray)) 0 (aY (⟨#[97,110,110]⟩:ByteArray) (⟨#[115,101,99,114,101,116]⟩:ByteArray))))) (v2 (pg h6 (v5 pT))))))))))))) <|Xy [] pz (by simp only [jV,h4,h5,h6,aF,aD] <;> rfl)
 exact Tri.len 272 rfl <|fun hl13=>Tri.len 81 rfl <|fun hl14=>Tri.len 144 rfl <|fun hl15=>Xu [Eb 26 true,Eb 33 false] (some [0,0,3,7,15,31,63,31,159,511,1023,2047,4095,8191,16383,32767,65535,131071,262143,524287,1048575,2097151]) [Eb 0 false] [5,4,3,2,1] [] [272,81,32,80,144] 720 (v4 (pg h4 (v1 (pu (Yw (aO ((aA [115] 1 0 1).length) (aA [115] 1 0 1) 3 false false (aA (bx) ((1+4)+(⟨#[115,115,104,45,117,115,101,114,97,117,116,104]⟩:ByteArray).size) 0 ((1+4)+(⟨#[115,115,104,45,117,115,101,114,97,117,116,104]⟩:ByteArray).size)))) (pu (pa pT (Ye ((⟨#[115,115,104,45,117,115,101,114,97,117,116,104]⟩:ByteArray).size) 100000)) (pu (Yw ((1+4)+(⟨#[115,115,104,45,117,115,101,114,97,117,116,104]⟩:ByteArray).size)) (v2 (pg h5 (v1 (v9 pT)))))))))) <|Xy [] pz (by simp only [jV,h4,h5,aF,aD] <;> rfl)
 have h4':=bp h4
 exact Xu [Eb 26 false] (some [0,0,3,7,15,31,63,31,159,511,1023,2047,4095,8191,16383,32767,65535,131071,262143,524287,1048575,2097151]) [Eb 0 false] [5,4,3,2,1] [] [272,81,32,80,144] 720 (v4 (pg h4 (v8 (v9 pT)))) <|Xy [] pz (by simp only [jV,h4,aF,aD] <;> rfl)
end Go.Vm
namespace Go.Vm
open Go Go.Proofs
theorem wg (p:Int):0≤bM (aM .i64 (bM p 4) 4) 4∧bM (aM .i64 (bM p 4) 4) 4<4:=by
 have h1:=Int.tmod_lt_of_pos p (show (0:Int)<4 by decide)
 have h2:=Int.lt_tmod_of_pos p (show (0:Int)<4 by decide)
 have e:aM .i64 (bM p 4) 4=p.tmod 4+4:=by
  unfold aM bM
  exact cO (by omega) (by omega)
 rw [e]
 unfold bM
 exact ⟨Int.tmod_nonneg _ (by omega),Int.tmod_lt_of_pos _ (by decide)⟩
theorem wD (p:Int):0≤bM (aM .i64 (bM p 5) 5) 5∧bM (aM .i64 (bM p 5) 5) 5<5:=by
 have h1:=Int.tmod_lt_of_pos p (show (0:Int)<5 by decide)
 have h2:=Int.lt_tmod_of_pos p (show (0:Int)<5 by decide)
 have e:aM .i64 (bM p 5) 5=p.tmod 5+5:=by
  unfold aM bM
  exact cO (by omega) (by omega)
 rw [e]
 unfold bM
 exact ⟨Int.tmod_nonneg _ (by omega),Int.tmod_lt_of_pos _ (by decide)⟩
def m5 (p:Int):Nat:=(bM (aM .i64 (bM p 5) 5) 5).toNat
theorem qH (p:Int):(bM (aM .i64 (bM p 5) 5) 5)=((m5 p:Nat):Int):=(Int.toNat_of_nonneg (wD p).1).symm
theorem ts (p:Int):m5 p<5:=by have h:=wD p;unfold m5;omega
theorem jS {x:List Int}:(aC (x.take 32)).size≤32:=by rw [cF,List.length_take];exact Nat.min_le_left _ _
theorem th {p:Int} (h0:bM (aM .i64 (bM p 4) 4) 4≠0) (h1:bM (aM .i64 (bM p 4) 4) 4≠1) (h2:bM (aM .i64 (bM p 4) 4) 4≠2):bM (aM .i64 (bM p 4) 4) 4=3:=by
 have:=wg p
 omega
def aB (p1:Int):List Int :=
 (rl (aA (aQ (ba p1)) ((ba p1).size) 0 ((ba p1).size)))
def aG:List Int :=
 (iw (⟨#[115,115,104,45,117,115,101,114,97,117,116,104]⟩:ByteArray))
def aI:Bool :=
 (bg false false (aA (aG) ((1+4)+(⟨#[115,115,104,45,117,115,101,114,97,117,116,104]⟩:ByteArray).size) 0 ((1+4)+(⟨#[115,115,104,45,117,115,101,114,97,117,116,104]⟩:ByteArray).size)))
def aJ:ByteArray :=
 (bW ((aA [115] 1 0 1).length) (aA [115] 1 0 1) false (⟨#[]⟩:ByteArray) false (aA (aG) ((1+4)+(⟨#[115,115,104,45,117,115,101,114,97,117,116,104]⟩:ByteArray).size) 0 ((1+4)+(⟨#[115,115,104,45,117,115,101,114,97,117,116,104]⟩:ByteArray).size)))
def aH:Bool :=
 (bV ((aA [115] 1 0 1).length) (aA [115] 1 0 1) false false (aA (aG) ((1+4)+(⟨#[115,115,104,45,117,115,101,114,97,117,116,104]⟩:ByteArray).size) 0 ((1+4)+(⟨#[115,115,104,45,117,115,101,114,97,117,116,104]⟩:ByteArray).size)))
def bK (p1:Int):List Int :=
 (fM (⟨#[97,110,110]⟩:ByteArray) (aC (((aB p1).drop 0).take 32)))
def fZ (p1:Int) (z0:Int × Bool × ByteArray × Bool):Bool :=
 (bg z0.2.1 z0.2.2.2 (aA (bK p1) (aE (⟨#[97,110,110]⟩:ByteArray) (aC (((aB p1).drop 0).take 32))) 0 (aE (⟨#[97,110,110]⟩:ByteArray) (aC (((aB p1).drop 0).take 32)))))
def dZ (p1:Int) (z0:Int × Bool × ByteArray × Bool):ByteArray :=
 (bW ((aA [115] 1 0 1).length) (aA [115] 1 0 1) z0.2.1 z0.2.2.1 z0.2.2.2 (aA (bK p1) (aE (⟨#[97,110,110]⟩:ByteArray) (aC (((aB p1).drop 0).take 32))) 0 (aE (⟨#[97,110,110]⟩:ByteArray) (aC (((aB p1).drop 0).take 32)))))
def db (p1:Int) (z0:Int × Bool × ByteArray × Bool):Bool :=
 (bV ((aA [115] 1 0 1).length) (aA [115] 1 0 1) z0.2.1 z0.2.2.2 (aA (bK p1) (aE (⟨#[97,110,110]⟩:ByteArray) (aC (((aB p1).drop 0).take 32))) 0 (aE (⟨#[97,110,110]⟩:ByteArray) (aC (((aB p1).drop 0).take 32)))))
def eh (p1:Int) (z0:Int × Bool × ByteArray × Bool):List Int :=
 (bd ((aA [115] 1 0 1).length) (aA [115] 1 0 1) z0.1 z0.2.1 z0.2.2.2 (aA (bK p1) (aE (⟨#[97,110,110]⟩:ByteArray) (aC (((aB p1).drop 0).take 32))) 0 (aE (⟨#[97,110,110]⟩:ByteArray) (aC (((aB p1).drop 0).take 32)))))
def bz (p1:Int) (k0:Nat) (z0:Int × Bool × ByteArray × Bool):Int × Bool × ByteArray × Bool :=
 ((aK ((aA [115] 1 0 1).length) (aA [115] 1 0 1) z0.1 z0.2.1 z0.2.2.2 (aA (bK p1) (aE (⟨#[97,110,110]⟩:ByteArray) (aC (((aB p1).drop 0).take 32))) 0 (aE (⟨#[97,110,110]⟩:ByteArray) (aC (((aB p1).drop 0).take 32))))),(fZ p1 z0),(dZ p1 z0),(db p1 z0))
def bD (p1:Int) (k0:Nat):Bool :=
 (sel (((bQ ((aA [115] 1 0 1).length) (aA [115] 1 0 1) (itr (bz p1) k0 ((aK ((aA [115] 1 0 1).length) (aA [115] 1 0 1) 100 false false (aA (aG) ((1+4)+(⟨#[115,115,104,45,117,115,101,114,97,117,116,104]⟩:ByteArray).size) 0 ((1+4)+(⟨#[115,115,104,45,117,115,101,114,97,117,116,104]⟩:ByteArray).size))),(aI),(aJ),(aH))).1 (itr (bz p1) k0 ((aK ((aA [115] 1 0 1).length) (aA [115] 1 0 1) 100 false false (aA (aG) ((1+4)+(⟨#[115,115,104,45,117,115,101,114,97,117,116,104]⟩:ByteArray).size) 0 ((1+4)+(⟨#[115,115,104,45,117,115,101,114,97,117,116,104]⟩:ByteArray).size))),(aI),(aJ),(aH))).2.1 (itr (bz p1) k0 ((aK ((aA [115] 1 0 1).length) (aA [115] 1 0 1) 100 false false (aA (aG) ((1+4)+(⟨#[115,115,104,45,117,115,101,114,97,117,116,104]⟩:ByteArray).size) 0 ((1+4)+(⟨#[115,115,104,45,117,115,101,114,97,117,116,104]⟩:ByteArray).size))),(aI),(aJ),(aH))).2.2.2 (aA (bK p1) (aE (⟨#[97,110,110]⟩:ByteArray) (aC (((aB p1).drop 0).take 32))) 0 (aE (⟨#[97,110,110]⟩:ByteArray) (aC (((aB p1).drop 0).take 32))))):Int) != 0) true (sel (((((aO ((aA [115] 1 0 1).length) (aA [115] 1 0 1) (itr (bz p1) k0 ((aK ((aA [115] 1 0 1).length) (aA [115] 1 0 1) 100 false false (aA (aG) ((1+4)+(⟨#[115,115,104,45,117,115,101,114,97,117,116,104]⟩:ByteArray).size) 0 ((1+4)+(⟨#[115,115,104,45,117,115,101,114,97,117,116,104]⟩:ByteArray).size))),(aI),(aJ),(aH))).1 (itr (bz p1) k0 ((aK ((aA [115] 1 0 1).length) (aA [115] 1 0 1) 100 false false (aA (aG) ((1+4)+(⟨#[115,115,104,45,117,115,101,114,97,117,116,104]⟩:ByteArray).size) 0 ((1+4)+(⟨#[115,115,104,45,117,115,101,114,97,117,116,104]⟩:ByteArray).size))),(aI),(aJ),(aH))).2.1 (itr (bz p1) k0 ((aK ((aA [115] 1 0 1).length) (aA [115] 1 0 1) 100 false false (aA (aG) ((1+4)+(⟨#[115,115,104,45,117,115,101,114,97,117,116,104]⟩:ByteArray).size) 0 ((1+4)+(⟨#[115,115,104,45,117,115,101,114,97,117,116,104]⟩:ByteArray).size))),(aI),(aJ),(aH))).2.2.2 (aA (bK p1) (aE (⟨#[97,110,110]⟩:ByteArray) (aC (((aB p1).drop 0).take 32))) 0 (aE (⟨#[97,110,110]⟩:ByteArray) (aC (((aB p1).drop 0).take 32))))):Nat):Int):Int)==0) true (sel (((eh p1 (itr (bz p1) k0 ((aK ((aA [115] 1 0 1).length) (aA [115] 1 0 1) 100 false false (aA (aG) ((1+4)+(⟨#[115,115,104,45,117,115,101,114,97,117,116,104]⟩:ByteArray).size) 0 ((1+4)+(⟨#[115,115,104,45,117,115,101,114,97,117,116,104]⟩:ByteArray).size))),(aI),(aJ),(aH)))).getD 0 0:Int) != 51) true (sel (!(aP (dT (dZ p1 (itr (bz p1) k0 ((aK ((aA [115] 1 0 1).length) (aA [115] 1 0 1) 100 false false (aA (aG) ((1+4)+(⟨#[115,115,104,45,117,115,101,114,97,117,116,104]⟩:ByteArray).size) 0 ((1+4)+(⟨#[115,115,104,45,117,115,101,114,97,117,116,104]⟩:ByteArray).size))),(aI),(aJ),(aH)))) (db p1 (itr (bz p1) k0 ((aK ((aA [115] 1 0 1).length) (aA [115] 1 0 1) 100 false false (aA (aG) ((1+4)+(⟨#[115,115,104,45,117,115,101,114,97,117,116,104]⟩:ByteArray).size) 0 ((1+4)+(⟨#[115,115,104,45,117,115,101,114,97,117,116,104]⟩:ByteArray).size))),(aI),(aJ),(aH))))) (⟨#[]⟩:ByteArray))) true false))))
def mR (p1:Int) (p2:Int):Int × Bool × ByteArray × Bool :=
 (itr (bz p1) ((m5 p2)+1) ((aK ((aA [115] 1 0 1).length) (aA [115] 1 0 1) 100 false false (aA (aG) ((1+4)+(⟨#[115,115,104,45,117,115,101,114,97,117,116,104]⟩:ByteArray).size) 0 ((1+4)+(⟨#[115,115,104,45,117,115,101,114,97,117,116,104]⟩:ByteArray).size))),(aI),(aJ),(aH)))
def aZ (p1:Int):List Int :=
 (fM (⟨#[98,111,98]⟩:ByteArray) (aC (((aB p1).drop 0).take 32)))
def eF (p1:Int) (z1:Int × Bool × ByteArray × Bool):Bool :=
 (bg z1.2.1 z1.2.2.2 (aA (aZ p1) (aE (⟨#[98,111,98]⟩:ByteArray) (aC (((aB p1).drop 0).take 32))) 0 (aE (⟨#[98,111,98]⟩:ByteArray) (aC (((aB p1).drop 0).take 32)))))
def cL (p1:Int) (z1:Int × Bool × ByteArray × Bool):ByteArray :=
 (bW ((aA [115] 1 0 1).length) (aA [115] 1 0 1) z1.2.1 z1.2.2.1 z1.2.2.2 (aA (aZ p1) (aE (⟨#[98,111,98]⟩:ByteArray) (aC (((aB p1).drop 0).take 32))) 0 (aE (⟨#[98,111,98]⟩:ByteArray) (aC (((aB p1).drop 0).take 32)))))
def cM (p1:Int) (z1:Int × Bool × ByteArray × Bool):Bool :=
 (bV ((aA [115] 1 0 1).length) (aA [115] 1 0 1) z1.2.1 z1.2.2.2 (aA (aZ p1) (aE (⟨#[98,111,98]⟩:ByteArray) (aC (((aB p1).drop 0).take 32))) 0 (aE (⟨#[98,111,98]⟩:ByteArray) (aC (((aB p1).drop 0).take 32)))))
def da (p1:Int) (z1:Int × Bool × ByteArray × Bool):List Int :=
 (bd ((aA [115] 1 0 1).length) (aA [115] 1 0 1) z1.1 z1.2.1 z1.2.2.2 (aA (aZ p1) (aE (⟨#[98,111,98]⟩:ByteArray) (aC (((aB p1).drop 0).take 32))) 0 (aE (⟨#[98,111,98]⟩:ByteArray) (aC (((aB p1).drop 0).take 32)))))
def aj (p1:Int) (k1:Nat) (z1:Int × Bool × ByteArray × Bool):Int × Bool × ByteArray × Bool :=
 ((aK ((aA [115] 1 0 1).length) (aA [115] 1 0 1) z1.1 z1.2.1 z1.2.2.2 (aA (aZ p1) (aE (⟨#[98,111,98]⟩:ByteArray) (aC (((aB p1).drop 0).take 32))) 0 (aE (⟨#[98,111,98]⟩:ByteArray) (aC (((aB p1).drop 0).take 32))))),(eF p1 z1),(cL p1 z1),(cM p1 z1))
def aW (p1:Int) (k1:Nat):Bool :=
 (sel (!(aP (dq) (⟨#[]⟩:ByteArray))) (sel (((bQ ((aA [115] 1 0 1).length) (aA [115] 1 0 1) (itr (aj p1) k1 ((aK ((aA [115] 1 0 1).length) (aA [115] 1 0 1) 100 false false (aA (aG) ((1+4)+(⟨#[115,115,104,45,117,115,101,114,97,117,116,104]⟩:ByteArray).size) 0 ((1+4)+(⟨#[115,115,104,45,117,115,101,114,97,117,116,104]⟩:ByteArray).size))),(aI),(aJ),(aH))).1 (itr (aj p1) k1 ((aK ((aA [115] 1 0 1).length) (aA [115] 1 0 1) 100 false false (aA (aG) ((1+4)+(⟨#[115,115,104,45,117,115,101,114,97,117,116,104]⟩:ByteArray).size) 0 ((1+4)+(⟨#[115,115,104,45,117,115,101,114,97,117,116,104]⟩:ByteArray).size))),(aI),(aJ),(aH))).2.1 (itr (aj p1) k1 ((aK ((aA [115] 1 0 1).length) (aA [115] 1 0 1) 100 false false (aA (aG) ((1+4)+(⟨#[115,115,104,45,117,115,101,114,97,117,116,104]⟩:ByteArray).size) 0 ((1+4)+(⟨#[115,115,104,45,117,115,101,114,97,117,116,104]⟩:ByteArray).size))),(aI),(aJ),(aH))).2.2.2 (aA (aZ p1) (aE (⟨#[98,111,98]⟩:ByteArray) (aC (((aB p1).drop 0).take 32))) 0 (aE (⟨#[98,111,98]⟩:ByteArray) (aC (((aB p1).drop 0).take 32))))):Int) != 0) true (sel (((((aO ((aA [115] 1 0 1).length) (aA [115] 1 0 1) (itr (aj p1) k1 ((aK ((aA [115] 1 0 1).length) (aA [115] 1 0 1) 100 false false (aA (aG) ((1+4)+(⟨#[115,115,104,45,117,115,101,114,97,117,116,104]⟩:ByteArray).size) 0 ((1+4)+(⟨#[115,115,104,45,117,115,101,114,97,117,116,104]⟩:ByteArray).size))),(aI),(aJ),(aH))).1 (itr (aj p1) k1 ((aK ((aA [115] 1 0 1).length) (aA [115] 1 0 1) 100 false false (aA (aG) ((1+4)+(⟨#[115,115,104,45,117,115,101,114,97,117,116,104]⟩:ByteArray).size) 0 ((1+4)+(⟨#[115,115,104,45,117,115,101,114,97,117,116,104]⟩:ByteArray).size))),(aI),(aJ),(aH))).2.1 (itr (aj p1) k1 ((aK ((aA [115] 1 0 1).length) (aA [115] 1 0 1) 100 false false (aA (aG) ((1+4)+(⟨#[115,115,104,45,117,115,101,114,97,117,116,104]⟩:ByteArray).size) 0 ((1+4)+(⟨#[115,115,104,45,117,115,101,114,97,117,116,104]⟩:ByteArray).size))),(aI),(aJ),(aH))).2.2.2 (aA (aZ p1) (aE (⟨#[98,111,98]⟩:ByteArray) (aC (((aB p1).drop 0).take 32))) 0 (aE (⟨#[98,111,98]⟩:ByteArray) (aC (((aB p1).drop 0).take 32))))):Nat):Int):Int)==0) true (sel (((da p1 (itr (aj p1) k1 ((aK ((aA [115] 1 0 1).length) (aA [115] 1 0 1) 100 false false (aA (aG) ((1+4)+(⟨#[115,115,104,45,117,115,101,114,97,117,116,104]⟩:ByteArray).size) 0 ((1+4)+(⟨#[115,115,104,45,117,115,101,114,97,117,116,104]⟩:ByteArray).size))),(aI),(aJ),(aH)))).getD 0 0:Int) != (sel (aP (dq) (aC (((aB p1).drop 0).take 32))) 60 51)) true (sel (!(aP (dT (cL p1 (itr (aj p1) k1 ((aK ((aA [115] 1 0 1).length) (aA [115] 1 0 1) 100 false false (aA (aG) ((1+4)+(⟨#[115,115,104,45,117,115,101,114,97,117,116,104]⟩:ByteArray).size) 0 ((1+4)+(⟨#[115,115,104,45,117,115,101,114,97,117,116,104]⟩:ByteArray).size))),(aI),(aJ),(aH)))) (cM p1 (itr (aj p1) k1 ((aK ((aA [115] 1 0 1).length) (aA [115] 1 0 1) 100 false false (aA (aG) ((1+4)+(⟨#[115,115,104,45,117,115,101,114,97,117,116,104]⟩:ByteArray).size) 0 ((1+4)+(⟨#[115,115,104,45,117,115,101,114,97,117,116,104]⟩:ByteArray).size))),(aI),(aJ),(aH))))) (⟨#[]⟩:ByteArray))) true false)))) (sel (((bQ ((aA [115] 1 0 1).length) (aA [115] 1 0 1) (itr (aj p1) k1 ((aK ((aA [115] 1 0 1).length) (aA [115] 1 0 1) 100 false false (aA (aG) ((1+4)+(⟨#[115,115,104,45,117,115,101,114,97,117,116,104]⟩:ByteArray).size) 0 ((1+4)+(⟨#[115,115,104,45,117,115,101,114,97,117,116,104]⟩:ByteArray).size))),(aI),(aJ),(aH))).1 (itr (aj p1) k1 ((aK ((aA [115] 1 0 1).length) (aA [115] 1 0 1) 100 false false (aA (aG) ((1+4)+(⟨#[115,115,104,45,117,115,101,114,97,117,116,104]⟩:ByteArray).size) 0 ((1+4)+(⟨#[115,115,104,45,117,115,101,114,97,117,116,104]⟩:ByteArray).size))),(aI),(aJ),(aH))).2.1 (itr (aj p1) k1 ((aK ((aA [115] 1 0 1).length) (aA [115] 1 0 1) 100 false false (aA (aG) ((1+4)+(⟨#[115,115,104,45,117,115,101,114,97,117,116,104]⟩:ByteArray).size) 0 ((1+4)+(⟨#[115,115,104,45,117,115,101,114,97,117,116,104]⟩:ByteArray).size))),(aI),(aJ),(aH))).2.2.2 (aA (aZ p1) (aE (⟨#[98,111,98]⟩:ByteArray) (aC (((aB p1).drop 0).take 32))) 0 (aE (⟨#[98,111,98]⟩:ByteArray) (aC (((aB p1).drop 0).take 32))))):Int) != 0) true (sel (((((aO ((aA [115] 1 0 1).length) (aA [115] 1 0 1) (itr (aj p1) k1 ((aK ((aA [115] 1 0 1).length) (aA [115] 1 0 1) 100 false false (aA (aG) ((1+4)+(⟨#[115,115,104,45,117,115,101,114,97,117,116,104]⟩:ByteArray).size) 0 ((1+4)+(⟨#[115,115,104,45,117,115,101,114,97,117,116,104]⟩:ByteArray).size))),(aI),(aJ),(aH))).1 (itr (aj p1) k1 ((aK ((aA [115] 1 0 1).length) (aA [115] 1 0 1) 100 false false (aA (aG) ((1+4)+(⟨#[115,115,104,45,117,115,101,114,97,117,116,104]⟩:ByteArray).size) 0 ((1+4)+(⟨#[115,115,104,45,117,115,101,114,97,117,116,104]⟩:ByteArray).size))),(aI),(aJ),(aH))).2.1 (itr (aj p1) k1 ((aK ((aA [115] 1 0 1).length) (aA [115] 1 0 1) 100 false false (aA (aG) ((1+4)+(⟨#[115,115,104,45,117,115,101,114,97,117,116,104]⟩:ByteArray).size) 0 ((1+4)+(⟨#[115,115,104,45,117,115,101,114,97,117,116,104]⟩:ByteArray).size))),(aI),(aJ),(aH))).2.2.2 (aA (aZ p1) (aE (⟨#[98,111,98]⟩:ByteArray) (aC (((aB p1).drop 0).take 32))) 0 (aE (⟨#[98,111,98]⟩:ByteArray) (aC (((aB p1).drop 0).take 32))))):Nat):Int):Int)==0) true (sel (((da p1 (itr (aj p1) k1 ((aK ((aA [115] 1 0 1).length) (aA [115] 1 0 1) 100 false false (aA (aG) ((1+4)+(⟨#[115,115,104,45,117,115,101,114,97,117,116,104]⟩:ByteArray).size) 0 ((1+4)+(⟨#[115,115,104,45,117,115,101,114,97,117,116,104]⟩:ByteArray).size))),(aI),(aJ),(aH)))).getD 0 0:Int) != 51) true (sel (!(aP (dT (cL p1 (itr (aj p1) k1 ((aK ((aA [115] 1 0 1).length) (aA [115] 1 0 1) 100 false false (aA (aG) ((1+4)+(⟨#[115,115,104,45,117,115,101,114,97,117,116,104]⟩:ByteArray).size) 0 ((1+4)+(⟨#[115,115,104,45,117,115,101,114,97,117,116,104]⟩:ByteArray).size))),(aI),(aJ),(aH)))) (cM p1 (itr (aj p1) k1 ((aK ((aA [115] 1 0 1).length) (aA [115] 1 0 1) 100 false false (aA (aG) ((1+4)+(⟨#[115,115,104,45,117,115,101,114,97,117,116,104]⟩:ByteArray).size) 0 ((1+4)+(⟨#[115,115,104,45,117,115,101,114,97,117,116,104]⟩:ByteArray).size))),(aI),(aJ),(aH))))) (⟨#[]⟩:ByteArray))) true false)))))
def nL (p1:Int) (p2:Int):Int × Bool × ByteArray × Bool :=
 (itr (aj p1) ((m5 p2)+1) ((aK ((aA [115] 1 0 1).length) (aA [115] 1 0 1) 100 false false (aA (aG) ((1+4)+(⟨#[115,115,104,45,117,115,101,114,97,117,116,104]⟩:ByteArray).size) 0 ((1+4)+(⟨#[115,115,104,45,117,115,101,114,97,117,116,104]⟩:ByteArray).size))),(aI),(aJ),(aH)))
def ab (p1:Int):List Int :=
 (fM (⟨#[99,121]⟩:ByteArray) (aC (((aB p1).drop 0).take 32)))
def eE (p1:Int) (z2:Int × Bool × ByteArray × Bool):Bool :=
 (bg z2.2.1 z2.2.2.2 (aA (ab p1) (aE (⟨#[99,121]⟩:ByteArray) (aC (((aB p1).drop 0).take 32))) 0 (aE (⟨#[99,121]⟩:ByteArray) (aC (((aB p1).drop 0).take 32)))))
def cJ (p1:Int) (z2:Int × Bool × ByteArray × Bool):ByteArray :=
 (bW ((aA [115] 1 0 1).length) (aA [115] 1 0 1) z2.2.1 z2.2.2.1 z2.2.2.2 (aA (ab p1) (aE (⟨#[99,121]⟩:ByteArray) (aC (((aB p1).drop 0).take 32))) 0 (aE (⟨#[99,121]⟩:ByteArray) (aC (((aB p1).drop 0).take 32)))))
def cK (p1:Int) (z2:Int × Bool × ByteArray × Bool):Bool :=
 (bV ((aA [115] 1 0 1).length) (aA [115] 1 0 1) z2.2.1 z2.2.2.2 (aA (ab p1) (aE (⟨#[99,121]⟩:ByteArray) (aC (((aB p1).drop 0).take 32))) 0 (aE (⟨#[99,121]⟩:ByteArray) (aC (((aB p1).drop 0).take 32)))))
def dX (p1:Int) (z2:Int × Bool × ByteArray × Bool):List Int :=
 (bd ((aA [115] 1 0 1).length) (aA [115] 1 0 1) z2.1 z2.2.1 z2.2.2.2 (aA (ab p1) (aE (⟨#[99,121]⟩:ByteArray) (aC (((aB p1).drop 0).take 32))) 0 (aE (⟨#[99,121]⟩:ByteArray) (aC (((aB p1).drop 0).take 32)))))
def ak (p1:Int) (k2:Nat) (z2:Int × Bool × ByteArray × Bool):Int × Bool × ByteArray × Bool :=
 ((aK ((aA [115] 1 0 1).length) (aA [115] 1 0 1) z2.1 z2.2.1 z2.2.2.2 (aA (ab p1) (aE (⟨#[99,121]⟩:ByteArray) (aC (((aB p1).drop 0).take 32))) 0 (aE (⟨#[99,121]⟩:ByteArray) (aC (((aB p1).drop 0).take 32))))),(eE p1 z2),(cJ p1 z2),(cK p1 z2))
def aX (p1:Int) (k2:Nat):Bool :=
 (sel (!(aP (cl) (⟨#[]⟩:ByteArray))) (sel (((bQ ((aA [115] 1 0 1).length) (aA [115] 1 0 1) (itr (ak p1) k2 ((aK ((aA [115] 1 0 1).length) (aA [115] 1 0 1) 100 false false (aA (aG) ((1+4)+(⟨#[115,115,104,45,117,115,101,114,97,117,116,104]⟩:ByteArray).size) 0 ((1+4)+(⟨#[115,115,104,45,117,115,101,114,97,117,116,104]⟩:ByteArray).size))),(aI),(aJ),(aH))).1 (itr (ak p1) k2 ((aK ((aA [115] 1 0 1).length) (aA [115] 1 0 1) 100 false false (aA (aG) ((1+4)+(⟨#[115,115,104,45,117,115,101,114,97,117,116,104]⟩:ByteArray).size) 0 ((1+4)+(⟨#[115,115,104,45,117,115,101,114,97,117,116,104]⟩:ByteArray).size))),(aI),(aJ),(aH))).2.1 (itr (ak p1) k2 ((aK ((aA [115] 1 0 1).length) (aA [115] 1 0 1) 100 false false (aA (aG) ((1+4)+(⟨#[115,115,104,45,117,115,101,114,97,117,116,104]⟩:ByteArray).size) 0 ((1+4)+(⟨#[115,115,104,45,117,115,101,114,97,117,116,104]⟩:ByteArray).size))),(aI),(aJ),(aH))).2.2.2 (aA (ab p1) (aE (⟨#[99,121]⟩:ByteArray) (aC (((aB p1).drop 0).take 32))) 0 (aE (⟨#[99,121]⟩:ByteArray) (aC (((aB p1).drop 0).take 32))))):Int) != 0) true (sel (((((aO ((aA [115] 1 0 1).length) (aA [115] 1 0 1) (itr (ak p1) k2 ((aK ((aA [115] 1 0 1).length) (aA [115] 1 0 1) 100 false false (aA (aG) ((1+4)+(⟨#[115,115,104,45,117,115,101,114,97,117,116,104]⟩:ByteArray).size) 0 ((1+4)+(⟨#[115,115,104,45,117,115,101,114,97,117,116,104]⟩:ByteArray).size))),(aI),(aJ),(aH))).1 (itr (ak p1) k2 ((aK ((aA [115] 1 0 1).length) (aA [115] 1 0 1) 100 false false (aA (aG) ((1+4)+(⟨#[115,115,104,45,117,115,101,114,97,117,116,104]⟩:ByteArray).size) 0 ((1+4)+(⟨#[115,115,104,45,117,115,101,114,97,117,116,104]⟩:ByteArray).size))),(aI),(aJ),(aH))).2.1 (itr (ak p1) k2 ((aK ((aA [115] 1 0 1).length) (aA [115] 1 0 1) 100 false false (aA (aG) ((1+4)+(⟨#[115,115,104,45,117,115,101,114,97,117,116,104]⟩:ByteArray).size) 0 ((1+4)+(⟨#[115,115,104,45,117,115,101,114,97,117,116,104]⟩:ByteArray).size))),(aI),(aJ),(aH))).2.2.2 (aA (ab p1) (aE (⟨#[99,121]⟩:ByteArray) (aC (((aB p1).drop 0).take 32))) 0 (aE (⟨#[99,121]⟩:ByteArray) (aC (((aB p1).drop 0).take 32))))):Nat):Int):Int)==0) true (sel (((dX p1 (itr (ak p1) k2 ((aK ((aA [115] 1 0 1).length) (aA [115] 1 0 1) 100 false false (aA (aG) ((1+4)+(⟨#[115,115,104,45,117,115,101,114,97,117,116,104]⟩:ByteArray).size) 0 ((1+4)+(⟨#[115,115,104,45,117,115,101,114,97,117,116,104]⟩:ByteArray).size))),(aI),(aJ),(aH)))).getD 0 0:Int) != (sel (aP (cl) (aC (((aB p1).drop 0).take 32))) 60 51)) true (sel (!(aP (dT (cJ p1 (itr (ak p1) k2 ((aK ((aA [115] 1 0 1).length) (aA [115] 1 0 1) 100 false false (aA (aG) ((1+4)+(⟨#[115,115,104,45,117,115,101,114,97,117,116,104]⟩:ByteArray).size) 0 ((1+4)+(⟨#[115,115,104,45,117,115,101,114,97,117,116,104]⟩:ByteArray).size))),(aI),(aJ),(aH)))) (cK p1 (itr (ak p1) k2 ((aK ((aA [115] 1 0 1).length) (aA [115] 1 0 1) 100 false false (aA (aG) ((1+4)+(⟨#[115,115,104,45,117,115,101,114,97,117,116,104]⟩:ByteArray).size) 0 ((1+4)+(⟨#[115,115,104,45,117,115,101,114,97,117,116,104]⟩:ByteArray).size))),(aI),(aJ),(aH))))) (⟨#[]⟩:ByteArray))) true false)))) (sel (((bQ ((aA [115] 1 0 1).length) (aA [115] 1 0 1) (itr (ak p1) k2 ((aK ((aA [115] 1 0 1).length) (aA [115] 1 0 1) 100 false false (aA (aG) ((1+4)+(⟨#[115,115,104,45,117,115,101,114,97,117,116,104]⟩:ByteArray).size) 0 ((1+4)+(⟨#[115,115,104,45,117,115,101,114,97,117,116,104]⟩:ByteArray).size))),(aI),(aJ),(aH))).1 (itr (ak p1) k2 ((aK ((aA [115] 1 0 1).length) (aA [115] 1 0 1) 100 false false (aA (aG) ((1+4)+(⟨#[115,115,104,45,117,115,101,114,97,117,116,104]⟩:ByteArray).size) 0 ((1+4)+(⟨#[115,115,104,45,117,115,101,114,97,117,116,104]⟩:ByteArray).size))),(aI),(aJ),(aH))).2.1 (itr (ak p1) k2 ((aK ((aA [115] 1 0 1).length) (aA [115] 1 0 1) 100 false false (aA (aG) ((1+4)+(⟨#[115,115,104,45,117,115,101,114,97,117,116,104]⟩:ByteArray).size) 0 ((1+4)+(⟨#[115,115,104,45,117,115,101,114,97,117,116,104]⟩:ByteArray).size))),(aI),(aJ),(aH))).2.2.2 (aA (ab p1) (aE (⟨#[99,121]⟩:ByteArray) (aC (((aB p1).drop 0).take 32))) 0 (aE (⟨#[99,121]⟩:ByteArray) (aC (((aB p1).drop 0).take 32))))):Int) != 0) true (sel (((((aO ((aA [115] 1 0 1).length) (aA [115] 1 0 1) (itr (ak p1) k2 ((aK ((aA [115] 1 0 1).length) (aA [115] 1 0 1) 100 false false (aA (aG) ((1+4)+(⟨#[115,115,104,45,117,115,101,114,97,117,116,104]⟩:ByteArray).size) 0 ((1+4)+(⟨#[115,115,104,45,117,115,101,114,97,117,116,104]⟩:ByteArray).size))),(aI),(aJ),(aH))).1 (itr (ak p1) k2 ((aK ((aA [115] 1 0 1).length) (aA [115] 1 0 1) 100 false false (aA (aG) ((1+4)+(⟨#[115,115,104,45,117,115,101,114,97,117,116,104]⟩:ByteArray).size) 0 ((1+4)+(⟨#[115,115,104,45,117,115,101,114,97,117,116,104]⟩:ByteArray).size))),(aI),(aJ),(aH))).2.1 (itr (ak p1) k2 ((aK ((aA [115] 1 0 1).length) (aA [115] 1 0 1) 100 false false (aA (aG) ((1+4)+(⟨#[115,115,104,45,117,115,101,114,97,117,116,104]⟩:ByteArray).size) 0 ((1+4)+(⟨#[115,115,104,45,117,115,101,114,97,117,116,104]⟩:ByteArray).size))),(aI),(aJ),(aH))).2.2.2 (aA (ab p1) (aE (⟨#[99,121]⟩:ByteArray) (aC (((aB p1).drop 0).take 32))) 0 (aE (⟨#[99,121]⟩:ByteArray) (aC (((aB p1).drop 0).take 32))))):Nat):Int):Int)==0) true (sel (((dX p1 (itr (ak p1) k2 ((aK ((aA [115] 1 0 1).length) (aA [115] 1 0 1) 100 false false (aA (aG) ((1+4)+(⟨#[115,115,104,45,117,115,101,114,97,117,116,104]⟩:ByteArray).size) 0 ((1+4)+(⟨#[115,115,104,45,117,115,101,114,97,117,116,104]⟩:ByteArray).size))),(aI),(aJ),(aH)))).getD 0 0:Int) != 51) true (sel (!(aP (dT (cJ p1 (itr (ak p1) k2 ((aK ((aA [115] 1 0 1).length) (aA [115] 1 0 1) 100 false false (aA (aG) ((1+4)+(⟨#[115,115,104,45,117,115,101,114,97,117,116,104]⟩:ByteArray).size) 0 ((1+4)+(⟨#[115,115,104,45,117,115,101,114,97,117,116,104]⟩:ByteArray).size))),(aI),(aJ),(aH)))) (cK p1 (itr (ak p1) k2 ((aK ((aA [115] 1 0 1).length) (aA [115] 1 0 1) 100 false false (aA (aG) ((1+4)+(⟨#[115,115,104,45,117,115,101,114,97,117,116,104]⟩:ByteArray).size) 0 ((1+4)+(⟨#[115,115,104,45,117,115,101,114,97,117,116,104]⟩:ByteArray).size))),(aI),(aJ),(aH))))) (⟨#[]⟩:ByteArray))) true false)))))
def mg (p1:Int) (p2:Int):Int × Bool × ByteArray × Bool :=
 (itr (ak p1) ((m5 p2)+1) ((aK ((aA [115] 1 0 1).length) (aA [115] 1 0 1) 100 false false (aA (aG) ((1+4)+(⟨#[115,115,104,45,117,115,101,114,97,117,116,104]⟩:ByteArray).size) 0 ((1+4)+(⟨#[115,115,104,45,117,115,101,114,97,117,116,104]⟩:ByteArray).size))),(aI),(aJ),(aH)))
def bA (p1:Int):List Int :=
 (fM (⟨#[110,105,108]⟩:ByteArray) (aC (((aB p1).drop 0).take 32)))
def ff (p1:Int) (z3:Int × Bool × ByteArray × Bool):Bool :=
 (bg z3.2.1 z3.2.2.2 (aA (bA p1) (aE (⟨#[110,105,108]⟩:ByteArray) (aC (((aB p1).drop 0).take 32))) 0 (aE (⟨#[110,105,108]⟩:ByteArray) (aC (((aB p1).drop 0).take 32)))))
def dY (p1:Int) (z3:Int × Bool × ByteArray × Bool):ByteArray :=
 (bW ((aA [115] 1 0 1).length) (aA [115] 1 0 1) z3.2.1 z3.2.2.1 z3.2.2.2 (aA (bA p1) (aE (⟨#[110,105,108]⟩:ByteArray) (aC (((aB p1).drop 0).take 32))) 0 (aE (⟨#[110,105,108]⟩:ByteArray) (aC (((aB p1).drop 0).take 32)))))
def dc (p1:Int) (z3:Int × Bool × ByteArray × Bool):Bool :=
 (bV ((aA [115] 1 0 1).length) (aA [115] 1 0 1) z3.2.1 z3.2.2.2 (aA (bA p1) (aE (⟨#[110,105,108]⟩:ByteArray) (aC (((aB p1).drop 0).take 32))) 0 (aE (⟨#[110,105,108]⟩:ByteArray) (aC (((aB p1).drop 0).take 32)))))
def eg (p1:Int) (z3:Int × Bool × ByteArray × Bool):List Int :=
 (bd ((aA [115] 1 0 1).length) (aA [115] 1 0 1) z3.1 z3.2.1 z3.2.2.2 (aA (bA p1) (aE (⟨#[110,105,108]⟩:ByteArray) (aC (((aB p1).drop 0).take 32))) 0 (aE (⟨#[110,105,108]⟩:ByteArray) (aC (((aB p1).drop 0).take 32)))))
def bw (p1:Int) (k3:Nat) (z3:Int × Bool × ByteArray × Bool):Int × Bool × ByteArray × Bool :=
 ((aK ((aA [115] 1 0 1).length) (aA [115] 1 0 1) z3.1 z3.2.1 z3.2.2.2 (aA (bA p1) (aE (⟨#[110,105,108]⟩:ByteArray) (aC (((aB p1).drop 0).take 32))) 0 (aE (⟨#[110,105,108]⟩:ByteArray) (aC (((aB p1).drop 0).take 32))))),(ff p1 z3),(dY p1 z3),(dc p1 z3))
def bE (p1:Int) (k3:Nat):Bool :=
 (sel (((bQ ((aA [115] 1 0 1).length) (aA [115] 1 0 1) (itr (bw p1) k3 ((aK ((aA [115] 1 0 1).length) (aA [115] 1 0 1) 100 false false (aA (aG) ((1+4)+(⟨#[115,115,104,45,117,115,101,114,97,117,116,104]⟩:ByteArray).size) 0 ((1+4)+(⟨#[115,115,104,45,117,115,101,114,97,117,116,104]⟩:ByteArray).size))),(aI),(aJ),(aH))).1 (itr (bw p1) k3 ((aK ((aA [115] 1 0 1).length) (aA [115] 1 0 1) 100 false false (aA (aG) ((1+4)+(⟨#[115,115,104,45,117,115,101,114,97,117,116,104]⟩:ByteArray).size) 0 ((1+4)+(⟨#[115,115,104,45,117,115,101,114,97,117,116,104]⟩:ByteArray).size))),(aI),(aJ),(aH))).2.1 (itr (bw p1) k3 ((aK ((aA [115] 1 0 1).length) (aA [115] 1 0 1) 100 false false (aA (aG) ((1+4)+(⟨#[115,115,104,45,117,115,101,114,97,117,116,104]⟩:ByteArray).size) 0 ((1+4)+(⟨#[115,115,104,45,117,115,101,114,97,117,116,104]⟩:ByteArray).size))),(aI),(aJ),(aH))).2.2.2 (aA (bA p1) (aE (⟨#[110,105,108]⟩:ByteArray) (aC (((aB p1).drop 0).take 32))) 0 (aE (⟨#[110,105,108]⟩:ByteArray) (aC (((aB p1).drop 0).take 32))))):Int) != 0) true (sel (((((aO ((aA [115] 1 0 1).length) (aA [115] 1 0 1) (itr (bw p1) k3 ((aK ((aA [115] 1 0 1).length) (aA [115] 1 0 1) 100 false false (aA (aG) ((1+4)+(⟨#[115,115,104,45,117,115,101,114,97,117,116,104]⟩:ByteArray).size) 0 ((1+4)+(⟨#[115,115,104,45,117,115,101,114,97,117,116,104]⟩:ByteArray).size))),(aI),(aJ),(aH))).1 (itr (bw p1) k3 ((aK ((aA [115] 1 0 1).length) (aA [115] 1 0 1) 100 false false (aA (aG) ((1+4)+(⟨#[115,115,104,45,117,115,101,114,97,117,116,104]⟩:ByteArray).size) 0 ((1+4)+(⟨#[115,115,104,45,117,115,101,114,97,117,116,104]⟩:ByteArray).size))),(aI),(aJ),(aH))).2.1 (itr (bw p1) k3 ((aK ((aA [115] 1 0 1).length) (aA [115] 1 0 1) 100 false false (aA (aG) ((1+4)+(⟨#[115,115,104,45,117,115,101,114,97,117,116,104]⟩:ByteArray).size) 0 ((1+4)+(⟨#[115,115,104,45,117,115,101,114,97,117,116,104]⟩:ByteArray).size))),(aI),(aJ),(aH))).2.2.2 (aA (bA p1) (aE (⟨#[110,105,108]⟩:ByteArray) (aC (((aB p1).drop 0).take 32))) 0 (aE (⟨#[110,105,108]⟩:ByteArray) (aC (((aB p1).drop 0).take 32))))):Nat):Int):Int)==0) true (sel (((eg p1 (itr (bw p1) k3 ((aK ((aA [115] 1 0 1).length) (aA [115] 1 0 1) 100 false false (aA (aG) ((1+4)+(⟨#[115,115,104,45,117,115,101,114,97,117,116,104]⟩:ByteArray).size) 0 ((1+4)+(⟨#[115,115,104,45,117,115,101,114,97,117,116,104]⟩:ByteArray).size))),(aI),(aJ),(aH)))).getD 0 0:Int) != 51) true (sel (!(aP (dT (dY p1 (itr (bw p1) k3 ((aK ((aA [115] 1 0 1).length) (aA [115] 1 0 1) 100 false false (aA (aG) ((1+4)+(⟨#[115,115,104,45,117,115,101,114,97,117,116,104]⟩:ByteArray).size) 0 ((1+4)+(⟨#[115,115,104,45,117,115,101,114,97,117,116,104]⟩:ByteArray).size))),(aI),(aJ),(aH)))) (dc p1 (itr (bw p1) k3 ((aK ((aA [115] 1 0 1).length) (aA [115] 1 0 1) 100 false false (aA (aG) ((1+4)+(⟨#[115,115,104,45,117,115,101,114,97,117,116,104]⟩:ByteArray).size) 0 ((1+4)+(⟨#[115,115,104,45,117,115,101,114,97,117,116,104]⟩:ByteArray).size))),(aI),(aJ),(aH))))) (⟨#[]⟩:ByteArray))) true false))))
def my (p1:Int) (p2:Int):Int × Bool × ByteArray × Bool :=
 (itr (bw p1) ((m5 p2)+1) ((aK ((aA [115] 1 0 1).length) (aA [115] 1 0 1) 100 false false (aA (aG) ((1+4)+(⟨#[115,115,104,45,117,115,101,114,97,117,116,104]⟩:ByteArray).size) 0 ((1+4)+(⟨#[115,115,104,45,117,115,101,114,97,117,116,104]⟩:ByteArray).size))),(aI),(aJ),(aH)))
def al (p0:Int) (p1:Int) (p2:Int):Bool :=
 (sel (!(jV)) false (sel (((bM (aM .i64 (bM p0 4) 4) 4):Int)==0) (sel (Nat.blt (bv (bD p1) ((m5 p2)+1)) ((m5 p2)+1)) false true) (sel (((bM (aM .i64 (bM p0 4) 4) 4):Int)==1) (sel (Nat.blt (bv (aW p1) ((m5 p2)+1)) ((m5 p2)+1)) false true) (sel (((bM (aM .i64 (bM p0 4) 4) 4):Int)==2) (sel (Nat.blt (bv (aX p1) ((m5 p2)+1)) ((m5 p2)+1)) false true) (sel (Nat.blt (bv (bE p1) ((m5 p2)+1)) ((m5 p2)+1)) false true)))))
def kJ:List AV→List Blk→Option (Prop × Ret)
 |[.sc (.i .i64 p0),.sc (.i .u8 p1),.sc (.i .i64 p2)],[]=>some (True,⟨.sc (.b (al p0 p1 p2)),[]⟩)
 |_,_=>none
theorem KaAuthAsks:Known Tryz.prog gD 5 ⟨0,0,kJ⟩:=by
 refine Xw Tryz.f5 79 (Zv wF 32 0 <|Zv uO 608 2 <|Zc tn 352 [.io,.ro .u8,.val] [320] [304] <|Zv nJ 64 0 <|Zv nJ 304 0 <|Zc ml 416 [.io,.ro .u8] [400] [352,304,353] <|Zc ml 624 [.io,.ro .u8] [608] [352,304,353] <|Zc pK 1136 [.io] [] [352,304,353] <|Zc pK 1152 [.io] [] [352,304,353] <|Zv lx 400 1 <|Zc uf 256 [.ro .u8] [240] [] <|Zv od 224 1 <|Zn) mixed <|fun E args ks C r h hC hlen=>?_
 simp only at h
 unfold kJ at h
 split at h
 rotate_left
 cases h
 rename_i p0 p1 p2
 cases h
 simp only [bB] at hlen
 have hm1:=ts p2
 refine ⟨rfl,?_⟩
 refine Xs [] [] 32 (v1 pT) <|Tri.seq <|Xs [Eb 14 (!(jV))] [] 64 (pu pz (v1 pT)) <|Xa (fun h1=>?_) (fun h1=>?_)
 exact Xs [Eb 6 false] [14,0,1,2] 80 (v1 pT) <|Xy [] pz (by simp only [al,h1,aF,aD] <;> rfl)
 refine Tri.skip <|Tri.split (((bM (aM .i64 (bM p0 4) 4) 4):Int)==0) (fun h2=>?_) (fun h2=>?_)
 have h2':=bn h2
 refine Xu [Ei 19 0] none [Ep 7 176] [14,0] [Mc 176 [.s (⟨#[97,110,110]⟩:ByteArray),.s (⟨#[115,101,99,114,101,116]⟩:ByteArray),.s (⟨#[]⟩:ByteArray),.nils]] [] 208 (pu pz (v1 (pu (Yn 4) (v1 (pv (Yn 4) (pl (show (bM (aM .i64 (bM p0 4) 4) 4)=0 from (bn h2))) (pu (Yi 0 4) (pu (Ye (0+4) 16) (v1 (pu (pa (Yw 4) (Yr 4)) pT))))))))) <|Xs [Es 8 (aC (((aB p1).drop 0).take 32))] [1] 304 (v1 (pu pz (v1 (pu (pa (pa (Yw ((ba p1).size)) pT) (pl (show (aA (aQ (ba p1)) ((ba p1).size) 0 ((ba p1).size)).length=32 from fo _))) (pu (Yw 32) (v1 pT)))))) <|Xt [Ep 9 352] [] [Mi 353 ((aA [115] 1 0 1).length) (aA [115] 1 0 1),Mc 352 [.sl 304 0 4 4 none,.sl 353 0 ((aA [115] 1 0 1).length) 1 none,.i .i64 100,.b false,.s (⟨#[]⟩:ByteArray),.b false],Mc 304 UA] [] 384 (pu pz (pu (Yf 1) (pu (pa (Yr 1) (pa (Yr 0) (Yl 0 1))) (pu (pa (pa (Yw 1) pT) (pa (Yr UA) (Ye ((aA [115] 1 0 1).length) 100000))) (v1 pT))))) <|Tri.len 353 rfl <|fun hl3=>Xt [] [] [Mi 353 ((aA [115] 1 0 1).length) (aA [115] 1 0 1),Mc 304 UA,Mc 352 [.sl 304 0 4 4 none,.sl 353 0 ((aA [115] 1 0 1).length) 1 none,.i .i64 (aK ((aA [115] 1 0 1).length) (aA [115] 1 0 1) 100 false false (aA (aG) ((1+4)+(⟨#[115,115,104,45,117,115,101,114,97,117,116,104]⟩:ByteArray).size) 0 ((1+4)+(⟨#[115,115,104,45,117,115,101,114,97,117,116,104]⟩:ByteArray).size))),.b (aI),.s (aJ),.b (aH)]] [353,352,304] 432 (v1 (pu (pa pT (Ye ((⟨#[115,115,104,45,117,115,101,114,97,117,116,104]⟩:ByteArray).size) 100000)) (pu (pa (pa (Yw ((1+4)+(⟨#[115,115,104,45,117,115,101,114,97,117,116,104]⟩:ByteArray).size)) pT) (pa (Yr ((aA [115] 1 0 1).length)) (pa (Yr UA) (lo ((aA (aG) ((1+4)+(⟨#[115,115,104,45,117,115,101,114,97,117,116,104]⟩:ByteArray).size) 0 ((1+4)+(⟨#[115,115,104,45,117,115,101,114,97,117,116,104]⟩:ByteArray).size)).length≤6000∧((aA [115] 1 0 1).length)≤1000))))) pT))) <|Tri.seq <|Xu [Ej 37 (m5 p2),Ej 38 ((m5 p2)+1)] none [Ei 39 0,Ej 38 ((m5 p2)+1)] [2] [] [] 528 (v1 (pu (Yn 5) (v1 (pv (Yn 5) (pl (show (bM (aM .i64 (bM p2 5) 5) 5)=(((m5 p2):Nat):Int) from qH p2)) (pv pT (Yp (m5 p2) 1) (v1 pT)))))) <|Tri.block <|Xc ((m5 p2)+1) (bz p1) ((aK ((aA [115] 1 0 1).length) (aA [115] 1 0 1) 100 false false (aA (aG) ((1+4)+(⟨#[115,115,104,45,117,115,101,114,97,117,116,104]⟩:ByteArray).size) 0 ((1+4)+(⟨#[115,115,104,45,117,115,101,114,97,117,116,104]⟩:ByteArray).size))),(aI),(aJ),(aH)) (fun k0 z0=>(∀ j,j<k0→(bD p1) j=false)) (fun k0 z0=>[Ej 39 k0]) (fun k0 z0=>[Mc 352 [.sl 304 0 4 4 none,.sl 353 0 ((aA [115] 1 0 1).length) 1 none,.i .i64 z0.1,.b z0.2.1,.s z0.2.2.1,.b z0.2.2.2]]) (fun j hj=>absurd hj (Nat.not_lt_zero j)) <|fun k0 z0 hk0 hz0 hJ0=>Xs [Eb 40 (decide ((((k0:Nat):Int):Int)<(((m5 p2)+1:Nat):Int)))] [] 544 (v1 pT) <|Tri.seq <|Xb (fun h4 h4'=>?_) (fun h4 h4'=>?_)
 refine Tri.skip <|Tri.seq <|Tri.block <|Tri.len 353 rfl <|fun hl5=>Xt [Ei 11 (bQ ((aA [115] 1 0 1).length) (aA [115] 1 0 1) z0.1 z0.2.1 z0.2.2.2 (aA (bK p1) (aE (⟨#[97,110,110]⟩:ByteArray) (aC (((aB p1).drop 0).take 32))) 0 (aE (⟨#[97,110,110]⟩:ByteArray) (aC (((aB p1).drop 0).take 32))))),El 10 624 (aO ((aA [115] 1 0 1).length) (aA [115] 1 0 1) z0.1 z0.2.1 z0.2.2.2 (aA (bK p1) (aE (⟨#[97,110,110]⟩:ByteArray) (aC (((aB p1).drop 0).take 32))) 0 (aE (⟨#[97,110,110]⟩:ByteArray) (aC (((aB p1).drop 0).take 32)))))] [40] [Mi 624 (aO ((aA [115] 1 0 1).length) (aA [115] 1 0 1) z0.1 z0.2.1 z0.2.2.2 (aA (bK p1) (aE (⟨#[97,110,110]⟩:ByteArray) (aC (((aB p1).drop 0).take 32))) 0 (aE (⟨#[97,110,110]⟩:ByteArray) (aC (((aB p1).drop 0).take 32))))) (eh p1 z0),Mi 353 ((aA [115] 1 0 1).length) (aA [115] 1 0 1),Mc 304 UA,Mc 352 [.sl 304 0 4 4 none,.sl 353 0 ((aA [115] 1 0 1).length) 1 none,.i .i64 (aK ((aA [115] 1 0 1).length) (aA [115] 1 0 1) z0.1 z0.2.1 z0.2.2.2 (aA (bK p1) (aE (⟨#[97,110,110]⟩:ByteArray) (aC (((aB p1).drop 0).take 32))) 0 (aE (⟨#[97,110,110]⟩:ByteArray) (aC (((aB p1).drop 0).take 32))))),.b (fZ p1 z0),.s (dZ p1 z0),.b (db p1 z0)]] [353,304,352] 720 (v2 (pu (Yl 0 4) (v1 (pu (pa pT (pl (show (⟨#[97,110,110]⟩:ByteArray).size≤100000∧(aC (((aB p1).drop 0).take 32)).size≤1000 from ⟨by decide,Nat.le_trans jS (by decide)⟩))) (pu (pa (pa (Yw (aE (⟨#[97,110,110]⟩:ByteArray) (aC (((aB p1).drop 0).take 32)))) pT) (pa (Yr ((aA [115] 1 0 1).length)) (pa (Yr UA) (pl (show (aA (bK p1) (aE (⟨#[97,110,110]⟩:ByteArray) (aC (((aB p1).drop 0).take 32))) 0 (aE (⟨#[97,110,110]⟩:ByteArray) (aC (((aB p1).drop 0).take 32)))).length≤6000∧((aA [115] 1 0 1).length)≤1000 from ⟨ma (Nat.le_trans (Nat.add_le_add_right (Nat.add_le_add_left jS _) _) (by decide)),by decide⟩))))) (v5 pT)))))) <|Xs [Ek 12 .u8 51] [] 736 (v1 pT) <|Tri.seq <|Xu [Eb 53 false] none [Eb 58 false] [] [] [] 880 (v1 (pu (Yl 2 4) (v1 (pv pT (pl (show (!(aP (⟨#[]⟩:ByteArray) (⟨#[]⟩:ByteArray)))=false from (by rw [iA] <;> decide))) (v5 pT))))) <|Tri.cond_false (by kernel_rfl) <|Tri.skip <|Tri.split (((bQ ((aA [115] 1 0 1).length) (aA [115] 1 0 1) z0.1 z0.2.1 z0.2.2.2 (aA (bK p1) (aE (⟨#[97,110,110]⟩:ByteArray) (aC (((aB p1).drop 0).take 32))) 0 (aE (⟨#[97,110,110]⟩:ByteArray) (aC (((aB p1).drop 0).take 32))))):Int) != 0) (fun h6=>?_) (fun h6=>?_)
 have h6':=bY h6
 refine Xu [Eb 61 true] none [Eb 77 true] [58,12,11,10] [] [624] 1184 (v2 (pg h6 (v7 (v9 pT)))) <|Tri.cond_true (by kernel_rfl) <|Xt [Eb 6 false] [77,39,38,9,8,7] [] [353,304,352,176] 1200 (v1 pT) <|?_
 subst hz0
 have hf0:bv (bD p1) ((m5 p2)+1)=k0:=bO (by omega) hJ0 (by simp only [bD,h1,h2,h4,h6,aF,aD])
 have hb0:Nat.blt k0 ((m5 p2)+1)=true:=bl (by omega)
 have hq0:Nat.blt (bv (bD p1) ((m5 p2)+1)) ((m5 p2)+1)=true:=by rw [hf0];exact hb0
 exact Xy [] pz (by simp only [al,h1,h2,hq0,hf0,hb0,aF,aD] <;> rfl)
 have h6':=bJ h6
 refine Tri.split (((((aO ((aA [115] 1 0 1).length) (aA [115] 1 0 1) z0.1 z0.2.1 z0.2.2.2 (aA (bK p1) (aE (⟨#[97,110,110]⟩:ByteArray) (aC (((aB p1).drop 0).take 32))) 0 (aE (⟨#[97,110,110]⟩:ByteArray) (aC (((aB p1).drop 0).take 32))))):Nat):Int):Int)==0) (fun h7=>?_) (fun h7=>?_)
 have h7':=bn h7
 refine Xu [Eb 61 false,Eb 66 true] none [Eb 77 true] [58,12,11,10] [] [624] 1184 (v2 (pg h6 (v4 (pg h7 (v2 (v9 pT)))))) <|Tri.cond_true (by kernel_rfl) <|Xt [Eb 6 false] [77,39,38,9,8,7] [] [353,304,352,176] 1200 (v1 pT) <|?_
 subst hz0
 have hf0:bv (bD p1) ((m5 p2)+1)=k0:=bO (by omega) hJ0 (by simp only [bD,h1,h2,h4,h6,h7,aF,aD])
 have hb0:Nat.blt k0 ((m5 p2)+1)=true:=bl (by omega)
 have hq0:Nat.blt (bv (bD p1) ((m5 p2)+1)) ((m5 p2)+1)=true:=by rw [hf0];exact hb0
 exact Xy [] pz (by simp only [al,h1,h2,hq0,hf0,hb0,aF,aD] <;> rfl)
 have h7':=bp h7
 refine Tri.split (((eh p1 z0).getD 0 0:Int) != 51) (fun h8=>?_) (fun h8=>?_)
 have h8':=bY h8
 refine Tri.len 624 rfl <|fun hl9=>Tri.len 353 rfl <|fun hl10=>Xu [Eb 61 false,Eb 66 false,Eb 73 true] none [Eb 77 true] [58,12,11,10] [] [624] 1184 (v2 (pg h6 (v4 (pg h7 (v1 (pu (Yi 0 (aO ((aA [115] 1 0 1).length) (aA [115] 1 0 1) z0.1 z0.2.1 z0.2.2.2 (aA (bK p1) (aE (⟨#[97,110,110]⟩:ByteArray) (aC (((aB p1).drop 0).take 32))) 0 (aE (⟨#[97,110,110]⟩:ByteArray) (aC (((aB p1).drop 0).take 32)))))) (pu (Yl 0 (aO ((aA [115] 1 0 1).length) (aA [115] 1 0 1) z0.1 z0.2.1 z0.2.2.2 (aA (bK p1) (aE (⟨#[97,110,110]⟩:ByteArray) (aC (((aB p1).drop 0).take 32))) 0 (aE (⟨#[97,110,110]⟩:ByteArray) (aC (((aB p1).drop 0).take 32)))))) (v3 (pg h8 (v4 pT)))))))))) <|Tri.cond_true (by kernel_rfl) <|Xt [Eb 6 false] [77,39,38,9,8,7] [] [353,304,352,176] 1200 (v1 pT) <|?_
 subst hz0
 have hf0:bv (bD p1) ((m5 p2)+1)=k0:=bO (by omega) hJ0 (by simp only [bD,h1,h2,h4,h6,h7,h8,aF,aD])
 have hb0:Nat.blt k0 ((m5 p2)+1)=true:=bl (by omega)
 have hq0:Nat.blt (bv (bD p1) ((m5 p2)+1)) ((m5 p2)+1)=true:=by rw [hf0];exact hb0
 exact Xy [] pz (by simp only [al,h1,h2,hq0,hf0,hb0,aF,aD] <;> rfl)
 have h8':=bJ h8
 refine Tri.len 624 rfl <|fun hl11=>Tri.len 353 rfl <|fun hl12=>Xu [Eb 61 false,Eb 66 false,Eb 73 false] none [Eb 77 (!(aP (dT (dZ p1 z0) (db p1 z0)) (⟨#[]⟩:ByteArray)))] [58,12,11,10] [] [624] 1184 (v2 (pg h6 (v4 (pg h7 (v1 (pu (Yi 0 (aO ((aA [115] 1 0 1).length) (aA [115] 1 0 1) z0.1 z0.2.1 z0.2.2.2 (aA (bK p1) (aE (⟨#[97,110,110]⟩:ByteArray) (aC (((aB p1).drop 0).take 32))) 0 (aE (⟨#[97,110,110]⟩:ByteArray) (aC (((aB p1).drop 0).take 32)))))) (pu (Yl 0 (aO ((aA [115] 1 0 1).length) (aA [115] 1 0 1) z0.1 z0.2.1 z0.2.2.2 (aA (bK p1) (aE (⟨#[97,110,110]⟩:ByteArray) (aC (((aB p1).drop 0).take 32))) 0 (aE (⟨#[97,110,110]⟩:ByteArray) (aC (((aB p1).drop 0).take 32)))))) (v3 (pg h8 (v1 (pu (pa pT (pa (Yr ((aA [115] 1 0 1).length)) (pa (Yr UA) pT))) (v2 pT)))))))))))) <|Xa (fun h13=>?_) (fun h13=>?_)
 refine Xt [Eb 6 false] [77,39,38,9,8,7] [] [353,304,352,176] 1200 (v1 pT) <|?_
 subst hz0
 have hf0:bv (bD p1) ((m5 p2)+1)=k0:=bO (by omega) hJ0 (by simp only [bD,h1,h2,h4,h6,h7,h8,h13,aF,aD])
 have hb0:Nat.blt k0 ((m5 p2)+1)=true:=bl (by omega)
 have hq0:Nat.blt (bv (bD p1) ((m5 p2)+1)) ((m5 p2)+1)=true:=by rw [hf0];exact hb0
 exact Xy [] pz (by simp only [al,h1,h2,hq0,hf0,hb0,aF,aD] <;> rfl)
 exact Tri.skip <|Wu [Ej 78 (k0+1)] none [Ej 39 (k0+1)] [77,39] [] [] 1216 (pv pT (Yp k0 1) (v1 pT)) <|Xo [] (ee hJ0 (by subst hz0;simp only [bD,h1,h2,h4,h6,h7,h8,h13,aF,aD]))
 refine Tri.exit <|?_
 obtain rfl:k0=((m5 p2)+1):=(by omega);obtain rfl:z0=(mR p1 p2):=hz0
 have hf0:bv (bD p1) ((m5 p2)+1)=((m5 p2)+1):=eH hJ0
 have hb0:Nat.blt ((m5 p2)+1) ((m5 p2)+1)=false:=fG _
 have hq0:Nat.blt (bv (bD p1) ((m5 p2)+1)) ((m5 p2)+1)=false:=by rw [hf0];exact hb0
 exact Xt [Eb 6 true] [40,39,38,9,8,7] [] [353,304,352,176] 560 (v1 pT) <|Xy [] pz (by simp only [al,h1,h2,hq0,hf0,hb0,aF,aD] <;> rfl)
 have h2':=bp h2
 refine Tri.split (((bM (aM .i64 (bM p0 4) 4) 4):Int)==1) (fun h14=>?_) (fun h14=>?_)
 have h14':=bn h14
 refine Xu [Ei 19 1] none [Ep 7 176] [14,0] [Mc 176 [.s (⟨#[98,111,98]⟩:ByteArray),.s (⟨#[]⟩:ByteArray),.s (dq),.nils]] [] 208 (pu pz (v1 (pu (Yn 4) (v1 (pv (Yn 4) (pl (show (bM (aM .i64 (bM p0 4) 4) 4)=1 from (bn h14))) (pu (Yi 1 4) (pu (Ye (4+4) 16) (v1 (pu (pa (Yw 4) (Yr 4)) pT))))))))) <|Xs [Es 8 (aC (((aB p1).drop 0).take 32))] [1] 304 (v1 (pu pz (v1 (pu (pa (pa (Yw ((ba p1).size)) pT) (pl (show (aA (aQ (ba p1)) ((ba p1).size) 0 ((ba p1).size)).length=32 from fo _))) (pu (Yw 32) (v1 pT)))))) <|Xt [Ep 9 352] [] [Mi 353 ((aA [115] 1 0 1).length) (aA [115] 1 0 1),Mc 352 [.sl 304 0 4 4 none,.sl 353 0 ((aA [115] 1 0 1).length) 1 none,.i .i64 100,.b false,.s (⟨#[]⟩:ByteArray),.b false],Mc 304 UA] [] 384 (pu pz (pu (Yf 1) (pu (pa (Yr 1) (pa (Yr 0) (Yl 0 1))) (pu (pa (pa (Yw 1) pT) (pa (Yr UA) (Ye ((aA [115] 1 0 1).length) 100000))) (v1 pT))))) <|Tri.len 353 rfl <|fun hl15=>Xt [] [] [Mi 353 ((aA [115] 1 0 1).length) (aA [115] 1 0 1),Mc 304 UA,Mc 352 [.sl 304 0 4 4 none,.sl 353 0 ((aA [115] 1 0 1).length) 1 none,.i .i64 (aK ((aA [115] 1 0 1).length) (aA [115] 1 0 1) 100 false false (aA (aG) ((1+4)+(⟨#[115,115,104,45,117,115,101,114,97,117,116,104]⟩:ByteArray).size) 0 ((1+4)+(⟨#[115,115,104,45,117,115,101,114,97,117,116,104]⟩:ByteArray).size))),.b (aI),.s (aJ),.b (aH)]] [353,352,304] 432 (v1 (pu (pa pT (Ye ((⟨#[115,115,104,45,117,115,101,114,97,117,116,104]⟩:ByteArray).size) 100000)) (pu (pa (pa (Yw ((1+4)+(⟨#[115,115,104,45,117,115,101,114,97,117,116,104]⟩:ByteArray).size)) pT) (pa (Yr ((aA [115] 1 0 1).length)) (pa (Yr UA) (lo ((aA (aG) ((1+4)+(⟨#[115,115,104,45,117,115,101,114,97,117,116,104]⟩:ByteArray).size) 0 ((1+4)+(⟨#[115,115,104,45,117,115,101,114,97,117,116,104]⟩:ByteArray).size)).length≤6000∧((aA [115] 1 0 1).length)≤1000))))) pT))) <|Tri.seq <|Xu [Ej 37 (m5 p2),Ej 38 ((m5 p2)+1)] none [Ei 39 0,Ej 38 ((m5 p2)+1)] [2] [] [] 528 (v1 (pu (Yn 5) (v1 (pv (Yn 5) (pl (show (bM (aM .i64 (bM p2 5) 5) 5)=(((m5 p2):Nat):Int) from qH p2)) (pv pT (Yp (m5 p2) 1) (v1 pT)))))) <|Tri.block <|Xc ((m5 p2)+1) (aj p1) ((aK ((aA [115] 1 0 1).length) (aA [115] 1 0 1) 100 false false (aA (aG) ((1+4)+(⟨#[115,115,104,45,117,115,101,114,97,117,116,104]⟩:ByteArray).size) 0 ((1+4)+(⟨#[115,115,104,45,117,115,101,114,97,117,116,104]⟩:ByteArray).size))),(aI),(aJ),(aH)) (fun k1 z1=>(∀ j,j<k1→(aW p1) j=false)) (fun k1 z1=>[Ej 39 k1]) (fun k1 z1=>[Mc 352 [.sl 304 0 4 4 none,.sl 353 0 ((aA [115] 1 0 1).length) 1 none,.i .i64 z1.1,.b z1.2.1,.s z1.2.2.1,.b z1.2.2.2]]) (fun j hj=>absurd hj (Nat.not_lt_zero j)) <|fun k1 z1 hk1 hz1 hJ1=>Xs [Eb 40 (decide ((((k1:Nat):Int):Int)<(((m5 p2)+1:Nat):Int)))] [] 544 (v1 pT) <|Tri.seq <|Xb (fun h16 h16'=>?_) (fun h16 h16'=>?_)
 refine Tri.skip <|Tri.seq <|Tri.block <|Tri.len 353 rfl <|fun hl17=>Xt [Ei 11 (bQ ((aA [115] 1 0 1).length) (aA [115] 1 0 1) z1.1 z1.2.1 z1.2.2.2 (aA (aZ p1) (aE (⟨#[98,111,98]⟩:ByteArray) (aC (((aB p1).drop 0).take 32))) 0 (aE (⟨#[98,111,98]⟩:ByteArray) (aC (((aB p1).drop 0).take 32))))),El 10 624 (aO ((aA [115] 1 0 1).length) (aA [115] 1 0 1) z1.1 z1.2.1 z1.2.2.2 (aA (aZ p1) (aE (⟨#[98,111,98]⟩:ByteArray) (aC (((aB p1).drop 0).take 32))) 0 (aE (⟨#[98,111,98]⟩:ByteArray) (aC (((aB p1).drop 0).take 32)))))] [40] [Mi 624 (aO ((aA [115] 1 0 1).length) (aA [115] 1 0 1) z1.1 z1.2.1 z1.2.2.2 (aA (aZ p1) (aE (⟨#[98,111,98]⟩:ByteArray) (aC (((aB p1).drop 0).take 32))) 0 (aE (⟨#[98,111,98]⟩:ByteArray) (aC (((aB p1).drop 0).take 32))))) (da p1 z1),Mi 353 ((aA [115] 1 0 1).length) (aA [115] 1 0 1),Mc 304 UA,Mc 352 [.sl 304 0 4 4 none,.sl 353 0 ((aA [115] 1 0 1).length) 1 none,.i .i64 (aK ((aA [115] 1 0 1).length) (aA [115] 1 0 1) z1.1 z1.2.1 z1.2.2.2 (aA (aZ p1) (aE (⟨#[98,111,98]⟩:ByteArray) (aC (((aB p1).drop 0).take 32))) 0 (aE (⟨#[98,111,98]⟩:ByteArray) (aC (((aB p1).drop 0).take 32))))),.b (eF p1 z1),.s (cL p1 z1),.b (cM p1 z1)]] [353,304,352] 720 (v2 (pu (Yl 0 4) (v1 (pu (pa pT (pl (show (⟨#[98,111,98]⟩:ByteArray).size≤100000∧(aC (((aB p1).drop 0).take 32)).size≤1000 from ⟨by decide,Nat.le_trans jS (by decide)⟩))) (pu (pa (pa (Yw (aE (⟨#[98,111,98]⟩:ByteArray) (aC (((aB p1).drop 0).take 32)))) pT) (pa (Yr ((aA [115] 1 0 1).length)) (pa (Yr UA) (pl (show (aA (aZ p1) (aE (⟨#[98,111,98]⟩:ByteArray) (aC (((aB p1).drop 0).take 32))) 0 (aE (⟨#[98,111,98]⟩:ByteArray) (aC (((aB p1).drop 0).take 32)))).length≤6000∧((aA [115] 1 0 1).length)≤1000 from ⟨ma (Nat.le_trans (Nat.add_le_add_right (Nat.add_le_add_left jS _) _) (by decide)),by decide⟩))))) (v5 pT)))))) <|Xs [Ek 12 .u8 51] [] 736 (v1 pT) <|Tri.seq <|Tri.split (!(aP (dq) (⟨#[]⟩:ByteArray))) (fun h18=>?_) (fun h18=>?_)
 refine Xu [Eb 53 true] none [Eb 58 (aP (dq) (aC (((aB p1).drop 0).take 32)))] [] [] [] 880 (v1 (pu (Yl 2 4) (v1 (pg h18 (v1 (pu (Yl 2 4) (v3 pT))))))) <|Xj (x:=(aP (dq) (aC (((aB p1).drop 0).take 32)))) (fun bb=>[Ek 12 .u8 (sel bb 60 51)]) [58,12] (fun bb=>[]) [] 896 (fun h19=>?_) (fun h19=>?_) ?_
 exact Ws [Ek 12 .u8 60] [58,12] 896 (v1 pT) <|Xe [Ek 12 .u8 60] []
 exact Tri.skip <|Xe [Ek 12 .u8 51] []
 refine Tri.split (((bQ ((aA [115] 1 0 1).length) (aA [115] 1 0 1) z1.1 z1.2.1 z1.2.2.2 (aA (aZ p1) (aE (⟨#[98,111,98]⟩:ByteArray) (aC (((aB p1).drop 0).take 32))) 0 (aE (⟨#[98,111,98]⟩:ByteArray) (aC (((aB p1).drop 0).take 32))))):Int) != 0) (fun h20=>?_) (fun h20=>?_)
 have h20':=bY h20
 refine Xu [Eb 61 true] none [Eb 77 true] [12,11,10] [] [624] 1200 (v2 (pg h20 (v7 (v9 pT)))) <|Tri.cond_true (by kernel_rfl) <|Xt [Eb 6 false] [77,39,38,9,8,7] [] [353,304,352,176] 1216 (v1 pT) <|?_
 subst hz1
 have hf1:bv (aW p1) ((m5 p2)+1)=k1:=bO (by omega) hJ1 (by simp only [aW,h1,h2,h14,h16,h18,h20,aF,aD])
 have hb1:Nat.blt k1 ((m5 p2)+1)=true:=bl (by omega)
 have hq1:Nat.blt (bv (aW p1) ((m5 p2)+1)) ((m5 p2)+1)=true:=by rw [hf1];exact hb1
 exact Xy [] pz (by simp only [al,h1,h2,h14,hq1,hf1,hb1,aF,aD] <;> rfl)
 have h20':=bJ h20
 refine Tri.split (((((aO ((aA [115] 1 0 1).length) (aA [115] 1 0 1) z1.1 z1.2.1 z1.2.2.2 (aA (aZ p1) (aE (⟨#[98,111,98]⟩:ByteArray) (aC (((aB p1).drop 0).take 32))) 0 (aE (⟨#[98,111,98]⟩:ByteArray) (aC (((aB p1).drop 0).take 32))))):Nat):Int):Int)==0) (fun h21=>?_) (fun h21=>?_)
 have h21':=bn h21
 refine Xu [Eb 61 false,Eb 66 true] none [Eb 77 true] [12,11,10] [] [624] 1200 (v2 (pg h20 (v4 (pg h21 (v2 (v9 pT)))))) <|Tri.cond_true (by kernel_rfl) <|Xt [Eb 6 false] [77,39,38,9,8,7] [] [353,304,352,176] 1216 (v1 pT) <|?_
 subst hz1
 have hf1:bv (aW p1) ((m5 p2)+1)=k1:=bO (by omega) hJ1 (by simp only [aW,h1,h2,h14,h16,h18,h20,h21,aF,aD])
 have hb1:Nat.blt k1 ((m5 p2)+1)=true:=bl (by omega)
 have hq1:Nat.blt (bv (aW p1) ((m5 p2)+1)) ((m5 p2)+1)=true:=by rw [hf1];exact hb1
 exact Xy [] pz (by simp only [al,h1,h2,h14,hq1,hf1,hb1,aF,aD] <;> rfl)
 have h21':=bp h21
 refine Tri.split (((da p1 z1).getD 0 0:Int) != (sel (aP (dq) (aC (((aB p1).drop 0).take 32))) 60 51)) (fun h22=>?_) (fun h22=>?_)
 have h22':=bY h22
 refine Tri.len 624 rfl <|fun hl23=>Tri.len 353 rfl <|fun hl24=>Xu [Eb 61 false,Eb 66 false,Eb 73 true] none [Eb 77 true] [12,11,10] [] [624] 1200 (v2 (pg h20 (v4 (pg h21 (v1 (pu (Yi 0 (aO ((aA [115] 1 0 1).length) (aA [115] 1 0 1) z1.1 z1.2.1 z1.2.2.2 (aA (aZ p1) (aE (⟨#[98,111,98]⟩:ByteArray) (aC (((aB p1).drop 0).take 32))) 0 (aE (⟨#[98,111,98]⟩:ByteArray) (aC (((aB p1).drop 0).take 32)))))) (pu (Yl 0 (aO ((aA [115] 1 0 1).length) (aA [115] 1 0 1) z1.1 z1.2.1 z1.2.2.2 (aA (aZ p1) (aE (⟨#[98,111,98]⟩:ByteArray) (aC (((aB p1).drop 0).take 32))) 0 (aE (⟨#[98,111,98]⟩:ByteArray) (aC (((aB p1).drop 0).take 32)))))) (v3 (pg h22 (v4 pT)))))))))) <|Tri.cond_true (by kernel_rfl) <|Xt [Eb 6 false] [77,39,38,9,8,7] [] [353,304,352,176] 1216 (v1 pT) <|?_
 subst hz1
 have hf1:bv (aW p1) ((m5 p2)+1)=k1:=bO (by omega) hJ1 (by simp only [aW,h1,h2,h14,h16,h18,h20,h21,h22,aF,aD])
 have hb1:Nat.blt k1 ((m5 p2)+1)=true:=bl (by omega)
 have hq1:Nat.blt (bv (aW p1) ((m5 p2)+1)) ((m5 p2)+1)=true:=by rw [hf1];exact hb1
 exact Xy [] pz (by simp only [al,h1,h2,h14,hq1,hf1,hb1,aF,aD] <;> rfl)
 have h22':=bJ h22
 refine Tri.len 624 rfl <|fun hl25=>Tri.len 353 rfl <|fun hl26=>Xu [Eb 61 false,Eb 66 false,Eb 73 false] none [Eb 77 (!(aP (dT (cL p1 z1) (cM p1 z1)) (⟨#[]⟩:ByteArray)))] [12,11,10] [] [624] 1200 (v2 (pg h20 (v4 (pg h21 (v1 (pu (Yi 0 (aO ((aA [115] 1 0 1).length) (aA [115] 1 0 1) z1.1 z1.2.1 z1.2.2.2 (aA (aZ p1) (aE (⟨#[98,111,98]⟩:ByteArray) (aC (((aB p1).drop 0).take 32))) 0 (aE (⟨#[98,111,98]⟩:ByteArray) (aC (((aB p1).drop 0).take 32)))))) (pu (Yl 0 (aO ((aA [115] 1 0 1).length) (aA [115] 1 0 1) z1.1 z1.2.1 z1.2.2.2 (aA (aZ p1) (aE (⟨#[98,111,98]⟩:ByteArray) (aC (((aB p1).drop 0).take 32))) 0 (aE (⟨#[98,111,98]⟩:ByteArray) (aC (((aB p1).drop 0).take 32)))))) (v3 (pg h22 (v1 (pu (pa pT (pa (Yr ((aA [115] 1 0 1).length)) (pa (Yr UA) pT))) (v2 pT)))))))))))) <|Xa (fun h27=>?_) (fun h27=>?_)
 refine Xt [Eb 6 false] [77,39,38,9,8,7] [] [353,304,352,176] 1216 (v1 pT) <|?_
 subst hz1
 have hf1:bv (aW p1) ((m5 p2)+1)=k1:=bO (by omega) hJ1 (by simp only [aW,h1,h2,h14,h16,h18,h20,h21,h22,h27,aF,aD])
 have hb1:Nat.blt k1 ((m5 p2)+1)=true:=bl (by omega)
 have hq1:Nat.blt (bv (aW p1) ((m5 p2)+1)) ((m5 p2)+1)=true:=by rw [hf1];exact hb1
 exact Xy [] pz (by simp only [al,h1,h2,h14,hq1,hf1,hb1,aF,aD] <;> rfl)
 exact Tri.skip <|Wu [Ej 78 (k1+1)] none [Ej 39 (k1+1)] [77,39] [] [] 1232 (pv pT (Yp k1 1) (v1 pT)) <|Xp (ee hJ1 (by subst hz1;simp only [aW,h1,h2,h14,h16,h18,h20,h21,h22,h27,aF,aD])) [] [Ej 39 (k1+1)] [Mc 352 [.sl 304 0 4 4 none,.sl 353 0 ((aA [115] 1 0 1).length) 1 none,.i .i64 (aK ((aA [115] 1 0 1).length) (aA [115] 1 0 1) z1.1 z1.2.1 z1.2.2.2 (aA (aZ p1) (aE (⟨#[98,111,98]⟩:ByteArray) (aC (((aB p1).drop 0).take 32))) 0 (aE (⟨#[98,111,98]⟩:ByteArray) (aC (((aB p1).drop 0).take 32))))),.b (eF p1 z1),.s (cL p1 z1),.b (cM p1 z1)]] (by simp only [aj,h1,h2,h14,h16,h18,h20,h21,h22,h27,aF,aD]) (by simp only [aj,h1,h2,h14,h16,h18,h20,h21,h22,h27,aF,aD])
 refine Xu [Eb 53 false] none [Eb 58 false] [] [] [] 880 (v1 (pu (Yl 2 4) (v1 (pg h18 (v5 pT))))) <|Tri.cond_false (by kernel_rfl) <|Tri.skip <|Tri.split (((bQ ((aA [115] 1 0 1).length) (aA [115] 1 0 1) z1.1 z1.2.1 z1.2.2.2 (aA (aZ p1) (aE (⟨#[98,111,98]⟩:ByteArray) (aC (((aB p1).drop 0).take 32))) 0 (aE (⟨#[98,111,98]⟩:ByteArray) (aC (((aB p1).drop 0).take 32))))):Int) != 0) (fun h28=>?_) (fun h28=>?_)
 have h28':=bY h28
 refine Xu [Eb 61 true] none [Eb 77 true] [58,12,11,10] [] [624] 1184 (v2 (pg h28 (v7 (v9 pT)))) <|Tri.cond_true (by kernel_rfl) <|Xt [Eb 6 false] [77,39,38,9,8,7] [] [353,304,352,176] 1200 (v1 pT) <|?_
 subst hz1
 have hf1:bv (aW p1) ((m5 p2)+1)=k1:=bO (by omega) hJ1 (by simp only [aW,h1,h2,h14,h16,h18,h28,aF,aD])
 have hb1:Nat.blt k1 ((m5 p2)+1)=true:=bl (by omega)
 have hq1:Nat.blt (bv (aW p1) ((m5 p2)+1)) ((m5 p2)+1)=true:=by rw [hf1];exact hb1
 exact Xy [] pz (by simp only [al,h1,h2,h14,hq1,hf1,hb1,aF,aD] <;> rfl)
 have h28':=bJ h28
 refine Tri.split (((((aO ((aA [115] 1 0 1).length) (aA [115] 1 0 1) z1.1 z1.2.1 z1.2.2.2 (aA (aZ p1) (aE (⟨#[98,111,98]⟩:ByteArray) (aC (((aB p1).drop 0).take 32))) 0 (aE (⟨#[98,111,98]⟩:ByteArray) (aC (((aB p1).drop 0).take 32))))):Nat):Int):Int)==0) (fun h29=>?_) (fun h29=>?_)
 have h29':=bn h29
 refine Xu [Eb 61 false,Eb 66 true] none [Eb 77 true] [58,12,11,10] [] [624] 1184 (v2 (pg h28 (v4 (pg h29 (v2 (v9 pT)))))) <|Tri.cond_true (by kernel_rfl) <|Xt [Eb 6 false] [77,39,38,9,8,7] [] [353,304,352,176] 1200 (v1 pT) <|?_
 subst hz1
 have hf1:bv (aW p1) ((m5 p2)+1)=k1:=bO (by omega) hJ1 (by simp only [aW,h1,h2,h14,h16,h18,h28,h29,aF,aD])
 have hb1:Nat.blt k1 ((m5 p2)+1)=true:=bl (by omega)
 have hq1:Nat.blt (bv (aW p1) ((m5 p2)+1)) ((m5 p2)+1)=true:=by rw [hf1];exact hb1
 exact Xy [] pz (by simp only [al,h1,h2,h14,hq1,hf1,hb1,aF,aD] <;> rfl)
 have h29':=bp h29
 refine Tri.split (((da p1 z1).getD 0 0:Int) != 51) (fun h30=>?_) (fun h30=>?_)
 have h30':=bY h30
 refine Tri.len 624 rfl <|fun hl31=>Tri.len 353 rfl <|fun hl32=>Xu [Eb 61 false,Eb 66 false,Eb 73 true] none [Eb 77 true] [58,12,11,10] [] [624] 1184 (v2 (pg h28 (v4 (pg h29 (v1 (pu (Yi 0 (aO ((aA [115] 1 0 1).length) (aA [115] 1 0 1) z1.1 z1.2.1 z1.2.2.2 (aA (aZ p1) (aE (⟨#[98,111,98]⟩:ByteArray) (aC (((aB p1).drop 0).take 32))) 0 (aE (⟨#[98,111,98]⟩:ByteArray) (aC (((aB p1).drop 0).take 32)))))) (pu (Yl 0 (aO ((aA [115] 1 0 1).length) (aA [115] 1 0 1) z1.1 z1.2.1 z1.2.2.2 (aA (aZ p1) (aE (⟨#[98,111,98]⟩:ByteArray) (aC (((aB p1).drop 0).take 32))) 0 (aE (⟨#[98,111,98]⟩:ByteArray) (aC (((aB p1).drop 0).take 32)))))) (v3 (pg h30 (v4 pT)))))))))) <|Tri.cond_true (by kernel_rfl) <|Xt [Eb 6 false] [77,39,38,9,8,7] [] [353,304,352,176] 1200 (v1 pT) <|?_
 subst hz1
 have hf1:bv (aW p1) ((m5 p2)+1)=k1:=bO (by omega) hJ1 (by simp only [aW,h1,h2,h14,h16,h18,h28,h29,h30,aF,aD])
 have hb1:Nat.blt k1 ((m5 p2)+1)=true:=bl (by omega)
 have hq1:Nat.blt (bv (aW p1) ((m5 p2)+1)) ((m5 p2)+1)=true:=by rw [hf1];exact hb1
 exact Xy [] pz (by simp only [al,h1,h2,h14,hq1,hf1,hb1,aF,aD] <;> rfl)
 have h30':=bJ h30
 refine Tri.len 624 rfl <|fun hl33=>Tri.len 353 rfl <|fun hl34=>Xu [Eb 61 false,Eb 66 false,Eb 73 false] none [Eb 77 (!(aP (dT (cL p1 z1) (cM p1 z1)) (⟨#[]⟩:ByteArray)))] [58,12,11,10] [] [624] 1184 (v2 (pg h28 (v4 (pg h29 (v1 (pu (Yi 0 (aO ((aA [115] 1 0 1).length) (aA [115] 1 0 1) z1.1 z1.2.1 z1.2.2.2 (aA (aZ p1) (aE (⟨#[98,111,98]⟩:ByteArray) (aC (((aB p1).drop 0).take 32))) 0 (aE (⟨#[98,111,98]⟩:ByteArray) (aC (((aB p1).drop 0).take 32)))))) (pu (Yl 0 (aO ((aA [115] 1 0 1).length) (aA [115] 1 0 1) z1.1 z1.2.1 z1.2.2.2 (aA (aZ p1) (aE (⟨#[98,111,98]⟩:ByteArray) (aC (((aB p1).drop 0).take 32))) 0 (aE (⟨#[98,111,98]⟩:ByteArray) (aC (((aB p1).drop 0).take 32)))))) (v3 (pg h30 (v1 (pu (pa pT (pa (Yr ((aA [115] 1 0 1).length)) (pa (Yr UA) pT))) (v2 pT)))))))))))) <|Xa (fun h35=>?_) (fun h35=>?_)
 refine Xt [Eb 6 false] [77,39,38,9,8,7] [] [353,304,352,176] 1200 (v1 pT) <|?_
 subst hz1
 have hf1:bv (aW p1) ((m5 p2)+1)=k1:=bO (by omega) hJ1 (by simp only [aW,h1,h2,h14,h16,h18,h28,h29,h30,h35,aF,aD])
 have hb1:Nat.blt k1 ((m5 p2)+1)=true:=bl (by omega)
 have hq1:Nat.blt (bv (aW p1) ((m5 p2)+1)) ((m5 p2)+1)=true:=by rw [hf1];exact hb1
 exact Xy [] pz (by simp only [al,h1,h2,h14,hq1,hf1,hb1,aF,aD] <;> rfl)
 exact Tri.skip <|Wu [Ej 78 (k1+1)] none [Ej 39 (k1+1)] [77,39] [] [] 1216 (pv pT (Yp k1 1) (v1 pT)) <|Xp (ee hJ1 (by subst hz1;simp only [aW,h1,h2,h14,h16,h18,h28,h29,h30,h35,aF,aD])) [] [Ej 39 (k1+1)] [Mc 352 [.sl 304 0 4 4 none,.sl 353 0 ((aA [115] 1 0 1).length) 1 none,.i .i64 (aK ((aA [115] 1 0 1).length) (aA [115] 1 0 1) z1.1 z1.2.1 z1.2.2.2 (aA (aZ p1) (aE (⟨#[98,111,98]⟩:ByteArray) (aC (((aB p1).drop 0).take 32))) 0 (aE (⟨#[98,111,98]⟩:ByteArray) (aC (((aB p1).drop 0).take 32))))),.b (eF p1 z1),.s (cL p1 z1),.b (cM p1 z1)]] (by simp only [aj,h1,h2,h14,h16,h18,h28,h29,h30,h35,aF,aD]) (by simp only [aj,h1,h2,h14,h16,h18,h28,h29,h30,h35,aF,aD])
 refine Tri.exit <|?_
 obtain rfl:k1=((m5 p2)+1):=(by omega);obtain rfl:z1=(nL p1 p2):=hz1
 have hf1:bv (aW p1) ((m5 p2)+1)=((m5 p2)+1):=eH hJ1
 have hb1:Nat.blt ((m5 p2)+1) ((m5 p2)+1)=false:=fG _
 have hq1:Nat.blt (bv (aW p1) ((m5 p2)+1)) ((m5 p2)+1)=false:=by rw [hf1];exact hb1
 exact Xt [Eb 6 true] [40,39,38,9,8,7] [] [353,304,352,176] 560 (v1 pT) <|Xy [] pz (by simp only [al,h1,h2,h14,hq1,hf1,hb1,aF,aD] <;> rfl)
 have h14':=bp h14
 refine Tri.split (((bM (aM .i64 (bM p0 4) 4) 4):Int)==2) (fun h36=>?_) (fun h36=>?_)
 have h36':=bn h36
 refine Xu [Ei 19 2] none [Ep 7 176] [14,0] [Mc 176 [.s (⟨#[99,121]⟩:ByteArray),.s (⟨#[119,111,114,100]⟩:ByteArray),.s (cl),.nils]] [] 208 (pu pz (v1 (pu (Yn 4) (v1 (pv (Yn 4) (pl (show (bM (aM .i64 (bM p0 4) 4) 4)=2 from (bn h36))) (pu (Yi 2 4) (pu (Ye (8+4) 16) (v1 (pu (pa (Yw 4) (Yr 4)) pT))))))))) <|Xs [Es 8 (aC (((aB p1).drop 0).take 32))] [1] 304 (v1 (pu pz (v1 (pu (pa (pa (Yw ((ba p1).size)) pT) (pl (show (aA (aQ (ba p1)) ((ba p1).size) 0 ((ba p1).size)).length=32 from fo _))) (pu (Yw 32) (v1 pT)))))) <|Xt [Ep 9 352] [] [Mi 353 ((aA [115] 1 0 1).length) (aA [115] 1 0 1),Mc 352 [.sl 304 0 4 4 none,.sl 353 0 ((aA [115] 1 0 1).length) 1 none,.i .i64 100,.b false,.s (⟨#[]⟩:ByteArray),.b false],Mc 304 UA] [] 384 (pu pz (pu (Yf 1) (pu (pa (Yr 1) (pa (Yr 0) (Yl 0 1))) (pu (pa (pa (Yw 1) pT) (pa (Yr UA) (Ye ((aA [115] 1 0 1).length) 100000))) (v1 pT))))) <|Tri.len 353 rfl <|fun hl37=>Xt [] [] [Mi 353 ((aA [115] 1 0 1).length) (aA [115] 1 0 1),Mc 304 UA,Mc 352 [.sl 304 0 4 4 none,.sl 353 0 ((aA [115] 1 0 1).length) 1 none,.i .i64 (aK ((aA [115] 1 0 1).length) (aA [115] 1 0 1) 100 false false (aA (aG) ((1+4)+(⟨#[115,115,104,45,117,115,101,114,97,117,116,104]⟩:ByteArray).size) 0 ((1+4)+(⟨#[115,115,104,45,117,115,101,114,97,117,116,104]⟩:ByteArray).size))),.b (aI),.s (aJ),.b (aH)]] [353,352,304] 432 (v1 (pu (pa pT (Ye ((⟨#[115,115,104,45,117,115,101,114,97,117,116,104]⟩:ByteArray).size) 100000)) (pu (pa (pa (Yw ((1+4)+(⟨#[115,115,104,45,117,115,101,114,97,117,116,104]⟩:ByteArray).size)) pT) (pa (Yr ((aA [115] 1 0 1).length)) (pa (Yr UA) (lo ((aA (aG) ((1+4)+(⟨#[115,115,104,45,117,115,101,114,97,117,116,104]⟩:ByteArray).size) 0 ((1+4)+(⟨#[115,115,104,45,117,115,101,114,97,117,116,104]⟩:ByteArray).size)).length≤6000∧((aA [115] 1 0 1).length)≤1000))))) pT))) <|Tri.seq <|Xu [Ej 37 (m5 p2),Ej 38 ((m5 p2)+1)] none [Ei 39 0,Ej 38 ((m5 p2)+1)] [2] [] [] 528 (v1 (pu (Yn 5) (v1 (pv (Yn 5) (pl (show (bM (aM .i64 (bM p2 5) 5) 5)=(((m5 p2):Nat):Int) from qH p2)) (pv pT (Yp (m5 p2) 1) (v1 pT)))))) <|Tri.block <|Xc ((m5 p2)+1) (ak p1) ((aK ((aA [115] 1 0 1).length) (aA [115] 1 0 1) 100 false false (aA (aG) ((1+4)+(⟨#[115,115,104,45,117,115,101,114,97,117,116,104]⟩:ByteArray).size) 0 ((1+4)+(⟨#[115,115,104,45,117,115,101,114,97,117,116,104]⟩:ByteArray).size))),(aI),(aJ),(aH)) (fun k2 z2=>(∀ j,j<k2→(aX p1) j=false)) (fun k2 z2=>[Ej 39 k2]) (fun k2 z2=>[Mc 352 [.sl 304 0 4 4 none,.sl 353 0 ((aA [115] 1 0 1).length) 1 none,.i .i64 z2.1,.b z2.2.1,.s z2.2.2.1,.b z2.2.2.2]]) (fun j hj=>absurd hj (Nat.not_lt_zero j)) <|fun k2 z2 hk2 hz2 hJ2=>Xs [Eb 40 (decide ((((k2:Nat):Int):Int)<(((m5 p2)+1:Nat):Int)))] [] 544 (v1 pT) <|Tri.seq <|Xb (fun h38 h38'=>?_) (fun h38 h38'=>?_)
 refine Tri.skip <|Tri.seq <|Tri.block <|Tri.len 353 rfl <|fun hl39=>Xt [Ei 11 (bQ ((aA [115] 1 0 1).length) (aA [115] 1 0 1) z2.1 z2.2.1 z2.2.2.2 (aA (ab p1) (aE (⟨#[99,121]⟩:ByteArray) (aC (((aB p1).drop 0).take 32))) 0 (aE (⟨#[99,121]⟩:ByteArray) (aC (((aB p1).drop 0).take 32))))),El 10 624 (aO ((aA [115] 1 0 1).length) (aA [115] 1 0 1) z2.1 z2.2.1 z2.2.2.2 (aA (ab p1) (aE (⟨#[99,121]⟩:ByteArray) (aC (((aB p1).drop 0).take 32))) 0 (aE (⟨#[99,121]⟩:ByteArray) (aC (((aB p1).drop 0).take 32)))))] [40] [Mi 624 (aO ((aA [115] 1 0 1).length) (aA [115] 1 0 1) z2.1 z2.2.1 z2.2.2.2 (aA (ab p1) (aE (⟨#[99,121]⟩:ByteArray) (aC (((aB p1).drop 0).take 32))) 0 (aE (⟨#[99,121]⟩:ByteArray) (aC (((aB p1).drop 0).take 32))))) (dX p1 z2),Mi 353 ((aA [115] 1 0 1).length) (aA [115] 1 0 1),Mc 304 UA,Mc 352 [.sl 304 0 4 4 none,.sl 353 0 ((aA [115] 1 0 1).length) 1 none,.i .i64 (aK ((aA [115] 1 0 1).length) (aA [115] 1 0 1) z2.1 z2.2.1 z2.2.2.2 (aA (ab p1) (aE (⟨#[99,121]⟩:ByteArray) (aC (((aB p1).drop 0).take 32))) 0 (aE (⟨#[99,121]⟩:ByteArray) (aC (((aB p1).drop 0).take 32))))),.b (eE p1 z2),.s (cJ p1 z2),.b (cK p1 z2)]] [353,304,352] 720 (v2 (pu (Yl 0 4) (v1 (pu (pa pT (pl (show (⟨#[99,121]⟩:ByteArray).size≤100000∧(aC (((aB p1).drop 0).take 32)).size≤1000 from ⟨by decide,Nat.le_trans jS (by decide)⟩))) (pu (pa (pa (Yw (aE (⟨#[99,121]⟩:ByteArray) (aC (((aB p1).drop 0).take 32)))) pT) (pa (Yr ((aA [115] 1 0 1).length)) (pa (Yr UA) (pl (show (aA (ab p1) (aE (⟨#[99,121]⟩:ByteArray) (aC (((aB p1).drop 0).take 32))) 0 (aE (⟨#[99,121]⟩:ByteArray) (aC (((aB p1).drop 0).take 32)))).length≤6000∧((aA [115] 1 0 1).length)≤1000 from ⟨ma (Nat.le_trans (Nat.add_le_add_right (Nat.add_le_add_left jS _) _) (by decide)),by decide⟩))))) (v5 pT)))))) <|Xs [Ek 12 .u8 51] [] 736 (v1 pT) <|Tri.seq <|Tri.split (!(aP (cl) (⟨#[]⟩:ByteArray))) (fun h40=>?_) (fun h40=>?_)
 refine Xu [Eb 53 true] none [Eb 58 (aP (cl) (aC (((aB p1).drop 0).take 32)))] [] [] [] 880 (v1 (pu (Yl 2 4) (v1 (pg h40 (v1 (pu (Yl 2 4) (v3 pT))))))) <|Xj (x:=(aP (cl) (aC (((aB p1).drop 0).take 32)))) (fun bb=>[Ek 12 .u8 (sel bb 60 51)]) [58,12] (fun bb=>[]) [] 896 (fun h41=>?_) (fun h41=>?_) ?_
 exact Ws [Ek 12 .u8 60] [58,12] 896 (v1 pT) <|Xe [Ek 12 .u8 60] []
 exact Tri.skip <|Xe [Ek 12 .u8 51] []
 refine Tri.split (((bQ ((aA [115] 1 0 1).length) (aA [115] 1 0 1) z2.1 z2.2.1 z2.2.2.2 (aA (ab p1) (aE (⟨#[99,121]⟩:ByteArray) (aC (((aB p1).drop 0).take 32))) 0 (aE (⟨#[99,121]⟩:ByteArray) (aC (((aB p1).drop 0).take 32))))):Int) != 0) (fun h42=>?_) (fun h42=>?_)
 have h42':=bY h42
 refine Xu [Eb 61 true] none [Eb 77 true] [12,11,10] [] [624] 1200 (v2 (pg h42 (v7 (v9 pT)))) <|Tri.cond_true (by kernel_rfl) <|Xt [Eb 6 false] [77,39,38,9,8,7] [] [353,304,352,176] 1216 (v1 pT) <|?_
 subst hz2
 have hf2:bv (aX p1) ((m5 p2)+1)=k2:=bO (by omega) hJ2 (by simp only [aX,h1,h2,h14,h36,h38,h40,h42,aF,aD])
 have hb2:Nat.blt k2 ((m5 p2)+1)=true:=bl (by omega)
 have hq2:Nat.blt (bv (aX p1) ((m5 p2)+1)) ((m5 p2)+1)=true:=by rw [hf2];exact hb2
 exact Xy [] pz (by simp only [al,h1,h2,h14,h36,hq2,hf2,hb2,aF,aD] <;> rfl)
 have h42':=bJ h42
 refine Tri.split (((((aO ((aA [115] 1 0 1).length) (aA [115] 1 0 1) z2.1 z2.2.1 z2.2.2.2 (aA (ab p1) (aE (⟨#[99,121]⟩:ByteArray) (aC (((aB p1).drop 0).take 32))) 0 (aE (⟨#[99,121]⟩:ByteArray) (aC (((aB p1).drop 0).take 32))))):Nat):Int):Int)==0) (fun h43=>?_) (fun h43=>?_)
 have h43':=bn h43
 refine Xu [Eb 61 false,Eb 66 true] none [Eb 77 true] [12,11,10] [] [624] 1200 (v2 (pg h42 (v4 (pg h43 (v2 (v9 pT)))))) <|Tri.cond_true (by kernel_rfl) <|Xt [Eb 6 false] [77,39,38,9,8,7] [] [353,304,352,176] 1216 (v1 pT) <|?_
 subst hz2
 have hf2:bv (aX p1) ((m5 p2)+1)=k2:=bO (by omega) hJ2 (by simp only [aX,h1,h2,h14,h36,h38,h40,h42,h43,aF,aD])
 have hb2:Nat.blt k2 ((m5 p2)+1)=true:=bl (by omega)
 have hq2:Nat.blt (bv (aX p1) ((m5 p2)+1)) ((m5 p2)+1)=true:=by rw [hf2];exact hb2
 exact Xy [] pz (by simp only [al,h1,h2,h14,h36,hq2,hf2,hb2,aF,aD] <;> rfl)
 have h43':=bp h43
 refine Tri.split (((dX p1 z2).getD 0 0:Int) != (sel (aP (cl) (aC (((aB p1).drop 0).take 32))) 60 51)) (fun h44=>?_) (fun h44=>?_)
 have h44':=bY h44
 refine Tri.len 624 rfl <|fun hl45=>Tri.len 353 rfl <|fun hl46=>Xu [Eb 61 false,Eb 66 false,Eb 73 true] none [Eb 77 true] [12,11,10] [] [624] 1200 (v2 (pg h42 (v4 (pg h43 (v1 (pu (Yi 0 (aO ((aA [115] 1 0 1).length) (aA [115] 1 0 1) z2.1 z2.2.1 z2.2.2.2 (aA (ab p1) (aE (⟨#[99,121]⟩:ByteArray) (aC (((aB p1).drop 0).take 32))) 0 (aE (⟨#[99,121]⟩:ByteArray) (aC (((aB p1).drop 0).take 32)))))) (pu (Yl 0 (aO ((aA [115] 1 0 1).length) (aA [115] 1 0 1) z2.1 z2.2.1 z2.2.2.2 (aA (ab p1) (aE (⟨#[99,121]⟩:ByteArray) (aC (((aB p1).drop 0).take 32))) 0 (aE (⟨#[99,121]⟩:ByteArray) (aC (((aB p1).drop 0).take 32)))))) (v3 (pg h44 (v4 pT)))))))))) <|Tri.cond_true (by kernel_rfl) <|Xt [Eb 6 false] [77,39,38,9,8,7] [] [353,304,352,176] 1216 (v1 pT) <|?_
 subst hz2
 have hf2:bv (aX p1) ((m5 p2)+1)=k2:=bO (by omega) hJ2 (by simp only [aX,h1,h2,h14,h36,h38,h40,h42,h43,h44,aF,aD])
 have hb2:Nat.blt k2 ((m5 p2)+1)=true:=bl (by omega)
 have hq2:Nat.blt (bv (aX p1) ((m5 p2)+1)) ((m5 p2)+1)=true:=by rw [hf2];exact hb2
 exact Xy [] pz (by simp only [al,h1,h2,h14,h36,hq2,hf2,hb2,aF,aD] <;> rfl)
 have h44':=bJ h44
 refine Tri.len 624 rfl <|fun hl47=>Tri.len 353 rfl <|fun hl48=>Xu [Eb 61 false,Eb 66 false,Eb 73 false] none [Eb 77 (!(aP (dT (cJ p1 z2) (cK p1 z2)) (⟨#[]⟩:ByteArray)))] [12,11,10] [] [624] 1200 (v2 (pg h42 (v4 (pg h43 (v1 (pu (Yi 0 (aO ((aA [115] 1 0 1).length) (aA [115] 1 0 1) z2.1 z2.2.1 z2.2.2.2 (aA (ab p1) (aE (⟨#[99,121]⟩:ByteArray) (aC (((aB p1).drop 0).take 32))) 0 (aE (⟨#[99,121]⟩:ByteArray) (aC (((aB p1).drop 0).take 32)))))) (pu (Yl 0 (aO ((aA [115] 1 0 1).length) (aA [115] 1 0 1) z2.1 z2.2.1 z2.2.2.2 (aA (ab p1) (aE (⟨#[99,121]⟩:ByteArray) (aC (((aB p1).drop 0).take 32))) 0 (aE (⟨#[99,121]⟩:ByteArray) (aC (((aB p1).drop 0).take 32)))))) (v3 (pg h44 (v1 (pu (pa pT (pa (Yr ((aA [115] 1 0 1).length)) (pa (Yr UA) pT))) (v2 pT)))))))))))) <|Xa (fun h49=>?_) (fun h49=>?_)
 refine Xt [Eb 6 false] [77,39,38,9,8,7] [] [353,304,352,176] 1216 (v1 pT) <|?_
 subst hz2
 have hf2:bv (aX p1) ((m5 p2)+1)=k2:=bO (by omega) hJ2 (by simp only [aX,h1,h2,h14,h36,h38,h40,h42,h43,h44,h49,aF,aD])
 have hb2:Nat.blt k2 ((m5 p2)+1)=true:=bl (by omega)
 have hq2:Nat.blt (bv (aX p1) ((m5 p2)+1)) ((m5 p2)+1)=true:=by rw [hf2];exact hb2
 exact Xy [] pz (by simp only [al,h1,h2,h14,h36,hq2,hf2,hb2,aF,aD] <;> rfl)
 exact Tri.skip <|Wu [Ej 78 (k2+1)] none [Ej 39 (k2+1)] [77,39] [] [] 1232 (pv pT (Yp k2 1) (v1 pT)) <|Xp (ee hJ2 (by subst hz2;simp only [aX,h1,h2,h14,h36,h38,h40,h42,h43,h44,h49,aF,aD])) [] [Ej 39 (k2+1)] [Mc 352 [.sl 304 0 4 4 none,.sl 353 0 ((aA [115] 1 0 1).length) 1 none,.i .i64 (aK ((aA [115] 1 0 1).length) (aA [115] 1 0 1) z2.1 z2.2.1 z2.2.2.2 (aA (ab p1) (aE (⟨#[99,121]⟩:ByteArray) (aC (((aB p1).drop 0).take 32))) 0 (aE (⟨#[99,121]⟩:ByteArray) (aC (((aB p1).drop 0).take 32))))),.b (eE p1 z2),.s (cJ p1 z2),.b (cK p1 z2)]] (by simp only [ak,h1,h2,h14,h36,h38,h40,h42,h43,h44,h49,aF,aD]) (by simp only [ak,h1,h2,h14,h36,h38,h40,h42,h43,h44,h49,aF,aD])
 refine Xu [Eb 53 false] none [Eb 58 false] [] [] [] 880 (v1 (pu (Yl 2 4) (v1 (pg h40 (v5 pT))))) <|Tri.cond_false (by kernel_rfl) <|Tri.skip <|Tri.split (((bQ ((aA [115] 1 0 1).length) (aA [115] 1 0 1) z2.1 z2.2.1 z2.2.2.2 (aA (ab p1) (aE (⟨#[99,121]⟩:ByteArray) (aC (((aB p1).drop 0).take 32))) 0 (aE (⟨#[99,121]⟩:ByteArray) (aC (((aB p1).drop 0).take 32))))):Int) != 0) (fun h50=>?_) (fun h50=>?_)
 have h50':=bY h50
 refine Xu [Eb 61 true] none [Eb 77 true] [58,12,11,10] [] [624] 1184 (v2 (pg h50 (v7 (v9 pT)))) <|Tri.cond_true (by kernel_rfl) <|Xt [Eb 6 false] [77,39,38,9,8,7] [] [353,304,352,176] 1200 (v1 pT) <|?_
 subst hz2
 have hf2:bv (aX p1) ((m5 p2)+1)=k2:=bO (by omega) hJ2 (by simp only [aX,h1,h2,h14,h36,h38,h40,h50,aF,aD])
 have hb2:Nat.blt k2 ((m5 p2)+1)=true:=bl (by omega)
 have hq2:Nat.blt (bv (aX p1) ((m5 p2)+1)) ((m5 p2)+1)=true:=by rw [hf2];exact hb2
 exact Xy [] pz (by simp only [al,h1,h2,h14,h36,hq2,hf2,hb2,aF,aD] <;> rfl)
 have h50':=bJ h50
 refine Tri.split (((((aO ((aA [115] 1 0 1).length) (aA [115] 1 0 1) z2.1 z2.2.1 z2.2.2.2 (aA (ab p1) (aE (⟨#[99,121]⟩:ByteArray) (aC (((aB p1).drop 0).take 32))) 0 (aE (⟨#[99,121]⟩:ByteArray) (aC (((aB p1).drop 0).take 32))))):Nat):Int):Int)==0) (fun h51=>?_) (fun h51=>?_)
 have h51':=bn h51
 refine Xu [Eb 61 false,Eb 66 true] none [Eb 77 true] [58,12,11,10] [] [624] 1184 (v2 (pg h50 (v4 (pg h51 (v2 (v9 pT)))))) <|Tri.cond_true (by kernel_rfl) <|Xt [Eb 6 false] [77,39,38,9,8,7] [] [353,304,352,176] 1200 (v1 pT) <|?_
 subst hz2
 have hf2:bv (aX p1) ((m5 p2)+1)=k2:=bO (by omega) hJ2 (by simp only [aX,h1,h2,h14,h36,h38,h40,h50,h51,aF,aD])
 have hb2:Nat.blt k2 ((m5 p2)+1)=true:=bl (by omega)
 have hq2:Nat.blt (bv (aX p1) ((m5 p2)+1)) ((m5 p2)+1)=true:=by rw [hf2];exact hb2
 exact Xy [] pz (by simp only [al,h1,h2,h14,h36,hq2,hf2,hb2,aF,aD] <;> rfl)
 have h51':=bp h51
 refine Tri.split (((dX p1 z2).getD 0 0:Int) != 51) (fun h52=>?_) (fun h52=>?_)
 have h52':=bY h52
 refine Tri.len 624 rfl <|fun hl53=>Tri.len 353 rfl <|fun hl54=>Xu [Eb 61 false,Eb 66 false,Eb 73 true] none [Eb 77 true] [58,12,11,10] [] [624] 1184 (v2 (pg h50 (v4 (pg h51 (v1 (pu (Yi 0 (aO ((aA [115] 1 0 1).length) (aA [115] 1 0 1) z2.1 z2.2.1 z2.2.2.2 (aA (ab p1) (aE (⟨#[99,121]⟩:ByteArray) (aC (((aB p1).drop 0).take 32))) 0 (aE (⟨#[99,121]⟩:ByteArray) (aC (((aB p1).drop 0).take 32)))))) (pu (Yl 0 (aO ((aA [115] 1 0 1).length) (aA [115] 1 0 1) z2.1 z2.2.1 z2.2.2.2 (aA (ab p1) (aE (⟨#[99,121]⟩:ByteArray) (aC (((aB p1).drop 0).take 32))) 0 (aE (⟨#[99,121]⟩:ByteArray) (aC (((aB p1).drop 0).take 32)))))) (v3 (pg h52 (v4 pT)))))))))) <|Tri.cond_true (by kernel_rfl) <|Xt [Eb 6 false] [77,39,38,9,8,7] [] [353,304,352,176] 1200 (v1 pT) <|?_
 subst hz2
 have hf2:bv (aX p1) ((m5 p2)+1)=k2:=bO (by omega) hJ2 (by simp only [aX,h1,h2,h14,h36,h38,h40,h50,h51,h52,aF,aD])
 have hb2:Nat.blt k2 ((m5 p2)+1)=true:=bl (by omega)
 have hq2:Nat.blt (bv (aX p1) ((m5 p2)+1)) ((m5 p2)+1)=true:=by rw [hf2];exact hb2
 exact Xy [] pz (by simp only [al,h1,h2,h14,h36,hq2,hf2,hb2,aF,aD] <;> rfl)
 have h52':=bJ h52
 refine Tri.len 624 rfl <|fun hl55=>Tri.len 353 rfl <|fun hl56=>Xu [Eb 61 false,Eb 66 false,Eb 73 false] none [Eb 77 (!(aP (dT (cJ p1 z2) (cK p1 z2)) (⟨#[]⟩:ByteArray)))] [58,12,11,10] [] [624] 1184 (v2 (pg h50 (v4 (pg h51 (v1 (pu (Yi 0 (aO ((aA [115] 1 0 1).length) (aA [115] 1 0 1) z2.1 z2.2.1 z2.2.2.2 (aA (ab p1) (aE (⟨#[99,121]⟩:ByteArray) (aC (((aB p1).drop 0).take 32))) 0 (aE (⟨#[99,121]⟩:ByteArray) (aC (((aB p1).drop 0).take 32)))))) (pu (Yl 0 (aO ((aA [115] 1 0 1).length) (aA [115] 1 0 1) z2.1 z2.2.1 z2.2.2.2 (aA (ab p1) (aE (⟨#[99,121]⟩:ByteArray) (aC (((aB p1).drop 0).take 32))) 0 (aE (⟨#[99,121]⟩:ByteArray) (aC (((aB p1).drop 0).take 32)))))) (v3 (pg h52 (v1 (pu (pa pT (pa (Yr ((aA [115] 1 0 1).length)) (pa (Yr UA) pT))) (v2 pT)))))))))))) <|Xa (fun h57=>?_) (fun h57=>?_)
 refine Xt [Eb 6 false] [77,39,38,9,8,7] [] [353,304,352,176] 1200 (v1 pT) <|?_
 subst hz2
 have hf2:bv (aX p1) ((m5 p2)+1)=k2:=bO (by omega) hJ2 (by simp only [aX,h1,h2,h14,h36,h38,h40,h50,h51,h52,h57,aF,aD])
 have hb2:Nat.blt k2 ((m5 p2)+1)=true:=bl (by omega)
 have hq2:Nat.blt (bv (aX p1) ((m5 p2)+1)) ((m5 p2)+1)=true:=by rw [hf2];exact hb2
 exact Xy [] pz (by simp only [al,h1,h2,h14,h36,hq2,hf2,hb2,aF,aD] <;> rfl)
 exact Tri.skip <|Wu [Ej 78 (k2+1)] none [Ej 39 (k2+1)] [77,39] [] [] 1216 (pv pT (Yp k2 1) (v1 pT)) <|Xp (ee hJ2 (by subst hz2;simp only [aX,h1,h2,h14,h36,h38,h40,h50,h51,h52,h57,aF,aD])) [] [Ej 39 (k2+1)] [Mc 352 [.sl 304 0 4 4 none,.sl 353 0 ((aA [115] 1 0 1).length) 1 none,.i .i64 (aK ((aA [115] 1 0 1).length) (aA [115] 1 0 1) z2.1 z2.2.1 z2.2.2.2 (aA (ab p1) (aE (⟨#[99,121]⟩:ByteArray) (aC (((aB p1).drop 0).take 32))) 0 (aE (⟨#[99,121]⟩:ByteArray) (aC (((aB p1).drop 0).take 32))))),.b (eE p1 z2),.s (cJ p1 z2),.b (cK p1 z2)]] (by simp only [ak,h1,h2,h14,h36,h38,h40,h50,h51,h52,h57,aF,aD]) (by simp only [ak,h1,h2,h14,h36,h38,h40,h50,h51,h52,h57,aF,aD])
 refine Tri.exit <|?_
 obtain rfl:k2=((m5 p2)+1):=(by omega);obtain rfl:z2=(mg p1 p2):=hz2
 have hf2:bv (aX p1) ((m5 p2)+1)=((m5 p2)+1):=eH hJ2
 have hb2:Nat.blt ((m5 p2)+1) ((m5 p2)+1)=false:=fG _
 have hq2:Nat.blt (bv (aX p1) ((m5 p2)+1)) ((m5 p2)+1)=false:=by rw [hf2];exact hb2
 exact Xt [Eb 6 true] [40,39,38,9,8,7] [] [353,304,352,176] 560 (v1 pT) <|Xy [] pz (by simp only [al,h1,h2,h14,h36,hq2,hf2,hb2,aF,aD] <;> rfl)
 have h36':=bp h36
 refine Xu [Ei 19 3] none [Ep 7 176] [14,0] [Mc 176 [.s (⟨#[110,105,108]⟩:ByteArray),.s (⟨#[]⟩:ByteArray),.s (⟨#[]⟩:ByteArray),.nils]] [] 208 (pu pz (v1 (pu (Yn 4) (v1 (pv (Yn 4) (pl (show (bM (aM .i64 (bM p0 4) 4) 4)=3 from (th (by assumption) (by assumption) (by assumption)))) (pu (Yi 3 4) (pu (Ye (12+4) 16) (v1 (pu (pa (Yw 4) (Yr 4)) pT))))))))) <|Xs [Es 8 (aC (((aB p1).drop 0).take 32))] [1] 304 (v1 (pu pz (v1 (pu (pa (pa (Yw ((ba p1).size)) pT) (pl (show (aA (aQ (ba p1)) ((ba p1).size) 0 ((ba p1).size)).length=32 from fo _))) (pu (Yw 32) (v1 pT)))))) <|Xt [Ep 9 352] [] [Mi 353 ((aA [115] 1 0 1).length) (aA [115] 1 0 1),Mc 352 [.sl 304 0 4 4 none,.sl 353 0 ((aA [115] 1 0 1).length) 1 none,.i .i64 100,.b false,.s (⟨#[]⟩:ByteArray),.b false],Mc 304 UA] [] 384 (pu pz (pu (Yf 1) (pu (pa (Yr 1) (pa (Yr 0) (Yl 0 1))) (pu (pa (pa (Yw 1) pT) (pa (Yr UA) (Ye ((aA [115] 1 0 1).length) 100000))) (v1 pT))))) <|Tri.len 353 rfl <|fun hl58=>Xt [] [] [Mi 353 ((aA [115] 1 0 1).length) (aA [115] 1 0 1),Mc 304 UA,Mc 352 [.sl 304 0 4 4 none,.sl 353 0 ((aA [115] 1 0 1).length) 1 none,.i .i64 (aK ((aA [115] 1 0 1).length) (aA [115] 1 0 1) 100 false false (aA (aG) ((1+4)+(⟨#[115,115,104,45,117,115,101,114,97,117,116,104]⟩:ByteArray).size) 0 ((1+4)+(⟨#[115,115,104,45,117,115,101,114,97,117,116,104]⟩:ByteArray).size))),.b (aI),.s (aJ),.b (aH)]] [353,352,304] 432 (v1 (pu (pa pT (Ye ((⟨#[115,115,104,45,117,115,101,114,97,117,116,104]⟩:ByteArray).size) 100000)) (pu (pa (pa (Yw ((1+4)+(⟨#[115,115,104,45,117,115,101,114,97,117,116,104]⟩:ByteArray).size)) pT) (pa (Yr ((aA [115] 1 0 1).length)) (pa (Yr UA) (lo ((aA (aG) ((1+4)+(⟨#[115,115,104,45,117,115,101,114,97,117,116,104]⟩:ByteArray).size) 0 ((1+4)+(⟨#[115,115,104,45,117,115,101,114,97,117,116,104]⟩:ByteArray).size)).length≤6000∧((aA [115] 1 0 1).length)≤1000))))) pT))) <|Tri.seq <|Xu [Ej 37 (m5 p2),Ej 38 ((m5 p2)+1)] none [Ei 39 0,Ej 38 ((m5 p2)+1)] [2] [] [] 528 (v1 (pu (Yn 5) (v1 (pv (Yn 5) (pl (show (bM (aM .i64 (bM p2 5) 5) 5)=(((m5 p2):Nat):Int) from qH p2)) (pv pT (Yp (m5 p2) 1) (v1 pT)))))) <|Tri.block <|Xc ((m5 p2)+1) (bw p1) ((aK ((aA [115] 1 0 1).length) (aA [115] 1 0 1) 100 false false (aA (aG) ((1+4)+(⟨#[115,115,104,45,117,115,101,114,97,117,116,104]⟩:ByteArray).size) 0 ((1+4)+(⟨#[115,115,104,45,117,115,101,114,97,117,116,104]⟩:ByteArray).size))),(aI),(aJ),(aH)) (fun k3 z3=>(∀ j,j<k3→(bE p1) j=false)) (fun k3 z3=>[Ej 39 k3]) (fun k3 z3=>[Mc 352 [.sl 304 0 4 4 none,.sl 353 0 ((aA [115] 1 0 1).length) 1 none,.i .i64 z3.1,.b z3.2.1,.s z3.2.2.1,.b z3.2.2.2]]) (fun j hj=>absurd hj (Nat.not_lt_zero j)) <|fun k3 z3 hk3 hz3 hJ3=>Xs [Eb 40 (decide ((((k3:Nat):Int):Int)<(((m5 p2)+1:Nat):Int)))] [] 544 (v1 pT) <|Tri.seq <|Xb (fun h59 h59'=>?_) (fun h59 h59'=>?_)
 refine Tri.skip <|Tri.seq <|Tri.block <|Tri.len 353 rfl <|fun hl60=>Xt [Ei 11 (bQ ((aA [115] 1 0 1).length) (aA [115] 1 0 1) z3.1 z3.2.1 z3.2.2.2 (aA (bA p1) (aE (⟨#[110,105,108]⟩:ByteArray) (aC (((aB p1).drop 0).take 32))) 0 (aE (⟨#[110,105,108]⟩:ByteArray) (aC (((aB p1).drop 0).take 32))))),El 10 624 (aO ((aA [115] 1 0 1).length) (aA [115] 1 0 1) z3.1 z3.2.1 z3.2.2.2 (aA (bA p1) (aE (⟨#[110,105,108]⟩:ByteArray) (aC (((aB p1).drop 0).take 32))) 0 (aE (⟨#[110,105,108]⟩:ByteArray) (aC (((aB p1).drop 0).take 32)))))] [40] [Mi 624 (aO ((aA [115] 1 0 1).length) (aA [115] 1 0 1) z3.1 z3.2.1 z3.2.2.2 (aA (bA p1) (aE (⟨#[110,105,108]⟩:ByteArray) (aC (((aB p1).drop 0).take 32))) 0 (aE (⟨#[110,105,108]⟩:ByteArray) (aC (((aB p1).drop 0).take 32))))) (eg p1 z3),Mi 353 ((aA [115] 1 0 1).length) (aA [115] 1 0 1),Mc 304 UA,Mc 352 [.sl 304 0 4 4 none,.sl 353 0 ((aA [115] 1 0 1).length) 1 none,.i .i64 (aK ((aA [115] 1 0 1).length) (aA [115] 1 0 1) z3.1 z3.2.1 z3.2.2.2 (aA (bA p1) (aE (⟨#[110,105,108]⟩:ByteArray) (aC (((aB p1).drop 0).take 32))) 0 (aE (⟨#[110,105,108]⟩:ByteArray) (aC (((aB p1).drop 0).take 32))))),.b (ff p1 z3),.s (dY p1 z3),.b (dc p1 z3)]] [353,304,352] 720 (v2 (pu (Yl 0 4) (v1 (pu (pa pT (pl (show (⟨#[110,105,108]⟩:ByteArray).size≤100000∧(aC (((aB p1).drop 0).take 32)).size≤1000 from ⟨by decide,Nat.le_trans jS (by decide)⟩))) (pu (pa (pa (Yw (aE (⟨#[110,105,108]⟩:ByteArray) (aC (((aB p1).drop 0).take 32)))) pT) (pa (Yr ((aA [115] 1 0 1).length)) (pa (Yr UA) (pl (show (aA (bA p1) (aE (⟨#[110,105,108]⟩:ByteArray) (aC (((aB p1).drop 0).take 32))) 0 (aE (⟨#[110,105,108]⟩:ByteArray) (aC (((aB p1).drop 0).take 32)))).length≤6000∧((aA [115] 1 0 1).length)≤1000 from ⟨ma (Nat.le_trans (Nat.add_le_add_right (Nat.add_le_add_left jS _) _) (by decide)),by decide⟩))))) (v5 pT)))))) <|Xs [Ek 12 .u8 51] [] 736 (v1 pT) <|Tri.seq <|Xu [Eb 53 false] none [Eb 58 false] [] [] [] 880 (v1 (pu (Yl 2 4) (v1 (pv pT (pl (show (!(aP (⟨#[]⟩:ByteArray) (⟨#[]⟩:ByteArray)))=false from (by rw [iA] <;> decide))) (v5 pT))))) <|Tri.cond_false (by kernel_rfl) <|Tri.skip <|Tri.split (((bQ ((aA [115] 1 0 1).length) (aA [115] 1 0 1) z3.1 z3.2.1 z3.2.2.2 (aA (bA p1) (aE (⟨#[110,105,108]⟩:ByteArray) (aC (((aB p1).drop 0).take 32))) 0 (aE (⟨#[110,105,108]⟩:ByteArray) (aC (((aB p1).drop 0).take 32))))):Int) != 0) (fun h61=>?_) (fun h61=>?_)
 have h61':=bY h61
 refine Xu [Eb 61 true] none [Eb 77 true] [58,12,11,10] [] [624] 1184 (v2 (pg h61 (v7 (v9 pT)))) <|Tri.cond_true (by kernel_rfl) <|Xt [Eb 6 false] [77,39,38,9,8,7] [] [353,304,352,176] 1200 (v1 pT) <|?_
 subst hz3
 have hf3:bv (bE p1) ((m5 p2)+1)=k3:=bO (by omega) hJ3 (by simp only [bE,h1,h2,h14,h36,h59,h61,aF,aD])
 have hb3:Nat.blt k3 ((m5 p2)+1)=true:=bl (by omega)
 have hq3:Nat.blt (bv (bE p1) ((m5 p2)+1)) ((m5 p2)+1)=true:=by rw [hf3];exact hb3
 exact Xy [] pz (by simp only [al,h1,h2,h14,h36,hq3,hf3,hb3,aF,aD] <;> rfl)
 have h61':=bJ h61
 refine Tri.split (((((aO ((aA [115] 1 0 1).length) (aA [115] 1 0 1) z3.1 z3.2.1 z3.2.2.2 (aA (bA p1) (aE (⟨#[110,105,108]⟩:ByteArray) (aC (((aB p1).drop 0).take 32))) 0 (aE (⟨#[110,105,108]⟩:ByteArray) (aC (((aB p1).drop 0).take 32))))):Nat):Int):Int)==0) (fun h62=>?_) (fun h62=>?_)
 have h62':=bn h62
 refine Xu [Eb 61 false,Eb 66 true] none [Eb 77 true] [58,12,11,10] [] [624] 1184 (v2 (pg h61 (v4 (pg h62 (v2 (v9 pT)))))) <|Tri.cond_true (by kernel_rfl) <|Xt [Eb 6 false] [77,39,38,9,8,7] [] [353,304,352,176] 1200 (v1 pT) <|?_
 subst hz3
 have hf3:bv (bE p1) ((m5 p2)+1)=k3:=bO (by omega) hJ3 (by simp only [bE,h1,h2,h14,h36,h59,h61,h62,aF,aD])
 have hb3:Nat.blt k3 ((m5 p2)+1)=true:=bl (by omega)
 have hq3:Nat.blt (bv (bE p1) ((m5 p2)+1)) ((m5 p2)+1)=true:=by rw [hf3];exact hb3
 exact Xy [] pz (by simp only [al,h1,h2,h14,h36,hq3,hf3,hb3,aF,aD] <;> rfl)
 have h62':=bp h62
 refine Tri.split (((eg p1 z3).getD 0 0:Int) != 51) (fun h63=>?_) (fun h63=>?_)
 have h63':=bY h63
 refine Tri.len 624 rfl <|fun hl64=>Tri.len 353 rfl <|fun hl65=>Xu [Eb 61 false,Eb 66 false,Eb 73 true] none [Eb 77 true] [58,12,11,10] [] [624] 1184 (v2 (pg h61 (v4 (pg h62 (v1 (pu (Yi 0 (aO ((aA [115] 1 0 1).length) (aA [115] 1 0 1) z3.1 z3.2.1 z3.2.2.2 (aA (bA p1) (aE (⟨#[110,105,108]⟩:ByteArray) (aC (((aB p1).drop 0).take 32))) 0 (aE (⟨#[110,105,108]⟩:ByteArray) (aC (((aB p1).drop 0).take 32)))))) (pu (Yl 0 (aO ((aA [115] 1 0 1).length) (aA [115] 1 0 1) z3.1 z3.2.1 z3.2.2.2 (aA (bA p1) (aE (⟨#[110,105,108]⟩:ByteArray) (aC (((aB p1).drop 0).take 32))) 0 (aE (⟨#[110,105,108]⟩:ByteArray) (aC (((aB p1).drop 0).take 32)))))) (v3 (pg h63 (v4 pT)))))))))) <|Tri.cond_true (by kernel_rfl) <|Xt [Eb 6 false] [77,39,38,9,8,7] [] [353,304,352,176] 1200 (v1 pT) <|?_
 subst hz3
 have hf3:bv (bE p1) ((m5 p2)+1)=k3:=bO (by omega) hJ3 (by simp only [bE,h1,h2,h14,h36,h59,h61,h62,h63,aF,aD])
 have hb3:Nat.blt k3 ((m5 p2)+1)=true:=bl (by omega)
 have hq3:Nat.blt (bv (bE p1) ((m5 p2)+1)) ((m5 p2)+1)=true:=by rw [hf3];exact hb3
 exact Xy [] pz (by simp only [al,h1,h2,h14,h36,hq3,hf3,hb3,aF,aD] <;> rfl)
 have h63':=bJ h63
 refine Tri.len 624 rfl <|fun hl66=>Tri.len 353 rfl <|fun hl67=>Xu [Eb 61 false,Eb 66 false,Eb 73 false] none [Eb 77 (!(aP (dT (dY p1 z3) (dc p1 z3)) (⟨#[]⟩:ByteArray)))] [58,12,11,10] [] [624] 1184 (v2 (pg h61 (v4 (pg h62 (v1 (pu (Yi 0 (aO ((aA [115] 1 0 1).length) (aA [115] 1 0 1) z3.1 z3.2.1 z3.2.2.2 (aA (bA p1) (aE (⟨#[110,105,108]⟩:ByteArray) (aC (((aB p1).drop 0).take 32))) 0 (aE (⟨#[110,105,108]⟩:ByteArray) (aC (((aB p1).drop 0).take 32)))))) (pu (Yl 0 (aO ((aA [115] 1 0 1).length) (aA [115] 1 0 1) z3.1 z3.2.1 z3.2.2.2 (aA (bA p1) (aE (⟨#[110,105,108]⟩:ByteArray) (aC (((aB p1).drop 0).take 32))) 0 (aE (⟨#[110,105,108]⟩:ByteArray) (aC (((aB p1).drop 0).take 32)))))) (v3 (pg h63 (v1 (pu (pa pT (pa (Yr ((aA [115] 1 0 1).length)) (pa (Yr UA) pT))) (v2 pT)))))))))))) <|Xa (fun h68=>?_) (fun h68=>?_)
 refine Xt [Eb 6 false] [77,39,38,9,8,7] [] [353,304,352,176] 1200 (v1 pT) <|?_
 subst hz3
 have hf3:bv (bE p1) ((m5 p2)+1)=k3:=bO (by omega) hJ3 (by simp only [bE,h1,h2,h14,h36,h59,h61,h62,h63,h68,aF,aD])
 have hb3:Nat.blt k3 ((m5 p2)+1)=true:=bl (by omega)
 have hq3:Nat.blt (bv (bE p1) ((m5 p2)+1)) ((m5 p2)+1)=true:=by rw [hf3];exact hb3
 exact Xy [] pz (by simp only [al,h1,h2,h14,h36,hq3,hf3,hb3,aF,aD] <;> rfl)
 exact Tri.skip <|Wu [Ej 78 (k3+1)] none [Ej 39 (k3+1)] [77,39] [] [] 1216 (pv pT (Yp k3 1) (v1 pT)) <|Xo [] (ee hJ3 (by subst hz3;simp only [bE,h1,h2,h14,h36,h59,h61,h62,h63,h68,aF,aD]))
 refine Tri.exit <|?_
 obtain rfl:k3=((m5 p2)+1):=(by omega);obtain rfl:z3=(my p1 p2):=hz3
 have hf3:bv (bE p1) ((m5 p2)+1)=((m5 p2)+1):=eH hJ3
 have hb3:Nat.blt ((m5 p2)+1) ((m5 p2)+1)=false:=fG _
 have hq3:Nat.blt (bv (bE p1) ((m5 p2)+1)) ((m5 p2)+1)=false:=by rw [hf3];exact hb3
 exact Xt [Eb 6 true] [40,39,38,9,8,7] [] [353,304,352,176] 560 (v1 pT) <|Xy [] pz (by simp only [al,h1,h2,h14,h36,hq3,hf3,hb3,aF,aD] <;> rfl)
end Go.Vm
end
