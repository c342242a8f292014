/- A part of a proof (pack3): the small machine that walks the program, the walks of its functions, and what they compute in plain. -/
import Derived.Test.YtcomenlmambmfaaGreatDoorWbc
import Derived.Test.YtcomenlmambmfaaGreatDoorChecked
set_option maxHeartbeats 2000000
set_option maxRecDepth 100000
set_option linter.unusedVariables false
set_option linter.unusedSimpArgs false
noncomputable section
namespace Go.Vm
open Go Go.Proofs
theorem Ht (x:List Int):bq x≤32:=by unfold bq;cases ((((x.length:Nat):Int):Int) != 32) <;> decide
theorem yD (x:List Int):(bytesOf (((ee x).drop 0).take (bq x))).size≤32:=by
 rw [ag,List.length_take]
 have:=Ht x
 omega
theorem zI {p0:List Int} {a b:ByteArray} (h:p0.length+a.size+b.size+200≤10000):(aA (fQ p0 a b) (bm p0 a b) 0 (bm p0 a b)).length≤10000:=aK (Nat.le_trans (nK _ _ _) h) (by rw [mG];exact Nat.le_trans (nK _ _ _) h)
def bg (p2:ByteArray):ByteArray :=
 (cA (bytesOf (((ee (aA (aF p2) p2.size 0 p2.size)).drop 0).take (bq (aA (aF p2) p2.size 0 p2.size)))))
def gt (p0:List Int) (p1:ByteArray) (p2:ByteArray):List Int :=
 (nt (aA (aF p2) p2.size 0 p2.size) (aA (fQ p0 p1 (bg p2)) (bm p0 p1 (bg p2)) 0 (bm p0 p1 (bg p2))))
def ru (p1:ByteArray):List Int :=
 (iQ p1 (⟨#[112,117,98,108,105,99,107,101,121]⟩:ByteArray))
def sk (p1:ByteArray):List Int :=
 (ff (aI p1 (⟨#[112,117,98,108,105,99,107,101,121]⟩:ByteArray)) (ru p1) true)
def sj (p1:ByteArray):List Int :=
 (cC ((aI p1 (⟨#[112,117,98,108,105,99,107,101,121]⟩:ByteArray))+1) (sk p1) (⟨#[115,115,104,45,101,100,50,53,53,49,57]⟩:ByteArray))
def nh (p1:ByteArray) (p2:ByteArray):List Int :=
 (cC ((((aI p1 (⟨#[112,117,98,108,105,99,107,101,121]⟩:ByteArray))+1)+4)+(⟨#[115,115,104,45,101,100,50,53,53,49,57]⟩:ByteArray).size) (sj p1) (bg p2))
def fb (p0:List Int) (p1:ByteArray) (p2:ByteArray):ByteArray :=
 (rC (aA (gt p0 p1 p2) (sel (((FT9 (aA (aF p2) p2.size 0 p2.size)):Int) != 0) 0 64) 0 (sel (((FT9 (aA (aF p2) p2.size 0 p2.size)):Int) != 0) 0 64)))
def kq (p0:List Int) (p1:ByteArray) (p2:ByteArray):List Int :=
 (cC ((((((aI p1 (⟨#[112,117,98,108,105,99,107,101,121]⟩:ByteArray))+1)+4)+(⟨#[115,115,104,45,101,100,50,53,53,49,57]⟩:ByteArray).size)+4)+(bg p2).size) (nh p1 p2) (fb p0 p1 p2))
def fR (p2:ByteArray):Int :=
 (sel (((FT9 (aA (aF p2) p2.size 0 p2.size)):Int) != 0) (FT9 (aA (aF p2) p2.size 0 p2.size)) 0)
def fA (p0:List Int) (p1:ByteArray) (p2:ByteArray):List Int :=
 (sel (((FT9 (aA (aF p2) p2.size 0 p2.size)):Int) != 0) ([]:List Int) (kq p0 p1 p2))
def cU (p0:List Int) (p1:ByteArray) (p2:ByteArray):Nat :=
 (sel (((FT9 (aA (aF p2) p2.size 0 p2.size)):Int) != 0) 0 ((((((((aI p1 (⟨#[112,117,98,108,105,99,107,101,121]⟩:ByteArray))+1)+4)+(⟨#[115,115,104,45,101,100,50,53,53,49,57]⟩:ByteArray).size)+4)+(bg p2).size)+4)+(fb p0 p1 p2).size))
theorem ze {p0:List Int} {p1 p2:ByteArray} {n:Nat} (h:(aA (gt p0 p1 p2) n 0 n).length≤64) (e:n=sel (((FT9 (aA (aF p2) p2.size 0 p2.size)):Int) != 0) 0 64):(fb p0 p1 p2).size≤83:=by
 subst e
 exact Nat.le_trans (HZ _ (Nat.le_trans h (by decide))) (by omega)
theorem xM (p2:ByteArray):(bg p2).size≤51:=Nat.le_trans (jn _) (Nat.add_le_add_right (yD _) 19)
def yw:List AV→List Blk→Option (Prop × Ret)
 |[.sc (.ro .u8 p0),.sc (.s p1),.sc (.s p2)],[]=>some ((p0.length≤1000∧p1.size≤1000∧p2.size≤1000),⟨.tup [.sc (.sl 0 0 (cU p0 p1 p2) 1 none),.sc (.i .i64 (fR p2))],[some (.ints .u8 (cU p0 p1 p2) (fA p0 p1 p2))]⟩)
 |_,_=>none
theorem FK : Known Tryz.prog gD 9 ⟨0, 1, yw⟩ := by
 refine Xw Tryz.f9 46 (Zc KT9 80 [.ro .u8] [64] [] <| Zv AK 240 1 <| Zc Kc 368 [.ro .u8, .ro .u8] [288, 352] [] <| Zc vl 352 [.ro .u8, .val, .val] [] [] <| Zc dQ 512 [.io, .val] [] [496] <| Zc dQ 544 [.io, .val] [] [512] <| Zc dQ 624 [.io, .val] [] [544] <| Zc mv 496 [.io, .val] [] [480] <| Zv qE 480 2 <| Zc Is 608 [.ro .u8] [368] [] <| Zn) mixed ?_
 intro E args ks C r h hC hlen
 simp only at h
 unfold yw at h
 split at h
 rotate_left
 cases h
 rename_i p0 p1 p2
 cases h
 simp only [aj] at hlen
 have sz0 : (⟨#[112, 117, 98, 108, 105, 99, 107, 101, 121]⟩ : ByteArray).size = 9 := rfl
 have sz1 : (⟨#[115, 115, 104, 45, 101, 100, 50, 53, 53, 49, 57]⟩ : ByteArray).size = 11 := rfl
 have sz2 : (⟨#[115, 115, 104, 45, 99, 111, 110, 110, 101, 99, 116, 105, 111, 110]⟩ : ByteArray).size = 14 := rfl
 have hb := xM p2
 have hs64 := Bx (((FT9 (aA (aF p2) p2.size 0 p2.size)) : Int) != 0)
 refine ⟨rfl, ?_⟩
 refine Xs [] [] 48 (v2 pT) ?_
 refine Xt [Ei 9 (FT9 (aA (aF p2) p2.size 0 p2.size)), (8, .sc (.sl 80 0 (bq (aA (aF p2) p2.size 0 p2.size)) 1 (some (bq (aA (aF p2) p2.size 0 p2.size)))))] [] [Mi 80 (bq (aA (aF p2) p2.size 0 p2.size)) (ee (aA (aF p2) p2.size 0 p2.size))] [] 176 (v2 (pu (pa (pa (Yw p2.size) pT) pT) (v5 pT))) ?_
 refine Tri.seq ?_
 refine Tri.len 80 rfl (fun hl1 => ?_)
 refine Xs [Eb 21 (((FT9 (aA (aF p2) p2.size 0 p2.size)) : Int) != 0)] [] 208 (v2 pT) ?_
 refine Xa (fun h2 => ?_) (fun h2 => ?_)
 have h2' := cT h2
 refine Tri.len 80 rfl (fun hl3 => ?_)
 refine Xt [Ei 7 (FT9 (aA (aF p2) p2.size 0 p2.size)), (6, .sc (.nils))] [21, 9, 8, 0, 1, 2] [] [80] 256 (v3 pT) ?_
 refine Tri.sub (Sub.openNil (U := 256) (U' := 272) 6 256 1 .u8 none (.inl rfl) (by decide) (by decide) (by kernel_rfl) (by kernel_rfl)) ?_
 exact Xy [(256, 0)] (pa pT pz) (by simp only [fR, fA, cU, h2, aC, aB] <;> rfl)
 have h2' := bU h2
 refine Tri.skip ?_
 change Tri _ _ _ _ _ _
 refine Tri.len 80 rfl (fun hl4 => ?_)
 refine Xt [Es 10 (bg p2)] [21, 9, 8] [] [80] 272 (v1 (pu (Yw (bq (aA (aF p2) p2.size 0 p2.size))) (pu (pa pT (pl (show (bytesOf (((ee (aA (aF p2) p2.size 0 p2.size)).drop 0).take (bq (aA (aF p2) p2.size 0 p2.size)))).size ≤ 1000000000 from Nat.le_trans (yD _) (by decide)))) (v1 pT)))) ?_
 refine Xt [El 11 368 (sel (((FT9 (aA (aF p2) p2.size 0 p2.size)) : Int) != 0) 0 64)] [0, 2] [Mi 368 (sel (((FT9 (aA (aF p2) p2.size 0 p2.size)) : Int) != 0) 0 64) (gt p0 p1 p2)] [] 464 (v5 (pu (pa pz (lo (p0.length ≤ 20000 ∧ p1.size ≤ 20000 ∧ (bg p2).size ≤ 20000))) (pu (pa (pa (Yw p2.size) (pa (Yw (bm p0 p1 (bg p2))) pT)) (pl (show (aA (fQ p0 p1 (bg p2)) (bm p0 p1 (bg p2)) 0 (bm p0 p1 (bg p2))).length ≤ 10000 from zI (by omega)))) (v5 pT)))) ?_
 refine Xt [El 13 544 ((((((aI p1 (⟨#[112, 117, 98, 108, 105, 99, 107, 101, 121]⟩ : ByteArray)) + 1) + 4) + (⟨#[115, 115, 104, 45, 101, 100, 50, 53, 53, 49, 57]⟩ : ByteArray).size) + 4) + (bg p2).size)] [10, 1] [Mi 544 ((((((aI p1 (⟨#[112, 117, 98, 108, 105, 99, 107, 101, 121]⟩ : ByteArray)) + 1) + 4) + (⟨#[115, 115, 104, 45, 101, 100, 50, 53, 53, 49, 57]⟩ : ByteArray).size) + 4) + (bg p2).size) (nh p1 p2)] [] 576 (v1 (pu (pa pT (lo (p1.size ≤ 100000 ∧ (⟨#[112, 117, 98, 108, 105, 99, 107, 101, 121]⟩ : ByteArray).size ≤ 100000))) (pu (pa pT (pa (Yr (aI p1 (⟨#[112, 117, 98, 108, 105, 99, 107, 101, 121]⟩ : ByteArray))) (pl (show (aI p1 (⟨#[112, 117, 98, 108, 105, 99, 107, 101, 121]⟩ : ByteArray)) ≤ 1000000000 from by (unfold aI; omega))))) (pu (pa pT (pa (Yr ((aI p1 (⟨#[112, 117, 98, 108, 105, 99, 107, 101, 121]⟩ : ByteArray)) + 1)) (pl (show ((aI p1 (⟨#[112, 117, 98, 108, 105, 99, 107, 101, 121]⟩ : ByteArray)) + 1) ≤ 1000000000 ∧ (⟨#[115, 115, 104, 45, 101, 100, 50, 53, 53, 49, 57]⟩ : ByteArray).size ≤ 1000000000 from by (unfold aI; omega))))) (v1 (pu (pa pT (pa (Yr ((((aI p1 (⟨#[112, 117, 98, 108, 105, 99, 107, 101, 121]⟩ : ByteArray)) + 1) + 4) + (⟨#[115, 115, 104, 45, 101, 100, 50, 53, 53, 49, 57]⟩ : ByteArray).size)) (pl (show ((((aI p1 (⟨#[112, 117, 98, 108, 105, 99, 107, 101, 121]⟩ : ByteArray)) + 1) + 4) + (⟨#[115, 115, 104, 45, 101, 100, 50, 53, 53, 49, 57]⟩ : ByteArray).size) ≤ 1000000000 ∧ (bg p2).size ≤ 1000000000 from by (unfold aI; omega))))) (v1 pT))))))) ?_
 refine Tri.len 544 rfl (fun hl5 => ?_)
 refine Tri.len 368 rfl (fun hl6 => ?_)
 refine Xt [Ei 7 0, El 6 624 ((((((((aI p1 (⟨#[112, 117, 98, 108, 105, 99, 107, 101, 121]⟩ : ByteArray)) + 1) + 4) + (⟨#[115, 115, 104, 45, 101, 100, 50, 53, 53, 49, 57]⟩ : ByteArray).size) + 4) + (bg p2).size) + 4) + (fb p0 p1 p2).size)] [13, 11] [Mi 624 ((((((((aI p1 (⟨#[112, 117, 98, 108, 105, 99, 107, 101, 121]⟩ : ByteArray)) + 1) + 4) + (⟨#[115, 115, 104, 45, 101, 100, 50, 53, 53, 49, 57]⟩ : ByteArray).size) + 4) + (bg p2).size) + 4) + (fb p0 p1 p2).size) (kq p0 p1 p2)] [544, 368] 672 (v2 (pu (pa (pa (lo (0 + (sel (((FT9 (aA (aF p2) p2.size 0 p2.size)) : Int) != 0) 0 64) ≤ (sel (((FT9 (aA (aF p2) p2.size 0 p2.size)) : Int) != 0) 0 64))) pT) (lo ((aA (gt p0 p1 p2) (sel (((FT9 (aA (aF p2) p2.size 0 p2.size)) : Int) != 0) 0 64) 0 (sel (((FT9 (aA (aF p2) p2.size 0 p2.size)) : Int) != 0) 0 64)).length ≤ 1000000000))) (pu (pa pT (pa (Yr ((((((aI p1 (⟨#[112, 117, 98, 108, 105, 99, 107, 101, 121]⟩ : ByteArray)) + 1) + 4) + (⟨#[115, 115, 104, 45, 101, 100, 50, 53, 53, 49, 57]⟩ : ByteArray).size) + 4) + (bg p2).size)) (pl (show ((((((aI p1 (⟨#[112, 117, 98, 108, 105, 99, 107, 101, 121]⟩ : ByteArray)) + 1) + 4) + (⟨#[115, 115, 104, 45, 101, 100, 50, 53, 53, 49, 57]⟩ : ByteArray).size) + 4) + (bg p2).size) ≤ 1000000000 ∧ (fb p0 p1 p2).size ≤ 1000000000 from ⟨by unfold aI; omega, Nat.le_trans (ze (aK (by omega) (by omega)) rfl) (by decide)⟩)))) (v2 pT)))) ?_
 exact Xy [(624, 0)] (pa pT pz) (by simp only [fR, fA, cU, h2, aC, aB] <;> rfl)
def aZ (p2:ByteArray):ByteArray :=
 (az (bytesOf (((qS (aA (aF p2) p2.size 0 p2.size)).drop 0).take 32)))
def ba (p0:List Int) (p1:ByteArray) (p2:ByteArray):List Int :=
 (Eo (aA (aF p2) p2.size 0 p2.size) (aA ((cK (bytesOf p0))++(aA (fS p1 (aZ p2) 1) (aY p1 (aZ p2) 1) 0 (aY p1 (aZ p2) 1))) ((4+(bytesOf p0).size)+(aY p1 (aZ p2) 1)) 0 ((4+(bytesOf p0).size)+(aY p1 (aZ p2) 1))))
def jI (p0:List Int) (p1:ByteArray) (p2:ByteArray):List Int :=
 (fS p1 (aZ p2) 1)++(aA (cK (az (bytesOf (((ba p0 p1 p2).drop 0).take 64)))) (4+(az (bytesOf (((ba p0 p1 p2).drop 0).take 64))).size) 0 (4+(az (bytesOf (((ba p0 p1 p2).drop 0).take 64))).size))
def et (p0:List Int) (p1:ByteArray) (p2:ByteArray):Nat :=
 (aY p1 (aZ p2) 1)+(4+(az (bytesOf (((ba p0 p1 p2).drop 0).take 64))).size)
theorem kn (l:List Int) (n:Nat):(bytesOf ((l.drop 0).take n)).size≤n:=by rw [ag,List.length_take];exact Nat.min_le_left _ _
theorem vr (p2:ByteArray):(aZ p2).size≤51:=Nat.le_trans (mJ _ (Nat.le_trans (kn _ _) (by decide))) (Nat.add_le_add_right (kn _ _) 19)
theorem xT (l:List Int):(az (bytesOf ((l.drop 0).take 64))).size≤83:=Nat.le_trans (mJ _ (Nat.le_trans (kn _ _) (by decide))) (Nat.add_le_add_right (kn _ _) 19)
def vK:List AV→List Blk→Option (Prop × Ret)
 |[.sc (.ro .u8 p0),.sc (.s p1),.sc (.s p2)],[]=>some ((p0.length≤1000∧p1.size≤1000∧p2.size=32),⟨.sc (.sl 0 0 (et p0 p1 p2) 1 none),[some (.ints .u8 (et p0 p1 p2) (jI p0 p1 p2))]⟩)
 |_,_=>none
theorem AH:Known Tryz.prog gD 10 ⟨0,1,vK⟩:=by
 refine Xw Tryz.f10 30 (Zc FD 80 [.ro .u8] [64] [] <|Zv An 128 3 <|Zv tS 112 1 <|Zv tS 352 1 <|Zc KD 272 [.ro .u8,.ro .u8] [176,256] [] <|Zv oI 224 1 <|Zv oI 368 1 <|Zn) mixed <|fun E args ks C r h hC hlen=>?_
 simp only at h
 unfold vK at h
 split at h
 rotate_left
 cases h
 rename_i p0 p1 p2
 cases h
 simp only [aj] at hlen
 have sz0:(⟨#[112,117,98,108,105,99,107,101,121]⟩:ByteArray).size=9:=rfl
 have sz1:(⟨#[115,115,104,45,101,100,50,53,53,49,57]⟩:ByteArray).size=11:=rfl
 have sz2:(⟨#[115,115,104,45,99,111,110,110,101,99,116,105,111,110]⟩:ByteArray).size=14:=rfl
 have hb:=vr p2
 have hk:=Eg p1 (aZ p2) 1
 have hs:=ag p0
 have hg:=xT (ba p0 p1 p2)
 have hg4:=kn (ba p0 p1 p2) 64
 refine ⟨rfl,?_⟩
 refine Xs [] [] 32 (v1 pT) <|Xt [El 7 128 (aY p1 (aZ p2) 1)] [1] [Mi 128 (aY p1 (aZ p2) 1) (fS p1 (aZ p2) 1)] [] 160 (v3 (pu (pa (pa (Yw p2.size) pT) (pl (show (aA (aF p2) p2.size 0 p2.size).length=32 from by (rw [aV (ai _),ai];omega)))) (pu (Yw 32) (pu (pa pT (pl (show (bytesOf (((qS (aA (aF p2) p2.size 0 p2.size)).drop 0).take 32)).size≤1000000000 from Nat.le_trans (kn _ _) (by decide)))) (pu (pa pT (lo (p1.size≤10000∧(aZ p2).size≤10000))) (v1 pT)))))) ?_
 exact Tri.len 128 rfl <|fun hl1=>Xt [El 8 272 64] [0,2] [Mi 272 64 (ba p0 p1 p2)] [] 304 (v4 (pu (pa pT (Ye ((bytesOf p0).size) 1000000)) (v1 (pu (Ya (Yw (aY p1 (aZ p2) 1)) 1 ((4+(bytesOf p0).size)+(aY p1 (aZ p2) 1)) (aY p1 (aZ p2) 1) (aY p1 (aZ p2) 1) (4+(bytesOf p0).size) (4+(bytesOf p0).size)) (pu (pa (pa (Yw p2.size) (pa (Yw ((4+(bytesOf p0).size)+(aY p1 (aZ p2) 1))) pT)) (pl (show (aA (aF p2) p2.size 0 p2.size).length=32∧(aA ((cK (bytesOf p0))++(aA (fS p1 (aZ p2) 1) (aY p1 (aZ p2) 1) 0 (aY p1 (aZ p2) 1))) ((4+(bytesOf p0).size)+(aY p1 (aZ p2) 1)) 0 ((4+(bytesOf p0).size)+(aY p1 (aZ p2) 1))).length≤10000 from ⟨by rw [aV (ai _),ai];omega,aK (by omega) (by rw [List.length_append,uE];exact Nat.le_trans (Nat.add_le_add_left (cR hk) _) (by omega))⟩))) (v1 pT)))))) <|Tri.len 272 rfl <|fun hl2=>Tri.len 128 rfl <|fun hl3=>Xt [El 6 384 ((aY p1 (aZ p2) 1)+(4+(az (bytesOf (((ba p0 p1 p2).drop 0).take 64))).size))] [8,7] [Mi 384 ((aY p1 (aZ p2) 1)+(4+(az (bytesOf (((ba p0 p1 p2).drop 0).take 64))).size)) ((fS p1 (aZ p2) 1)++(aA (cK (az (bytesOf (((ba p0 p1 p2).drop 0).take 64)))) (4+(az (bytesOf (((ba p0 p1 p2).drop 0).take 64))).size) 0 (4+(az (bytesOf (((ba p0 p1 p2).drop 0).take 64))).size)))] [272,128] 416 (v2 (pu (Yw 64) (pu (pa pT (Ye ((bytesOf (((ba p0 p1 p2).drop 0).take 64)).size) 1000000000)) (pu (pa pT (Ye ((az (bytesOf (((ba p0 p1 p2).drop 0).take 64))).size) 1000000)) (pu (Ya (Yw (4+(az (bytesOf (((ba p0 p1 p2).drop 0).take 64))).size)) 1 ((aY p1 (aZ p2) 1)+(4+(az (bytesOf (((ba p0 p1 p2).drop 0).take 64))).size)) (4+(az (bytesOf (((ba p0 p1 p2).drop 0).take 64))).size) (4+(az (bytesOf (((ba p0 p1 p2).drop 0).take 64))).size) (aY p1 (aZ p2) 1) (aY p1 (aZ p2) 1)) (v1 pT)))))) <|Xz [(384,0)] pz
end Go.Vm
namespace Go.Vm
open Go Go.Proofs
def bl (p0:List Int) (p1:ByteArray) (p2:ByteArray):Bool :=
 (sel (!(oV)) false (sel (decide (((((p0.length+p1.size)+p2.size:Nat):Int):Int)>1000)) true (sel ((((p2.size:Nat):Int):Int) != 32) (sel (((fR p2):Int) != 2) false (sel (decide (((((cU p0 p1 p2):Nat):Int):Int)>0)) false (sel (aQ (bytesOf (((cq p1 p2).drop 0).take (aG p1 p2))) (bytesOf (((dY p1 p2).drop 0).take (am p1 p2)))) (sel (aQ (bytesOf (((iS p1 p2).drop 0).take (cg p1 p2))) (bytesOf (((jb p1 p2).drop 0).take (aY p1 (az p2) 0)))) (aQ (bytesOf (((lm p1).drop 0).take (eG p1))) (bytesOf (((cl p1 (⟨#[110,111,110,101]⟩:ByteArray)).drop 0).take (aS p1 (⟨#[110,111,110,101]⟩:ByteArray))))) false) false))) (sel (((fR p2):Int) != 0) false (sel (!(aQ (bytesOf (((fA p0 p1 p2).drop 0).take (cU p0 p1 p2))) (bytesOf (((jI p0 p1 p2).drop 0).take (et p0 p1 p2))))) false (sel (aQ (bytesOf (((cq p1 p2).drop 0).take (aG p1 p2))) (bytesOf (((dY p1 p2).drop 0).take (am p1 p2)))) (sel (aQ (bytesOf (((iS p1 p2).drop 0).take (cg p1 p2))) (bytesOf (((jb p1 p2).drop 0).take (aY p1 (az p2) 0)))) (aQ (bytesOf (((lm p1).drop 0).take (eG p1))) (bytesOf (((cl p1 (⟨#[110,111,110,101]⟩:ByteArray)).drop 0).take (aS p1 (⟨#[110,111,110,101]⟩:ByteArray))))) false) false))))))
def nD:List AV→List Blk→Option (Prop × Ret)
 |[.sc (.ro .u8 p0),.sc (.s p1),.sc (.s p2)],[]=>some ((p0.length≤140737488351232∧p1.size≤140737488351232∧p2.size≤140737488351232),⟨.sc (.b (bl p0 p1 p2)),[]⟩)
 |_,_=>none
def tK:KL Tryz.prog gD:=Zv IL 32 0 <|Zc FK 256 [.ro .u8,.val,.val] [] [] <|Zc AH 528 [.ro .u8,.val,.val] [] [] <|Zv mC 544 2 <|Zv mC 624 2 <|Zv oc 608 2 <|Zv oc 688 2 <|Zv BR 704 2 <|Zv BR 784 2 <|Zv yq 768 2 <|Zv yq 848 2 <|Zv BK 864 1 <|Zv BK 944 1 <|Zv pP 912 2 <|Zv pP 992 2 <|Zn
theorem KaAuthWrites:Known Tryz.prog gD 3 ⟨0,0,nD⟩:=by
 refine Xw Tryz.f3 78 tK mixed <|fun E args ks C r h hC hlen=>?_
 simp only at h
 unfold nD at h
 split at h
 rotate_left
 cases h
 rename_i p0 p1 p2
 cases h
 simp only [aj] at hlen
 have sz0:(⟨#[110,111,110,101]⟩:ByteArray).size=4:=rfl
 refine ⟨rfl,?_⟩
 refine Xs [] [] 32 (v1 pT) <|Tri.seq <|Xs [Eb 10 (!(oV))] [] 64 (pu pz (v1 pT)) <|Xa (fun h1=>?_) (fun h1=>?_)
 exact Xs [Eb 6 false] [10,0,1,2] 80 (v1 pT) <|Xy [] pz (by simp only [bl,h1,aC,aB] <;> rfl)
 refine Tri.skip <|Tri.seq <|Xu [Ej 15 (p0.length+p1.size),Ej 18 ((p0.length+p1.size)+p2.size)] none [Eb 19 (decide (((((p0.length+p1.size)+p2.size:Nat):Int):Int)>1000))] [10] [] [] 208 (v4 (pv pT (Yp p0.length p1.size) (v2 (pv pT (Yp (p0.length+p1.size) p2.size) (v1 pT))))) <|Xb (fun h2 h2'=>?_) (fun h2 h2'=>?_)
 exact Xs [Eb 6 true] [19,0,1,2] 224 (v1 pT) <|Xy [] pz (by simp only [bl,h1,h2,aC,aB] <;> rfl)
 refine Tri.skip <|Xt [Ei 8 (fR p2),El 7 256 (cU p0 p1 p2)] [19] [Mi 256 (cU p0 p1 p2) (fA p0 p1 p2)] [] 352 (v3 (pu (pa pz (pl (show p0.length≤1000∧p1.size≤1000∧p2.size≤1000 from by first|omega|decide|exact ⟨by omega,by omega⟩|exact ⟨by omega,by decide⟩))) (v5 pT))) ?_
 refine Tri.seq <|Xs [Eb 29 ((((p2.size:Nat):Int):Int) != 32)] [] 400 (v3 pT) <|Xa (fun h3=>?_) (fun h3=>?_)
 have h3':=cT h3
 refine Tri.split (((fR p2):Int) != 2) (fun h4=>?_) (fun h4=>?_)
 have h4':=cT h4
 exact Xu [Eb 32 true] none [Eb 36 true] [29,8,7,0] [] [256] 512 (v2 (pg h4 (v4 pT))) <|Tri.cond_true (by kernel_rfl) <|Xs [Eb 6 false] [36,1,2] 528 (v1 pT) <|Xy [] pz (by simp only [bl,h1,h2,h3,h4,aC,aB] <;> rfl)
 have h4':=bU h4
 refine Xu [Eb 32 false] none [Eb 36 (decide (((((cU p0 p1 p2):Nat):Int):Int)>0))] [29,8,7,0] [] [256] 512 (v2 (pg h4 (v4 pT))) <|Xb (fun h5 h5'=>?_) (fun h5 h5'=>?_)
 exact Xs [Eb 6 false] [36,1,2] 528 (v1 pT) <|Xy [] pz (by simp only [bl,h1,h2,h3,h4,h5,aC,aB] <;> rfl)
 refine Tri.skip <|Tri.split (aQ (bytesOf (((cq p1 p2).drop 0).take (aG p1 p2))) (bytesOf (((dY p1 p2).drop 0).take (am p1 p2)))) (fun h6=>?_) (fun h6=>?_)
 refine Tri.split (aQ (bytesOf (((iS p1 p2).drop 0).take (cg p1 p2))) (bytesOf (((jb p1 p2).drop 0).take (aY p1 (az p2) 0)))) (fun h7=>?_) (fun h7=>?_)
 refine Xu [Eb 58 true,Eb 69 true] (some [0,0,3,7,0,0,55,119,255,511,1023,1023,4095,8191,1023,1023,57343,122879,262143,524287,1048575,2097151,4194303,8388607,2097151,25165823,58720255,134217727,268435455,536870911]) [Eb 6 (aQ (bytesOf (((lm p1).drop 0).take (eG p1))) (bytesOf (((cl p1 (⟨#[110,111,110,101]⟩:ByteArray)).drop 0).take (aS p1 (⟨#[110,111,110,101]⟩:ByteArray)))))] [36,1,2] [] [] 992 (v2 (pu (pa pT (pl (show p1.size≤100000∧p2.size≤100000 from by first|omega|decide|exact ⟨by omega,by omega⟩|exact ⟨by omega,by decide⟩))) (pu (pl (show 0+(aG p1 p2)≤(aG p1 p2) from by first|omega|decide|exact ⟨by omega,by omega⟩|exact ⟨by omega,by decide⟩)) (v2 (pu (pa pT (pl (show p1.size≤10000∧p2.size≤10000 from by first|omega|decide|exact ⟨by omega,by omega⟩|exact ⟨by omega,by decide⟩))) (pu (pl (show 0+(am p1 p2)≤(am p1 p2) from by first|omega|decide|exact ⟨by omega,by omega⟩|exact ⟨by omega,by decide⟩)) (v1 (pg h6 (v2 (pu (pa pT (pl (show p1.size≤100000∧p2.size≤1000 from by first|omega|decide|exact ⟨by omega,by omega⟩|exact ⟨by omega,by decide⟩))) (pu (pl (show 0+(cg p1 p2)≤(cg p1 p2) from by first|omega|decide|exact ⟨by omega,by omega⟩|exact ⟨by omega,by decide⟩)) (v2 (pu (pa pT (pl (show p1.size≤1000∧p2.size≤1000 from by first|omega|decide|exact ⟨by omega,by omega⟩|exact ⟨by omega,by decide⟩))) (pu (pl (show 0+(aY p1 (az p2) 0)≤(aY p1 (az p2) 0) from by first|omega|decide|exact ⟨by omega,by omega⟩|exact ⟨by omega,by decide⟩)) (v2 (pg h7 (v1 (pu (pa pT (pl (show p1.size≤100000 from by first|omega|decide|exact ⟨by omega,by omega⟩|exact ⟨by omega,by decide⟩))) (pu (pl (show 0+(eG p1)≤(eG p1) from by first|omega|decide|exact ⟨by omega,by omega⟩|exact ⟨by omega,by decide⟩)) (v1 (pu (pa pT (pl (show p1.size≤10000∧(⟨#[110,111,110,101]⟩:ByteArray).size≤10000 from by first|omega|decide|exact ⟨by omega,by omega⟩|exact ⟨by omega,by decide⟩))) (pu (pl (show 0+(aS p1 (⟨#[110,111,110,101]⟩:ByteArray))≤(aS p1 (⟨#[110,111,110,101]⟩:ByteArray)) from by first|omega|decide|exact ⟨by omega,by omega⟩|exact ⟨by omega,by decide⟩)) (v3 pT))))))))))))))))))))))) ?_
 exact Xy [] pz (by simp only [bl,h1,h2,h3,h4,h5,h6,h7,aC,aB] <;> rfl)
 refine Xu [Eb 58 true,Eb 69 false] (some [0,0,3,7,0,0,55,119,255,511,1023,1023,4095,8191,1023,1023,57343,122879,262143,524287,1048575,2097151,4194303,8388607,2097151,25165823,58720255,134217727,268435455,536870911]) [Eb 6 false] [36,1,2] [] [] 992 (v2 (pu (pa pT (pl (show p1.size≤100000∧p2.size≤100000 from by first|omega|decide|exact ⟨by omega,by omega⟩|exact ⟨by omega,by decide⟩))) (pu (pl (show 0+(aG p1 p2)≤(aG p1 p2) from by first|omega|decide|exact ⟨by omega,by omega⟩|exact ⟨by omega,by decide⟩)) (v2 (pu (pa pT (pl (show p1.size≤10000∧p2.size≤10000 from by first|omega|decide|exact ⟨by omega,by omega⟩|exact ⟨by omega,by decide⟩))) (pu (pl (show 0+(am p1 p2)≤(am p1 p2) from by first|omega|decide|exact ⟨by omega,by omega⟩|exact ⟨by omega,by decide⟩)) (v1 (pg h6 (v2 (pu (pa pT (pl (show p1.size≤100000∧p2.size≤1000 from by first|omega|decide|exact ⟨by omega,by omega⟩|exact ⟨by omega,by decide⟩))) (pu (pl (show 0+(cg p1 p2)≤(cg p1 p2) from by first|omega|decide|exact ⟨by omega,by omega⟩|exact ⟨by omega,by decide⟩)) (v2 (pu (pa pT (pl (show p1.size≤1000∧p2.size≤1000 from by first|omega|decide|exact ⟨by omega,by omega⟩|exact ⟨by omega,by decide⟩))) (pu (pl (show 0+(aY p1 (az p2) 0)≤(aY p1 (az p2) 0) from by first|omega|decide|exact ⟨by omega,by omega⟩|exact ⟨by omega,by decide⟩)) (v2 (pg h7 (v9 pT))))))))))))))))) ?_
 exact Xy [] pz (by simp only [bl,h1,h2,h3,h4,h5,h6,h7,aC,aB] <;> rfl)
 refine Xu [Eb 58 false] (some [0,0,3,7,0,0,55,119,255,511,1023,1023,4095,8191,1023,1023,57343,122879,262143,524287,1048575,2097151,4194303,8388607,2097151,25165823,58720255,134217727,268435455,536870911]) [Eb 6 false] [36,1,2] [] [] 992 (v2 (pu (pa pT (pl (show p1.size≤100000∧p2.size≤100000 from by first|omega|decide|exact ⟨by omega,by omega⟩|exact ⟨by omega,by decide⟩))) (pu (pl (show 0+(aG p1 p2)≤(aG p1 p2) from by first|omega|decide|exact ⟨by omega,by omega⟩|exact ⟨by omega,by decide⟩)) (v2 (pu (pa pT (pl (show p1.size≤10000∧p2.size≤10000 from by first|omega|decide|exact ⟨by omega,by omega⟩|exact ⟨by omega,by decide⟩))) (pu (pl (show 0+(am p1 p2)≤(am p1 p2) from by first|omega|decide|exact ⟨by omega,by omega⟩|exact ⟨by omega,by decide⟩)) (v1 (pg h6 (v2 (v9 (v9 pT))))))))))) ?_
 exact Xy [] pz (by simp only [bl,h1,h2,h3,h4,h5,h6,aC,aB] <;> rfl)
 have h3':=bU h3
 refine Tri.split (((fR p2):Int) != 0) (fun h8=>?_) (fun h8=>?_)
 have h8':=cT h8
 exact Xu [Eb 39 true] (some [0,1,3,7,15,7,7,7,231,487,1023,2047]) [Eb 48 true] [29,8,7,0] [] [256] 592 (v2 (pg h8 (v9 pT))) <|Tri.cond_true (by kernel_rfl) <|Xs [Eb 6 false] [48,1,2] 608 (v1 pT) <|Xy [] pz (by simp only [bl,h1,h2,h3,h8,aC,aB] <;> rfl)
 have h8':=bU h8
 refine Xu [Eb 39 false] (some [0,1,3,7,15,7,7,7,231,487,1023,2047]) [Eb 48 (!(aQ (bytesOf (((fA p0 p1 p2).drop 0).take (cU p0 p1 p2))) (bytesOf (((jI p0 p1 p2).drop 0).take (et p0 p1 p2)))))] [29,8,7,0] [] [256] 592 (v2 (pg h8 (v1 (pu (pl (show 0+(cU p0 p1 p2)≤(cU p0 p1 p2) from by first|omega|decide|exact ⟨by omega,by omega⟩|exact ⟨by omega,by decide⟩)) (v3 (pu (pa pz (pl (show p0.length≤1000∧p1.size≤1000∧p2.size=32 from by first|omega|decide|exact ⟨by omega,by omega⟩|exact ⟨by omega,by decide⟩))) (pu (pl (show 0+(et p0 p1 p2)≤(et p0 p1 p2) from by first|omega|decide|exact ⟨by omega,by omega⟩|exact ⟨by omega,by decide⟩)) (v2 pT)))))))) ?_
 refine Xa (fun h9=>?_) (fun h9=>?_)
 exact Xs [Eb 6 false] [48,1,2] 608 (v1 pT) <|Xy [] pz (by simp only [bl,h1,h2,h3,h8,h9,aC,aB] <;> rfl)
 refine Tri.skip <|Tri.split (aQ (bytesOf (((cq p1 p2).drop 0).take (aG p1 p2))) (bytesOf (((dY p1 p2).drop 0).take (am p1 p2)))) (fun h10=>?_) (fun h10=>?_)
 refine Tri.split (aQ (bytesOf (((iS p1 p2).drop 0).take (cg p1 p2))) (bytesOf (((jb p1 p2).drop 0).take (aY p1 (az p2) 0)))) (fun h11=>?_) (fun h11=>?_)
 refine Xu [Eb 58 true,Eb 69 true] (some [0,0,3,7,0,0,55,119,255,511,1023,1023,4095,8191,1023,1023,57343,122879,262143,524287,1048575,2097151,4194303,8388607,2097151,25165823,58720255,134217727,268435455,536870911]) [Eb 6 (aQ (bytesOf (((lm p1).drop 0).take (eG p1))) (bytesOf (((cl p1 (⟨#[110,111,110,101]⟩:ByteArray)).drop 0).take (aS p1 (⟨#[110,111,110,101]⟩:ByteArray)))))] [48,1,2] [] [] 1072 (v2 (pu (pa pT (pl (show p1.size≤100000∧p2.size≤100000 from by first|omega|decide|exact ⟨by omega,by omega⟩|exact ⟨by omega,by decide⟩))) (pu (pl (show 0+(aG p1 p2)≤(aG p1 p2) from by first|omega|decide|exact ⟨by omega,by omega⟩|exact ⟨by omega,by decide⟩)) (v2 (pu (pa pT (pl (show p1.size≤10000∧p2.size≤10000 from by first|omega|decide|exact ⟨by omega,by omega⟩|exact ⟨by omega,by decide⟩))) (pu (pl (show 0+(am p1 p2)≤(am p1 p2) from by first|omega|decide|exact ⟨by omega,by omega⟩|exact ⟨by omega,by decide⟩)) (v1 (pg h10 (v2 (pu (pa pT (pl (show p1.size≤100000∧p2.size≤1000 from by first|omega|decide|exact ⟨by omega,by omega⟩|exact ⟨by omega,by decide⟩))) (pu (pl (show 0+(cg p1 p2)≤(cg p1 p2) from by first|omega|decide|exact ⟨by omega,by omega⟩|exact ⟨by omega,by decide⟩)) (v2 (pu (pa pT (pl (show p1.size≤1000∧p2.size≤1000 from by first|omega|decide|exact ⟨by omega,by omega⟩|exact ⟨by omega,by decide⟩))) (pu (pl (show 0+(aY p1 (az p2) 0)≤(aY p1 (az p2) 0) from by first|omega|decide|exact ⟨by omega,by omega⟩|exact ⟨by omega,by decide⟩)) (v2 (pg h11 (v1 (pu (pa pT (pl (show p1.size≤100000 from by first|omega|decide|exact ⟨by omega,by omega⟩|exact ⟨by omega,by decide⟩))) (pu (pl (show 0+(eG p1)≤(eG p1) from by first|omega|decide|exact ⟨by omega,by omega⟩|exact ⟨by omega,by decide⟩)) (v1 (pu (pa pT (pl (show p1.size≤10000∧(⟨#[110,111,110,101]⟩:ByteArray).size≤10000 from by first|omega|decide|exact ⟨by omega,by omega⟩|exact ⟨by omega,by decide⟩))) (pu (pl (show 0+(aS p1 (⟨#[110,111,110,101]⟩:ByteArray))≤(aS p1 (⟨#[110,111,110,101]⟩:ByteArray)) from by first|omega|decide|exact ⟨by omega,by omega⟩|exact ⟨by omega,by decide⟩)) (v3 pT))))))))))))))))))))))) ?_
 exact Xy [] pz (by simp only [bl,h1,h2,h3,h8,h9,h10,h11,aC,aB] <;> rfl)
 refine Xu [Eb 58 true,Eb 69 false] (some [0,0,3,7,0,0,55,119,255,511,1023,1023,4095,8191,1023,1023,57343,122879,262143,524287,1048575,2097151,4194303,8388607,2097151,25165823,58720255,134217727,268435455,536870911]) [Eb 6 false] [48,1,2] [] [] 1072 (v2 (pu (pa pT (pl (show p1.size≤100000∧p2.size≤100000 from by first|omega|decide|exact ⟨by omega,by omega⟩|exact ⟨by omega,by decide⟩))) (pu (pl (show 0+(aG p1 p2)≤(aG p1 p2) from by first|omega|decide|exact ⟨by omega,by omega⟩|exact ⟨by omega,by decide⟩)) (v2 (pu (pa pT (pl (show p1.size≤10000∧p2.size≤10000 from by first|omega|decide|exact ⟨by omega,by omega⟩|exact ⟨by omega,by decide⟩))) (pu (pl (show 0+(am p1 p2)≤(am p1 p2) from by first|omega|decide|exact ⟨by omega,by omega⟩|exact ⟨by omega,by decide⟩)) (v1 (pg h10 (v2 (pu (pa pT (pl (show p1.size≤100000∧p2.size≤1000 from by first|omega|decide|exact ⟨by omega,by omega⟩|exact ⟨by omega,by decide⟩))) (pu (pl (show 0+(cg p1 p2)≤(cg p1 p2) from by first|omega|decide|exact ⟨by omega,by omega⟩|exact ⟨by omega,by decide⟩)) (v2 (pu (pa pT (pl (show p1.size≤1000∧p2.size≤1000 from by first|omega|decide|exact ⟨by omega,by omega⟩|exact ⟨by omega,by decide⟩))) (pu (pl (show 0+(aY p1 (az p2) 0)≤(aY p1 (az p2) 0) from by first|omega|decide|exact ⟨by omega,by omega⟩|exact ⟨by omega,by decide⟩)) (v2 (pg h11 (v9 pT))))))))))))))))) ?_
 exact Xy [] pz (by simp only [bl,h1,h2,h3,h8,h9,h10,h11,aC,aB] <;> rfl)
 refine Xu [Eb 58 false] (some [0,0,3,7,0,0,55,119,255,511,1023,1023,4095,8191,1023,1023,57343,122879,262143,524287,1048575,2097151,4194303,8388607,2097151,25165823,58720255,134217727,268435455,536870911]) [Eb 6 false] [48,1,2] [] [] 1072 (v2 (pu (pa pT (pl (show p1.size≤100000∧p2.size≤100000 from by first|omega|decide|exact ⟨by omega,by omega⟩|exact ⟨by omega,by decide⟩))) (pu (pl (show 0+(aG p1 p2)≤(aG p1 p2) from by first|omega|decide|exact ⟨by omega,by omega⟩|exact ⟨by omega,by decide⟩)) (v2 (pu (pa pT (pl (show p1.size≤10000∧p2.size≤10000 from by first|omega|decide|exact ⟨by omega,by omega⟩|exact ⟨by omega,by decide⟩))) (pu (pl (show 0+(am p1 p2)≤(am p1 p2) from by first|omega|decide|exact ⟨by omega,by omega⟩|exact ⟨by omega,by decide⟩)) (v1 (pg h10 (v2 (v9 (v9 pT))))))))))) ?_
 exact Xy [] pz (by simp only [bl,h1,h2,h3,h8,h9,h10,aC,aB] <;> rfl)
end Go.Vm
namespace Go.Vm
open Go
def Dg (xs:List Int):Prop:=∀ x∈xs,0≤x∧x<256
theorem EL {xs:List Int} (n:Nat) (h:Dg xs):Dg (xs.drop n):=fun x hx=>h x (List.mem_of_mem_drop hx)
theorem wX {xs ys:List Int} (h:Dg xs) (h':Dg ys):Dg (xs++ys):=fun x hx=>(List.mem_append.1 hx).elim (h x) (h' x)
theorem qR:∀ {xs:List Int},Dg xs→aF (bytesOf xs)=xs:=by
 intro xs h
 unfold aF bytesOf
 simp only [List.map_map]
 conv=>rhs;rw [← List.map_id xs]
 refine List.map_congr_left fun x hx=>?_
 have:=h x hx
 show ((UInt8.ofNat x.toNat).toNat:Int)=x
 rw [UInt8.toNat_ofNat']
 omega
theorem qN (s:ByteArray):bytesOf (aF s)=s:=by
 unfold aF bytesOf
 obtain ⟨⟨l⟩⟩:=s
 have e:((fun n:Int=>UInt8.ofNat n.toNat) ∘ fun c:UInt8=>(c.toNat:Int))=id:=by
  funext c
  show UInt8.ofNat ((c.toNat:Int).toNat)=c
  rw [Int.toNat_natCast,UInt8.ofNat_toNat]
 simp only [List.map_map,e,List.map_id]
theorem nu (s:ByteArray):Dg (aF s):=by
 intro x hx
 unfold aF at hx
 obtain ⟨c,_,rfl⟩:=List.mem_map.1 hx
 have:=c.toNat_lt
 omega
theorem jo (s:ByteArray):aQ s s=true:=by simp [aQ]
def be4 (n:Nat):List Int:=[((n/16777216 % 256:Nat):Int),((n/65536 % 256:Nat):Int),((n/256 % 256:Nat):Int),((n % 256:Nat):Int)]
theorem HT (n:Nat):Dg (be4 n):=by
 intro x hx
 simp only [be4,List.mem_cons,List.not_mem_nil,or_false] at hx
 omega
theorem Bu (n:Nat) (h:n<4294967296):[(IntKind.wrap .u8 (aJ .u32 (IntKind.wrap .u32 (n:Int)) 24)),(IntKind.wrap .u8 (aJ .u32 (IntKind.wrap .u32 (n:Int)) 16)),(IntKind.wrap .u8 (aJ .u32 (IntKind.wrap .u32 (n:Int)) 8)),(IntKind.wrap .u8 (IntKind.wrap .u32 (n:Int)))]=be4 n:=by
 have e1:=ec .u32 (IntKind.wrap .u32 (n:Int)) 24 (by decide)
 have e2:=ec .u32 (IntKind.wrap .u32 (n:Int)) 16 (by decide)
 have e3:=ec .u32 (IntKind.wrap .u32 (n:Int)) 8 (by decide)
 have w:IntKind.wrap .u32 (n:Int)=(n:Int):=by rw [uY];omega
 rw [w] at e1 e2 e3 ⊢
 rw [show (24:Int)=((24:Nat):Int) from rfl,show (16:Int)=((16:Nat):Int) from rfl,show (8:Int)=((8:Nat):Int) from rfl,e1,e2,e3]
 have p1:(2:Int) ^ 24=16777216:=rfl
 have p2:(2:Int) ^ 16=65536:=rfl
 have p3:(2:Int) ^ 8=256:=rfl
 rw [p1,p2,p3,dC,dC,dC,dC]
 have q1:(n:Int)/16777216 % 256=((n/16777216 % 256:Nat):Int):=by omega
 have q2:(n:Int)/65536 % 256=((n/65536 % 256:Nat):Int):=by omega
 have q3:(n:Int)/256 % 256=((n/256 % 256:Nat):Int):=by omega
 have q4:(n:Int) % 256=((n % 256:Nat):Int):=by omega
 rw [q1,q2,q3,q4]
 rfl
def lz:List Int→Nat
 |[]=>0
 |x :: r=>if x=0 then lz r+1 else 0
def FX (p:List Int):List Int:=p.drop (lz p)
def pad (t:List Int):List Int:=sel (decide (t.getD 0 0 ≥ 128)) (0 :: t) t
def enc (p:List Int):List Int:=be4 (pad (FX p)).length++pad (FX p)
theorem EP (n:Nat) (h:n<4294967296):mn (IntKind.wrap .u32 ((n:Nat):Int))=be4 n:=Bu n h
theorem EU (k:Nat) (xs:List Int) (n:Nat) (h:n<4294967296):rE k xs (IntKind.wrap .u32 ((n:Nat):Int))=xs++be4 n:=congrArg (xs++·) (Bu n h)
theorem oJ (k:Nat) (xs:List Int) (s:ByteArray) (h:s.size<4294967296):cC k xs s=xs++be4 s.size++aF s:=by
 unfold cC
 rw [EU _ _ _ h]
theorem mp (s:ByteArray) (h:s.size<4294967296):el s=be4 s.size++aF s:=by
 unfold el
 rw [EP _ h]
theorem FM (n:Nat) (h:n<4294967296):qM ((n:Nat):Int)=be4 n:=by
 unfold qM be4
 have q1:fc .i64 ((n:Nat):Int) 16777216=((n/16777216:Nat):Int):=cQ (b:=16777216) (by omega)
 have q2:fc .i64 ((n:Nat):Int) 65536=((n/65536:Nat):Int):=cQ (b:=65536) (by omega)
 have q3:fc .i64 ((n:Nat):Int) 256=((n/256:Nat):Int):=cQ (b:=256) (by omega)
 rw [q1,q2,q3,dC,dC,dC,dC]
 refine List.ext_getElem rfl fun i h1 h2=>?_
 match i,h1 with
 |0,_=>show ((n/16777216:Nat):Int) % 256=((n/16777216 % 256:Nat):Int);omega
 |1,_=>show ((n/65536:Nat):Int) % 256=((n/65536 % 256:Nat):Int);omega
 |2,_=>show ((n/256:Nat):Int) % 256=((n/256 % 256:Nat):Int);omega
 |3,_=>show ((n:Nat):Int) % 256=((n % 256:Nat):Int);omega
theorem rG (s:ByteArray) (h:s.size<4294967296):gK s=be4 s.size++aF s:=by
 unfold gK
 rw [FM _ h]
abbrev Rd:=Option (List Int)
def nxO:Rd→Nat→Rd
 |some s,n=>if n≤s.length then some (s.drop n) else none
 |none,_=>none
theorem CM (s:List Int) (n:Nat):nxO (some s) n=if n≤s.length then some (s.drop n) else none:=rfl
def Fd (st:Rd):Prop:=∀ s,st=some s→Dg s∧s.length≤1000000000
theorem Fd.nx {st:Rd} (h:Fd st) (n:Nat):Fd (nxO st n):=by
 intro s hs
 cases st with
 |none=>cases hs
 |some t =>
  rw [CM] at hs
  split at hs
  ·cases hs
   exact ⟨EL _ (h t rfl).1,by rw [List.length_drop];have:=(h t rfl).2;omega⟩
  ·cases hs
theorem zT {a:List Int} {n:Nat} (h:n=a.length):aA a n 0 n=a:=aV h.symm
theorem CR {a:List Int} {n:Nat} (h:n=a.length):(a.drop 0).take n=a:=by rw [List.drop_zero,h,List.take_length]
end Go.Vm
namespace Go.Vm
open Go
theorem jG (s:ByteArray) (h:s.size≤1000):cA s=az s:=by
 unfold cA ph vG az nn
 rw [mp _ (by decide),oJ _ _ _ (by omega),rG _ (by decide),rG _ (by omega),zT (by rw [List.length_append,ai];rfl),List.append_assoc,Nat.add_assoc]
theorem DE (s:ByteArray) (h:s.size≤1000):rC (aA (aF s) s.size 0 s.size)=az s:=by
 rw [aV (ai s),← jG s h]
 unfold rC uN yF
 rw [qN]
 rfl
theorem HW (S:List Int) (hd:Dg S) (hS:S.length=64):rC S=az (bytesOf S):=by
 have s64:(bytesOf S).size=64:=by rw [ag,hS]
 have ss:=DE (bytesOf S) (by omega)
 rw [s64,qR hd,aV hS] at ss
 exact ss
end Go.Vm
namespace Go.Vm
open Go
abbrev gQ:ByteArray:=⟨#[115,115,104,45,99,111,110,110,101,99,116,105,111,110]⟩
abbrev sEd:ByteArray:=⟨#[115,115,104,45,101,100,50,53,53,49,57]⟩
abbrev sPk:ByteArray:=⟨#[112,117,98,108,105,99,107,101,121]⟩
abbrev sPw:ByteArray:=⟨#[112,97,115,115,119,111,114,100]⟩
abbrev sNo:ByteArray:=⟨#[110,111,110,101]⟩
def tx (s:ByteArray) (r:List Int):List Int:=be4 (aF s).length++aF s++r
theorem it (s:ByteArray) (r q:List Int):tx s r++q=tx s (r++q):=by unfold tx;rw [List.append_assoc]
theorem sf {s:ByteArray} {r:List Int} (h:Dg r):Dg (tx s r):=wX (wX (HT _) (nu _)) h
theorem Bp {a:Int} {r:List Int} (ha:0≤a∧a<256) (h:Dg r):Dg (a :: r):=fun x hx=>by
 rcases List.mem_cons.1 hx with e|e
 ·rw [e];exact ha
 ·exact h x e
theorem GU:Dg []:=fun x hx=>by cases hx
theorem uL (s:ByteArray) (r:List Int):(tx s r).length=4+s.size+r.length:=by unfold tx;rw [List.length_append,List.length_append,ai];rfl
theorem wt (k:Nat) (xs:List Int) (s:ByteArray) (h:s.size<4294967296):cC k xs s=xs++tx s []:=by rw [oJ k xs s h];unfold tx;rw [ai,List.append_nil,List.append_assoc]
theorem wf (k:Nat) (xs:List Int) (b:Bool):ff k xs b=xs++[if b then 1 else 0]:=by cases b <;> rfl
theorem mV (u m:ByteArray) (hu:u.size≤100000) (hm:m.size≤100000):iQ u m=50 :: tx u (tx gQ (tx m [])):=by
 unfold iQ mS qn
 rw [wt _ _ _ (by omega),wt _ _ _ (by decide),wt _ _ _ (by omega)]
 simp only [it,List.append_assoc,List.cons_append,List.nil_append]
theorem Gf (u b:ByteArray) (hu:u.size≤100000) (hb:b.size≤1000):iS u b=50 :: tx u (tx gQ (tx sPk (0 :: tx sEd (tx (cA b) [])))):=by
 have hz:=jn b
 unfold iS ml pR pY pi
 rw [wt _ _ _ (by omega),wt _ _ _ (by decide),wf,mV _ _ hu (by decide)]
 simp only [it,List.append_assoc,List.cons_append,List.nil_append]
 rfl
end Go.Vm
namespace Go.Vm
open Go
def num (B:Int):List Int→Int
 |[]=>0
 |a :: bs=>a+B*num B bs
def bK (B:Int):Nat→Int→List Int
 |0,_=>[]
 |n+1,v=>v % B :: bK B n (v/B)
def Dig (B:Int) (xs:List Int):Prop:=∀ x∈xs,0≤x∧x<B
theorem ep (B a:Int) (bs:List Int):num B (a :: bs)=a+B*num B bs:=rfl
theorem fD (B v:Int) (n:Nat):bK B (n+1) v=v % B :: bK B n (v/B):=rfl
theorem Dig.cons {B a:Int} {bs:List Int} (h:Dig B (a :: bs)):(0≤a∧a<B)∧Dig B bs :=
 ⟨h a (by simp),fun x hx=>h x (List.mem_cons_of_mem _ hx)⟩
theorem Dig.mk_cons {B a:Int} {bs:List Int} (h:0≤a∧a<B) (h':Dig B bs):Dig B (a :: bs):=by
 intro x hx
 rcases List.mem_cons.1 hx with rfl|hx
 ·exact h
 ·exact h' x hx
theorem Dig.nil {B:Int}:Dig B []:=fun _ h=>by cases h
theorem nV {a b:Nat} (h:a≤b):(2:Int) ^ a≤2 ^ b:=by
 obtain ⟨d,rfl⟩:=Nat.exists_eq_add_of_le h
 have h1:(0:Int)<2 ^ a:=Int.pow_pos (by decide)
 have h2:(0:Int)<2 ^ d:=Int.pow_pos (by decide)
 have h3:=Int.mul_le_mul_of_nonneg_left (a:=1) (b:=2 ^ d) (c:=2 ^ a) (by omega) (by omega)
 rw [Int.pow_add]
 omega
theorem fM {B:Int} (hB:0<B) (n:Nat):0<B ^ n:=Int.pow_pos hB
theorem iC {B:Int} (hB:0<B):∀ {xs:List Int},Dig B xs→0≤num B xs∧num B xs<B ^ xs.length
 |[],_=>by simp [num]
 |a :: bs,h=>by
  obtain ⟨ha,hs⟩:=h.cons
  obtain ⟨h1,h2⟩:=iC hB hs
  have h3:0≤B*num B bs:=Int.mul_nonneg (by omega) h1
  have h4:B*(num B bs+1)≤B*B ^ bs.length:=Int.mul_le_mul_of_nonneg_left (by omega) (by omega)
  rw [ep,List.length_cons,Int.pow_succ,Int.mul_comm (B ^ _) B]
  rw [Int.mul_add] at h4
  omega
theorem aa (B:Int):∀ (n:Nat) (v:Int),(bK B n v).length=n
 |0,_=>rfl
 |n+1,v=>by rw [fD,List.length_cons,aa B n]
theorem cW {B:Int} (hB:0<B):∀ (n:Nat) (v:Int),Dig B (bK B n v)
 |0,_=>Dig.nil
 |n+1,v=>Dig.mk_cons ⟨Int.emod_nonneg _ (by omega),Int.emod_lt_of_pos _ hB⟩ (cW hB n _)
theorem eM {B:Int} (hB:0<B):∀ (n:Nat) (v:Int),num B (bK B n v)=v % B ^ n
 |0,v=>by simp [bK,num]
 |n+1,v=>by
  rw [fD,ep,eM hB n,Int.pow_succ,Int.mul_comm (B ^ n) B]
  have h1:=Int.emod_nonneg v (b:=B) (by omega)
  have h2:=Int.emod_lt_of_pos v hB
  have h3:=Int.emod_add_mul_ediv v B
  have h4:=Int.emod_add_mul_ediv (v/B) (B ^ n)
  have hn:=fM hB n
  have h5:=Int.emod_nonneg (v/B) (b:=B ^ n) (by omega)
  have h6:=Int.emod_lt_of_pos (v/B) hn
  have h7:B*(v/B % B ^ n+1)≤B*B ^ n:=Int.mul_le_mul_of_nonneg_left (by omega) (by omega)
  have h8:0≤B*(v/B % B ^ n):=Int.mul_nonneg (by omega) h5
  rw [Int.mul_add] at h7
  have e:v=(v % B+B*(v/B % B ^ n))+(B*B ^ n)*(v/B/B ^ n):=by
   rw [Int.mul_assoc]
   rw [Int.add_assoc,← Int.mul_add,h4,h3]
  have e2:v % (B*B ^ n)=(v % B+B*(v/B % B ^ n)) % (B*B ^ n):=by
   conv=>lhs;rw [e]
   rw [Int.add_mul_emod_self_left]
  rw [e2]
  exact (Int.emod_eq_of_lt (by omega) (by omega)).symm
theorem mR {B:Int} (hB:0<B):∀ {xs:List Int},Dig B xs→bK B xs.length (num B xs)=xs
 |[],_=>rfl
 |a :: bs,h=>by
  obtain ⟨ha,hs⟩:=h.cons
  rw [List.length_cons,fD,ep,Int.add_mul_emod_self_left,Int.emod_eq_of_lt ha.1 ha.2,Int.add_mul_ediv_left _ _ (by omega),Int.ediv_eq_zero_of_lt ha.1 ha.2,Int.zero_add,mR hB hs]
theorem ic {B:Int} (hB:0<B) {xs:List Int} {n:Nat} {v:Int} (h:Dig B xs) (hn:xs.length=n) (hv:num B xs=v):xs=bK B n v:=by
 rw [← mR hB h,hn,hv]
theorem ew {B:Int}:∀ {xs:List Int} {i:Nat} {x:Int},i<xs.length→num B (xs.set i x)=num B xs+(x-xs.getD i 0)*B ^ i
 |[],i,x,h=>by simp at h
 |a :: bs,0,x,h=>by simp [num];omega
 |a :: bs,i+1,x,h=>by
  have:=ew (B:=B) (xs:=bs) (i:=i) (x:=x) (by simpa using h)
  rw [List.set_cons_succ,ep,this,ep,List.getD_cons_succ,Int.pow_succ,Int.mul_add]
  have:B*((x-bs.getD i 0)*B ^ i)=(x-bs.getD i 0)*(B ^ i*B):=by rw [Int.mul_comm B,Int.mul_assoc]
  omega
theorem ky {B:Int} {xs:List Int} {i:Nat} {x:Int} (h:Dig B xs) (hx:0≤x∧x<B):Dig B (xs.set i x):=by
 intro y hy
 rcases List.mem_or_eq_of_mem_set hy with h1|h1
 ·exact h y h1
 ·rw [h1];exact hx
theorem iF {B:Int} (hB:0<B):∀ {xs:List Int} {i:Nat},Dig B xs→xs.getD i 0=num B xs/B ^ i % B
 |[],i,h=>by simp [num]
 |a :: bs,0,h=>by
  obtain ⟨ha,hs⟩:=h.cons
  rw [List.getD_cons_zero,ep,Int.pow_zero,Int.ediv_one,Int.add_mul_emod_self_left,Int.emod_eq_of_lt ha.1 ha.2]
 |a :: bs,i+1,h=>by
  obtain ⟨ha,hs⟩:=h.cons
  rw [List.getD_cons_succ,iF hB (i:=i) hs,ep,Int.pow_succ,Int.mul_comm (B ^ i) B,← Int.ediv_ediv_of_nonneg (by omega),Int.add_mul_ediv_left _ _ (by omega),Int.ediv_eq_zero_of_lt ha.1 ha.2,Int.zero_add]
theorem ak {B:Int} (hB:0<B) {xs:List Int} {i:Nat} (h:Dig B xs):0≤xs.getD i 0∧xs.getD i 0<B:=by
 rw [iF hB h]
 exact ⟨Int.emod_nonneg _ (by omega),Int.emod_lt_of_pos _ hB⟩
theorem du {B:Int}:∀ {xs:List Int} {i:Nat},num B (xs.take (i+1))=num B (xs.take i)+xs.getD i 0*B ^ i
 |[],i=>by simp [num]
 |a :: bs,0=>by simp [num]
 |a :: bs,i+1=>by
  have:=du (B:=B) (xs:=bs) (i:=i)
  rw [List.take_succ_cons,ep,this,List.take_succ_cons,ep,List.getD_cons_succ,Int.pow_succ,Int.mul_add]
  have:B*(bs.getD i 0*B ^ i)=bs.getD i 0*(B ^ i*B):=by rw [Int.mul_comm B,Int.mul_assoc]
  omega
theorem gu (B:Int):∀ n,num B (List.replicate n 0)=0
 |0=>rfl
 |n+1=>by rw [List.replicate_succ,ep,gu B n];simp
theorem rV (x:Int) {m r:Nat} (h:r<m):x % 2 ^ m/2 ^ r % 2=x/2 ^ r % 2:=by
 obtain ⟨d,rfl⟩:∃ d,m=r+(d+1):=⟨m-r-1,by omega⟩
 have hr:=fM (B:=2) (by decide) r
 have e1:=Int.emod_add_mul_ediv x (2 ^ (r+(d+1)))
 have e2:x/2 ^ r=x % 2 ^ (r+(d+1))/2 ^ r+2*(2 ^ d*(x/2 ^ (r+(d+1)))):=by
  conv=>lhs;rw [← e1]
  rw [Int.pow_add,Int.mul_assoc,Int.add_mul_ediv_left _ _ (by omega),Int.pow_succ,Int.mul_comm (2 ^ d) 2,Int.mul_assoc]
 rw [e2,Int.add_mul_emod_self_left]
theorem hO {m:Nat} (hm:0<m) {xs:List Int} (h:Dig (2 ^ m) xs) (k:Nat):xs.getD (k/m) 0/2 ^ (k % m) % 2=num (2 ^ m) xs/2 ^ k % 2:=by
 have hB:=fM (B:=2) (by decide) m
 rw [iF hB h,rV _ (Nat.mod_lt _ hm),Int.ediv_ediv_of_nonneg (Int.le_of_lt (fM hB _)),← Int.pow_mul,← Int.pow_add,Nat.div_add_mod]
theorem ya (x:Int) (k:Nat):x % 2 ^ (k+1)=x % 2 ^ k+x/2 ^ k % 2*2 ^ k:=by
 have hk:=fM (B:=2) (by decide) k
 have e1:=Int.emod_add_mul_ediv x (2 ^ k)
 have e2:=Int.emod_add_mul_ediv (x/2 ^ k) 2
 have h1:=Int.emod_nonneg x (b:=2 ^ k) (by omega)
 have h2:=Int.emod_lt_of_pos x hk
 have e:x=(x % 2 ^ k+x/2 ^ k % 2*2 ^ k)+2 ^ (k+1)*(x/2 ^ k/2):=by
  rw [Int.pow_succ,Int.mul_assoc,Int.add_assoc,Int.mul_comm (x/2 ^ k % 2),← Int.mul_add,e2,e1]
 conv=>lhs;rw [e]
 rw [Int.add_mul_emod_self_left]
 rcases Int.emod_two_eq (x/2 ^ k) with h|h <;> rw [h,Int.pow_succ] <;> exact Int.emod_eq_of_lt (by omega) (by omega)
theorem yA (u v:Int) (n:Nat) (hu:0≤u) (hv:0≤v) (hv':v<2 ^ n) (h:u*2 ^ n+v<18446744073709551616):iOr .u64 (u*2 ^ n) v=u*2 ^ n+v:=by
 obtain ⟨a,rfl⟩:=Int.eq_ofNat_of_zero_le hu
 obtain ⟨b,rfl⟩:=Int.eq_ofNat_of_zero_le hv
 have hb:b<2 ^ n:=by
  have h0:((2:Int) ^ n)=((2 ^ n:Nat):Int):=by rw [Int.natCast_pow];rfl
  have h1:(b:Int)<2 ^ n:=hv'
  rw [h0] at h1
  exact Int.ofNat_lt.1 h1
 have hab:a*2 ^ n+b<18446744073709551616:=by
  have h0:((a:Int)*2 ^ n)=((a*2 ^ n:Nat):Int):=by rw [Int.natCast_mul,Int.natCast_pow];rfl
  have h1:((a:Int))*2 ^ n+(b:Int)<18446744073709551616:=h
  rw [h0] at h1
  omega
 have e:((a:Int)*2 ^ n)=((a*2 ^ n:Nat):Int):=by rw [Int.natCast_mul,Int.natCast_pow];rfl
 rw [e]
 unfold iOr
 rw [eJ]
 show (((BitVec.ofInt 64 ((a*2 ^ n:Nat):Int) ||| BitVec.ofInt 64 (b:Int)).toNat:Nat):Int) % 18446744073709551616=_
 rw [BitVec.ofInt_natCast,BitVec.ofInt_natCast,BitVec.toNat_or,BitVec.toNat_ofNat,BitVec.toNat_ofNat,Nat.mod_eq_of_lt (a:=a*2 ^ n) (by omega),Nat.mod_eq_of_lt (a:=b) (by omega)]
 have:a*2 ^ n ||| b=a*2 ^ n+b:=by
  rw [Nat.mul_comm];exact (Nat.two_pow_add_eq_or_of_lt hb a).symm
 rw [this]
 omega
theorem zN {m n k:Nat} (hm:0<m) (hk:k<m*n) {t:List Int} {v x:Int} (ht:Dig (2 ^ m) t) (hn:t.length=n) (hv:num (2 ^ m) t=v % 2 ^ k) (hx:x=t.getD (k/m) 0+v/2 ^ k % 2*2 ^ (k % m)) :
  t.getD (k/m) 0<2 ^ (k % m)∧Dig (2 ^ m) (t.set (k/m) x)∧(t.set (k/m) x).length=n∧num (2 ^ m) (t.set (k/m) x)=v % 2 ^ (k+1):=by
 have hB:=fM (B:=2) (by decide) m
 have hr:k % m<m:=Nat.mod_lt _ hm
 have hi:k/m<n:=by rw [Nat.div_lt_iff_lt_mul hm,Nat.mul_comm];exact hk
 have hpk:=fM (B:=2) (by decide) k
 have hpr:=fM (B:=2) (by decide) (k % m)
 have h0:=ak hB ht (i:=k/m)
 have hg:t.getD (k/m) 0<2 ^ (k % m):=by
  have h1:0≤v % 2 ^ k:=Int.emod_nonneg _ (by omega)
  have h2:v % 2 ^ k<2 ^ k:=Int.emod_lt_of_pos _ hpk
  have e:(2:Int) ^ k=2 ^ (k % m)*(2 ^ m) ^ (k/m):=by
   rw [← Int.pow_mul,← Int.pow_add,Nat.mod_add_div]
  have h3:v % 2 ^ k/(2 ^ m) ^ (k/m)<2 ^ (k % m):=by
   apply Int.ediv_lt_of_lt_mul (fM hB _)
   rw [← e];exact h2
  have h4:0≤v % 2 ^ k/(2 ^ m) ^ (k/m):=Int.ediv_nonneg h1 (Int.le_of_lt (fM hB _))
  have h5:(2:Int) ^ (k % m)≤2 ^ m:=nV (by omega)
  rw [iF hB ht,hv,Int.emod_eq_of_lt h4 (by omega)]
  exact h3
 refine ⟨hg,ky ht ?_,by rw [List.length_set,hn],?_⟩
 ·have h5:(2:Int) ^ (k % m+1)≤2 ^ m:=nV (by omega)
  rw [Int.pow_succ] at h5
  rw [hx]
  rcases Int.emod_two_eq (v/2 ^ k) with h|h <;> rw [h] <;> omega
 ·rw [ew (by omega),hv,hx,ya]
  have e:(v/2 ^ k % 2*2 ^ (k % m))*(2 ^ m) ^ (k/m)=v/2 ^ k % 2*2 ^ k:=by
   rw [Int.mul_assoc,← Int.pow_mul,← Int.pow_add,Nat.mod_add_div]
  rw [← e]
  congr 2
  omega
end Go.Vm
namespace Go.Vm
open Go
def cO:List Int→Int
 |[a,b,c,d,e]=>a+b*2251799813685248+c*5070602400912917605986812821504+d*11417981541647679048466287755595961091061972992+e*25711008708143844408671393477458601640355247900524685364822016
 |_=>0
theorem rl (x:Int):aJ .u64 x 51=x/2251799813685248:=ec .u64 x 51 (by decide)
theorem FW (x:Int):aM .u64 x 2251799813685247=x % 2251799813685248:=kw x 51 (by decide)
theorem ga {a b c d e:Int} (ha:0≤a∧a<9223372036854775808) (hb:0≤b∧b<9223372036854775808) (hc:0≤c∧c<9223372036854775808) (hd:0≤d∧d<9223372036854775808) (he:0≤e∧e<9223372036854775808) :
  ∃ q r0 r1 r2 r3 r4:Int,F45 [a,b,c,d,e]=[r0,r1,r2,r3,r4]∧(0≤r0∧r0<2251799813685248+19*4097)∧(0≤r1∧r1<2251799813685248)∧(0≤r2∧r2<2251799813685248)∧(0≤r3∧r3<2251799813685248)∧(0≤r4∧r4<2251799813685248) ∧
   cO [a,b,c,d,e]=cO [r0,r1,r2,r3,r4]+q*57896044618658097711785492504343953926634992332820282019728792003956564819949:=by
 have e1:t1 a=a:=by unfold t1;rw [dA];omega
 have e2:t2 a b=b+a/2251799813685248:=by unfold t2;rw [e1,dA,rl];omega
 have e3:t3 a b c=c+(b+a/2251799813685248)/2251799813685248:=by unfold t3;rw [e2,dA,rl];omega
 have e4:t4 a b c d=d+(c+(b+a/2251799813685248)/2251799813685248)/2251799813685248:=by unfold t4;rw [e3,dA,rl];omega
 have e5:t5 a b c d e=e+(d+(c+(b+a/2251799813685248)/2251799813685248)/2251799813685248)/2251799813685248:=by unfold t5;rw [e4,dA,rl];omega
 rw [BE]
 simp only [zn,FW,rl,e1,e2,e3,e4,e5,dA,jD]
 generalize ha':a/2251799813685248=a1
 generalize hb':(b+a1)/2251799813685248=b1
 generalize hc':(c+b1)/2251799813685248=c1
 generalize hd':(d+c1)/2251799813685248=d1
 generalize he':(e+d1)/2251799813685248=e6
 clear e1 e2 e3 e4 e5
 have h1:0≤a1∧a1≤4095:=by omega
 have h2:0≤b1∧b1≤4096:=by omega
 have h3:0≤c1∧c1≤4096:=by omega
 have h4:0≤d1∧d1≤4096:=by omega
 have h5:0≤e6∧e6≤4096:=by omega
 have h6:19*e6 % 18446744073709551616=19*e6:=Int.emod_eq_of_lt (by omega) (by omega)
 have h7:(a % 2251799813685248+19*e6) % 18446744073709551616=a % 2251799813685248+19*e6:=Int.emod_eq_of_lt (by omega) (by omega)
 rw [h6,h7]
 refine ⟨e6,_,_,_,_,_,rfl,?_,?_,?_,?_,?_,?_⟩
 ·omega
 ·omega
 ·omega
 ·omega
 ·omega
 ·simp only [cO]
  omega
abbrev PF:Int:=57896044618658097711785492504343953926634992332820282019728792003956564819949
def Fe (xs:List Int):Prop:=∃ a b c d e,xs=[a,b,c,d,e]∧(0≤a∧a<4503599627370496)∧(0≤b∧b<4503599627370496)∧(0≤c∧c<4503599627370496)∧(0≤d∧d<4503599627370496)∧(0≤e∧e<4503599627370496)
theorem pX {x y q:Int} (h:x=y+q*PF):x % PF=y % PF:=by
 rw [h,Int.add_mul_emod_self_right]
theorem GT (a b c d e a' b' c' d' e':Int):F16 [a,b,c,d,e] [a',b',c',d',e']=F45 [aD .u64 a a',aD .u64 b b',aD .u64 c c',aD .u64 d d',aD .u64 e e']:=by
 unfold F16
 congr 1
 kernel_rfl
theorem yj {x y:List Int} (hx:Fe x) (hy:Fe y):Fe (F16 x y)∧cO (F16 x y) % PF=(cO x+cO y) % PF:=by
 obtain ⟨a,b,c,d,e,rfl,ha,hb,hc,hd,he⟩:=hx
 obtain ⟨a',b',c',d',e',rfl,ha',hb',hc',hd',he'⟩:=hy
 have s:∀ u v:Int,(0≤u∧u<4503599627370496)→(0≤v∧v<4503599627370496)→aD .u64 u v=u+v:=by
  intro u v hu hv
  rw [dA];exact Int.emod_eq_of_lt (by omega) (by omega)
 rw [GT,s a a' ha ha',s b b' hb hb',s c c' hc hc',s d d' hd hd',s e e' he he']
 obtain ⟨q,r0,r1,r2,r3,r4,h,h0,h1,h2,h3,h4,hv⟩:=ga (a:=a+a') (b:=b+b') (c:=c+c') (d:=d+d') (e:=e+e') (by omega) (by omega) (by omega) (by omega) (by omega)
 rw [h]
 refine ⟨⟨r0,r1,r2,r3,r4,rfl,by omega,by omega,by omega,by omega,by omega⟩,?_⟩
 have:cO [a,b,c,d,e]+cO [a',b',c',d',e']=cO [r0,r1,r2,r3,r4]+q*PF:=by
  rw [← hv];simp only [cO];omega
 exact (pX this).symm
theorem Gz (a b c d e r0 r1 r2 r3 r4:Int) {y:List Int} (h:F45 y=[r0,r1,r2,r3,r4]):F18 [a,b,c,d,e] y=F45 [aD .u64 a (aT .u64 9007199254740916 r0),aD .u64 b (aT .u64 9007199254740988 r1),aD .u64 c (aT .u64 9007199254740988 r2),aD .u64 d (aT .u64 9007199254740988 r3),aD .u64 e (aT .u64 9007199254740988 r4)]:=by
 unfold F18 xh
 rw [h]
 congr 1
 kernel_rfl
theorem xr {x y:List Int} (hx:Fe x) (hy:Fe y):Fe (F18 x y)∧cO (F18 x y) % PF=(cO x-cO y) % PF:=by
 obtain ⟨a,b,c,d,e,rfl,ha,hb,hc,hd,he⟩:=hx
 obtain ⟨a',b',c',d',e',rfl,ha',hb',hc',hd',he'⟩:=hy
 obtain ⟨q',r0',r1',r2',r3',r4',h',h0',h1',h2',h3',h4',hv'⟩:=ga (a:=a') (b:=b') (c:=c') (d:=d') (e:=e') (by omega) (by omega) (by omega) (by omega) (by omega)
 have s:∀ k u v:Int,(9007199254740916≤k∧k≤9007199254740988)→(0≤u∧u<4503599627370496)→(0≤v∧v<4503599627370496)→aD .u64 u (aT .u64 k v)=u+(k-v):=by
  intro k u v hk hu hv
  rw [dA,vh,Int.emod_eq_of_lt (a:=k-v) (by omega) (by omega)];exact Int.emod_eq_of_lt (by omega) (by omega)
 rw [Gz a b c d e r0' r1' r2' r3' r4' h',s _ a r0' (by decide) ha (by omega),s _ b r1' (by decide) hb (by omega),s _ c r2' (by decide) hc (by omega),s _ d r3' (by decide) hd (by omega),s _ e r4' (by decide) he (by omega)]
 obtain ⟨q,r0,r1,r2,r3,r4,h,h0,h1,h2,h3,h4,hv⟩:=ga (a:=a+(9007199254740916-r0')) (b:=b+(9007199254740988-r1')) (c:=c+(9007199254740988-r2')) (d:=d+(9007199254740988-r3')) (e:=e+(9007199254740988-r4')) (by omega) (by omega) (by omega) (by omega) (by omega)
 rw [h]
 refine ⟨⟨r0,r1,r2,r3,r4,rfl,by omega,by omega,by omega,by omega,by omega⟩,?_⟩
 have:cO [a,b,c,d,e]-cO [a',b',c',d',e']=cO [r0,r1,r2,r3,r4]+(q-q'-4)*PF:=by
  simp only [cO,PF] at hv hv' ⊢
  omega
 exact (pX this).symm
end Go.Vm
namespace Go.Vm
open Go
def W (p:Int × Int) (x y:Int):Int × Int:=(cN p.1 (jr x y) (bp p.2 (eL x y) 0),cN p.2 (eL x y) 0)
theorem vB {p:Int × Int} {x y:Int} (h1:0≤p.1) (h2:0≤p.2) (h2':p.2<18446744073709551616) (hx:0≤x) (hy:0≤y) (hb:p.1*18446744073709551616+p.2+x*y<340282366920938463463374607431768211456) :
  0≤(W p x y).1∧0≤(W p x y).2∧(W p x y).2<18446744073709551616∧(W p x y).1*18446744073709551616+(W p x y).2=p.1*18446744073709551616+p.2+x*y:=by
 have hxy:0≤x*y:=Int.mul_nonneg hx hy
 simp only [W,cN,bp,jr,eL]
 generalize x*y=m at *
 generalize p.1=a at *
 generalize p.2=b at *
 have e1:(a+m/18446744073709551616+(b+m % 18446744073709551616+0)/18446744073709551616) % 18446744073709551616=a+m/18446744073709551616+(b+m % 18446744073709551616+0)/18446744073709551616 :=
  Int.emod_eq_of_lt (by omega) (by omega)
 rw [e1]
 omega
theorem HX {x y:List Int} {f0 f1 f2 f3 f4 g0 g1 g2 g3 g4:Int} (hx:F45 x=[f0,f1,f2,f3,f4]) (hy:F45 y=[g0,g1,g2,g3,g4]) :
  itr (fg x y) 5 [0,0,0,0,0,0,0,0,0,0] =
   let n:=fun g=>bJ .u64 g 19
   let c0:=W (W (W (W (W (0,0) f0 g0) f1 (n g4)) f2 (n g3)) f3 (n g2)) f4 (n g1)
   let c1:=W (W (W (W (W (0,0) f0 g1) f1 g0) f2 (n g4)) f3 (n g3)) f4 (n g2)
   let c2:=W (W (W (W (W (0,0) f0 g2) f1 g1) f2 g0) f3 (n g4)) f4 (n g3)
   let c3:=W (W (W (W (W (0,0) f0 g3) f1 g2) f2 g1) f3 g0) f4 (n g4)
   let c4:=W (W (W (W (W (0,0) f0 g4) f1 g3) f2 g2) f3 g1) f4 g0
   [c0.1,c0.2,c1.1,c1.2,c2.1,c2.2,c3.1,c3.2,c4.1,c4.2]:=by
 unfold fg yE
 rw [hx,hy]
 kernel_rfl
theorem kc {x y:Int} (hx:0≤x∧x<4503599627370496) (hy:0≤y∧y<144115188075855872):0≤x*y∧x*y≤649037107316853453566312041152512:=by
 refine ⟨Int.mul_nonneg hx.1 hy.1,?_⟩
 have h:=Int.mul_le_mul (a:=x) (b:=y) (c:=4503599627370496) (d:=144115188075855872) (by omega) (by omega) hy.1 (by omega)
 have e:(4503599627370496:Int)*144115188075855872=649037107316853453566312041152512:=by decide
 omega
theorem W5 {x0 x1 x2 x3 x4 y0 y1 y2 y3 y4:Int} (hx0:0≤x0∧x0<4503599627370496) (hx1:0≤x1∧x1<4503599627370496) (hx2:0≤x2∧x2<4503599627370496) (hx3:0≤x3∧x3<4503599627370496) (hx4:0≤x4∧x4<4503599627370496)
  (hy0:0≤y0∧y0<144115188075855872) (hy1:0≤y1∧y1<144115188075855872) (hy2:0≤y2∧y2<144115188075855872) (hy3:0≤y3∧y3<144115188075855872) (hy4:0≤y4∧y4<144115188075855872) :
  ∃ h l:Int,W (W (W (W (W (0,0) x0 y0) x1 y1) x2 y2) x3 y3) x4 y4=(h,l)∧(0≤h∧h<2251799813685247)∧(0≤l∧l<18446744073709551616)∧h*18446744073709551616+l=x0*y0+x1*y1+x2*y2+x3*y3+x4*y4:=by
 have b0:=kc hx0 hy0
 have b1:=kc hx1 hy1
 have b2:=kc hx2 hy2
 have b3:=kc hx3 hy3
 have b4:=kc hx4 hy4
 obtain ⟨p1,p2,p3,p4⟩:=vB (p:=(0,0)) (x:=x0) (y:=y0) (by decide) (by decide) (by decide) hx0.1 hy0.1 (by simp only;omega)
 obtain ⟨q1,q2,q3,q4⟩:=vB (p:=W (0,0) x0 y0) (x:=x1) (y:=y1) p1 p2 p3 hx1.1 hy1.1 (by simp only at p4;omega)
 obtain ⟨r1,r2,r3,r4⟩:=vB (p:=W (W (0,0) x0 y0) x1 y1) (x:=x2) (y:=y2) q1 q2 q3 hx2.1 hy2.1 (by simp only at p4;omega)
 obtain ⟨s1,s2,s3,s4⟩:=vB (p:=W (W (W (0,0) x0 y0) x1 y1) x2 y2) (x:=x3) (y:=y3) r1 r2 r3 hx3.1 hy3.1 (by simp only at p4;omega)
 obtain ⟨t1,t2,t3,t4⟩:=vB (p:=W (W (W (W (0,0) x0 y0) x1 y1) x2 y2) x3 y3) (x:=x4) (y:=y4) s1 s2 s3 hx4.1 hy4.1 (by simp only at p4;omega)
 have tot:(W (W (W (W (W (0,0) x0 y0) x1 y1) x2 y2) x3 y3) x4 y4).1*18446744073709551616+(W (W (W (W (W (0,0) x0 y0) x1 y1) x2 y2) x3 y3) x4 y4).2=x0*y0+x1*y1+x2*y2+x3*y3+x4*y4:=by
  simp only at p4;omega
 refine ⟨(W (W (W (W (W (0,0) x0 y0) x1 y1) x2 y2) x3 y3) x4 y4).1,(W (W (W (W (W (0,0) x0 y0) x1 y1) x2 y2) x3 y3) x4 y4).2,rfl,⟨t1,?_⟩,⟨t2,t3⟩,tot⟩
 clear p4 q4 r4 s4 t4 p1 p2 p3 q1 q2 q3 r1 r2 r3 s1 s2 s3
 have bd:x0*y0+x1*y1+x2*y2+x3*y3+x4*y4≤3245185536584267267831560205762560:=by omega
 rw [← tot] at bd
 omega
end Go.Vm
namespace Go.Vm
open Go
theorem zc {h l r:Int} (hh:0≤h) (hl:0≤l∧l<18446744073709551616) (hr:0≤r∧r<18446744073709551616) (hb:h<2251799813685247) :
  iOr .u64 (cd .u64 (aD .u64 h (bp l r 0)) 13) (aJ .u64 (cN l r 0) 51)=(h*18446744073709551616+l+r)/2251799813685248 ∧
  aM .u64 (cN l r 0) 2251799813685247=(h*18446744073709551616+l+r) % 2251799813685248:=by
 have s51:∀ x:Int,aJ .u64 x 51=x/2251799813685248:=fun x=>ec .u64 x 51 (by decide)
 have a51:∀ x:Int,aM .u64 x 2251799813685247=x % 2251799813685248:=fun x=>kw x 51 (by decide)
 have l13:∀ x:Int,cd .u64 x 13=(x*8192) % 18446744073709551616:=fun x=>by rw [show (13:Int)=((13:Nat):Int) from rfl,mK .u64 x 13 (by decide),eJ];rfl
 rw [s51,a51,l13,dA]
 simp only [cN,bp]
 have e1:(h+(l+r+0)/18446744073709551616) % 18446744073709551616=h+(l+r+0)/18446744073709551616:=Int.emod_eq_of_lt (by omega) (by omega)
 rw [e1]
 have e2:(h+(l+r+0)/18446744073709551616)*8192 % 18446744073709551616=(h+(l+r+0)/18446744073709551616)*2 ^ 13:=by
  rw [Int.emod_eq_of_lt (by omega) (by omega)];rfl
 rw [e2,yA _ _ 13 (by omega) (by omega) (by show _<(8192:Int);omega) (by show _*(8192:Int)+_<_;omega)]
 refine ⟨?_,by omega⟩
 show _*(8192:Int)+_=_
 omega
end Go.Vm
namespace Go.Vm
open Go
def nx (h l r:Int):Int:=iOr .u64 (cd .u64 (aD .u64 h (bp l r 0)) 13) (aJ .u64 (cN l r 0) 51)
def loD (l r:Int):Int:=aM .u64 (cN l r 0) 2251799813685247
theorem HU {x y:List Int} {h0 l0 h1 l1 h2 l2 h3 l3 h4 l4:Int} (h:itr (fg x y) 5 [0,0,0,0,0,0,0,0,0,0]=[h0,l0,h1,l1,h2,l2,h3,l3,h4,l4]) :
  F20 x y =
   let r1:=nx h0 l0 0
   let r2:=nx h1 l1 r1
   let r3:=nx h2 l2 r2
   let r4:=nx h3 l3 r3
   let r5:=nx h4 l4 r4
   F45 [aD .u64 (loD l0 0) (bJ .u64 19 r5),loD l1 r1,loD l2 r2,loD l3 r3,loD l4 r4]:=by
 unfold F20 kL
 rw [h]
 show F45 _=F45 _
 congr 1
 kernel_rfl
end Go.Vm
namespace Go.Vm
open Go
theorem mh {x y:Int} (hx:0≤x∧x<4503599627370496) (hy:0≤y∧y<4503599627370496):x*y≤20282409603651670423947251286016:=by
 have h:=Int.mul_le_mul (a:=x) (b:=y) (c:=4503599627370496) (d:=4503599627370496) (by omega) (by omega) hy.1 (by omega)
 have e:(4503599627370496:Int)*4503599627370496=20282409603651670423947251286016:=by decide
 omega
theorem qj {h l r s:Int} (hh:0≤h∧h<2251799813685247) (hl:0≤l∧l<18446744073709551616) (hr:0≤r∧r<18446744073709551616) (hs:h*18446744073709551616+l=s) :
  nx h l r=(s+r)/2251799813685248∧loD l r=(s+r) % 2251799813685248∧0≤nx h l r∧nx h l r<18446744073709551616:=by
 obtain ⟨h1,h2⟩:=zc hh.1 hl hr (by omega)
 rw [hs] at h1 h2
 have h1':nx h l r=(s+r)/2251799813685248:=h1
 refine ⟨h1',h2,?_,?_⟩ <;> rw [h1'] <;> omega
theorem GE (f0 f1 f2 f3 f4 g0 g1 g2 g3 g4:Int):cO [f0,f1,f2,f3,f4]*cO [g0,g1,g2,g3,g4] =
  cO [f0*g0+f1*(19*g4)+f2*(19*g3)+f3*(19*g2)+f4*(19*g1),f0*g1+f1*g0+f2*(19*g4)+f3*(19*g3)+f4*(19*g2),f0*g2+f1*g1+f2*g0+f3*(19*g4)+f4*(19*g3),f0*g3+f1*g2+f2*g1+f3*g0+f4*(19*g4),f0*g4+f1*g3+f2*g2+f3*g1+f4*g0] +
  (f1*g4+f2*g3+f3*g2+f4*g1+2251799813685248*(f2*g4+f3*g3+f4*g2)+5070602400912917605986812821504*(f3*g4+f4*g3)+11417981541647679048466287755595961091061972992*(f4*g4))*PF:=by
 simp only [cO,PF]
 grind -lia -linarith
theorem yl {x y:List Int} (hx:Fe x) (hy:Fe y):Fe (F20 x y)∧cO (F20 x y) % PF=(cO x*cO y) % PF:=by
 obtain ⟨a,b,c,d,e,rfl,ha,hb,hc,hd,he⟩:=hx
 obtain ⟨a',b',c',d',e',rfl,ha',hb',hc',hd',he'⟩:=hy
 obtain ⟨q,f0,f1,f2,f3,f4,hf,hf0,hf1,hf2,hf3,hf4,hfv⟩:=ga (a:=a) (b:=b) (c:=c) (d:=d) (e:=e) (by omega) (by omega) (by omega) (by omega) (by omega)
 obtain ⟨q',g0,g1,g2,g3,g4,hg,hg0,hg1,hg2,hg3,hg4,hgv⟩:=ga (a:=a') (b:=b') (c:=c') (d:=d') (e:=e') (by omega) (by omega) (by omega) (by omega) (by omega)
 have n:∀ g:Int,(0≤g∧g<4503599627370496)→bJ .u64 g 19=19*g:=by
  intro g hg
  rw [jD,Int.emod_eq_of_lt (by omega) (by omega)];omega
 have hacc:=HX hf hg
 simp only [n g1 (by omega),n g2 (by omega),n g3 (by omega),n g4 (by omega)] at hacc
 obtain ⟨h0,l0,e0,hh0,hl0,s0⟩:=W5 (x0:=f0) (x1:=f1) (x2:=f2) (x3:=f3) (x4:=f4) (y0:=g0) (y1:=19*g4) (y2:=19*g3) (y3:=19*g2) (y4:=19*g1) (by omega) (by omega) (by omega) (by omega) (by omega) (by omega) (by omega) (by omega) (by omega) (by omega)
 obtain ⟨h1,l1,e1,hh1,hl1,s1⟩:=W5 (x0:=f0) (x1:=f1) (x2:=f2) (x3:=f3) (x4:=f4) (y0:=g1) (y1:=g0) (y2:=19*g4) (y3:=19*g3) (y4:=19*g2) (by omega) (by omega) (by omega) (by omega) (by omega) (by omega) (by omega) (by omega) (by omega) (by omega)
 obtain ⟨h2,l2,e2,hh2,hl2,s2⟩:=W5 (x0:=f0) (x1:=f1) (x2:=f2) (x3:=f3) (x4:=f4) (y0:=g2) (y1:=g1) (y2:=g0) (y3:=19*g4) (y4:=19*g3) (by omega) (by omega) (by omega) (by omega) (by omega) (by omega) (by omega) (by omega) (by omega) (by omega)
 obtain ⟨h3,l3,e3,hh3,hl3,s3⟩:=W5 (x0:=f0) (x1:=f1) (x2:=f2) (x3:=f3) (x4:=f4) (y0:=g3) (y1:=g2) (y2:=g1) (y3:=g0) (y4:=19*g4) (by omega) (by omega) (by omega) (by omega) (by omega) (by omega) (by omega) (by omega) (by omega) (by omega)
 obtain ⟨h4,l4,e4,hh4,hl4,s4⟩:=W5 (x0:=f0) (x1:=f1) (x2:=f2) (x3:=f3) (x4:=f4) (y0:=g4) (y1:=g3) (y2:=g2) (y3:=g1) (y4:=g0) (by omega) (by omega) (by omega) (by omega) (by omega) (by omega) (by omega) (by omega) (by omega) (by omega)
 rw [e0,e1,e2,e3,e4] at hacc
 have key:=HU hacc
 have hid:=GE f0 f1 f2 f3 f4 g0 g1 g2 g3 g4
 have b40:=mh (x:=f0) (y:=g4) (by omega) (by omega)
 have b41:=mh (x:=f1) (y:=g3) (by omega) (by omega)
 have b42:=mh (x:=f2) (y:=g2) (by omega) (by omega)
 have b43:=mh (x:=f3) (y:=g1) (by omega) (by omega)
 have b44:=mh (x:=f4) (y:=g0) (by omega) (by omega)
 generalize hq2:(f1*g4+f2*g3+f3*g2+f4*g1+2251799813685248*(f2*g4+f3*g3+f4*g2)+5070602400912917605986812821504*(f3*g4+f4*g3)+11417981541647679048466287755595961091061972992*(f4*g4))=q2 at hid
 rw [← s0,← s1,← s2,← s3,← s4] at hid
 have bd4:h4*18446744073709551616+l4≤101412048018258352119736256430080:=by omega
 generalize ht0:h0*18446744073709551616+l0=t0 at hid
 generalize ht1:h1*18446744073709551616+l1=t1 at hid
 generalize ht2:h2*18446744073709551616+l2=t2 at hid
 generalize ht3:h3*18446744073709551616+l3=t3 at hid
 generalize ht4:h4*18446744073709551616+l4=t4 at hid bd4
 obtain ⟨u0,v0,w0,w0'⟩:=qj (r:=0) hh0 hl0 (by omega) ht0
 obtain ⟨u1,v1,w1,w1'⟩:=qj (r:=nx h0 l0 0) hh1 hl1 ⟨w0,w0'⟩ ht1
 obtain ⟨u2,v2,w2,w2'⟩:=qj (r:=nx h1 l1 (nx h0 l0 0)) hh2 hl2 ⟨w1,w1'⟩ ht2
 obtain ⟨u3,v3,w3,w3'⟩:=qj (r:=nx h2 l2 (nx h1 l1 (nx h0 l0 0))) hh3 hl3 ⟨w2,w2'⟩ ht3
 obtain ⟨u4,v4,w4,w4'⟩:=qj (r:=nx h3 l3 (nx h2 l2 (nx h1 l1 (nx h0 l0 0)))) hh4 hl4 ⟨w3,w3'⟩ ht4
 simp only at key
 generalize nx h0 l0 0=r1 at *
 generalize nx h1 l1 r1=r2 at *
 generalize nx h2 l2 r2=r3 at *
 generalize nx h3 l3 r3=r4 at *
 generalize nx h4 l4 r4=r5 at *
 rw [v0,v1,v2,v3,v4] at key
 clear v0 v1 v2 v3 v4 hacc e0 e1 e2 e3 e4 s0 s1 s2 s3 s4 b40 b41 b42 b43 b44 hq2 hf hg n
 have r5b:r5≤45035996273713152:=by omega
 have m1:bJ .u64 19 r5=19*r5:=by rw [jD];exact Int.emod_eq_of_lt (by omega) (by omega)
 have m2:aD .u64 ((t0+0) % 2251799813685248) (19*r5)=(t0+0) % 2251799813685248+19*r5:=by rw [dA];exact Int.emod_eq_of_lt (by omega) (by omega)
 rw [m1,m2] at key
 obtain ⟨q3,p0,p1,p2,p3,p4,hp,hp0,hp1,hp2,hp3,hp4,hpv⟩:=ga (a:=(t0+0) % 2251799813685248+19*r5) (b:=(t1+r1) % 2251799813685248) (c:=(t2+r2) % 2251799813685248) (d:=(t3+r3) % 2251799813685248) (e:=(t4+r4) % 2251799813685248) (by omega) (by omega) (by omega) (by omega) (by omega)
 rw [hp] at key
 rw [key]
 refine ⟨⟨p0,p1,p2,p3,p4,rfl,by omega,by omega,by omega,by omega,by omega⟩,?_⟩
 have e5:cO [t0,t1,t2,t3,t4]=cO [p0,p1,p2,p3,p4]+(q3+r5)*PF:=by
  have:cO [t0,t1,t2,t3,t4]=cO [(t0+0) % 2251799813685248+19*r5,(t1+r1) % 2251799813685248,(t2+r2) % 2251799813685248,(t3+r3) % 2251799813685248,(t4+r4) % 2251799813685248]+r5*PF:=by
   simp only [cO,PF]
   clear hpv hid hfv hgv
   omega
  rw [this,hpv];show cO _+q3*PF+r5*PF=_;rw [Int.add_mul,Int.add_assoc]
 have f:cO [a,b,c,d,e]*cO [a',b',c',d',e']=cO [p0,p1,p2,p3,p4]+(q3+r5+q2+q*cO [g0,g1,g2,g3,g4]+q'*cO [f0,f1,f2,f3,f4]+q*q'*PF)*PF:=by
  rw [hfv,hgv]
  have h7:cO [f0,f1,f2,f3,f4]*cO [g0,g1,g2,g3,g4]=cO [p0,p1,p2,p3,p4]+(q3+r5)*PF+q2*PF:=by rw [hid,e5]
  generalize cO [f0,f1,f2,f3,f4]=A at *
  generalize cO [g0,g1,g2,g3,g4]=Bv at *
  generalize cO [p0,p1,p2,p3,p4]=Cv at *
  show (A+q*PF)*(Bv+q'*PF)=_
  generalize PF=M at *
  grind -lia -linarith
 exact (pX f).symm
end Go.Vm
namespace Go.Vm
open Go
structure Uns (k:IntKind) (N:Nat):Prop where
 bits:2 ^ k.bits=N
 wrap:∀ x,k.wrap x=x % (N:Int)
theorem rT:Uns .u8 256:=⟨rfl,dC⟩
theorem fm:Uns .u64 18446744073709551616:=⟨rfl,eJ⟩
theorem oD {k:IntKind} {N:Nat} (h:Uns k N) {a:Nat} (ha:a<N):(BitVec.ofInt k.bits (a:Int)).toNat=a:=by
 rw [BitVec.ofInt_natCast,BitVec.toNat_ofNat,h.bits,Nat.mod_eq_of_lt ha]
theorem nP {k:IntKind} {N:Nat} (h:Uns k N) {a:Nat} (ha:a<N):k.wrap (a:Int)=(a:Int):=by
 rw [h.wrap];exact Int.emod_eq_of_lt (by omega) (by omega)
theorem jT {k:IntKind} {N:Nat} (h:Uns k N) {a b:Nat} (ha:a<N) (hb:b<N):iOr k (a:Int) (b:Int)=((a ||| b:Nat):Int):=by
 have:a ||| b<N:=by rw [← h.bits] at *;exact Nat.or_lt_two_pow ha hb
 unfold iOr
 rw [BitVec.toNat_or,oD h ha,oD h hb,nP h this]
theorem dK {k:IntKind} {N:Nat} (h:Uns k N) {a b:Nat} (ha:a<N) (hb:b<N):aM k (a:Int) (b:Int)=((a &&& b:Nat):Int):=by
 have:a &&& b<N:=by have:=Nat.and_le_left (n:=a) (m:=b);omega
 unfold aM
 rw [BitVec.toNat_and,oD h ha,oD h hb,nP h this]
theorem gX {k:IntKind} {N:Nat} (h:Uns k N) {a b:Nat} (ha:a<N) (hb:b<N):al k (a:Int) (b:Int)=((a ^^^ b:Nat):Int):=by
 have:a ^^^ b<N:=by rw [← h.bits] at *;exact Nat.xor_lt_two_pow ha hb
 unfold al
 rw [BitVec.toNat_xor,oD h ha,oD h hb,nP h this]
theorem pJ {x:Int} {N:Nat} (h:0≤x∧x<(N:Int)):∃ a:Nat,x=(a:Int)∧a<N:=by
 obtain ⟨a,rfl⟩:=Int.eq_ofNat_of_zero_le h.1
 exact ⟨a,rfl,by omega⟩
theorem vD {k:IntKind} {N:Nat} (h:Uns k N) (hN:1<N) {x:Int} (hx:0≤x∧x<(N:Int)):aM k x 1=x % 2:=by
 obtain ⟨a,rfl,ha⟩:=pJ hx
 have:=dK h ha hN
 rw [Nat.and_one_is_mod] at this
 exact this
theorem tC {k:IntKind} {N:Nat} (h:Uns k N) {u v:Int} {n:Nat} (hu:0≤u) (hv:0≤v) (hv':v<2 ^ n) (hb:v+u*2 ^ n<(N:Int)):iOr k v (u*2 ^ n)=v+u*2 ^ n:=by
 obtain ⟨a,rfl⟩:=Int.eq_ofNat_of_zero_le hu
 obtain ⟨b,rfl⟩:=Int.eq_ofNat_of_zero_le hv
 have e:((a:Int)*2 ^ n)=((a*2 ^ n:Nat):Int):=by rw [Int.natCast_mul,Int.natCast_pow];rfl
 have e2:((2:Int) ^ n)=((2 ^ n:Nat):Int):=by rw [Int.natCast_pow];rfl
 rw [e] at hb ⊢
 rw [e2] at hv'
 rw [jT h (by omega) (by omega)]
 have:b ||| a*2 ^ n=a*2 ^ n+b:=by
  rw [Nat.or_comm,Nat.mul_comm];exact (Nat.two_pow_add_eq_or_of_lt (by omega) a).symm
 rw [this];omega
theorem jV (n:Nat):(0:Int)<2 ^ n:=Int.pow_pos (by decide)
theorem qp {k:IntKind} {N:Nat} (h:Uns k N) (hN:1<N) {x:Int} {n:Nat} (hn:n≤k.bits) (hx:0≤x∧x<(N:Int)):aM k (aJ k x (n:Int)) 1=x/2 ^ n % 2:=by
 rw [ec k x n hn,vD h hN]
 have h1:=jV n
 refine ⟨Int.ediv_nonneg hx.1 (by omega),?_⟩
 have:=Int.ediv_le_self (b:=2 ^ n) (a:=x) hx.1
 omega
theorem CK {k:IntKind} {N:Nat} (h:Uns k N) {old b:Int} {n:Nat} (hn:n<k.bits) (hb:b=0∨b=1) (ho:0≤old) (ho':old<2 ^ n):iOr k old (cd k (k.wrap b) (n:Int))=old+b*2 ^ n:=by
 have hp:=jV n
 have h1:(2:Int) ^ (n+1)≤2 ^ k.bits:=nV (by omega)
 have h2:(2:Int) ^ k.bits=(N:Int):=by rw [← h.bits,Int.natCast_pow];rfl
 rw [Int.pow_succ] at h1
 have hw:k.wrap b=b:=by rw [h.wrap];exact Int.emod_eq_of_lt (by omega) (by omega)
 have hb1:b*2 ^ n<(N:Int)∧0≤b*2 ^ n∧old+b*2 ^ n<(N:Int):=by rcases hb with rfl|rfl <;> omega
 rw [hw,mK k b n (by omega),h.wrap,Int.emod_eq_of_lt hb1.2.1 hb1.1]
 exact tC h (by omega) ho ho' hb1.2.2
theorem Fb (x:Int) (n:Nat):x/2 ^ n % 2=0∨x/2 ^ n % 2=1:=Int.emod_two_eq _
end Go.Vm
namespace Go.Vm
open Go
theorem uQ (a b c d e:Int):cO [a,b,c,d,e]=num (2 ^ 51) [a,b,c,d,e]:=by
 simp only [num,cO]
 show _=a+2251799813685248*(b+2251799813685248*(c+2251799813685248*(d+2251799813685248*(e+2251799813685248*0))))
 omega
theorem Hb {x:List Int} {l0 l1 l2 l3 l4:Int} (h:F45 (F45 x)=[l0,l1,l2,l3,l4]) :
  F52 x =
   let q0:=aJ .u64 (aD .u64 l0 19) 51
   let q1:=aJ .u64 (aD .u64 l1 q0) 51
   let q2:=aJ .u64 (aD .u64 l2 q1) 51
   let q3:=aJ .u64 (aD .u64 l3 q2) 51
   let q4:=aJ .u64 (aD .u64 l4 q3) 51
   let m0:=aD .u64 l0 (bJ .u64 19 q4)
   let m1:=aD .u64 l1 (aJ .u64 m0 51)
   let m2:=aD .u64 l2 (aJ .u64 m1 51)
   let m3:=aD .u64 l3 (aJ .u64 m2 51)
   let m4:=aD .u64 l4 (aJ .u64 m3 51)
   [aM .u64 m0 2251799813685247,aM .u64 m1 2251799813685247,aM .u64 m2 2251799813685247,aM .u64 m3 2251799813685247,aM .u64 m4 2251799813685247]:=by
 unfold F52 lL
 rw [h]
 kernel_rfl
theorem sO {x:List Int} (hx:Fe x):Dig (2 ^ 51) (F52 x)∧(F52 x).length=5∧num (2 ^ 51) (F52 x)=cO x % PF:=by
 obtain ⟨a,b,c,d,e,rfl,ha,hb,hc,hd,he⟩:=hx
 obtain ⟨q,f0,f1,f2,f3,f4,hf,hf0,hf1,hf2,hf3,hf4,hfv⟩:=ga (a:=a) (b:=b) (c:=c) (d:=d) (e:=e) (by omega) (by omega) (by omega) (by omega) (by omega)
 obtain ⟨q',l0,l1,l2,l3,l4,hl,hl0,hl1,hl2,hl3,hl4,hlv⟩:=ga (a:=f0) (b:=f1) (c:=f2) (d:=f3) (e:=f4) (by omega) (by omega) (by omega) (by omega) (by omega)
 have key:=Hb (x:=[a,b,c,d,e]) (by rw [hf,hl])
 have s:∀ u v:Int,(0≤u∧u<4503599627370496)→(0≤v∧v<4503599627370496)→aD .u64 u v=u+v:=by
  intro u v hu hv
  rw [dA];exact Int.emod_eq_of_lt (by omega) (by omega)
 simp only at key
 have hv:cO [a,b,c,d,e] % PF=cO [l0,l1,l2,l3,l4] % PF:=by rw [pX hfv,pX hlv]
 simp only [rl,FW] at key
 rw [s l0 19 (by omega) (by omega)] at key
 generalize g0:(l0+19)/2251799813685248=q0 at key
 have b0:0≤q0∧q0≤1:=by omega
 rw [s l1 q0 (by omega) (by omega)] at key
 generalize g1:(l1+q0)/2251799813685248=q1 at key
 have b1:0≤q1∧q1≤1:=by omega
 rw [s l2 q1 (by omega) (by omega)] at key
 generalize g2:(l2+q1)/2251799813685248=q2 at key
 have b2:0≤q2∧q2≤1:=by omega
 rw [s l3 q2 (by omega) (by omega)] at key
 generalize g3:(l3+q2)/2251799813685248=q3 at key
 have b3:0≤q3∧q3≤1:=by omega
 rw [s l4 q3 (by omega) (by omega)] at key
 generalize g4:(l4+q3)/2251799813685248=q4 at key
 have b4:0≤q4∧q4≤1:=by omega
 have e0:bJ .u64 19 q4=19*q4:=by rw [jD];exact Int.emod_eq_of_lt (by omega) (by omega)
 rw [e0,s l0 (19*q4) (by omega) (by omega)] at key
 generalize j0:(l0+19*q4)/2251799813685248=c0 at key
 have d0:0≤c0∧c0≤1:=by omega
 rw [s l1 c0 (by omega) (by omega)] at key
 generalize j1:(l1+c0)/2251799813685248=c1 at key
 have d1:0≤c1∧c1≤1:=by omega
 rw [s l2 c1 (by omega) (by omega)] at key
 generalize j2:(l2+c1)/2251799813685248=c2 at key
 have d2:0≤c2∧c2≤1:=by omega
 rw [s l3 c2 (by omega) (by omega)] at key
 generalize j3:(l3+c2)/2251799813685248=c3 at key
 have d3:0≤c3∧c3≤1:=by omega
 rw [s l4 c3 (by omega) (by omega)] at key
 clear hfv hlv hf hl hf0 hf1 hf2 hf3 hf4 ha hb hc hd he
 rw [key,hv]
 refine ⟨?_,rfl,?_⟩
 ·intro y hy
  simp only [List.mem_cons,List.not_mem_nil,or_false] at hy
  show 0≤y∧y<2251799813685248
  rcases hy with rfl|rfl|rfl|rfl|rfl <;> omega
 ·rw [← uQ]
  have hlt:0≤cO [l0,l1,l2,l3,l4]-q4*PF∧cO [l0,l1,l2,l3,l4]-q4*PF<PF:=by
   simp only [cO,PF];omega
  have:cO [l0,l1,l2,l3,l4] % PF=cO [l0,l1,l2,l3,l4]-q4*PF:=by
   have:=pX (x:=cO [l0,l1,l2,l3,l4]) (y:=cO [l0,l1,l2,l3,l4]-q4*PF) (q:=q4) (by omega)
   rw [this];exact Int.emod_eq_of_lt hlt.1 hlt.2
  rw [this]
  simp only [cO,PF] at hlt ⊢
  omega
theorem vY {m n:Nat} (hm:0<m) {v:Int} {f:Nat→List Int→List Int} {K:Nat} (hK:K≤m*n)
  (hf:∀ k t,k<K→Dig (2 ^ m) t→t.length=n→0≤t.getD (k/m) 0→t.getD (k/m) 0<2 ^ (k % m)→f k t=t.set (k/m) (t.getD (k/m) 0+v/2 ^ k % 2*2 ^ (k % m))) :
  ∀ {z:List Int},Dig (2 ^ m) z→z.length=n→num (2 ^ m) z=0→∀ j,j≤K→Dig (2 ^ m) (itr f j z)∧(itr f j z).length=n∧num (2 ^ m) (itr f j z)=v % 2 ^ j:=by
 intro z hz hl h0 j
 induction j with
 |zero =>
  intro _
  rw [aX]
  exact ⟨hz,hl,by rw [h0,Int.pow_zero,Int.emod_one]⟩
 |succ j ih =>
  intro hj
  obtain ⟨h1,h2,h3⟩:=ih (by omega)
  obtain ⟨h4,h5,h6,h7⟩:=zN hm (show j<m*n by omega) h1 h2 h3 rfl
  rw [aP,hf j _ (by omega) h1 h2 (ak (jV m) h1).1 h4]
  exact ⟨h5,h6,h7⟩
theorem Dig.zeros {B:Int} (hB:0<B) (n:Nat):Dig B (List.replicate n 0):=by
 intro x hx
 rw [List.eq_of_mem_replicate hx]
 omega
theorem zd {x:List Int} (hx:Fe x):F33 x=bK 256 32 (cO x % PF):=by
 obtain ⟨w1,w2,w3⟩:=sO hx
 have h:=vY (m:=8) (n:=32) (by decide) (v:=cO x % PF) (f:=rc x) (K:=255) (by decide) (by
  intro k t hk ht hl h1 h2
  unfold rc
  have hd:=ak (jV 51) w1 (i:=k/51)
  have hd':0≤(F52 x).getD (k/51) 0∧(F52 x).getD (k/51) 0<((18446744073709551616:Nat):Int):=⟨hd.1,Int.lt_trans hd.2 (by decide)⟩
  rw [qp fm (by decide) (show k % 51≤64 by omega) hd',hO (by decide) w1,w3,CK rT (show k % 8<8 by omega) (Fb _ _) h1 h2]) (z:=List.replicate 32 0) (Dig.zeros (by decide) 32) rfl (gu _ 32) 255 (by decide)
 obtain ⟨h1,h2,h3⟩:=h
 have e:F33 x=itr (rc x) 255 (List.replicate 32 0):=rfl
 rw [e]
 refine ic (by decide) h1 h2 ?_
 show num (2 ^ 8) _=_
 rw [h3]
 have p1:=Int.emod_nonneg (cO x) (b:=PF) (by decide)
 have p2:=Int.emod_lt_of_pos (cO x) (b:=PF) (by decide)
 refine Int.emod_eq_of_lt p1 (Int.lt_trans p2 (by decide))
end Go.Vm
namespace Go.Vm
open Go
def Bd (K:Int) (xs:List Int):Prop:=∀ x∈xs,-K≤x∧x≤K
theorem Bd.at {K:Int} (hK:0≤K) {xs:List Int} (h:Bd K xs) (i:Nat):-K≤xs.getD i 0∧xs.getD i 0≤K:=by
 rw [List.getD_eq_getElem?_getD]
 cases hj:xs[i]? with
 |none=>simp;omega
 |some v=>exact h v (List.mem_of_getElem? hj)
theorem Bd.set {K:Int} {xs:List Int} {i:Nat} {v:Int} (h:Bd K xs) (hv:-K≤v∧v≤K):Bd K (xs.set i v):=by
 intro y hy
 rcases List.mem_or_eq_of_mem_set hy with h1|h1
 ·exact h y h1
 ·rw [h1];exact hv
theorem Dig.bd {B K:Int} (hK:B≤K) {xs:List Int} (h:Dig B xs):Bd K xs:=by
 intro x hx
 have:=h x hx
 omega
theorem tD {K:Int} (hK:0≤K):∀ {xs:List Int},Bd K xs→-(K*65536 ^ xs.length-K)≤65535*num 65536 xs∧65535*num 65536 xs≤K*65536 ^ xs.length-K
 |[],_=>by simp [num]
 |a :: bs,h=>by
  obtain ⟨h1,h2⟩:=tD hK (xs:=bs) (fun x hx=>h x (List.mem_cons_of_mem _ hx))
  have ha:=h a (by simp)
  rw [List.length_cons,ep,Int.pow_succ,← Int.mul_assoc K]
  omega
def ch (k:Nat) (z:Int × List Int):Int × List Int :=
 ((aJ .i64 (aD .i64 (z.2.getD k 0) z.1) 16),z.2.set k (aT .i64 (aD .i64 (z.2.getD k 0) z.1) (cd .i64 (aJ .i64 (aD .i64 (z.2.getD k 0) z.1) 16) 16)))
theorem xm {x:Int} {n:Nat} (hn:n≤64) (h:-9223372036854775808≤x*2 ^ n) (h':x*2 ^ n<9223372036854775808):cd .i64 x (n:Int)=x*2 ^ n:=by
 rw [mK .i64 x n hn];exact bn h h'
theorem Hq {k:Nat} {c:Int} {d:List Int} (h1:-2305843009213693952≤d.getD k 0∧d.getD k 0≤2305843009213693952) (h2:-70368744177664≤c∧c≤70368744177664) :
  ch k (c,d)=((d.getD k 0+c)/65536,d.set k ((d.getD k 0+c) % 65536)):=by
 unfold ch
 simp only
 rw [cY (by omega) (by omega)]
 have hx:-4611686018427387904≤d.getD k 0+c∧d.getD k 0+c≤4611686018427387904:=by omega
 generalize d.getD k 0+c=x at *
 have e:aJ .i64 x 16=x/65536:=ec .i64 x 16 (by decide)
 have e2:cd .i64 (x/65536) 16=x/65536*65536:=xm (n:=16) (by decide) (by show _≤_*(65536:Int);omega) (by show _*(65536:Int)<_;omega)
 rw [e,e2,gY (by omega) (by omega)]
 congr 2
 omega
theorem kJ {α:Type} {xs:List α} {k:Nat} {v:α}:(xs.set k v).take k=xs.take k:=by
 rw [List.take_set,List.set_eq_of_length_le]
 rw [List.length_take];omega
theorem zr {d:List Int} (hd:Bd 2305843009213693952 d):∀ j,j≤d.length →
  (itr ch j (0,d)).2.length=d.length∧(∀ i,i<j→0≤(itr ch j (0,d)).2.getD i 0∧(itr ch j (0,d)).2.getD i 0<65536) ∧
  (∀ i,j≤i→(itr ch j (0,d)).2.getD i 0=d.getD i 0)∧(-70368744177664≤(itr ch j (0,d)).1∧(itr ch j (0,d)).1≤70368744177664) ∧
  num 65536 ((itr ch j (0,d)).2.take j)+(itr ch j (0,d)).1*65536 ^ j=num 65536 (d.take j):=by
 intro j
 induction j with
 |zero=>intro _;rw [aX];refine ⟨rfl,fun i hi=>absurd hi (by omega),fun _ _=>rfl,by simp only;omega,by simp [num]⟩
 |succ j ih =>
  intro hj
  obtain ⟨h1,h2,h3,h4,h5⟩:=ih (by omega)
  rw [aP]
  generalize itr ch j (0,d)=z at *
  obtain ⟨c,d'⟩:=z
  simp only at h1 h2 h3 h4 h5
  have hb:=hd.at (by decide) j
  rw [← h3 j (Nat.le_refl j)] at hb
  rw [Hq hb h4]
  simp only
  refine ⟨by rw [List.length_set];exact h1,?_,?_,?_,?_⟩
  ·intro i hi
   by_cases hij:i=j
   ·subst hij;rw [bz (by omega)];omega
   ·rw [bP (by omega)];exact h2 i (by omega)
  ·intro i hi
   rw [bP (by omega)];exact h3 i (by omega)
  ·omega
  ·rw [du,kJ,bz (by omega),du,← h3 j (Nat.le_refl j),← h5,Int.pow_succ]
   generalize (65536:Int) ^ j=p
   generalize d'.getD j 0=x
   have:=Int.emod_add_mul_ediv (x+c) 65536
   generalize (x+c) % 65536=r at *
   generalize (x+c)/65536=q at *
   have e:x=r+65536*q-c:=by omega
   subst e
   grind -lia -linarith
theorem kT {B:Int} {xs:List Int} (h:∀ i,i<xs.length→0≤xs.getD i 0∧xs.getD i 0<B):Dig B xs:=by
 intro x hx
 obtain ⟨j,hj,rfl⟩:=List.mem_iff_getElem.1 hx
 have:=h j hj
 rw [List.getD_eq_getElem?_getD,List.getElem?_eq_getElem hj] at this
 exact this
theorem Bh:∀ (n:Nat) (v:Int),bK 65536 n (v % 65536 ^ n)=bK 65536 n v:=by
 intro n
 induction n with
 |zero=>intro v;rfl
 |succ n ih =>
  intro v
  rw [fD,fD,Int.pow_succ,Int.mul_comm (65536 ^ n)]
  have hq:(0:Int)<65536 ^ n:=Int.pow_pos (by decide)
  have a1:v % (65536*65536 ^ n) % 65536=v % 65536:=Int.emod_emod_of_dvd _ ⟨65536 ^ n,rfl⟩
  have a2:v % (65536*65536 ^ n)/65536=v/65536 % 65536 ^ n:=by
   have x1:=Int.emod_add_mul_ediv v (65536*65536 ^ n)
   have x2:v/(65536*65536 ^ n)=v/65536/65536 ^ n:=(Int.ediv_ediv_of_nonneg (by decide)).symm
   have x3:=Int.emod_add_mul_ediv (v/65536) (65536 ^ n)
   rw [x2,Int.mul_assoc] at x1
   generalize 65536 ^ n*(v/65536/65536 ^ n)=y at *
   omega
  rw [a1,a2,ih]
theorem nk {d:List Int} {n:Nat} (hn:d.length=n) (hd:Bd 2305843009213693952 d):itr ch n (0,d)=(num 65536 d/65536 ^ n,bK 65536 n (num 65536 d)):=by
 obtain ⟨h1,h2,h3,h4,h5⟩:=zr hd n (by omega)
 generalize itr ch n (0,d)=z at *
 obtain ⟨c,d'⟩:=z
 simp only at h1 h2 h3 h4 h5
 rw [List.take_of_length_le (by omega),List.take_of_length_le (by omega)] at h5
 have hD:Dig 65536 d':=kT (fun i hi=>h2 i (by omega))
 obtain ⟨b1,b2⟩:=iC (by decide) hD
 have hp:(0:Int)<65536 ^ n:=Int.pow_pos (by decide)
 rw [h1,hn] at b2
 have e1:num 65536 d/65536 ^ n=c:=by
  rw [← h5,Int.add_mul_ediv_right _ _ (by omega),Int.ediv_eq_zero_of_lt b1 b2];omega
 have e2:num 65536 d % 65536 ^ n=num 65536 d':=by
  rw [← h5,Int.add_mul_emod_self_right,Int.emod_eq_of_lt b1 b2]
 rw [e1]
 congr 1
 rw [← Bh,e2]
 exact ic (by decide) hD (by omega) rfl
end Go.Vm
namespace Go.Vm
open Go
theorem AB:fE=ch:=rfl
theorem CS:lM=ch:=rfl
theorem Cw:rg=ch:=rfl
def gg (v:Int):Int:=v % 57896044618658097711785492504343953926634992332820282019728792003956564819968+19*(v/57896044618658097711785492504343953926634992332820282019728792003956564819968)
theorem wR (v:Int):gg v % PF=v % PF:=by
 have:gg v=v+(-(v/57896044618658097711785492504343953926634992332820282019728792003956564819968))*PF:=by
  unfold gg PF;omega
 exact pX this
theorem cZ {B:Int} (hB:0<B):∀ (n i:Nat) (v:Int),i<n→(bK B n v).getD i 0=v/B ^ i % B
 |0,i,v,h=>absurd h (by omega)
 |n+1,0,v,_=>by rw [fD,List.getD_cons_zero,Int.pow_zero,Int.ediv_one]
 |n+1,i+1,v,h=>by
  rw [fD,List.getD_cons_succ,cZ hB n i _ (by omega),Int.ediv_ediv_of_nonneg (by omega),Int.pow_succ,Int.mul_comm (B ^ i)]
theorem mU {w u:Int} {x:Int} (hx:0≤x∧x<65536) (h:u=w % 115792089237316195423570985008687907853269984665640564039457584007913129639936+(x-w/1766847064778384329583297500742918515827483896875618958121606201292619776 % 65536)*1766847064778384329583297500742918515827483896875618958121606201292619776):(bK 65536 16 w).set 15 x=bK 65536 16 u:=by
 have hD:=cW (B:=65536) (by decide) 16 w
 have hl:=aa 65536 16 w
 refine ic (by decide) (ky hD hx) (by rw [List.length_set,hl]) ?_
 rw [ew (by omega),eM (by decide),cZ (by decide) _ _ _ (by decide),h]
 rfl
theorem lB {d:List Int} (hl:d.length=16) (hd:Bd 1099511627776 d) (k:Nat) :
  ∃ e,br k d=(bK 65536 16 (num 65536 d % 57896044618658097711785492504343953926634992332820282019728792003956564819968)).set 0 e ∧
   e=num 65536 d % 65536+19*(num 65536 d/57896044618658097711785492504343953926634992332820282019728792003956564819968) ∧
   Bd 1099511627776 (br k d)∧(br k d).length=16∧num 65536 (br k d)=gg (num 65536 d):=by
 have hb:Bd 2305843009213693952 d:=fun x hx=>by have:=hd x hx;omega
 have hch:=nk hl hb
 have ha:=tD (by decide) hd
 rw [hl] at ha
 have hp:(65536:Int) ^ 16=115792089237316195423570985008687907853269984665640564039457584007913129639936:=by rfl
 rw [hp] at ha hch
 have hq:(65536:Int) ^ 15=1766847064778384329583297500742918515827483896875618958121606201292619776:=by rfl
 unfold br
 rw [AB,hch]
 generalize num 65536 d=v at *
 simp only
 rw [cZ (by decide) 16 15 v (by decide),hq]
 have e15:aJ .i64 (v/1766847064778384329583297500742918515827483896875618958121606201292619776 % 65536) 15=v/1766847064778384329583297500742918515827483896875618958121606201292619776 % 65536/32768:=ec .i64 _ 15 (by decide)
 rw [e15]
 have e16:cd .i64 (v/1766847064778384329583297500742918515827483896875618958121606201292619776 % 65536/32768) 15=v/1766847064778384329583297500742918515827483896875618958121606201292619776 % 65536/32768*32768 :=
  xm (n:=15) (by decide) (by show _≤_*(32768:Int);omega) (by show _*(32768:Int)<_;omega)
 rw [e16,gY (by omega) (by omega)]
 rw [mU (u:=v % 57896044618658097711785492504343953926634992332820282019728792003956564819968) (by omega) (by omega)]
 rw [cD (by omega) (by omega),cD (by omega) (by omega),cZ (by decide) 16 0 _ (by decide),Int.pow_zero,Int.ediv_one]
 rw [cY (x:=19*_) (by omega) (by omega),cY (by omega) (by omega)]
 refine ⟨_,rfl,by omega,?_,by rw [List.length_set,aa],?_⟩
 ·exact ((cW (B:=65536) (by decide) 16 _).bd (by decide)).set (by omega)
 ·rw [ew (by rw [aa];decide),eM (by decide),hp,cZ (by decide) 16 0 _ (by decide),Int.pow_zero,Int.ediv_one]
  unfold gg
  omega
theorem Dw {d:List Int} (hl:d.length=16) (hd:Bd 1099511627776 d):F46 d=bK 65536 16 (num 65536 d % PF):=by
 have ha:=tD (by decide) hd
 rw [hl] at ha
 have hp:(65536:Int) ^ 16=115792089237316195423570985008687907853269984665640564039457584007913129639936:=by rfl
 rw [hp] at ha
 obtain ⟨e1,_,_,b1,l1,n1⟩:=lB hl hd 0
 obtain ⟨e2,_,_,b2,l2,n2⟩:=lB l1 b1 1
 obtain ⟨e3,_,_,b3,l3,n3⟩:=lB l2 b2 2
 obtain ⟨e4,h4,he4,b4,l4,n4⟩:=lB l3 b3 3
 have hi:itr br 4 d=br 3 (br 2 (br 1 (br 0 d))):=by rw [aP,aP,aP,aP,aX]
 have hm:num 65536 (br 2 (br 1 (br 0 d))) % PF=num 65536 d % PF:=by rw [n3,wR,n2,wR,n1,wR]
 have hu:0≤num 65536 (br 2 (br 1 (br 0 d)))∧num 65536 (br 2 (br 1 (br 0 d)))<57896044618658097711785492504343953926634992332820282019728792003956564819968:=by
  rw [n3,n2,n1]
  have a1:-4294967296≤gg (num 65536 d)∧gg (num 65536 d)<57896044618658097711785492504343953926634992332820282019728792003956564819968+4294967296:=by
   clear n1 n2 n3 n4 he4 h4 hm
   unfold gg;omega
  generalize gg (num 65536 d)=y at *
  have a2:0≤gg y∧gg y<57896044618658097711785492504343953926634992332820282019728792003956564819968:=by clear n1 n2 n3 n4 he4 h4 hm ha;unfold gg;omega
  generalize gg y=x at *
  unfold gg;omega
 generalize num 65536 (br 2 (br 1 (br 0 d)))=u at *
 rw [← hm]
 have h4':br 3 (br 2 (br 1 (br 0 d)))=bK 65536 16 u:=by
  rw [h4,he4,Int.emod_eq_of_lt hu.1 hu.2]
  refine ic (by decide) (ky (cW (by decide) _ _) (by omega)) (by rw [List.length_set,aa]) ?_
  rw [ew (by rw [aa];decide),eM (by decide),hp,cZ (by decide) 16 0 _ (by decide),Int.pow_zero,Int.ediv_one]
  omega
 unfold F46
 rw [hi,h4',CS]
 rw [cZ (by decide) 16 0 _ (by decide),Int.pow_zero,Int.ediv_one,cY (by omega) (by omega)]
 have hc:=nk (d:=(bK 65536 16 u).set 0 (u % 65536+19)) (n:=16) (by rw [List.length_set,aa]) (((cW (B:=65536) (by decide) 16 _).bd (by decide)).set (by omega))
 have hv:num 65536 ((bK 65536 16 u).set 0 (u % 65536+19))=u+19:=by
  rw [ew (by rw [aa];decide),eM (by decide),hp,cZ (by decide) 16 0 _ (by decide),Int.pow_zero,Int.ediv_one]
  omega
 rw [hv] at hc
 rw [hc]
 simp only
 have hq:(65536:Int) ^ 15=1766847064778384329583297500742918515827483896875618958121606201292619776:=by rfl
 rw [cZ (by decide) 16 15 (u+19) (by decide),hq]
 by_cases hge:PF≤u
 ·have t:decide ((u+19)/1766847064778384329583297500742918515827483896875618958121606201292619776 % 65536 ≥ 32768)=true:=by
   apply decide_eq_true
   show 32768≤_
   unfold PF at hge
   omega
  have hu2:u % PF=u-PF:=by
   have:=pX (x:=u) (y:=u-PF) (q:=1) (by omega)
   rw [this];refine Int.emod_eq_of_lt (by omega) ?_
   unfold PF;omega
  unfold PF at hge
  rw [t,aC,hu2,gY (by omega) (by omega)]
  refine mU (by omega) ?_
  unfold PF
  omega
 ·have t:decide ((u+19)/1766847064778384329583297500742918515827483896875618958121606201292619776 % 65536 ≥ 32768)=false:=by
   apply decide_eq_false
   show ¬ 32768≤_
   unfold PF at hge
   omega
  rw [t,aB,Int.emod_eq_of_lt hu.1 (by omega)]
end Go.Vm
namespace Go.Vm
open Go
def E (x:List Int) (v:Int):Prop:=Fe x∧cO x % PF=v % PF
theorem E.to {x:List Int} {v w:Int} (h:E x v) (e:v % PF=w % PF):E x w:=⟨h.1,h.2.trans e⟩
theorem Jk {x y:List Int} {v w:Int} (hx:E x v) (hy:E y w):E (F16 x y) (v+w) :=
 ⟨(yj hx.1 hy.1).1,by rw [(yj hx.1 hy.1).2,Int.add_emod,hx.2,hy.2,← Int.add_emod]⟩
theorem Ij {x y:List Int} {v w:Int} (hx:E x v) (hy:E y w):E (F18 x y) (v-w) :=
 ⟨(xr hx.1 hy.1).1,by rw [(xr hx.1 hy.1).2,Int.sub_emod,hx.2,hy.2,← Int.sub_emod]⟩
theorem sd {x y:List Int} {v w:Int} (hx:E x v) (hy:E y w):E (F20 x y) (v*w) :=
 ⟨(yl hx.1 hy.1).1,by rw [(yl hx.1 hy.1).2,Int.mul_emod,hx.2,hy.2,← Int.mul_emod]⟩
theorem iX {n:Int} (h:0≤n∧n<4294967296):E (F30 n) n:=by
 have e:F30 n=[n,0,0,0,0]:=by
  unfold F30
  rw [eJ,Int.emod_eq_of_lt (by omega) (by omega)]
 rw [e]
 refine ⟨⟨n,0,0,0,0,rfl,by omega,by omega,by omega,by omega,by omega⟩,?_⟩
 simp only [cO]
 congr 1
 omega
theorem Cr {b:List Int} (hb:Dig 256 b) (hl:b.length=32):E (F23 b) (num 256 b % 57896044618658097711785492504343953926634992332820282019728792003956564819968):=by
 have h:=vY (m:=51) (n:=5) (by decide) (v:=num 256 b) (f:=re b) (K:=255) (by decide) (by
  intro k t hk ht hl h1 h2
  unfold re
  have hd:=ak (B:=256) (by decide) hb (i:=k/8)
  rw [qp rT (by decide) (show k % 8≤8 by omega) hd,show b.getD (k/8) 0/2 ^ (k % 8) % 2=num 256 b/2 ^ k % 2 from hO (m:=8) (by decide) hb k,
   CK fm (show k % 51<64 by omega) (Fb _ _) h1 h2]) (z:=List.replicate 5 0) (Dig.zeros (by decide) 5) rfl (gu _ 5) 255 (by decide)
 obtain ⟨h1,h2,h3⟩:=h
 have e:F23 b=itr (re b) 255 (List.replicate 5 0):=by
  unfold F23
  have:((((b.length:Nat):Int):Int) != 32)=false:=by rw [hl];rfl
  rw [this,aB]
  rfl
 rw [← e] at h1 h2 h3
 obtain ⟨a,b',c,d,e',he⟩:=rX h2
 rw [he] at h1 h3 ⊢
 have hm:∀ x,x∈[a,b',c,d,e']→0≤x∧x<4503599627370496:=fun x hx=>⟨(h1 x hx).1,Int.lt_trans (h1 x hx).2 (by decide)⟩
 refine ⟨⟨a,b',c,d,e',rfl,hm a (by simp),hm b' (by simp),hm c (by simp),hm d (by simp),hm e' (by simp)⟩,?_⟩
 rw [uQ,h3]
 rfl
theorem xf {b:List Int}:jL b=decide (b.length=32):=by
 unfold jL
 by_cases h:b.length=32
 ·have:((((b.length:Nat):Int):Int) != 32)=false:=by rw [h];rfl
  rw [this,aB,decide_eq_true h]
 ·have:((((b.length:Nat):Int):Int) != 32)=true:=by
   have:((b.length:Nat):Int)≠32:=by omega
   simpa using this
  rw [this,aC,decide_eq_false h]
theorem E.bytes {x:List Int} {v:Int} (h:E x v):F33 x=bK 256 32 (v % PF):=by rw [zd h.1,h.2]
theorem jp (v:Int):0≤v % PF∧v % PF<PF:=⟨Int.emod_nonneg _ (by decide),Int.emod_lt_of_pos _ (by decide)⟩
theorem Ay {v w:Int} (h:bK 256 32 (v % PF)=bK 256 32 (w % PF)):v % PF=w % PF:=by
 have h1:=congrArg (num 256) h
 rw [eM (by decide),eM (by decide)] at h1
 have a:=jp v
 have b:=jp w
 rw [Int.emod_eq_of_lt a.1 (Int.lt_trans a.2 (by decide)),Int.emod_eq_of_lt b.1 (Int.lt_trans b.2 (by decide))] at h1
 exact h1
theorem E.same {x y:List Int} {v w:Int} (hx:E x v) (hy:E y w):F29 x y=decide (v % PF=w % PF):=by
 unfold F29
 rw [hx.bytes,hy.bytes]
 by_cases h:v % PF=w % PF
 ·rw [h,decide_eq_true rfl];exact beq_self_eq_true _
 ·rw [decide_eq_false h]
  exact beq_eq_false_iff_ne.2 fun e=>h (Ay e)
theorem E.odd {x:List Int} {v:Int} (hx:E x v):F32 x=decide (v % PF % 2=1):=by
 obtain ⟨w1,w2,w3⟩:=sO hx.1
 have hd:=ak (jV 51) w1 (i:=0)
 have hb:=hO (m:=51) (by decide) w1 0
 have e0:∀ z:Int,z/2 ^ 0 % 2=z % 2:=fun z=>by rw [Int.pow_zero,Int.ediv_one]
 have hb':(F52 x).getD 0 0 % 2=v % PF % 2:=by rw [← hx.2,← w3,← e0 ((F52 x).getD 0 0),← e0 (num _ _)];exact hb
 unfold F32
 rw [vD fm (by decide) ⟨hd.1,Int.lt_trans hd.2 (by decide)⟩,hb']
 rfl
theorem jf {b:List Int} (hb:Dig 256 b):∃ N:Nat,num 256 b=(N:Int)∧N<2 ^ (8*b.length):=by
 obtain ⟨h1,h2⟩:=iC (B:=256) (by decide) hb
 obtain ⟨N,hN⟩:=Int.eq_ofNat_of_zero_le h1
 refine ⟨N,hN,?_⟩
 have e:(256:Int) ^ b.length=((2 ^ (8*b.length):Nat):Int):=by
  rw [Nat.pow_mul,Int.natCast_pow];rfl
 rw [hN,e] at h2
 exact Int.ofNat_lt.1 h2
theorem mL {b:List Int} (hb:Dig 256 b) {N:Nat} (hN:num 256 b=(N:Int)) (j:Nat):aM .u8 (aJ .u8 (b.getD (j/8) 0) ((j % 8:Nat):Int)) 1=((N/2 ^ j % 2:Nat):Int):=by
 have hd:=ak (B:=256) (by decide) hb (i:=j/8)
 rw [qp rT (by decide) (show j % 8≤8 by omega) hd,show b.getD (j/8) 0/2 ^ (j % 8) % 2=num 256 b/2 ^ j % 2 from hO (m:=8) (by decide) hb j,hN]
 rw [Int.natCast_emod,Int.natCast_ediv,Int.natCast_pow]
 rfl
theorem tQ {x b:List Int} {v:Int} (hx:E x v) (hb:Dig 256 b) {N:Nat} (hN:num 256 b=(N:Int)):E (F26 x b) (v ^ N):=by
 have hlt:N<2 ^ (8*b.length):=by
  obtain ⟨M,h1,h2⟩:=jf hb
  rw [hN] at h1
  have:N=M:=by omega
  rw [this];exact h2
 have key:∀ k,k≤8*b.length→E (itr (sS x b) k (F30 1)) (v ^ (N/2 ^ (8*b.length-k))):=by
  intro k
  induction k with
  |zero =>
   intro _
   rw [aX,Nat.sub_zero,Nat.div_eq_of_lt hlt,Int.pow_zero]
   exact iX (by decide)
  |succ k ih =>
   intro hk
   have h:=ih (by omega)
   rw [aP]
   generalize itr (sS x b) k (F30 1)=z at *
   unfold sS
   have ej:8*b.length-1-k=8*b.length-(k+1):=by omega
   rw [mL hb hN,ej]
   have e1:N/2 ^ (8*b.length-k)=N/2 ^ (8*b.length-(k+1))/2:=by
    rw [Nat.div_div_eq_div_mul,← Nat.pow_succ]
    congr 2
    omega
   rw [e1] at h
   generalize N/2 ^ (8*b.length-(k+1))=n at *
   have hsq:=sd h h
   rw [← Int.pow_add] at hsq
   rcases Nat.mod_two_eq_zero_or_one n with h0|h0
   ·rw [h0]
    have:(((0:Nat):Int)==1)=false:=rfl
    rw [this,aB]
    have:n/2+n/2=n:=by omega
    rw [this] at hsq
    exact hsq
   ·rw [h0]
    have:(((1:Nat):Int)==1)=true:=rfl
    rw [this,aC]
    have hm:=sd hsq hx
    rw [← Int.pow_succ] at hm
    have:(n/2+n/2).succ=n:=by omega
    rw [this] at hm
    exact hm
 have:=key (8*b.length) (Nat.le_refl _)
 rw [Nat.sub_self,Nat.pow_zero,Nat.div_one] at this
 exact this
end Go.Vm
namespace Go.Vm
open Go
def R (d:List Int) (v:Int):Prop:=d=bK 65536 16 (v % PF)
theorem R.to {x:List Int} {v w:Int} (h:R x v) (e:v % PF=w % PF):R x w:=by unfold R at *;rw [h,e]
def su (B:Int) (h:Nat→Int):Nat→Int
 |0=>0
 |j+1=>su B h j+h j*B ^ j
theorem fw (B:Int) (h:Nat→Int) (j:Nat):su B h (j+1)=su B h j+h j*B ^ j:=rfl
theorem xw (B:Int) (xs:List Int):∀ j,su B (fun i=>xs.getD i 0) j=num B (xs.take j)
 |0=>by simp [su,num]
 |j+1=>by rw [fw,xw B xs j,du]
theorem ge {B:Int} {xs:List Int} {n:Nat} (h:xs.length=n):su B (fun i=>xs.getD i 0) n=num B xs:=by
 rw [xw,List.take_of_length_le (by omega)]
theorem nJ (B:Int) (f g:Nat→Int):∀ j,su B (fun i=>f i+g i) j=su B f j+su B g j
 |0=>rfl
 |j+1=>by rw [fw,fw,fw,nJ B f g j,Int.add_mul];omega
theorem nv (B a:Int) (f:Nat→Int):∀ j,su B (fun i=>a*f i) j=a*su B f j
 |0=>by simp [su]
 |j+1=>by rw [fw,fw,nv B a f j,Int.mul_add,Int.mul_assoc]
theorem mi {B:Int} {f g:Nat→Int}:∀ {j:Nat},(∀ i,i<j→f i=g i)→su B f j=su B g j
 |0,_=>rfl
 |j+1,h=>by rw [fw,fw,mi (fun i hi=>h i (by omega)),h j (by omega)]
theorem ni {B:Int} {f:Nat→List Int→List Int} {g:Nat→Int} {p:List Int} {n o:Nat} (hn:n+o≤p.length)
  (hf:∀ k z,k<n→z.length=p.length→z.getD (k+o) 0=p.getD (k+o) 0→f k z=z.set (k+o) (g k)) :
  ∀ j,j≤n→(itr f j p).length=p.length∧(∀ i,i<j→(itr f j p).getD (i+o) 0=g i)∧(∀ i,i<o∨j+o≤i→(itr f j p).getD i 0=p.getD i 0) ∧
   num B (itr f j p)=num B p+su B (fun i=>g i-p.getD (i+o) 0) j*B ^ o:=by
 intro j
 induction j with
 |zero=>intro _;rw [aX];exact ⟨rfl,fun i hi=>absurd hi (by omega),fun _ _=>rfl,by simp [su]⟩
 |succ j ih =>
  intro hj
  obtain ⟨h1,h2,h3,h4⟩:=ih (by omega)
  rw [aP]
  generalize itr f j p=z at *
  have hz:=h3 (j+o) (Or.inr (Nat.le_refl _))
  rw [hf j z (by omega) h1 hz]
  refine ⟨by rw [List.length_set,h1],?_,?_,?_⟩
  ·intro i hi
   by_cases hij:i=j
   ·subst hij;rw [bz (by omega)]
   ·rw [bP (by omega)];exact h2 i (by omega)
  ·intro i hi
   rw [bP (by omega)];exact h3 i (by omega)
  ·rw [ew (by omega),h4,hz,fw,Int.add_mul,Int.mul_assoc _ (B ^ j),← Int.pow_add]
   omega
theorem mB {K:Int} {xs:List Int} (h:∀ i,i<xs.length→-K≤xs.getD i 0∧xs.getD i 0≤K):Bd K xs:=by
 intro x hx
 obtain ⟨j,hj,rfl⟩:=List.mem_iff_getElem.1 hx
 have:=h j hj
 rw [List.getD_eq_getElem?_getD,List.getElem?_eq_getElem hj] at this
 exact this
theorem pG {f:Nat→List Int→List Int} {g:Nat→Int} {p:List Int} {n:Nat} (hn:p.length=n) (K:Int)
  (hf:∀ k z,k<n→z.getD k 0=p.getD k 0→f k z=z.set k (g k)) (hg:∀ k,k<n→-K≤g k∧g k≤K) :
  (itr f n p).length=n∧Bd K (itr f n p)∧num 65536 (itr f n p)=su 65536 g n:=by
 obtain ⟨h1,h2,h3,h4⟩:=ni (B:=65536) (f:=f) (g:=g) (p:=p) (n:=n) (o:=0) (by omega) (fun k z hk _ h=>hf k z hk h) n (Nat.le_refl _)
 refine ⟨by omega,?_,?_⟩
 ·apply mB
  intro i hi
  have:=h2 i (by omega)
  rw [Nat.add_zero] at this
  rw [this]
  exact hg i (by omega)
 ·rw [h4,Int.pow_zero,Int.mul_one,← ge hn]
  have:∀ j,su 65536 (fun i=>p.getD i 0) j+su 65536 (fun i=>g i-p.getD (i+0) 0) j=su 65536 g j:=by
   intro j
   rw [← nJ]
   exact mi fun i _=>by rw [Nat.add_zero];omega
  exact this n
theorem R.len {d:List Int} {v:Int} (h:R d v):d.length=16:=by rw [h,aa]
theorem R.dig {d:List Int} {v:Int} (h:R d v):Dig 65536 d:=by rw [h];exact cW (by decide) _ _
theorem R.num {d:List Int} {v:Int} (h:R d v):num 65536 d=v % PF:=by
 rw [h,eM (by decide)]
 have a:=jp v
 exact Int.emod_eq_of_lt a.1 (Int.lt_trans a.2 (by decide))
theorem R.at {d:List Int} {v:Int} (h:R d v) (i:Nat):0≤d.getD i 0∧d.getD i 0<65536:=ak (by decide) h.dig
theorem vJ {d:List Int} {v:Int} (hl:d.length=16) (hd:Bd 1099511627776 d) (hv:Go.Vm.num 65536 d % PF=v % PF):R (F46 d) v:=by
 unfold R;rw [Dw hl hd,hv]
theorem Iz {x y:List Int} {v w:Int} (hx:R x v) (hy:R y w):R (F17 x y) (v+w):=by
 obtain ⟨h1,h2,h3⟩:=pG (f:=vC y) (g:=fun k=>x.getD k 0+y.getD k 0) hx.len 1099511627776 (by
  intro k z hk hz
  unfold vC
  have a:=hx.at k
  have b:=hy.at k
  rw [hz,cY (by omega) (by omega)]) (by
  intro k hk
  have a:=hx.at k
  have b:=hy.at k
  omega)
 refine vJ h1 h2 ?_
 rw [h3,nJ,ge hx.len,ge hy.len,hx.num,hy.num,← Int.add_emod]
theorem ii {n:Int} (h:-1099511627776≤n∧n≤1099511627776):R (F31 n) n:=by
 unfold F31
 refine vJ rfl ?_ ?_
 ·intro x hx
  simp only [List.mem_cons,List.not_mem_nil,or_false] at hx
  omega
 ·simp [num]
theorem IN {x y:List Int} {v w:Int} (hx:R x v) (hy:R y w):R (F19 x y) (v-w):=by
 obtain ⟨h1,h2,h3⟩:=pG (f:=fX y) (g:=fun k=>x.getD k 0+(-1)*y.getD k 0) hx.len 65536 (by
  intro k z hk hz
  unfold fX
  have a:=hx.at k
  have b:=hy.at k
  rw [hz,gY (by omega) (by omega)];congr 1;omega) (by
  intro k hk
  have a:=hx.at k
  have b:=hy.at k
  omega)
 rw [nJ,nv,ge hx.len,ge hy.len,hx.num,hy.num] at h3
 unfold F19
 generalize itr (fX y) 16 x=z at *
 have z0:=h2.at (by decide) 0
 rw [cY (y:=131034) (by omega) (by omega)]
 obtain ⟨k1,k2,k3,k4⟩:=ni (B:=65536) (f:=lQ) (g:=fun k=>z.getD (k+1) 0+131070) (p:=z.set 0 (z.getD 0 0+131034)) (n:=14) (o:=1) (by rw [List.length_set];omega) (by
  intro k z' hk hl hz
  unfold lQ
  rw [bP (by omega)] at hz
  have b:=h2.at (by decide) (k+1)
  rw [hz,cY (by omega) (by omega)]) 14 (Nat.le_refl _)
 generalize itr lQ 14 (z.set 0 (z.getD 0 0+131034))=u at *
 have u15:=k3 15 (by omega)
 rw [bP (by omega)] at u15
 have z15:=h2.at (by decide) 15
 rw [u15,cY (by omega) (by omega)]
 have ul:u.length=16:=by rw [k1,List.length_set,h1]
 refine vJ (by rw [List.length_set,ul]) ?_ ?_
 ·refine Bd.set (mB ?_) (by omega)
  intro i hi
  by_cases i0:i=0
  ·have:=k3 0 (by omega)
   rw [bz (by omega)] at this
   rw [i0,this];omega
  ·by_cases i15:i=15
   ·rw [i15,u15];omega
   ·have:=k2 (i-1) (by omega)
    rw [show i-1+1=i by omega] at this
    have b:=h2.at (by decide) i
    rw [this];omega
 ·rw [ew (by omega),u15,k4,ew (by omega),h3]
  have e:su 65536 (fun i=>z.getD (i+1) 0+131070-(z.set 0 (z.getD 0 0+131034)).getD (i+1) 0) 14=su 65536 (fun _=>131070) 14:=mi fun i _=>by rw [bP (by omega)];omega
  have e2:su 65536 (fun _=>131070) 14=53919893334301279589334030174039261347274288845081144962207220498430:=by kernel_rfl
  rw [e,e2]
  have q0:(65536:Int) ^ 0=1:=rfl
  have q1:(65536:Int) ^ 1=65536:=rfl
  have q15:(65536:Int) ^ 15=1766847064778384329583297500742918515827483896875618958121606201292619776:=rfl
  rw [q0,q1,q15]
  have:v % PF + -1*(w % PF)+(z.getD 0 0+131034-z.getD 0 0)*1+53919893334301279589334030174039261347274288845081144962207220498430*65536+(z.getD 15 0+65534-z.getD 15 0)*1766847064778384329583297500742918515827483896875618958121606201292619776=(v % PF-w % PF)+2*PF:=by
   unfold PF;omega
  rw [this,pX rfl,← Int.sub_emod]
theorem wF (n i:Nat):(List.replicate n (0:Int)).getD i 0=0:=by
 rw [List.getD_eq_getElem?_getD,List.getElem?_replicate]
 split <;> rfl
theorem iY {B:Int} (hB:0<B):∀ (n m:Nat) (v:Int),bK B (n+m) v=bK B n v++bK B m (v/B ^ n)
 |0,m,v=>by rw [Nat.zero_add,Int.pow_zero,Int.ediv_one];rfl
 |n+1,m,v=>by
  rw [Nat.add_right_comm,fD,iY hB n m,fD,List.cons_append,Int.ediv_ediv_of_nonneg (by omega),Int.pow_succ,Int.mul_comm B]
theorem BL {a b:Int} (ha:0≤a∧a<65536) (hb:0≤b∧b<65536):0≤a*b∧a*b≤4294967296:=by
 refine ⟨Int.mul_nonneg ha.1 hb.1,?_⟩
 have h:=Int.mul_le_mul (a:=a) (b:=b) (c:=65536) (d:=65536) (by omega) (by omega) hb.1 (by omega)
 omega
theorem oY {x y:List Int} {v w:Int} (hx:R x v) (hy:R y w):R (F21 x y) (v*w):=by
 have inner:∀ k0:Nat,k0<16→∀ z:List Int,z.length=32→Bd ((k0:Int)*4294967296) z →
   (iz x y k0 z).length=32∧Bd (((k0+1:Nat):Int)*4294967296) (iz x y k0 z)∧num 65536 (iz x y k0 z)=num 65536 z+x.getD k0 0*num 65536 y*65536 ^ k0:=by
  intro k0 h0 z hz hb
  have hx0:=hx.at k0
  obtain ⟨h1,h2,h3,h4⟩:=ni (B:=65536) (f:=yI x y k0) (g:=fun k=>z.getD (k+k0) 0+x.getD k0 0*y.getD k 0) (p:=z) (n:=16) (o:=k0) (by omega) (by
   intro k z' hk hl he
   unfold yI
   have a:=hb.at (by omega) (k+k0)
   have b:=BL hx0 (hy.at k)
   rw [Nat.add_comm k0 k,he,cD (by omega) (by omega),cY (by omega) (by omega)]) 16 (Nat.le_refl _)
  unfold iz
  refine ⟨by rw [h1,hz],?_,?_⟩
  ·apply mB
   intro i hi
   have a:=hb.at (by omega) i
   have e:((k0+1:Nat):Int)*4294967296=(k0:Int)*4294967296+4294967296:=by omega
   by_cases hik:i<k0∨16+k0≤i
   ·rw [h3 i hik,e];omega
   ·have:=h2 (i-k0) (by omega)
    rw [show i-k0+k0=i by omega] at this
    have b:=BL hx0 (hy.at (i-k0))
    rw [this,e];omega
  ·rw [h4]
   congr 2
   have e:su 65536 (fun i=>z.getD (i+k0) 0+x.getD k0 0*y.getD i 0-z.getD (i+k0) 0) 16=su 65536 (fun i=>x.getD k0 0*y.getD i 0) 16:=mi fun i _=>by omega
   rw [e,nv,ge hy.len]
 have outer:∀ j,j≤16→(itr (iz x y) j (List.replicate 32 0)).length=32∧Bd ((j:Int)*4294967296) (itr (iz x y) j (List.replicate 32 0))∧num 65536 (itr (iz x y) j (List.replicate 32 0))=num 65536 (x.take j)*num 65536 y:=by
  intro j
  induction j with
  |zero =>
   intro _
   rw [aX]
   refine ⟨rfl,?_,by rw [gu];simp [num]⟩
   intro a ha
   rw [List.eq_of_mem_replicate ha];omega
  |succ j ih =>
   intro hj
   obtain ⟨h1,h2,h3⟩:=ih (by omega)
   obtain ⟨i1,i2,i3⟩:=inner j (by omega) _ h1 h2
   rw [aP]
   refine ⟨i1,i2,?_⟩
   rw [i3,h3,du,Int.add_mul]
   congr 1
   rw [Int.mul_assoc,Int.mul_assoc,Int.mul_comm (65536 ^ j)]
 obtain ⟨o1,o2,o3⟩:=outer 16 (Nat.le_refl _)
 rw [List.take_of_length_le (by rw [hx.len];decide),hx.num,hy.num] at o3
 have hch:=nk (n:=32) o1 (fun a ha=>by have:=o2 a ha;omega)
 rw [o3] at hch
 have hV:0≤v % PF*(w % PF):=Int.mul_nonneg (jp v).1 (jp w).1
 have hV2:v % PF*(w % PF)≤3351951982485649274893506249551461531869841455148098344430890360930441007516186694504959566828678008207342894297409383004791299986236948390458062788362601:=by
  have h:=Int.mul_le_mul (a:=v % PF) (b:=w % PF) (c:=PF) (d:=PF) (Int.le_of_lt (jp v).2) (Int.le_of_lt (jp w).2) (jp w).1 (by decide)
  have e:PF*PF=3351951982485649274893506249551461531869841455148098344430890360930441007516186694504959566828678008207342894297409383004791299986236948390458062788362601:=by kernel_rfl
  rw [e] at h
  exact h
 refine R.to (v:=v % PF*(w % PF)) ?_ (Int.mul_emod v w PF).symm
 generalize v % PF*(w % PF)=V at *
 have hsp:=iY (B:=65536) (by decide) 16 16 V
 have e0:F21 x y=F46 (itr (sA x y) 16 (List.replicate 16 0)):=rfl
 have ez:([0,0,0,0,0,0,0,0,0,0,0,0,0,0,0,0,0,0,0,0,0,0,0,0,0,0,0,0,0,0,0,0]:List Int)=List.replicate 32 0:=rfl
 have g1:∀ k,k<16→(bK 65536 32 V).getD k 0=(bK 65536 16 V).getD k 0:=by
  intro k hk
  rw [show 32=16+16 from rfl,hsp,List.getD_eq_getElem?_getD,List.getElem?_append_left (by rw [aa];exact hk),← List.getD_eq_getElem?_getD]
 have g2:∀ k,k<16→(bK 65536 32 V).getD (k+16) 0=(bK 65536 16 (V/65536 ^ 16)).getD k 0:=by
  intro k hk
  rw [show 32=16+16 from rfl,hsp,List.getD_eq_getElem?_getD,List.getElem?_append_right (by rw [aa];omega),aa,Nat.add_sub_cancel,← List.getD_eq_getElem?_getD]
 obtain ⟨h1,h2,h3⟩:=pG (f:=sA x y) (p:=List.replicate 16 0) (n:=16) (g:=fun k=>(bK 65536 16 V).getD k 0+38*(bK 65536 16 (V/65536 ^ 16)).getD k 0) rfl 1099511627776 (by
  intro k z hk hz
  unfold sA
  rw [ez,Cw,hch]
  simp only
  rw [g1 k hk,g2 k hk]
  have a:=ak (i:=k) (by decide) (cW (B:=65536) (by decide) 16 V)
  have b:=ak (i:=k) (by decide) (cW (B:=65536) (by decide) 16 (V/65536 ^ 16))
  rw [cD (by omega) (by omega),cY (by omega) (by omega)]) (by
  intro k hk
  have a:=ak (i:=k) (by decide) (cW (B:=65536) (by decide) 16 V)
  have b:=ak (i:=k) (by decide) (cW (B:=65536) (by decide) 16 (V/65536 ^ 16))
  omega)
 rw [e0]
 refine vJ h1 h2 ?_
 have hp:(65536:Int) ^ 16=115792089237316195423570985008687907853269984665640564039457584007913129639936:=by rfl
 rw [h3,nJ,nv,ge (aa _ _ _),ge (aa _ _ _),eM (by decide),eM (by decide),hp]
 have:V=V % 115792089237316195423570985008687907853269984665640564039457584007913129639936+38*(V/115792089237316195423570985008687907853269984665640564039457584007913129639936 % 115792089237316195423570985008687907853269984665640564039457584007913129639936)+(2*(V/115792089237316195423570985008687907853269984665640564039457584007913129639936))*PF:=by
  unfold PF;omega
 exact (pX this).symm
end Go.Vm
namespace Go.Vm
open Go
theorem vS (b:List Int):∀ j,su 65536 (fun k=>b.getD (2*k) 0+256*b.getD (2*k+1) 0) j=num 256 (b.take (2*j))
 |0=>by simp [su,num]
 |j+1=>by
  rw [fw,vS b j,show 2*(j+1)=2*j+1+1 by omega,du,du,Int.pow_succ]
  have e:(65536:Int) ^ j=256 ^ (2*j):=by rw [Int.pow_mul];rfl
  rw [e,Int.add_mul]
  generalize (256:Int) ^ (2*j)=p
  rw [Int.mul_comm p 256,← Int.mul_assoc,Int.mul_comm 256 (b.getD _ _)]
  omega
theorem ei {x:Int} (h:0≤x∧x<256):IntKind.wrap .i64 x=x:=bn (by omega) (by omega)
theorem HQ {b:List Int} (hb:Dig 256 b) (hl:b.length=32):R (F24 b) (num 256 b % 57896044618658097711785492504343953926634992332820282019728792003956564819968):=by
 obtain ⟨h1,h2,h3⟩:=pG (f:=fq b) (p:=List.replicate 16 0) (n:=16) (g:=fun k=>b.getD (2*k) 0+256*b.getD (2*k+1) 0) rfl 65536 (by
  intro k z hk hz
  unfold fq
  have a:=ak (i:=2*k) (by decide) hb
  have c:=ak (i:=2*k+1) (by decide) hb
  rw [ei a,ei c,cD (by omega) (by omega),cY (by omega) (by omega)]) (by
  intro k hk
  have a:=ak (i:=2*k) (by decide) hb
  have c:=ak (i:=2*k+1) (by decide) hb
  omega)
 have h15:0≤(itr (fq b) 16 (List.replicate 16 0)).getD 15 0:=by
  obtain ⟨k1,k2,k3,k4⟩:=ni (B:=65536) (f:=fq b) (p:=List.replicate 16 0) (n:=16) (o:=0) (g:=fun k=>b.getD (2*k) 0+256*b.getD (2*k+1) 0) (by decide) (by
   intro k z hk _ hz
   unfold fq
   have a:=ak (i:=2*k) (by decide) hb
   have c:=ak (i:=2*k+1) (by decide) hb
   rw [ei a,ei c,cD (by omega) (by omega),cY (by omega) (by omega)];rfl) 16 (Nat.le_refl _)
  have:=k2 15 (by decide)
  have a:=ak (i:=30) (by decide) hb
  have c:=ak (i:=31) (by decide) hb
  have e:(itr (fq b) 16 (List.replicate 16 0)).getD 15 0=b.getD 30 0+256*b.getD 31 0:=this
  omega
 rw [vS,List.take_of_length_le (by omega)] at h3
 have e0:F24 b=F46 ((itr (fq b) 16 (List.replicate 16 0)).set 15 (bL ((itr (fq b) 16 (List.replicate 16 0)).getD 15 0) 32768)):=rfl
 have hD:Dig 65536 (itr (fq b) 16 (List.replicate 16 0)):=by
  obtain ⟨k1,k2,k3,k4⟩:=ni (B:=65536) (f:=fq b) (p:=List.replicate 16 0) (n:=16) (o:=0) (g:=fun k=>b.getD (2*k) 0+256*b.getD (2*k+1) 0) (by decide) (by
   intro k z hk _ hz
   unfold fq
   have a:=ak (i:=2*k) (by decide) hb
   have c:=ak (i:=2*k+1) (by decide) hb
   rw [ei a,ei c,cD (by omega) (by omega),cY (by omega) (by omega)];rfl) 16 (Nat.le_refl _)
  apply kT
  intro i hi
  have e:=k2 i (by omega)
  have a:=ak (i:=2*i) (by decide) hb
  have c:=ak (i:=2*i+1) (by decide) hb
  rw [Nat.add_zero] at e
  rw [e];omega
 rw [e0]
 have g15:=iF (B:=65536) (by decide) (i:=15) hD
 rw [h3] at g15
 generalize itr (fq b) 16 (List.replicate 16 0)=d at *
 have b15:=ak (i:=15) (by decide) hD
 have erem:bL (d.getD 15 0) 32768=d.getD 15 0 % 32768:=by
  unfold bL;exact Int.tmod_eq_emod_of_nonneg h15
 rw [erem]
 refine vJ (by rw [List.length_set,h1]) ((hD.bd (by decide)).set (by omega)) ?_
 rw [ew (by omega),h3,g15]
 have hq:(65536:Int) ^ 15=1766847064778384329583297500742918515827483896875618958121606201292619776:=rfl
 rw [hq]
 congr 1
 obtain ⟨n1,n2⟩:=iC (B:=256) (by decide) hb
 rw [hl] at n2
 have hp:(256:Int) ^ 32=115792089237316195423570985008687907853269984665640564039457584007913129639936:=rfl
 rw [hp] at n2
 omega
theorem R.beq {m n:List Int} {v w:Int} (hm:R m v) (hn:R n w):(m==n)=decide (v % PF=w % PF):=by
 by_cases h:v % PF=w % PF
 ·rw [decide_eq_true h]
  unfold R at hm hn
  rw [hm,hn,h];exact beq_self_eq_true _
 ·rw [decide_eq_false h]
  refine beq_eq_false_iff_ne.2 fun e=>h ?_
  rw [← hm.num,← hn.num,e]
theorem sX {b:List Int} (hb:Dig 256 b) {N:Nat} (hN:num 256 b=(N:Int)) (k j:Nat) (hj:j<8):bL (aJ .u8 (b.getD k 0) (j:Int)) 2=((N/2 ^ (8*k+j) % 2:Nat):Int):=by
 have h:=mL hb hN (8*k+j)
 rw [show (8*k+j)/8=k by omega,show (8*k+j) % 8=j by omega] at h
 have hd:=ak (B:=256) (by decide) hb (i:=k)
 rw [qp rT (by decide) (show j≤8 by omega) hd] at h
 rw [← h,ec .u8 _ j (show j≤8 by omega)]
 unfold bL
 exact Int.tmod_eq_emod_of_nonneg (Int.ediv_nonneg hd.1 (Int.le_of_lt (jV j)))
theorem oG (x k:Nat):x % 2 ^ (k+1)=x % 2 ^ k+x/2 ^ k % 2*2 ^ k:=by
 have h:=ya (x:Int) k
 have e:∀ n:Nat,(2:Int) ^ n=((2 ^ n:Nat):Int):=fun n=>by rw [Int.natCast_pow];rfl
 rw [e,e] at h
 exact_mod_cast h
theorem AG {x b:List Int} {v:Int} (hx:R x v) (hb:Dig 256 b) {N:Nat} (hN:num 256 b=(N:Int)):R (F27 x b) (v ^ N):=by
 have inner:∀ k,∀ z:List Int × List Int,R z.1 (v ^ (N % 2 ^ (8*k)))→R z.2 (v ^ (2 ^ (8*k)))→∀ j,j≤8 →
   R (itr (qg b k) j z).1 (v ^ (N % 2 ^ (8*k+j)))∧R (itr (qg b k) j z).2 (v ^ (2 ^ (8*k+j))):=by
  intro k z h1 h2 j
  induction j with
  |zero=>intro _;rw [aX];exact ⟨h1,h2⟩
  |succ j ih =>
   intro hj
   obtain ⟨g1,g2⟩:=ih (by omega)
   rw [aP]
   generalize itr (qg b k) j z=u at *
   unfold qg
   simp only
   rw [sX hb hN k j (by omega)]
   refine ⟨?_,?_⟩
   ·rw [show 8*k+(j+1)=(8*k+j)+1 by omega,oG]
    generalize 8*k+j=i at *
    rcases Nat.mod_two_eq_zero_or_one (N/2 ^ i) with h0|h0
    ·rw [h0,Nat.zero_mul,Nat.add_zero]
     have:(((0:Nat):Int)==1)=false:=rfl
     rw [this,aB]
     exact g1
    ·rw [h0,Nat.one_mul]
     have:(((1:Nat):Int)==1)=true:=rfl
     rw [this,aC,Int.pow_add]
     exact oY g1 g2
   ·rw [show 8*k+(j+1)=(8*k+j)+1 by omega,Nat.pow_succ,Nat.mul_two,Int.pow_add]
    exact oY g2 g2
 have outer:∀ k,k≤b.length→R (itr (wB b) k (F31 1,x)).1 (v ^ (N % 2 ^ (8*k)))∧R (itr (wB b) k (F31 1,x)).2 (v ^ (2 ^ (8*k))):=by
  intro k
  induction k with
  |zero =>
   intro _
   rw [aX,Nat.mul_zero,Nat.pow_zero,Nat.mod_one,Int.pow_zero,Int.pow_one]
   exact ⟨ii (by decide),hx⟩
  |succ k ih =>
   intro hk
   obtain ⟨g1,g2⟩:=ih (by omega)
   rw [aP]
   obtain ⟨i1,i2⟩:=inner k _ g1 g2 8 (Nat.le_refl _)
   rw [show 8*(k+1)=8*k+8 by omega]
   exact ⟨i1,i2⟩
 have hlt:N<2 ^ (8*b.length):=by
  obtain ⟨M,h1,h2⟩:=jf hb
  rw [hN] at h1
  have:N=M:=by omega
  rw [this];exact h2
 have:=(outer b.length (Nat.le_refl _)).1
 rw [Nat.mod_eq_of_lt hlt] at this
 unfold F27
 rw [Nat.sub_zero]
 exact this
theorem zR (v:Int) (j:Nat):v/65536 ^ j=v/256 ^ (2*j):=by
 rw [Int.pow_mul];rfl
theorem Dy {d:List Int} {v:Int} (hd:R d v):∀ j,j≤16→itr (jC d) j (0,[])=(2*j,bK 256 (2*j) (v % PF)):=by
 intro j
 induction j with
 |zero=>intro _;rw [aX];rfl
 |succ j ih =>
  intro hj
  rw [aP,ih (by omega)]
  unfold jC
  simp only
  have h1:d.getD j 0=v % PF/65536 ^ j % 65536:=by rw [hd,cZ (by decide) 16 j _ (by omega)]
  have h2:=hd.at j
  have e1:IntKind.wrap .u8 (bL (d.getD j 0) 256)=d.getD j 0 % 256:=by
   unfold bL
   rw [Int.tmod_eq_emod_of_nonneg h2.1,dC];omega
  have e2:IntKind.wrap .u8 (fc .i64 (d.getD j 0) 256)=d.getD j 0/256:=by
   unfold fc
   rw [Int.tdiv_eq_ediv_of_nonneg h2.1,bn (by omega) (by omega),dC];omega
  rw [e1,e2,show 2*(j+1)=2*j+2 by omega,iY (by decide) (2*j) 2]
  refine Prod.ext rfl ?_
  simp only
  congr 1
  rw [h1,zR]
  generalize v % PF/256 ^ (2*j)=u
  show _=[u % 256,u/256 % 256]
  congr 1
  ·omega
  ·congr 1;omega
theorem Dv {d:List Int} {v:Int} (hd:R d v):F49 d=bK 256 32 (v % PF):=by
 unfold F49;rw [Dy hd 16 (Nat.le_refl _)]
theorem uV:F50 255 21=[235,255,255,255,255,255,255,255,255,255,255,255,255,255,255,255,255,255,255,255,255,255,255,255,255,255,255,255,255,255,255,127]:=by kernel_rfl
theorem xC:F50 252 2=[254,255,255,255,255,255,255,255,255,255,255,255,255,255,255,255,255,255,255,255,255,255,255,255,255,255,255,255,255,255,255,15]:=by kernel_rfl
theorem wN:F50 253 5=[251,255,255,255,255,255,255,255,255,255,255,255,255,255,255,255,255,255,255,255,255,255,255,255,255,255,255,255,255,255,255,31]:=by kernel_rfl
theorem wb:F51 255 21=[235,255,255,255,255,255,255,255,255,255,255,255,255,255,255,255,255,255,255,255,255,255,255,255,255,255,255,255,255,255,255,127]:=by kernel_rfl
theorem zu:F51 252 2=[254,255,255,255,255,255,255,255,255,255,255,255,255,255,255,255,255,255,255,255,255,255,255,255,255,255,255,255,255,255,255,15]:=by kernel_rfl
theorem zW:F51 253 5=[251,255,255,255,255,255,255,255,255,255,255,255,255,255,255,255,255,255,255,255,255,255,255,255,255,255,255,255,255,255,255,31]:=by kernel_rfl
def ou:Nat:=57896044618658097711785492504343953926634992332820282019728792003956564819947
def cw:Nat:=7237005577332262213973186563042994240829374041602535252466099000494570602494
def pC:Nat:=14474011154664524427946373126085988481658748083205070504932198000989141204987
theorem lG (xs:List Int) (h:xs.length=32):aA xs 32 0 32=xs:=aV h
theorem Hr {x:List Int} {v:Int} (hx:E x v):E (F25 x) (v ^ ou):=by
 unfold F25
 rw [uV,lG _ rfl]
 exact tQ hx (by unfold Dig;decide) (N:=ou) (by kernel_rfl)
theorem Ie {x:List Int} {v:Int} (hx:R x v):R (F28 x) (v ^ ou):=by
 unfold F28
 rw [wb,lG _ rfl]
 exact AG hx (by unfold Dig;decide) (N:=ou) (by kernel_rfl)
end Go.Vm
namespace Tabn
def bO (n:Nat):Prop:=2≤n∧∀ m,m ∣ n→m=1∨m=n
theorem bO.coprime_of_lt {p k:Nat} (hp:bO p) (h0:0<k) (h1:k<p):Nat.Coprime p k:=by
 rcases hp.2 (Nat.gcd p k) (Nat.gcd_dvd_left p k) with h|h
 ·exact h
 ·have:=Nat.gcd_dvd_right p k
  rw [h] at this
  have:=Nat.le_of_dvd h0 this
  omega
theorem bO.dvd_mul {p a b:Nat} (hp:bO p) (h:p ∣ a*b):p ∣ a∨p ∣ b:=by
 rcases hp.2 (Nat.gcd p a) (Nat.gcd_dvd_left p a) with h1|h1
 ·exact .inr (Nat.Coprime.dvd_of_dvd_mul_left h1 h)
 ·exact .inl (h1 ▸ Nat.gcd_dvd_right p a)
def bu:Nat→Nat→Nat
 |_,0=>1
 |0,_+1=>0
 |n+1,k+1=>bu n k+bu n (k+1)
theorem jS:∀ n k,n<k→bu n k=0
 |0,0,h=>by omega
 |0,k+1,_=>rfl
 |n+1,0,h=>by omega
 |n+1,k+1,h=>by
  show bu n k+bu n (k+1)=0
  rw [jS n k (by omega),jS n (k+1) (by omega)]
theorem ie (n:Nat):bu n 0=1:=by cases n <;> rfl
theorem oL:∀ n,bu n n=1
 |0=>rfl
 |n+1=>by
  show bu n n+bu n (n+1)=1
  rw [oL n,jS n (n+1) (by omega)]
theorem lc:∀ n k,(n+1)*bu n k=bu (n+1) (k+1)*(k+1)
 |n,0=>by
  show (n+1)*bu n 0=(bu n 0+bu n 1)*1
  induction n with
  |zero=>rfl
  |succ n ih =>
   simp only [ie] at ih ⊢
   have:bu (n+1) 1=bu n 0+bu n 1:=rfl
   rw [this,ie]
   omega
 |0,k+1=>by
  show (0+1)*bu 0 (k+1)=(bu 0 (k+1)+bu 0 (k+2))*(k+2)
  simp [bu]
 |n+1,k+1=>by
  have h1:=lc n k
  have h2:=lc n (k+1)
  have e1:bu (n+2) (k+2)=bu (n+1) (k+1)+bu (n+1) (k+2):=rfl
  have e2:bu (n+1) (k+1)=bu n k+bu n (k+1):=rfl
  show (n+1+1)*bu (n+1) (k+1)=bu (n+2) (k+2)*(k+1+1)
  rw [e1]
  grind
theorem nZ {p k:Nat} (hp:bO p) (h0:0<k) (h1:k<p):p ∣ bu p k:=by
 obtain ⟨n,rfl⟩:∃ n,p=n+1:=⟨p-1,by omega⟩
 obtain ⟨j,rfl⟩:∃ j,k=j+1:=⟨k-1,by omega⟩
 have h:=lc n j
 have hd:(n+1) ∣ bu (n+1) (j+1)*(j+1):=⟨bu n j,h.symm⟩
 exact Nat.Coprime.dvd_of_dvd_mul_right (hp.coprime_of_lt h0 h1) hd
def eb (n a:Nat):Nat→Nat
 |0=>0
 |m+1=>eb n a m+bu n m*a ^ m
theorem oo (n a:Nat):∀ m,eb (n+1) a (m+1)=eb n a (m+1)+a*eb n a m
 |0=>by simp [eb,ie]
 |m+1=>by
  have ih:=oo n a m
  have e:bu (n+1) (m+1)=bu n m+bu n (m+1):=rfl
  rw [eb,ih,e,eb,eb,eb,Nat.pow_succ]
  grind
theorem ve (a:Nat):∀ n,(a+1) ^ n=eb n a (n+1)
 |0=>by simp [eb,bu]
 |n+1=>by
  have e:eb n a (n+1+1)=eb n a (n+1):=by
   rw [eb,jS n (n+1) (by omega)];simp
  rw [Nat.pow_succ,ve a n,oo,e]
  grind
theorem ql {p:Nat} (hp:bO p) (a:Nat):∀ m,m+1≤p→eb p a (m+1) % p=1 % p
 |0,_=>by simp [eb,ie]
 |m+1,h=>by
  rw [eb,Nat.add_mod,ql hp a m (by omega)]
  obtain ⟨c,hc⟩:=nZ hp (show 0<m+1 by omega) (by omega)
  rw [hc,Nat.mul_assoc,Nat.mul_mod_right]
  simp
theorem zk {p:Nat} (hp:bO p) (a:Nat):(a+1) ^ p % p=(a ^ p+1) % p:=by
 have h2:=hp.1
 rw [ve,eb,oL,Nat.one_mul]
 obtain ⟨q,hq⟩:∃ q,p=q+1:=⟨p-1,by omega⟩
 have:=ql hp a q (by omega)
 rw [← hq] at this
 rw [Nat.add_mod,this,← Nat.add_mod,Nat.add_comm]
theorem BI {p:Nat} (hp:bO p):∀ a,a ^ p % p=a % p
 |0=>by rw [Nat.zero_pow (by have:=hp.1;omega)]
 |a+1=>by
  rw [zk hp,Nat.add_mod,BI hp a,← Nat.add_mod]
theorem kI {p a b:Nat} (h:a % p=b % p):p ∣ a-b:=Nat.dvd_of_mod_eq_zero (Nat.sub_mod_eq_zero_of_mod_eq h)
theorem kA {p a b:Nat} (hle:b≤a) (h:p ∣ a-b):a % p=b % p:=by
 obtain ⟨c,hc⟩:=h
 have:a=b+p*c:=by omega
 rw [this,Nat.add_mul_mod_self_left]
theorem xb {p a b c:Nat} (hp:bO p) (ha:¬ p ∣ a) (h:a*b % p=a*c % p):b % p=c % p:=by
 rcases Nat.le_total b c with hbc|hbc
 ·have h1:p ∣ a*c-a*b:=kI h.symm
  rw [← Nat.mul_sub] at h1
  rcases hp.dvd_mul h1 with h2|h2
  ·exact absurd h2 ha
  ·exact (kA hbc h2).symm
 ·have h1:p ∣ a*b-a*c:=kI h
  rw [← Nat.mul_sub] at h1
  rcases hp.dvd_mul h1 with h2|h2
  ·exact absurd h2 ha
  ·exact (kA hbc h2)
theorem fermat_one {p a:Nat} (hp:bO p) (ha:¬ p ∣ a):a ^ (p-1) % p=1 % p:=by
 refine xb hp ha ?_
 have h2:=hp.1
 have e:a*a ^ (p-1)=a ^ p:=by
  rw [← Nat.pow_succ'];congr 1;omega
 rw [e,Nat.mul_one,BI hp]
def pw (m:Nat):Nat→Nat→Nat→Nat
 |0,_,_=>1 % m
 |f+1,a,e=>if e=0 then 1 % m else if e % 2=1 then a*pw m f (a*a % m) (e/2) % m else pw m f (a*a % m) (e/2)
theorem pmod_eq (m:Nat):∀ f a e,e<2 ^ f→pw m f a e=a ^ e % m
 |0,a,e,h=>by
  have:e=0:=by simpa using h
  subst this
  rfl
 |f+1,a,e,h=>by
  have hlt:e/2<2 ^ f:=by rw [Nat.pow_succ] at h;omega
  have hs:(a*a % m) ^ (e/2) % m=a ^ (2*(e/2)) % m:=by
   rw [← Nat.pow_mod,Nat.pow_mul,Nat.pow_two]
  unfold pw
  by_cases h0:e=0
  ·subst h0;simp
  ·rw [if_neg h0,pmod_eq m f _ _ hlt,hs]
   by_cases h1:e % 2=1
   ·rw [if_pos h1]
    rw [Nat.mul_mod,Nat.mod_mod,← Nat.mul_mod,← Nat.pow_succ']
    congr 2;omega
   ·rw [if_neg h1]
    congr 2;omega
theorem mt:∀ n,2≤n→∃ r,bO r∧r ∣ n:=by
 intro n
 induction n using Nat.strongRecOn with
 |_ n ih =>
  intro hn
  by_cases hp:bO n
  ·exact ⟨n,hp,Nat.dvd_refl n⟩
  ·have:∃ m,m ∣ n∧m≠1∧m≠n:=by
    apply Classical.byContradiction
    intro h
    apply hp
    refine ⟨hn,fun m hm=>?_⟩
    apply Classical.byContradiction
    intro h2
    exact h ⟨m,hm,fun e=>h2 (.inl e),fun e=>h2 (.inr e)⟩
   obtain ⟨m,hm,h1,h2⟩:=this
   have hle:=Nat.le_of_dvd (by omega) hm
   have h0:m≠0:=by rintro rfl;have:=Nat.eq_zero_of_zero_dvd hm;omega
   obtain ⟨r,hr,hd⟩:=ih m (by omega) (by omega)
   exact ⟨r,hr,Nat.dvd_trans hd hm⟩
theorem kB {n:Nat} (hn:2≤n) (h:∀ r,bO r→r ∣ n→n<r*r):bO n:=by
 refine ⟨hn,fun m hm=>?_⟩
 obtain ⟨e,he⟩:=hm
 by_cases h1:m=1
 ·exact .inl h1
 by_cases h2:e=1
 ·subst h2;right;omega
 exfalso
 have hm0:m≠0:=by rintro rfl;omega
 have he0:e≠0:=by rintro rfl;omega
 obtain ⟨r,hr,hrd⟩:=mt m (by omega)
 obtain ⟨s,hs,hsd⟩:=mt e (by omega)
 have a1:=h r hr (Nat.dvd_trans hrd ⟨e,he⟩)
 have a2:=h s hs (Nat.dvd_trans hsd ⟨m,by rw [he,Nat.mul_comm]⟩)
 have b1:=Nat.le_of_dvd (by omega) hrd
 have b2:=Nat.le_of_dvd (by omega) hsd
 rcases Nat.le_total m e with hle|hle
 ·have:r*r≤m*e:=Nat.mul_le_mul b1 (Nat.le_trans b1 hle)
  omega
 ·have:s*s≤m*e:=Nat.mul_le_mul (Nat.le_trans b2 hle) b2
  omega
theorem vn {p b m:Nat} (k:Nat) (h:b ^ m % p=1 % p):b ^ (m*k) % p=1 % p:=by
 rw [Nat.pow_mul,Nat.pow_mod,h,← Nat.pow_mod,Nat.one_pow]
theorem vO {p b:Nat}:∀ m n,b ^ m % p=1 % p→b ^ n % p=1 % p→b ^ (Nat.gcd m n) % p=1 % p:=by
 intro m n
 induction m,n using Nat.gcd.induction with
 |H0 n=>intro _ h;simpa using h
 |H1 m n hm ih =>
  intro h1 h2
  rw [Nat.gcd_rec]
  refine ih ?_ h1
  have e:b ^ n=b ^ (m*(n/m))*b ^ (n % m):=by
   rw [← Nat.pow_add,Nat.div_add_mod]
  rw [e,Nat.mul_mod,vn _ h1,← Nat.mul_mod,Nat.one_mul] at h2
  exact h2
theorem qC {n q a t:Nat} (hn:2≤n) (hq:bO q) (he:t*q=n-1) (h1:a ^ (n-1) % n=1 % n)
  (hg:Nat.gcd (a ^ t % n+(n-1)) n=1) {r:Nat} (hr:bO r) (hd:r ∣ n):q ∣ r-1:=by
 have hr2:=hr.1
 have hmod:∀ {x y:Nat},x % n=y % n→x % r=y % r:=by
  intro x y h
  rw [← Nat.mod_mod_of_dvd x hd,h,Nat.mod_mod_of_dvd y hd]
 have hbq:(a ^ t) ^ q % r=1 % r:=by
  rw [← Nat.pow_mul,he];exact hmod h1
 have hrb:¬ r ∣ a ^ t:=by
  intro hdv
  have hz:a ^ t % r=0:=Nat.mod_eq_zero_of_dvd hdv
  rw [Nat.pow_mod,hz,Nat.zero_pow (by have:=hq.1;omega)] at hbq
  rw [Nat.mod_eq_of_lt (by omega:1<r)] at hbq
  simp at hbq
 have hfl:=fermat_one hr hrb
 rcases hq.2 (Nat.gcd q (r-1)) (Nat.gcd_dvd_left _ _) with hgc|hgc
 ·exfalso
  have hone:=vO q (r-1) hbq hfl
  rw [hgc,Nat.pow_one] at hone
  have hdg:r ∣ a ^ t % n+(n-1):=by
   have h3:(a ^ t % n) % r=1 % r:=by rw [Nat.mod_mod_of_dvd _ hd];exact hone
   have h4:(a ^ t % n+(n-1)) % r=0:=by
    rw [Nat.add_mod,h3,← Nat.add_mod]
    have:1+(n-1)=n:=by omega
    rw [this];exact Nat.mod_eq_zero_of_dvd hd
   exact Nat.dvd_of_mod_eq_zero h4
  have:=Nat.dvd_gcd hdg hd
  rw [hg] at this
  have:=Nat.le_of_dvd (by omega) this
  omega
 ·have:=Nat.gcd_dvd_right q (r-1)
  rwa [hgc] at this
theorem xp {n q a t f:Nat} (hq:bO q) (hn:2≤n) (he:t*q=n-1) (hf:n-1<2 ^ f) (h1:pw n f a (n-1)=1)
  (hg:Nat.gcd (pw n f a t+(n-1)) n=1) (hb:n<q*q):bO n:=by
 have ht:t≤n-1:=by rw [← he];exact Nat.le_mul_of_pos_right t (by have:=hq.1;omega)
 rw [pmod_eq n f a _ hf] at h1
 rw [pmod_eq n f a _ (by omega)] at hg
 refine kB hn fun r hr hd=>?_
 have h:=qC hn hq he (by rw [h1,Nat.mod_eq_of_lt (by omega:1<n)]) hg hr hd
 have:=Nat.le_of_dvd (by have:=hr.1;omega) h
 have:=Nat.mul_le_mul (show q≤r by omega) (show q≤r by omega)
 omega
theorem sa {n q q' a t t' f:Nat} (hq:bO q) (hq':bO q') (hne:q'<q) (hn:2≤n) (he:t*q=n-1) (he':t'*q'=n-1) (hf:n-1<2 ^ f)
  (h1:pw n f a (n-1)=1) (hg:Nat.gcd (pw n f a t+(n-1)) n=1) (hg':Nat.gcd (pw n f a t'+(n-1)) n=1) (hb:n<(q*q')*(q*q')):bO n:=by
 have ht:t≤n-1:=by rw [← he];exact Nat.le_mul_of_pos_right t (by have:=hq.1;omega)
 have ht':t'≤n-1:=by rw [← he'];exact Nat.le_mul_of_pos_right t' (by have:=hq'.1;omega)
 rw [pmod_eq n f a _ hf] at h1
 rw [pmod_eq n f a _ (by omega)] at hg
 rw [pmod_eq n f a _ (by omega)] at hg'
 have h1':a ^ (n-1) % n=1 % n:=by rw [h1,Nat.mod_eq_of_lt (by omega:1<n)]
 refine kB hn fun r hr hd=>?_
 have h:=qC hn hq he h1' hg hr hd
 have h':=qC hn hq' he' h1' hg' hr hd
 have hc:Nat.Coprime q q':=hq.coprime_of_lt (by have:=hq'.1;omega) hne
 have:=Nat.le_of_dvd (by have:=hr.1;omega) (Nat.Coprime.mul_dvd_of_dvd_of_dvd hc h h')
 have:=Nat.mul_le_mul (show q*q'≤r by omega) (show q*q'≤r by omega)
 omega
def qa (n:Nat):Bool:=(List.range n).all fun m=>m<2 || n % m != 0
theorem cE {n:Nat} (hn:2≤n) (h:qa n=true):bO n:=by
 refine ⟨hn,fun m hm=>?_⟩
 have hle:=Nat.le_of_dvd (by omega) hm
 by_cases h2:m=n
 ·exact .inr h2
 unfold qa at h
 rw [List.all_eq_true] at h
 have:=h m (List.mem_range.2 (by omega))
 have hz:n % m=0:=Nat.mod_eq_zero_of_dvd hm
 simp [hz] at this
 left
 have h0:m≠0:=by rintro rfl;have:=Nat.eq_zero_of_zero_dvd hm;omega
 omega
theorem Di:bO 97:=cE (by decide) (by decide +kernel)
theorem Dn:bO 103:=cE (by decide) (by decide +kernel)
theorem Db:bO 127:=cE (by decide) (by decide +kernel)
theorem Do:bO 419:=cE (by decide) (by decide +kernel)
theorem Ez:bO 991:=cE (by decide) (by decide +kernel)
theorem Dd:bO 1723:=cE (by decide) (by decide +kernel)
theorem EQ:bO 4153:=cE (by decide) (by decide +kernel)
theorem ER:bO 430751:=xp (q:=1723) (a:=2) (t:=250) (f:=19) Dd (by decide +kernel) (by decide +kernel) (by decide +kernel) (by decide +kernel) (by decide +kernel) (by decide +kernel)
theorem FJ:bO 569003:=sa (q:=419) (q':=97) (a:=2) (t:=1358) (t':=5866) (f:=20) Do Di (by decide +kernel) (by decide +kernel) (by decide +kernel) (by decide +kernel) (by decide +kernel) (by decide +kernel) (by decide +kernel) (by decide +kernel) (by decide +kernel)
theorem Dx:bO 8574133:=sa (q:=991) (q':=103) (a:=2) (t:=8652) (t':=83244) (f:=24) Ez Dn (by decide +kernel) (by decide +kernel) (by decide +kernel) (by decide +kernel) (by decide +kernel) (by decide +kernel) (by decide +kernel) (by decide +kernel) (by decide +kernel)
theorem DA:bO 2773320623:=xp (q:=569003) (a:=2) (t:=4874) (f:=32) FJ (by decide +kernel) (by decide +kernel) (by decide +kernel) (by decide +kernel) (by decide +kernel) (by decide +kernel)
theorem Bt:bO 72106336199:=xp (q:=2773320623) (a:=2) (t:=26) (f:=37) DA (by decide +kernel) (by decide +kernel) (by decide +kernel) (by decide +kernel) (by decide +kernel) (by decide +kernel)
theorem DL:bO 1919519569386763:=sa (q:=8574133) (q':=127) (a:=2) (t:=223873314) (t':=15114327318006) (f:=51) Dx Db (by decide +kernel) (by decide +kernel) (by decide +kernel) (by decide +kernel) (by decide +kernel) (by decide +kernel) (by decide +kernel) (by decide +kernel) (by decide +kernel)
theorem Ch:bO 31757755568855353:=sa (q:=430751) (q':=4153) (a:=2) (t:=73726481352) (t':=7646943310584) (f:=55) ER EQ (by decide +kernel) (by decide +kernel) (by decide +kernel) (by decide +kernel) (by decide +kernel) (by decide +kernel) (by decide +kernel) (by decide +kernel) (by decide +kernel)
theorem Cn:bO 75445702479781427272750846543864801:=sa (q:=1919519569386763) (q':=72106336199) (a:=2) (t:=39304471641247389600) (t':=1046311689884858398375200) (f:=116) DL Bt (by decide +kernel) (by decide +kernel) (by decide +kernel) (by decide +kernel) (by decide +kernel) (by decide +kernel) (by decide +kernel) (by decide +kernel) (by decide +kernel)
theorem Ac:bO 74058212732561358302231226437062788676166966415465897661863160754340907:=sa (q:=75445702479781427272750846543864801) (q':=31757755568855353) (a:=2) (t:=981609426360740691344999861639072106) (t':=2331972502653487852620185443007392165117953542933313402) (f:=236) Cn Ch (by decide +kernel) (by decide +kernel) (by decide +kernel) (by decide +kernel) (by decide +kernel) (by decide +kernel) (by decide +kernel) (by decide +kernel) (by decide +kernel)
theorem Cz:bO 57896044618658097711785492504343953926634992332820282019728792003956564819949:=xp (q:=74058212732561358302231226437062788676166966415465897661863160754340907) (a:=2) (t:=781764) (f:=255) Ac (by decide +kernel) (by decide +kernel) (by decide +kernel) (by decide +kernel) (by decide +kernel) (by decide +kernel)
def P:Nat:=57896044618658097711785492504343953926634992332820282019728792003956564819949
theorem prime_P:bO P:=Cz
end Tabn
namespace Tabn
abbrev F:=Fin P
instance:NeZero P:=⟨by decide⟩
theorem FY:0<P:=by decide
theorem gv {a b:F} (h:a*b=0):a=0∨b=0:=by
 have h1:(a*b).val=0:=by rw [h];rfl
 rw [Fin.val_mul] at h1
 have h2:P ∣ a.val*b.val:=Nat.dvd_of_mod_eq_zero h1
 have small:∀ c:F,P ∣ c.val→c=0:=by
  intro c hc
  apply Fin.ext
  show c.val=0
  rcases Nat.eq_zero_or_pos c.val with h0|h0
  ·exact h0
  ·have:=Nat.le_of_dvd h0 hc
   have:=c.isLt
   omega
 rcases prime_P.dvd_mul h2 with h3|h3
 ·exact .inl (small _ h3)
 ·exact .inr (small _ h3)
theorem cn {a b:F} (ha:a≠0) (hb:b≠0):a*b≠0:=fun h=>by
 rcases gv h with h|h
 ·exact ha h
 ·exact hb h
theorem mu {a b c:F} (ha:a≠0) (h:a*b=a*c):b=c:=by
 have h1:a*(b-c)=0:=by grind -lia -linarith
 rcases gv h1 with h2|h2
 ·exact absurd h2 ha
 ·grind -lia -linarith
def eI:Nat:=57896044618658097711785492504343953926634992332820282019728792003956564819947
def Ja (e:Nat) (a:F):F:=⟨a.val ^ e % P,Nat.mod_lt _ FY⟩
def finv (a:F):F:=Ja eI a
theorem gS {a:F} (h:a≠0):a*finv a=1:=by
 apply Fin.ext
 rw [Fin.val_mul]
 show a.val*(a.val ^ eI % P) % P=1 % P
 have e:eI+1=P-1:=by decide
 rw [Nat.mul_mod_mod,Nat.mul_comm,← Nat.pow_succ]
 show a.val ^ (eI+1) % P=1 % P
 rw [e]
 apply fermat_one prime_P
 intro hd
 apply h
 apply Fin.ext
 show a.val=0
 rcases Nat.eq_zero_or_pos a.val with h0|h0
 ·exact h0
 ·have:=Nat.le_of_dvd h0 hd
  have:=a.isLt
  omega
theorem eI_lit:eI=57896044618658097711785492504343953926634992332820282019728792003956564819947:=rfl
attribute [irreducible] eI
theorem finv_val (a:F):(finv a).val=a.val ^ eI % P:=rfl
attribute [irreducible] finv
theorem fdiv {a b c:F} (hb:b≠0) (h:c=a*finv b):c*b=a:=by
 have:=gS hb
 grind -lia -linarith
theorem tO {a b c:F} (hb:b≠0) (h:c*b=a):c=a*finv b:=by
 have:=gS hb
 grind -lia -linarith
theorem GN:(2:F)≠0:=by decide
theorem KT {a:F} (h:2*a=0):a=0:=by
 rcases gv h with h|h
 ·exact absurd h GN
 ·exact h
structure Crv where
 a:F
 d:F
 r:F
 sq:r*r=a
 an:a≠0
 nsq:∀ s,s*s≠d
theorem Crv.rn (C:Crv):C.r≠0:=fun h=>C.an (by rw [← C.sq,h];grind -lia -linarith)
theorem Crv.dn (C:Crv):C.d≠0:=fun h=>C.nsq 0 (by rw [h];grind -lia -linarith)
def On (C:Crv) (x y:F):Prop:=C.a*x ^ 2+y ^ 2=1+C.d*x ^ 2*y ^ 2
theorem xL (C:Crv) {p q:F} (hq:q≠0) (h:p ^ 2=C.d*q ^ 2):False:=by
 have:=gS hq
 exact C.nsq (p*finv q) (by grind -lia -linarith)
theorem Crv.complete (C:Crv) {x1 y1 x2 y2:F} (h1:On C x1 y1) (h2:On C x2 y2) (e:F) (he:e*e=1):C.d*x1*x2*y1*y2≠e:=by
 intro h
 unfold On at h1 h2
 have hr:=C.sq
 have hne:e≠0:=by
  intro h0
  rw [h0] at he
  have:(0:F)=1:=by grind -lia -linarith
  exact absurd this (by decide)
 have hx1:x1≠0:=by intro h0;apply hne;rw [← h,h0];grind -lia -linarith
 have hy1:y1≠0:=by intro h0;apply hne;rw [← h,h0];grind -lia -linarith
 have hx2:x2≠0:=by intro h0;apply hne;rw [← h,h0];grind -lia -linarith
 have k1:(C.r*x1+e*y1) ^ 2=C.d*(x1*y1*(C.r*x2+y2)) ^ 2:=by grind -lia -linarith
 have k2:(C.r*x1-e*y1) ^ 2=C.d*(x1*y1*(C.r*x2-y2)) ^ 2:=by grind -lia -linarith
 by_cases g1:C.r*x2+y2=0
 ·by_cases g2:C.r*x2-y2=0
  ·have:2*(C.r*x2)=0:=by grind -lia -linarith
   rcases gv (KT this) with h3|h3
   ·exact C.rn h3
   ·exact hx2 h3
  ·exact xL C (cn (cn hx1 hy1) g2) k2
 ·exact xL C (cn (cn hx1 hy1) g1) k1
theorem Crv.dp (C:Crv) {x1 y1 x2 y2:F} (h1:On C x1 y1) (h2:On C x2 y2):1+C.d*x1*x2*y1*y2≠0:=fun h =>
 C.complete h1 h2 (-1) (by grind -lia -linarith) (by grind -lia -linarith)
theorem Crv.dm (C:Crv) {x1 y1 x2 y2:F} (h1:On C x1 y1) (h2:On C x2 y2):1-C.d*x1*x2*y1*y2≠0:=fun h =>
 C.complete h1 h2 1 (by grind -lia -linarith) (by grind -lia -linarith)
structure Pt (C:Crv) where
 x:F
 y:F
 on:On C x y
theorem Pt.eq {C:Crv} {p q:Pt C} (hx:p.x=q.x) (hy:p.y=q.y):p=q:=by
 cases p;cases q;simp only at hx hy;subst hx hy;rfl
def zv (C:Crv) (x1 y1 x2 y2:F):F:=(x1*y2+x2*y1)*finv (1+C.d*x1*x2*y1*y2)
def zi (C:Crv) (x1 y1 x2 y2:F):F:=(y1*y2-C.a*x1*x2)*finv (1-C.d*x1*x2*y1*y2)
theorem Ha (a d x1 y1 x2 y2:F) (h1:a*x1^2+y1^2=1+d*x1^2*y1^2) (h2:a*x2^2+y2^2=1+d*x2^2*y2^2) :
 a*(x1*y2+x2*y1)^2*(1-d*x1*x2*y1*y2)^2+(y1*y2-a*x1*x2)^2*(1+d*x1*x2*y1*y2)^2=(1+d*x1*x2*y1*y2)^2*(1-d*x1*x2*y1*y2)^2+d*(x1*y2+x2*y1)^2*(y1*y2-a*x1*x2)^2:=by
 grind -lia -linarith
theorem GO (C:Crv) {x1 y1 x2 y2:F} (h1:On C x1 y1) (h2:On C x2 y2):On C (zv C x1 y1 x2 y2) (zi C x1 y1 x2 y2):=by
 have p:=gS (C.dp h1 h2)
 have m:=gS (C.dm h1 h2)
 have k:=Ha C.a C.d x1 y1 x2 y2 h1 h2
 unfold On zv zi
 generalize finv (1+C.d*x1*x2*y1*y2)=u at *
 generalize finv (1-C.d*x1*x2*y1*y2)=v at *
 generalize 1+C.d*x1*x2*y1*y2=s at *
 generalize 1-C.d*x1*x2*y1*y2=t at *
 generalize x1*y2+x2*y1=X at *
 generalize y1*y2-C.a*x1*x2=Y at *
 have hs:s ^ 2*u ^ 2=1:=by grind -lia -linarith
 have ht:t ^ 2*v ^ 2=1:=by grind -lia -linarith
 grind -lia -linarith
def Pt.add {C:Crv} (p q:Pt C):Pt C:=⟨zv C p.x p.y q.x q.y,zi C p.x p.y q.x q.y,GO C p.on q.on⟩
def Pt.zero (C:Crv):Pt C:=⟨0,1,by unfold On;grind -lia -linarith⟩
def Pt.neg {C:Crv} (p:Pt C):Pt C:=⟨-p.x,p.y,by have:=p.on;unfold On at *;grind -lia -linarith⟩
theorem Pt.add_comm {C:Crv} (p q:Pt C):p.add q=q.add p:=by
 apply Pt.eq
 ·show zv C _ _ _ _=zv C _ _ _ _
  unfold zv
  have e:1+C.d*p.x*q.x*p.y*q.y=1+C.d*q.x*p.x*q.y*p.y:=by grind -lia -linarith
  rw [e];grind -lia -linarith
 ·show zi C _ _ _ _=zi C _ _ _ _
  unfold zi
  have e:1-C.d*p.x*q.x*p.y*q.y=1-C.d*q.x*p.x*q.y*p.y:=by grind -lia -linarith
  rw [e];grind -lia -linarith
theorem qX {C:Crv} (p q:Pt C):(p.add q).x*(1+C.d*p.x*q.x*p.y*q.y)=p.x*q.y+q.x*p.y:=fdiv (C.dp p.on q.on) rfl
theorem qU {C:Crv} (p q:Pt C):(p.add q).y*(1-C.d*p.x*q.x*p.y*q.y)=p.y*q.y-C.a*p.x*q.x:=fdiv (C.dm p.on q.on) rfl
theorem GL {C:Crv} {p q s:Pt C} (hx:s.x*(1+C.d*p.x*q.x*p.y*q.y)=p.x*q.y+q.x*p.y) (hy:s.y*(1-C.d*p.x*q.x*p.y*q.y)=p.y*q.y-C.a*p.x*q.x):p.add q=s:=by
 apply Pt.eq
 ·apply mu (C.dp p.on q.on)
  have:=qX p q
  grind -lia -linarith
 ·apply mu (C.dm p.on q.on)
  have:=qU p q
  grind -lia -linarith
theorem Pt.zero_add {C:Crv} (p:Pt C):(Pt.zero C).add p=p:=by
 apply GL
 ·show p.x*(1+C.d*0*p.x*1*p.y)=0*p.y+p.x*1;grind -lia -linarith
 ·show p.y*(1-C.d*0*p.x*1*p.y)=1*p.y-C.a*0*p.x;grind -lia -linarith
theorem Dp (a d x1 y1 x2 y2 x3 y3:F) (h1:a*x1^2+y1^2=1+d*x1^2*y1^2) (h2:a*x2^2+y2^2=1+d*x2^2*y2^2) (h3:a*x3^2+y3^2=1+d*x3^2*y3^2) :
 ((x1*y2+x2*y1)*y3*(1-d*x1*x2*y1*y2)+x3*(y1*y2-a*x1*x2)*(1+d*x1*x2*y1*y2))*(1-(d*x2*x3*y2*y3)^2+d*(x2*y3+x3*y2)*(y2*y3-a*x2*x3)*x1*y1)
 =(x1*(y2*y3-a*x2*x3)*(1+d*x2*x3*y2*y3)+(x2*y3+x3*y2)*y1*(1-d*x2*x3*y2*y3))*(1-(d*x1*x2*y1*y2)^2+d*(x1*y2+x2*y1)*(y1*y2-a*x1*x2)*x3*y3):=by
 grind -lia -linarith
theorem FB (a d x1 y1 x2 y2 x3 y3:F) (h1:a*x1^2+y1^2=1+d*x1^2*y1^2) (h2:a*x2^2+y2^2=1+d*x2^2*y2^2) (h3:a*x3^2+y3^2=1+d*x3^2*y3^2) :
 ((y1*y2-a*x1*x2)*y3*(1+d*x1*x2*y1*y2)-a*(x1*y2+x2*y1)*x3*(1-d*x1*x2*y1*y2))*(1-(d*x2*x3*y2*y3)^2-d*(x2*y3+x3*y2)*(y2*y3-a*x2*x3)*x1*y1)
 =(y1*(y2*y3-a*x2*x3)*(1+d*x2*x3*y2*y3)-a*x1*(x2*y3+x3*y2)*(1-d*x2*x3*y2*y3))*(1-(d*x1*x2*y1*y2)^2-d*(x1*y2+x2*y1)*(y1*y2-a*x1*x2)*x3*y3):=by
 grind -lia -linarith
theorem AW (D d u X v Y x y l e:F) (hu:u*(1+D)=X) (hv:v*(1-D)=Y) (hl:l*(1+d*u*x*v*y)=u*y+x*v) :
  l*(1-D ^ 2+d*X*Y*x*y)=X*y*(1-D)+x*Y*(1+D):=by
 subst hu hv
 grind -lia -linarith
theorem yX (D a d u X v Y x y l e:F) (hu:u*(1+D)=X) (hv:v*(1-D)=Y) (hl:l*(1-d*u*x*v*y)=v*y-a*u*x) :
  l*(1-D ^ 2-d*X*Y*x*y)=Y*y*(1+D)-a*X*x*(1-D):=by
 subst hu hv
 grind -lia -linarith
theorem ra {D d u X v Y x y:F} (hu:u*(1+D)=X) (hv:v*(1-D)=Y) (n1:1+D≠0) (n2:1-D≠0) (n3:1+d*u*x*v*y≠0):1-D ^ 2+d*X*Y*x*y≠0:=by
 have e:1-D ^ 2+d*X*Y*x*y=(1+D)*(1-D)*(1+d*u*x*v*y):=by
  subst hu hv
  grind -lia -linarith
 rw [e];exact cn (cn n1 n2) n3
theorem qQ {D d u X v Y x y:F} (hu:u*(1+D)=X) (hv:v*(1-D)=Y) (n1:1+D≠0) (n2:1-D≠0) (n3:1-d*u*x*v*y≠0):1-D ^ 2-d*X*Y*x*y≠0:=by
 have e:1-D ^ 2-d*X*Y*x*y=(1+D)*(1-D)*(1-d*u*x*v*y):=by
  subst hu hv
  grind -lia -linarith
 rw [e];exact cn (cn n1 n2) n3
theorem yk {l r nl dl nr dr:F} (h1:l*dl=nl) (h2:r*dr=nr) (h3:nl*dr=nr*dl) (n1:dl≠0) (n2:dr≠0):l=r:=by
 apply mu (cn n1 n2)
 subst h1 h2
 grind -lia -linarith
theorem Pt.add_assoc {C:Crv} (p q s:Pt C):(p.add q).add s=p.add (q.add s):=by
 have ax:=Dp C.a C.d p.x p.y q.x q.y s.x s.y p.on q.on s.on
 have ay:=FB C.a C.d p.x p.y q.x q.y s.x s.y p.on q.on s.on
 have ux:=qX p q
 have uy:=qU p q
 have vx:=qX q s
 have vy:=qU q s
 have n1:=C.dp p.on q.on
 have n2:=C.dm p.on q.on
 have n3:=C.dp q.on s.on
 have n4:=C.dm q.on s.on
 apply Pt.eq
 ·have lx:=AW _ C.d _ _ _ _ s.x s.y _ 0 ux uy (qX (p.add q) s)
  have rx:=AW _ C.d _ _ _ _ p.x p.y ((q.add s).add p).x 0 vx vy (qX (q.add s) p)
  have m1:=ra (d:=C.d) (x:=s.x) (y:=s.y) ux uy n1 n2 (C.dp (p.add q).on s.on)
  have m2:=ra (d:=C.d) (x:=p.x) (y:=p.y) vx vy n3 n4 (C.dp (q.add s).on p.on)
  rw [Pt.add_comm p (q.add s)]
  exact yk lx rx (by clear lx rx m1 m2 ux uy vx vy n1 n2 n3 n4 ay;grind -lia -linarith) m1 m2
 ·have lx:=yX _ C.a C.d _ _ _ _ s.x s.y _ 0 ux uy (qU (p.add q) s)
  have rx:=yX _ C.a C.d _ _ _ _ p.x p.y ((q.add s).add p).y 0 vx vy (qU (q.add s) p)
  have m1:=qQ (d:=C.d) (x:=s.x) (y:=s.y) ux uy n1 n2 (C.dm (p.add q).on s.on)
  have m2:=qQ (d:=C.d) (x:=p.x) (y:=p.y) vx vy n3 n4 (C.dm (q.add s).on p.on)
  rw [Pt.add_comm p (q.add s)]
  exact yk lx rx (by clear lx rx m1 m2 ux uy vx vy n1 n2 n3 n4 ax;grind -lia -linarith) m1 m2
def Pt.mul {C:Crv}:Nat→Pt C→Pt C
 |0,_=>Pt.zero C
 |n+1,p=>(Pt.mul n p).add p
theorem Pt.add_zero {C:Crv} (p:Pt C):p.add (Pt.zero C)=p:=by rw [Pt.add_comm,Pt.zero_add]
theorem Pt.mul_one {C:Crv} (p:Pt C):Pt.mul 1 p=p:=Pt.zero_add p
theorem Pt.add_mul {C:Crv} (m n:Nat) (p:Pt C):Pt.mul (m+n) p=(Pt.mul m p).add (Pt.mul n p):=by
 induction n with
 |zero=>show Pt.mul m p=(Pt.mul m p).add (Pt.zero C);rw [Pt.add_zero]
 |succ n ih=>show (Pt.mul (m+n) p).add p=(Pt.mul m p).add ((Pt.mul n p).add p);rw [ih,Pt.add_assoc]
theorem Pt.mul_mul {C:Crv} (m n:Nat) (p:Pt C):Pt.mul (m*n) p=Pt.mul m (Pt.mul n p):=by
 induction m with
 |zero=>rw [Nat.zero_mul];rfl
 |succ m ih=>rw [Nat.succ_mul,Pt.add_mul,ih];rfl
theorem Pt.mul_zero {C:Crv} (m:Nat):Pt.mul m (Pt.zero C)=Pt.zero C:=by
 induction m with
 |zero=>rfl
 |succ m ih=>show (Pt.mul m (Pt.zero C)).add _=_;rw [ih,Pt.zero_add]
end Tabn
namespace Tabn
def iV (a:F):Nat→F
 |0=>1
 |n+1=>iV a n*a
theorem vo (a:F) (n:Nat):(iV a n).val=a.val ^ n % P:=by
 induction n with
 |zero=>rfl
 |succ n ih =>
  show (iV a n*a).val=_
  rw [Fin.val_mul,ih,Nat.pow_succ,Nat.mod_mul_mod]
theorem Bo (a:F) (m n:Nat):iV a (m+n)=iV a m*iV a n:=by
 induction n with
 |zero=>show iV a m=iV a m*1;grind -lia -linarith
 |succ n ih=>show iV a (m+n)*a=iV a m*(iV a n*a);rw [ih];grind -lia -linarith
theorem BW (a b:F) (n:Nat):iV (a*b) n=iV a n*iV b n:=by
 induction n with
 |zero=>show (1:F)=1*1;grind -lia -linarith
 |succ n ih=>show iV (a*b) n*(a*b)=iV a n*a*(iV b n*b);rw [ih];grind -lia -linarith
attribute [irreducible] iV
def eH:Nat:=28948022309329048855892746252171976963317496166410141009864396001978282409974
def eR:Nat:=7237005577332262213973186563042994240829374041602535252466099000494570602494
theorem HJ:eH+eH=P-1:=by decide
theorem JH:eH<2 ^ 256:=by decide
theorem GA:pw P 256 236839902240 eH=P-1:=by decide +kernel
attribute [irreducible] eH eR
theorem AR {a:F} (h:a≠0):iV a (P-1)=1:=by
 apply Fin.ext
 rw [vo]
 show a.val ^ (P-1) % P=1 % P
 apply fermat_one prime_P
 intro hd
 apply h
 apply Fin.ext
 show a.val=0
 rcases Nat.eq_zero_or_pos a.val with h0|h0
 ·exact h0
 ·have:=Nat.le_of_dvd h0 hd
  have:=a.isLt
  omega
theorem ua:(-1:F).val=P-1:=by decide
theorem zl {a:F} {n e:Nat} (hn:a.val=n) (he:e<2 ^ 256) (h:pw P 256 n e=P-1):iV a e = -1:=by
 apply Fin.ext
 rw [vo,ua,hn,← pmod_eq P 256 n e he,h]
theorem xX {a r:F} (ha:a≠0) (h:r*r=a):iV a eH=1:=by
 have hr:r≠0:=by intro h0;apply ha;rw [← h,h0];grind -lia -linarith
 rw [← h,BW,← Bo,HJ,AR hr]
theorem wW:(1:F)≠-1:=by decide
theorem DI (r:F):r*r≠236839902240:=by
 intro h
 have h1:=xX (a:=236839902240) (by decide) h
 have h2:iV 236839902240 eH = -1:=zl (n:=236839902240) (by decide) JH GA
 exact wW (h1.symm.trans h2)
def JT (X Z:F):F:=(X+Z)*(X+Z)*((X-Z)*(X-Z))
def Jh (X Z:F):F:=(X+Z)*(X+Z)-(X-Z)*(X-Z)
def Je (X Z:F):F:=Jh X Z*((X-Z)*(X-Z)+121666*Jh X Z)
def Iy (X1 Z1 X2 Z2:F):F:=(X1*X2-Z1*Z2)*(X1*X2-Z1*Z2)
def Ig (u X1 Z1 X2 Z2:F):F:=u*((X1*Z2-Z1*X2)*(X1*Z2-Z1*X2))
end Tabn
namespace Tabn
def iR:F:=19681161376707505956807079304988542015446066515923890162744021073123829784752
theorem BO:iR*iR = -1:=by decide +kernel
def rW:F:=121665
def nR:F:=121666
theorem DY:nR≠0:=by decide
theorem HS:16*rW*nR=236839902240:=by decide
def dT:F:=0-rW*finv nR
theorem Fs:dT*nR=0-rW:=by
 have h:=gS DY
 unfold dT
 generalize finv nR=u at *
 generalize nR=v at *
 generalize rW=w at *
 grind -lia -linarith
theorem GZ (s:F):s*s≠dT:=by
 intro h
 have h1:=Fs
 have h2:=BO
 have h3:=HS
 refine DI (4*(s*nR*iR)) ?_
 rw [← h3]
 rw [← h] at h1
 generalize nR=v at *
 generalize rW=w at *
 generalize iR=i at *
 grind -lia -linarith
attribute [irreducible] iR rW nR dT
def CT:Crv:=⟨-1,dT,iR,BO,by decide,GZ⟩
structure Ex (p:Pt CT) (x y z t:F):Prop where
 z0:z≠0
 x:x=p.x*z
 y:y=p.y*z
 t:t=p.x*p.y*z
theorem EJ:(2:F)≠0:=by decide
theorem Hh {px py qx qy sx sy d z1 z2:F} (hx:sx*(1+d*px*qx*py*qy)=px*qy+qx*py) (hy:sy*(1-d*px*qx*py*qy)=py*qy - -1*px*qx) :
  (py*z1+px*z1)*(qy*z2+qx*z2)-(py*z1-px*z1)*(qy*z2-qx*z2)=2*(z1*z2)*(sx*(1+d*px*qx*py*qy)) ∧
  (py*z1+px*z1)*(qy*z2+qx*z2)+(py*z1-px*z1)*(qy*z2-qx*z2)=2*(z1*z2)*(sy*(1-d*px*qx*py*qy)) ∧
  z1*z2+z1*z2-px*py*z1*(qx*qy*z2)*(d+d)=2*(z1*z2)*(1-d*px*qx*py*qy) ∧
  z1*z2+z1*z2+px*py*z1*(qx*qy*z2)*(d+d)=2*(z1*z2)*(1+d*px*qx*py*qy):=by
 refine ⟨?_,?_,?_,?_⟩ <;> grind -lia -linarith
theorem Jw (w s u v:F):w*(s*u)*(w*v)=s*(w*v*(w*u)):=by grind -lia -linarith
theorem KP (w s u v:F):w*u*(w*(s*v))=s*(w*v*(w*u)):=by grind -lia -linarith
theorem KO (w s r u v:F):w*(s*u)*(w*(r*v))=s*r*(w*v*(w*u)):=by grind -lia -linarith
theorem Gu {p q:Pt CT} {x1 y1 z1 t1 x2 y2 z2 t2:F} (h:Ex p x1 y1 z1 t1) (h':Ex q x2 y2 z2 t2) :
  Ex (p.add q) (((y1+x1)*(y2+x2)-(y1-x1)*(y2-x2))*(z1*z2+z1*z2-t1*t2*(dT+dT)))
   ((z1*z2+z1*z2+t1*t2*(dT+dT))*((y1+x1)*(y2+x2)+(y1-x1)*(y2-x2)))
   ((z1*z2+z1*z2-t1*t2*(dT+dT))*(z1*z2+z1*z2+t1*t2*(dT+dT)))
   (((y1+x1)*(y2+x2)-(y1-x1)*(y2-x2))*((y1+x1)*(y2+x2)+(y1-x1)*(y2-x2))):=by
 obtain ⟨a0,rfl,rfl,rfl⟩:=h
 obtain ⟨b0,rfl,rfl,rfl⟩:=h'
 have ax:=qX p q
 have ay:=qU p q
 have n1:=CT.dp p.on q.on
 have n2:=CT.dm p.on q.on
 have hd:CT.d=dT:=rfl
 have ha:CT.a = -1:=rfl
 rw [hd] at ax ay n1 n2
 rw [ha] at ay
 obtain ⟨e1,e2,e3,e4⟩:=Hh (z1:=z1) (z2:=z2) ax ay
 rw [e1,e2,e3,e4]
 have hz:2*(z1*z2)≠0:=cn EJ (cn a0 b0)
 refine ⟨cn (cn hz n2) (cn hz n1),?_,?_,?_⟩
 ·exact Jw _ _ _ _
 ·exact KP _ _ _ _
 ·exact KO _ _ _ _ _
structure Pj (p:Pt CT) (x y z:F):Prop where
 z0:z≠0
 x:x=p.x*z
 y:y=p.y*z
theorem GK {px py qx qy sx sy d z1 z2:F} (hx:sx*(1+d*px*qx*py*qy)=px*qy+qx*py) (hy:sy*(1-d*px*qx*py*qy)=py*qy - -1*px*qx) :
  px*z1*(qy*z2)+qx*z2*(py*z1)=(z1*z2)*(sx*(1+d*px*qx*py*qy)) ∧
  py*z1*(qy*z2)+px*z1*(qx*z2)=(z1*z2)*(sy*(1-d*px*qx*py*qy)) ∧
  z1*z2*(z1*z2)+d*(px*z1*(qx*z2)*(py*z1*(qy*z2)))=(z1*z2)*(z1*z2)*(1+d*px*qx*py*qy) ∧
  z1*z2*(z1*z2)-d*(px*z1*(qx*z2)*(py*z1*(qy*z2)))=(z1*z2)*(z1*z2)*(1-d*px*qx*py*qy):=by
 refine ⟨?_,?_,?_,?_⟩ <;> grind -lia -linarith
theorem KY (w s u v:F):w*(s*u)*w*(w*w*v)=s*(w*w*u*(w*w*v)):=by grind -lia -linarith
theorem Jy (w s u v:F):w*(s*v)*w*(w*w*u)=s*(w*w*u*(w*w*v)):=by grind -lia -linarith
theorem CU {p q:Pt CT} {x1 y1 z1 x2 y2 z2:F} (h:Pj p x1 y1 z1) (h':Pj q x2 y2 z2) :
  Pj (p.add q) ((x1*y2+x2*y1)*(z1*z2)*(z1*z2*(z1*z2)-dT*(x1*x2*(y1*y2))))
   ((y1*y2+x1*x2)*(z1*z2)*(z1*z2*(z1*z2)+dT*(x1*x2*(y1*y2))))
   ((z1*z2*(z1*z2)+dT*(x1*x2*(y1*y2)))*(z1*z2*(z1*z2)-dT*(x1*x2*(y1*y2)))):=by
 obtain ⟨a0,rfl,rfl⟩:=h
 obtain ⟨b0,rfl,rfl⟩:=h'
 have ax:=qX p q
 have ay:=qU p q
 have n1:=CT.dp p.on q.on
 have n2:=CT.dm p.on q.on
 have hd:CT.d=dT:=rfl
 have ha:CT.a = -1:=rfl
 rw [hd] at ax ay n1 n2
 rw [ha] at ay
 obtain ⟨e1,e2,e3,e4⟩:=GK (z1:=z1) (z2:=z2) ax ay
 rw [e1,e2,e3,e4]
 have hz:z1*z2≠0:=cn a0 b0
 refine ⟨cn (cn (cn hz hz) n1) (cn (cn hz hz) n2),?_,?_⟩
 ·exact KY _ _ _ _
 ·exact Jy _ _ _ _
theorem zh {a z:F} (hz:z≠0):a*z*finv z=a:=by
 have:=gS hz
 generalize finv z=u at *
 grind -lia -linarith
theorem JG (z:F):z*0=0:=by grind -lia -linarith
theorem dz:(1:F)≠0:=by decide
theorem tv (y:F):dT*(y*y)+1≠0:=by
 intro h
 have h2:=BO
 by_cases hy:y=0
 ·rw [hy] at h
  have e1:(0:F)*0=0:=by decide
  have e2:(0:F)+1=1:=by decide
  rw [e1,JG,e2] at h
  exact absurd h dz
 ·refine xL CT hy (p:=iR) ?_
  show iR ^ 2=dT*y ^ 2
  generalize dT=d at *
  generalize iR=i at *
  grind -lia -linarith
theorem KU {x y:F}:On CT x y↔x*x=(y*y-1)*finv (dT*(y*y)+1):=by
 have hd:CT.d=dT:=rfl
 have ha:CT.a = -1:=rfl
 unfold On
 rw [hd,ha]
 have h:=gS (tv y)
 constructor
 ·intro h1
  refine tO (tv y) ?_
  generalize dT=d at *
  grind -lia -linarith
 ·intro h1
  have h2:=fdiv (tv y) h1
  generalize dT=d at *
  clear h h1
  grind -lia -linarith
theorem yZ {x:F} (h:x≠0):(-x).val=P-x.val:=by
 have h0:x.val≠0:=fun e=>h (Fin.ext e)
 have:=x.isLt
 rw [Fin.val_neg']
 exact Nat.mod_eq_of_lt (by omega)
theorem IR {x y:F} (h:x*x=y*y):x=y∨x = -y:=by
 have h1:(x-y)*(x+y)=0:=by grind -lia -linarith
 rcases gv h1 with h2|h2
 ·left;grind -lia -linarith
 ·right;grind -lia -linarith
theorem Fj:P % 2=1:=by decide
theorem HC {x y:F} (h:x*x=y*y) (hp:x.val % 2=y.val % 2):x=y:=by
 rcases IR h with h1|h1
 ·exact h1
 ·by_cases hy:y=0
  ·rw [h1,hy];decide
  ·exfalso
   have h2:=yZ hy
   rw [← h1] at h2
   have:=y.isLt
   have:=Fj
   omega
def kD (p:Pt CT):Nat:=p.y.val+p.x.val % 2*2 ^ 255
theorem Ce {p q:Pt CT} (h:kD p=kD q):p=q:=by
 unfold kD at h
 have h1:=p.y.isLt
 have h2:=q.y.isLt
 have h3:P<2 ^ 255:=by decide
 have hy:p.y.val=q.y.val:=by omega
 have hp:p.x.val % 2=q.x.val % 2:=by omega
 have hy':p.y=q.y:=Fin.ext hy
 refine Pt.eq (HC ?_ hp) hy'
 rw [KU.1 p.on,KU.1 q.on,hy']
end Tabn
namespace Tabn
abbrev GV:=F × F × F × F
def It (u:F) (bit:Nat) (t:GV):GV :=
 if bit=0 then (JT t.1 t.2.1,Je t.1 t.2.1,Iy t.1 t.2.1 t.2.2.1 t.2.2.2,Ig u t.1 t.2.1 t.2.2.1 t.2.2.2)
 else (Iy t.1 t.2.1 t.2.2.1 t.2.2.2,Ig u t.1 t.2.1 t.2.2.1 t.2.2.2,JT t.2.2.1 t.2.2.2,Je t.2.2.1 t.2.2.2)
def lad (N:Nat) (u:F):Nat→GV
 |0=>(1,0,u,1)
 |k+1=>It u (N/2 ^ (254-k) % 2) (lad N u k)
def Um (N:Nat) (u:F):F:=(lad N u 255).1*finv (lad N u 255).2.1
end Tabn
namespace Tabn
def L:Nat:=7237005577332262213973186563042994240857116359379907606001950938285454250989
end Tabn
namespace Tabn
def dL:F:=37095705934669439343138083508754565189542113879843219016388785533085940283555
theorem IS:dL*121666=0-121665:=by decide +kernel
theorem KE:rW=121665∧nR=121666:=by unfold rW nR;exact ⟨rfl,rfl⟩
theorem Cl:dT=dL:=by
 have h1:=Fs
 have h2:=IS
 rw [KE.1,KE.2] at h1
 refine mu (a:=121666) (by decide) ?_
 rw [← h2] at h1
 generalize dL=v at *
 generalize dT=u at *
 clear h2
 grind -lia -linarith
def xB:F:=15112221349535400772501151409588531511454012693041857206046113283949847762202
def yB:F:=46316835694926478169428394003475163141307993866256225615783033603165251855960
theorem Fz:xB*xB*(dL*(yB*yB)+1)=yB*yB-1:=by decide +kernel
theorem Ka:On CT xB yB:=by
 refine KU.2 (tO (tv yB) ?_)
 rw [Cl]
 exact Fz
def BT:Pt CT:=⟨xB,yB,Ka⟩
abbrev wT:=F × F × F
def pjA (p q:wT):wT :=
 ((p.1*q.2.1+q.1*p.2.1)*(p.2.2*q.2.2)*(p.2.2*q.2.2*(p.2.2*q.2.2)-dL*(p.1*q.1*(p.2.1*q.2.1))),
  (p.2.1*q.2.1+p.1*q.1)*(p.2.2*q.2.2)*(p.2.2*q.2.2*(p.2.2*q.2.2)+dL*(p.1*q.1*(p.2.1*q.2.1))),
  (p.2.2*q.2.2*(p.2.2*q.2.2)+dL*(p.1*q.1*(p.2.1*q.2.1)))*(p.2.2*q.2.2*(p.2.2*q.2.2)-dL*(p.1*q.1*(p.2.1*q.2.1))))
def Cg (b:Nat) (r:wT):wT:=if b=0 then pjA r r else pjA (pjA r r) (xB,yB,1)
def tm (N:Nat):Nat→wT
 |0=>(0,1,1)
 |k+1=>Cg (N/2 ^ (255-k) % 2) (tm N k)
def PjT (p:Pt CT) (r:wT):Prop:=Pj p r.1 r.2.1 r.2.2
theorem CI {p q:Pt CT} {r s:wT} (h:PjT p r) (h':PjT q s):PjT (p.add q) (pjA r s):=by
 have:=CU h h'
 rw [Cl] at this
 exact this
theorem lT (x:F):x=x*1:=by grind -lia -linarith
theorem Cs (z:F):0=0*z:=by grind -lia -linarith
theorem Et:PjT (Pt.zero CT) (0,1,1):=⟨dz,Cs 1,lT 1⟩
theorem Jr:PjT BT (xB,yB,1):=⟨dz,lT _,lT _⟩
theorem zH (N k:Nat) (hk:k<256):N/2 ^ (256-(k+1))=2*(N/2 ^ (256-k))+N/2 ^ (255-k) % 2:=by
 have e:256-k=(255-k)+1:=by omega
 rw [show 256-(k+1)=255-k by omega,e,Nat.pow_succ,← Nat.div_div_eq_div_mul]
 omega
theorem JO (N:Nat) (hN:N<2 ^ 256):∀ k,k≤256→PjT (Pt.mul (N/2 ^ (256-k)) BT) (tm N k):=by
 intro k
 induction k with
 |zero =>
  intro _
  rw [Nat.sub_zero,Nat.div_eq_of_lt hN]
  exact Et
 |succ k ih =>
  intro hk
  have ih:=ih (by omega)
  rw [zH N k (by omega),Nat.two_mul,Nat.add_assoc,Pt.add_mul]
  show PjT _ (Cg (N/2 ^ (255-k) % 2) (tm N k))
  generalize N/2 ^ (256-k)=m at *
  generalize tm N k=r at *
  unfold Cg
  rcases Nat.mod_two_eq_zero_or_one (N/2 ^ (255-k)) with h|h
  ·rw [h,if_pos rfl]
   exact CI ih ih
  ·rw [h,if_neg (by decide),Pt.add_mul,Pt.mul_one,← Pt.add_assoc]
   exact CI (CI ih ih) Jr
theorem HH {N:Nat} (hN:N<2 ^ 256):PjT (Pt.mul N BT) (tm N 256):=by
 have:=JO N hN 256 (Nat.le_refl _)
 rwa [Nat.sub_self,Nat.pow_zero,Nat.div_one] at this
theorem rv {a b z:F} (hz:z≠0) (h:a*z=b*z):a=b:=by
 refine mu hz ?_
 clear hz
 grind -lia -linarith
theorem Gp {N:Nat} (hN:N<2 ^ 256) {x y:F} (h:(tm N 256).1=x*(tm N 256).2.2∧(tm N 256).2.1=y*(tm N 256).2.2):(Pt.mul N BT).x=x∧(Pt.mul N BT).y=y:=by
 obtain ⟨z0,hx,hy⟩:=HH hN
 exact ⟨rv z0 (hx.symm.trans h.1),rv z0 (hy.symm.trans h.2)⟩
theorem tmL:(tm L 256).1=0*(tm L 256).2.2∧(tm L 256).2.1=1*(tm L 256).2.2:=by decide +kernel
theorem Fm:L<2 ^ 256:=by decide
theorem IH:Pt.mul L BT=Pt.zero CT:=by
 obtain ⟨h1,h2⟩:=Gp Fm tmL
 exact Pt.eq h1 h2
theorem mul_mod (N:Nat):Pt.mul (N % L) BT=Pt.mul N BT:=by
 have e:N=(N/L)*L+N % L:=by rw [Nat.mul_comm];exact (Nat.div_add_mod N L).symm
 have h:Pt.mul N BT=Pt.mul ((N/L)*L+N % L) BT:=congrArg (fun n=>Pt.mul n BT) e
 rw [h,Pt.add_mul,Pt.mul_mul,IH,Pt.mul_zero,Pt.zero_add]
end Tabn
namespace Tabn
def ot (y:F):F:=(y*y-1)*finv (dT*(y*y)+1)
def xOf (r:F) (h:Nat):F:=if r.val % 2=h then r else 0-r
def At (rt:F→F):Prop:=∀ s,rt (s*s)*rt (s*s)=s*s
def zC (rt:F→F) (n:Nat):Prop :=
 n % 2 ^ 255<P∧rt (ot (Fin.ofNat P (n % 2 ^ 255)))*rt (ot (Fin.ofNat P (n % 2 ^ 255)))=ot (Fin.ofNat P (n % 2 ^ 255))∧¬ (rt (ot (Fin.ofNat P (n % 2 ^ 255)))=0∧n/2 ^ 255=1)
theorem zo (r:F):0-r = -r:=by grind -lia -linarith
theorem GW (r:F):(0-r)*(0-r)=r*r:=by grind -lia -linarith
theorem Gx (r:F) (h:Nat):xOf r h*xOf r h=r*r:=by
 unfold xOf
 split
 ·rfl
 ·exact GW r
theorem En {r:F} {h:Nat} (hh:h<2) (h0:¬ (r=0∧h=1)):(xOf r h).val % 2=h:=by
 unfold xOf
 split
 ·rename_i e;exact e
 ·rename_i e
  by_cases hr:r=0
  ·exfalso
   rw [hr] at e
   have:(0:F).val % 2=0:=rfl
   apply h0
   exact ⟨hr,by omega⟩
  ·rw [zo,yZ hr]
   have:=r.isLt
   have:=Fj
   omega
theorem jR:P<2 ^ 255:=by decide
theorem uh {rt:F→F} {n:Nat} (hn:n<2 ^ 256) (h:zC rt n):∃ p:Pt CT,kD p=n∧p.y=Fin.ofNat P (n % 2 ^ 255)∧p.x=xOf (rt (ot (Fin.ofNat P (n % 2 ^ 255)))) (n/2 ^ 255):=by
 obtain ⟨h1,h2,h3⟩:=h
 have hh:n/2 ^ 255<2:=by omega
 refine ⟨⟨xOf (rt (ot (Fin.ofNat P (n % 2 ^ 255)))) (n/2 ^ 255),Fin.ofNat P (n % 2 ^ 255),KU.2 ?_⟩,?_,rfl,rfl⟩
 ·rw [Gx,h2]
  rfl
 ·unfold kD
  simp only
  rw [En hh h3]
  have:(Fin.ofNat P (n % 2 ^ 255)).val=n % 2 ^ 255:=Nat.mod_eq_of_lt h1
  rw [this]
  omega
theorem Eu {rt:F→F} (hr:At rt) (p:Pt CT):zC rt (kD p):=by
 have h1:=p.y.isLt
 have h2:=jR
 have e1:kD p % 2 ^ 255=p.y.val:=by unfold kD;omega
 have e2:kD p/2 ^ 255=p.x.val % 2:=by unfold kD;omega
 have e3:Fin.ofNat P p.y.val=p.y:=Fin.ext (Nat.mod_eq_of_lt h1)
 have e4:ot p.y=p.x*p.x:=(KU.1 p.on).symm
 unfold zC
 rw [e1,e2,e3,e4]
 refine ⟨h1,hr _,?_⟩
 rintro ⟨h3,h4⟩
 have h5:=hr p.x
 rw [h3] at h5
 have h6:p.x=0:=by
  rcases gv (h5.symm.trans (show (0:F)*0=0 by decide)) with h|h <;> exact h
 rw [h6] at h4
 exact absurd h4 (by decide)
theorem EW (p:Pt CT):kD p<2 ^ 256:=by
 have h1:=p.y.isLt
 have h2:=jR
 unfold kD
 omega
theorem BB:(4:F)*finv 5=yB:=by
 refine (tO (by decide) ?_).symm
 decide +kernel
theorem vd:kD BT=yB.val:=by
 show yB.val+xB.val % 2*2 ^ 255=yB.val
 have:xB.val % 2=0:=by decide +kernel
 rw [this]
 omega
end Tabn
namespace Go.Vm
open Go
theorem zS (a:Int) (n:Nat):a ^ n % PF=(a % PF) ^ n % PF:=by
 induction n with
 |zero=>rw [Int.pow_zero,Int.pow_zero]
 |succ n ih=>rw [Int.pow_succ,Int.pow_succ,Int.mul_emod,ih,← Int.mul_emod,Int.mul_emod,Int.mul_emod ((a % PF) ^ n),Int.emod_emod_of_dvd _ ⟨1,(Int.mul_one _).symm⟩]
theorem ib:PF=((Tabn.P:Nat):Int):=by kernel_rfl
def toF (v:Int):Tabn.F:=⟨(v % PF).toNat,by have h:=jp v;have:=ib;omega⟩
theorem dD (v:Int):(((toF v).val:Nat):Int)=v % PF:=Int.toNat_of_nonneg (jp v).1
theorem gk {f g:Tabn.F} (h:((f.val:Nat):Int)=((g.val:Nat):Int)):f=g:=Fin.ext (Int.ofNat.inj h)
theorem DG {v w:Int} (h:v % PF=w % PF):toF v=toF w:=gk (by rw [dD,dD,h])
theorem DF {v w:Int} (h:toF v=toF w):v % PF=w % PF:=by rw [← dD,← dD,h]
theorem uH (v w:Int):toF (v+w)=toF v+toF w:=by
 apply gk
 rw [dD,Fin.val_add,Int.natCast_emod,Int.natCast_add,dD,dD,← ib,← Int.add_emod]
theorem ma (v w:Int):toF (v*w)=toF v*toF w:=by
 apply gk
 rw [dD,Fin.val_mul,Int.natCast_emod,Int.natCast_mul,dD,dD,← ib,← Int.mul_emod]
theorem uc (a b:Tabn.F):a-b+b=a:=by grind -lia -linarith
theorem rK {a b c:Tabn.F} (h:a+c=b+c):a=b:=by grind -lia -linarith
theorem yT (v w:Int):toF (v-w)=toF v-toF w:=by
 apply rK (c:=toF w)
 rw [← uH,Int.sub_add_cancel,uc]
theorem vZ (v:Int) (e:Nat):((((toF v).val ^ e % Tabn.P:Nat)):Int)=v ^ e % PF:=by
 rw [Int.natCast_emod,Int.natCast_pow,dD,← ib,← zS]
theorem IG:Tabn.eI=ou:=Tabn.eI_lit
theorem yJ (v:Int):toF (v ^ ou)=Tabn.finv (toF v):=by
 apply gk
 rw [dD,Tabn.finv_val,IG,vZ]
def EF (x:List Int) (f:Tabn.F):Prop:=∃ v,E x v∧toF v=f
def RF (x:List Int) (f:Tabn.F):Prop:=∃ v,R x v∧toF v=f
theorem EF.to {x:List Int} {f g:Tabn.F} (h:EF x f) (e:f=g):EF x g:=e ▸ h
theorem RF.to {x:List Int} {f g:Tabn.F} (h:RF x f) (e:f=g):RF x g:=e ▸ h
theorem lv {x y:List Int} {f g:Tabn.F}:EF x f→EF y g→EF (F16 x y) (f+g):=fun ⟨v,h,e⟩ ⟨w,h',e'⟩=>⟨v+w,Jk h h',by rw [uH,e,e']⟩
theorem lp {x y:List Int} {f g:Tabn.F}:EF x f→EF y g→EF (F18 x y) (f-g):=fun ⟨v,h,e⟩ ⟨w,h',e'⟩=>⟨v-w,Ij h h',by rw [yT,e,e']⟩
theorem eC {x y:List Int} {f g:Tabn.F}:EF x f→EF y g→EF (F20 x y) (f*g):=fun ⟨v,h,e⟩ ⟨w,h',e'⟩=>⟨v*w,sd h h',by rw [ma,e,e']⟩
theorem qI {x:List Int} {f:Tabn.F}:EF x f→EF (F25 x) (Tabn.finv f):=fun ⟨v,h,e⟩=>⟨v ^ ou,Hr h,by rw [yJ,e]⟩
theorem uM {x y:List Int} {f g:Tabn.F}:RF x f→RF y g→RF (F17 x y) (f+g):=fun ⟨v,h,e⟩ ⟨w,h',e'⟩=>⟨v+w,Iz h h',by rw [uH,e,e']⟩
theorem tN {x y:List Int} {f g:Tabn.F}:RF x f→RF y g→RF (F19 x y) (f-g):=fun ⟨v,h,e⟩ ⟨w,h',e'⟩=>⟨v-w,IN h h',by rw [yT,e,e']⟩
theorem dh {x y:List Int} {f g:Tabn.F}:RF x f→RF y g→RF (F21 x y) (f*g):=fun ⟨v,h,e⟩ ⟨w,h',e'⟩=>⟨v*w,oY h h',by rw [ma,e,e']⟩
theorem pq {x:List Int} {f:Tabn.F}:RF x f→RF (F28 x) (Tabn.finv f):=fun ⟨v,h,e⟩=>⟨v ^ ou,Ie h,by rw [yJ,e]⟩
theorem EF.bytes {x:List Int} {f:Tabn.F}:EF x f→F33 x=bK 256 32 (f.val:Int):=fun ⟨v,h,e⟩=>by rw [h.bytes,← e,dD]
theorem RF.bytes {x:List Int} {f:Tabn.F}:RF x f→F49 x=bK 256 32 (f.val:Int):=fun ⟨v,h,e⟩=>by rw [Dv h,← e,dD]
theorem RF.len {x:List Int} {f:Tabn.F}:RF x f→x.length=16:=fun ⟨v,h,e⟩=>h.len
theorem pf:EF (F30 1) 1:=⟨1,iX (by decide),by decide⟩
theorem me:EF (F30 0) 0:=⟨0,iX (by decide),by decide⟩
theorem qv:RF (F31 1) 1:=⟨1,ii (by decide),by decide⟩
theorem pH:RF (F31 0) 0:=⟨0,ii (by decide),by decide⟩
def uOf (b:List Int):Tabn.F:=toF (num 256 b % 57896044618658097711785492504343953926634992332820282019728792003956564819968)
theorem FA {b:List Int} (hb:Dig 256 b) (hl:b.length=32):EF (F23 b) (uOf b):=⟨_,Cr hb hl,rfl⟩
theorem Dm {b:List Int} (hb:Dig 256 b) (hl:b.length=32):RF (F24 b) (uOf b):=⟨_,HQ hb hl,rfl⟩
end Go.Vm
namespace Go.Vm
open Go
theorem Cq:∀ a,a<256→a &&& 248=a-a % 8:=by decide +kernel
theorem Cd:∀ a,a<256→(a &&& 127) ||| 64=a % 64+64:=by decide +kernel
theorem zy:∀ a,a<256→a &&& 127<256:=by decide +kernel
theorem FI {x:Int} (h:0≤x∧x<256):aM .u8 x 248=x-x % 8:=by
 obtain ⟨a,rfl,ha⟩:=pJ (N:=256) h
 have:=dK rT ha (b:=248) (by decide)
 rw [Cq a ha] at this
 have e:((a-a % 8:Nat):Int)=(a:Int)-(a:Int) % 8:=by omega
 rw [← e];exact this
theorem JE {x:Int} (h:0≤x∧x<256):iOr .u8 (aM .u8 x 127) 64=x % 64+64:=by
 obtain ⟨a,rfl,ha⟩:=pJ (N:=256) h
 have h1:=dK rT ha (b:=127) (by decide)
 have h2:=jT rT (zy a ha) (b:=64) (by decide)
 rw [Cd a ha] at h2
 have e:((a % 64+64:Nat):Int)=(a:Int) % 64+64:=by omega
 rw [← e,← h2]
 show iOr .u8 (aM .u8 (a:Int) ((127:Nat):Int)) ((64:Nat):Int)=_
 rw [h1]
def iv (b:List Int):List Int:=(b.set 0 (b.getD 0 0-b.getD 0 0 % 8)).set 31 (b.getD 31 0 % 64+64)
theorem Du {b:List Int} (hb:Dig 256 b):F43 b=iv b:=by
 unfold F43 iv
 rw [bP (by decide),FI (ak (by decide) hb),JE (ak (by decide) hb)]
theorem xj {b:List Int} (hb:Dig 256 b):F44 b=iv b:=by
 unfold F44 iv
 have h0:=ak (i:=0) (by decide) hb
 have h31:=ak (i:=31) (by decide) hb
 have e1:bL (b.getD 0 0) 8=b.getD 0 0 % 8:=Int.tmod_eq_emod_of_nonneg h0.1
 have e2:bL (b.getD 31 0) 64=b.getD 31 0 % 64:=Int.tmod_eq_emod_of_nonneg h31.1
 have e3:aT .u8 (b.getD 0 0) (b.getD 0 0 % 8)=b.getD 0 0-b.getD 0 0 % 8:=by unfold aT;rw [dC];omega
 have e4:aD .u8 (b.getD 31 0 % 64) 64=b.getD 31 0 % 64+64:=by unfold aD;rw [dC];omega
 rw [bP (by decide),e1,e2,e3,e4]
theorem gO {b:List Int} (hb:Dig 256 b):Dig 256 (iv b):=by
 have h0:=ak (i:=0) (by decide) hb
 have h31:=ak (i:=31) (by decide) hb
 exact ky (ky hb (by omega)) (by omega)
theorem mc {b:List Int}:(iv b).length=b.length:=by unfold iv;rw [List.length_set,List.length_set]
theorem AO {b:List Int} (hl:b.length=32):(iv b).getD 0 0=b.getD 0 0-b.getD 0 0 % 8:=by
 unfold iv;rw [bP (by decide),bz (by omega)]
theorem zw {b:List Int} (hl:b.length=32):(iv b).getD 31 0=b.getD 31 0 % 64+64:=by
 unfold iv;rw [bz (by rw [List.length_set];omega)]
def qh (b:List Int):Nat:=(num 256 (iv b)).toNat
theorem jH {b:List Int} (hb:Dig 256 b):num 256 (iv b)=(qh b:Int):=by
 have h:=iC (by decide) (gO hb)
 exact (Int.toNat_of_nonneg h.1).symm
theorem BV {b:List Int} (hb:Dig 256 b) (hl:b.length=32):qh b % 8=0∧2 ^ 254≤qh b∧qh b<2 ^ 255:=by
 have h0:=ak (i:=0) (by decide) hb
 have h31:=ak (i:=31) (by decide) hb
 have g0:=iF (B:=256) (by decide) (i:=0) (gO hb)
 have g31:=iF (B:=256) (by decide) (i:=31) (gO hb)
 have hb':=iC (by decide) (gO hb)
 rw [mc,hl] at hb'
 rw [AO hl,Int.pow_zero,Int.ediv_one] at g0
 rw [zw hl] at g31
 rw [jH hb] at g0 g31 hb'
 have e31:(256:Int) ^ 31=452312848583266388373324160190187140051835877600158453279131187530910662656:=rfl
 have e32:(256:Int) ^ 32=115792089237316195423570985008687907853269984665640564039457584007913129639936:=rfl
 rw [e31] at g31
 rw [e32] at hb'
 have e254:(2:Nat) ^ 254=28948022309329048855892746252171976963317496166410141009864396001978282409984:=rfl
 have e255:(2:Nat) ^ 255=57896044618658097711785492504343953926634992332820282019728792003956564819968:=rfl
 rw [e254,e255]
 generalize qh b=N at *
 omega
end Go.Vm
namespace Go.Vm
open Go
theorem qV (a:Int) (n:Nat):a ^ n % PF=(a % PF) ^ n % PF:=by
 induction n with
 |zero=>rw [Int.pow_zero,Int.pow_zero]
 |succ n ih=>rw [Int.pow_succ,Int.pow_succ,Int.mul_emod,ih,← Int.mul_emod,Int.mul_emod,Int.mul_emod ((a % PF) ^ n),Int.emod_emod_of_dvd _ ⟨1,(Int.mul_one _).symm⟩]
theorem BM:PF=((Tabn.P:Nat):Int):=by kernel_rfl
theorem Ef (a:Int):∃ n:Nat,a % PF=(n:Int)∧n<Tabn.P:=by
 obtain ⟨n,hn⟩:=Int.eq_ofNat_of_zero_le (jp a).1
 refine ⟨n,hn,?_⟩
 have:=(jp a).2
 rw [hn,BM] at this
 exact Int.ofNat_lt.1 this
theorem yP (n k:Nat):(n:Int) ^ k % PF=((n ^ k % Tabn.P:Nat):Int):=by
 rw [BM,Int.natCast_emod,Int.natCast_pow]
theorem zf:ou+1=Tabn.P-1:=by kernel_rfl
theorem DZ {a:Int} (h:a % PF≠0):(a ^ ou*a) % PF=1:=by
 rw [← Int.pow_succ]
 show a ^ (ou+1) % PF=1
 rw [zf,qV]
 obtain ⟨n,hn,hlt⟩:=Ef a
 rw [hn] at h ⊢
 rw [yP,Tabn.fermat_one Tabn.prime_P]
 ·rfl
 ·intro hd
  have:=Nat.le_of_dvd (by omega) hd
  omega
end Go.Vm
namespace Go.Vm
open Go
theorem Gc {a b:Int} (h:a % PF=b % PF):PF ∣ a-b:=Int.dvd_of_emod_eq_zero (by rw [Int.sub_emod,h,Int.sub_self];rfl)
theorem Fu {a b:Int} (h:PF ∣ a-b):a % PF=b % PF:=by
 obtain ⟨q,hq⟩:=h
 exact pX (q:=q) (by rw [Int.mul_comm q];omega)
theorem Bn {a b:Int} (h:PF ∣ a*b):PF ∣ a∨PF ∣ b:=by
 have e:PF.natAbs=Tabn.P:=by kernel_rfl
 have h1:Tabn.P ∣ a.natAbs*b.natAbs:=by
  rw [← Int.natAbs_mul,← e];exact Int.natAbs_dvd_natAbs.2 h
 rcases Tabn.prime_P.dvd_mul h1 with h2|h2
 ·exact .inl (Int.natAbs_dvd_natAbs.1 (by rw [e];exact h2))
 ·exact .inr (Int.natAbs_dvd_natAbs.1 (by rw [e];exact h2))
theorem mul_mod {a b c d:Int} (h:a % PF=b % PF) (h':c % PF=d % PF):a*c % PF=b*d % PF:=by
 rw [Int.mul_emod,h,h',← Int.mul_emod]
theorem Dq {a b:Int} (h:a*a % PF=b*b % PF):a % PF=b % PF∨a % PF=(0-b) % PF:=by
 have h1:=Gc h
 have e:a*a-b*b=(a-b)*(a+b):=by
  rw [Int.sub_mul,Int.mul_add,Int.mul_add,Int.mul_comm b a];omega
 rw [e] at h1
 rcases Bn h1 with h2|h2
 ·exact .inl (Fu h2)
 ·refine .inr (Fu ?_)
  have e2:a-(0-b)=a+b:=by omega
  rw [e2];exact h2
def fG:Nat:=28948022309329048855892746252171976963317496166410141009864396001978282409974
theorem AS {a:Int} (h:a % PF≠0):a ^ fG % PF=1∨a ^ fG % PF=(-1) % PF:=by
 have h1:a ^ fG*a ^ fG % PF=1*1 % PF:=by
  rw [← Int.pow_add]
  have e:fG+fG=ou+1:=by kernel_rfl
  rw [e,Int.pow_succ,DZ h]
  rfl
 rcases Dq h1 with h2|h2
 ·exact .inl h2
 ·exact .inr h2
theorem BH:(2:Int) ^ fG % PF=(-1) % PF:=by
 have h:(2 ^ fG % Tabn.P:Nat)=Tabn.P-1:=by
  rw [← Tabn.pmod_eq Tabn.P 256 2 fG (of_decide_eq_true (by kernel_rfl))]
  kernel_rfl
 have e:((Tabn.P-1:Nat):Int)=(-1) % PF:=by kernel_rfl
 have h2:=yP 2 fG
 rw [h,e] at h2
 exact h2
def fF (v:Int):Int:=if v ^ cw*v ^ cw % PF=v % PF then v ^ cw else v ^ cw*2 ^ pC
theorem pow_mod {a b:Int} (h:a % PF=b % PF) (n:Nat):a ^ n % PF=b ^ n % PF:=by rw [qV,h,← qV]
theorem ET (v:Int):fF (v*v)*fF (v*v) % PF=v*v % PF:=by
 have e1:(v*v) ^ cw*(v*v) ^ cw=v*v*v ^ fG:=by
  have e:v*v*v ^ fG=v ^ (fG+1+1):=by rw [Int.pow_succ,Int.pow_succ,Int.mul_comm (v*v),Int.mul_assoc]
  have e':cw+cw+(cw+cw)=fG+1+1:=by kernel_rfl
  rw [e,Int.mul_pow,← Int.pow_add,← Int.pow_add,e']
 unfold fF
 by_cases h:(v*v) ^ cw*(v*v) ^ cw % PF=v*v % PF
 ·rw [if_pos h];exact h
 ·rw [if_neg h]
  have hv:v % PF≠0:=by
   intro h0
   apply h
   rw [e1]
   have h1:v*v % PF=0 % PF:=mul_mod (b:=0) (d:=0) (by rw [h0];rfl) (by rw [h0];rfl)
   rw [mul_mod h1 (rfl:v ^ fG % PF=v ^ fG % PF),h1,Int.zero_mul]
  have hh:v ^ fG % PF=(-1) % PF:=by
   rcases AS hv with h1|h1
   ·exfalso
    apply h
    rw [e1,mul_mod (rfl:v*v % PF=v*v % PF) (show v ^ fG % PF=1 % PF from h1),Int.mul_one]
   ·exact h1
  have e2:(v*v) ^ cw*2 ^ pC*((v*v) ^ cw*2 ^ pC)=(v*v*v ^ fG)*2 ^ fG:=by
   have e3:((2:Int) ^ pC)*2 ^ pC=2 ^ fG:=by
    have e':pC+pC=fG:=by kernel_rfl
    rw [← Int.pow_add,e']
   rw [← e1,← e3]
   generalize (v*v) ^ cw=A
   generalize (2:Int) ^ pC=B
   grind -lia -linarith
  rw [e2,mul_mod (mul_mod (rfl:v*v % PF=v*v % PF) hh) BH]
  congr 1
  generalize v*v=w
  omega
theorem zY {x:List Int} {v:Int} (hx:E x v):E (F26 x (aA (F50 252 2) 32 0 32)) (v ^ cw):=by
 rw [xC,lG _ rfl]
 exact tQ hx (by unfold Dig;decide) (N:=cw) (by kernel_rfl)
theorem IF:E (F26 (F30 2) (aA (F50 253 5) 32 0 32)) (2 ^ pC):=by
 rw [wN,lG _ rfl]
 exact tQ (iX (by decide)) (by unfold Dig;decide) (N:=pC) (by kernel_rfl)
theorem sJ {x:List Int} {v:Int} (hx:R x v):R (F27 x (aA (F51 252 2) 32 0 32)) (v ^ cw):=by
 rw [zu,lG _ rfl]
 exact AG hx (by unfold Dig;decide) (N:=cw) (by kernel_rfl)
theorem FV:R (F27 (F31 2) (aA (F51 253 5) 32 0 32)) (2 ^ pC):=by
 rw [zW,lG _ rfl]
 exact AG (ii (by decide)) (by unfold Dig;decide) (N:=pC) (by kernel_rfl)
theorem GH {x:List Int} {v:Int} (hx:E x v):E (F34 x) (fF v)∧pe x=decide (fF v*fF v % PF=v % PF):=by
 have h1:E (F34 x) (fF v):=by
  unfold F34 fF
  have ht:=zY hx
  have h2:=IF
  generalize F26 x (aA (F50 252 2) 32 0 32)=t at *
  generalize F26 (F30 2) (aA (F50 253 5) 32 0 32)=u at *
  rw [(sd ht ht).same hx]
  by_cases h:v ^ cw*v ^ cw % PF=v % PF
  ·rw [if_pos h,decide_eq_true h,Bool.not_true,aB];exact ht
  ·rw [if_neg h,decide_eq_false h,Bool.not_false,aC];exact sd ht h2
 exact ⟨h1,(sd h1 h1).same hx⟩
theorem Gw {x:List Int} {v:Int} (hx:R x v):qd x=decide (fF v*fF v % PF=v % PF):=by
 have h1:R (F35 x) (fF v):=by
  unfold F35 fF
  have ht:=sJ hx
  have h2:=FV
  generalize F27 x (aA (F51 252 2) 32 0 32)=t at *
  generalize F27 (F31 2) (aA (F51 253 5) 32 0 32)=u at *
  rw [(oY ht ht).beq hx]
  by_cases h:v ^ cw*v ^ cw % PF=v % PF
  ·rw [if_pos h,decide_eq_true h,Bool.not_true,aB];exact ht
  ·rw [if_neg h,decide_eq_false h,Bool.not_false,aC];exact oY ht h2
 exact (oY h1 h1).beq hx
end Go.Vm
namespace Go.Vm
open Go Tabn
theorem EF.len {x:List Int} {f:Tabn.F}:EF x f→x.length=5:=fun ⟨v,h,e⟩=>by
 obtain ⟨⟨a,b,c,d,g,rfl,_⟩,_⟩:=h
 rfl
theorem EF.val {x:List Int} {f:Tabn.F}:EF x f→E x (f.val:Int):=fun ⟨v,h,e⟩=>h.to (by rw [← e,dD,Int.emod_emod_of_dvd _ (Int.dvd_refl _)])
theorem RF.val {x:List Int} {f:Tabn.F}:RF x f→R x (f.val:Int):=fun ⟨v,h,e⟩=>h.to (by rw [← e,dD,Int.emod_emod_of_dvd _ (Int.dvd_refl _)])
theorem mM (f:Tabn.F):toF (f.val:Int)=f:=gk (by rw [dD,ib,← Int.natCast_emod,Nat.mod_eq_of_lt f.isLt])
theorem iE (f:Tabn.F):(f.val:Int) % PF=(f.val:Int):=by rw [ib,← Int.natCast_emod,Nat.mod_eq_of_lt f.isLt]
theorem EF.same {x y:List Int} {f g:Tabn.F} (h:EF x f) (h':EF y g):F29 x y=decide (f=g):=by
 rw [h.val.same h'.val,iE,iE]
 by_cases e:f=g
 ·rw [decide_eq_true e,e,decide_eq_true rfl]
 ·rw [decide_eq_false e,decide_eq_false (fun h=>e (gk h))]
theorem EF.odd {x:List Int} {f:Tabn.F} (h:EF x f):F32 x=decide (f.val % 2=1):=by
 rw [h.val.odd,iE]
 by_cases e:f.val % 2=1
 ·rw [decide_eq_true e,decide_eq_true (by omega)]
 ·rw [decide_eq_false e,decide_eq_false (by omega)]
def rtF (f:Tabn.F):Tabn.F:=toF (fF (f.val:Int))
theorem Ik:At rtF:=by
 intro s
 unfold rtF
 have h:=ET (s.val:Int)
 have e:(((s*s).val:Nat):Int) % PF=(s.val:Int)*(s.val:Int) % PF:=by
  rw [Fin.val_mul,Int.natCast_emod,Int.natCast_mul,← ib,Int.emod_emod_of_dvd _ (Int.dvd_refl _)]
 have e1:fF (((s*s).val:Nat):Int) % PF=fF ((s.val:Int)*(s.val:Int)) % PF:=by
  have hp:∀ n:Nat,(((s*s).val:Nat):Int) ^ n % PF=((s.val:Int)*(s.val:Int)) ^ n % PF:=fun n=>pow_mod e n
  unfold fF
  have hc:((((s*s).val:Nat):Int) ^ cw*(((s*s).val:Nat):Int) ^ cw % PF=(((s*s).val:Nat):Int) % PF)=(((s.val:Int)*(s.val:Int)) ^ cw*((s.val:Int)*(s.val:Int)) ^ cw % PF=(s.val:Int)*(s.val:Int) % PF):=by
   rw [mul_mod (hp cw) (hp cw),e]
  simp only [hc]
  split
  ·exact hp cw
  ·exact mul_mod (hp cw) rfl
 rw [← ma]
 apply gk
 rw [dD,mul_mod e1 e1,h,← e,iE]
theorem FC {x:List Int} {f:Tabn.F} (h:EF x f):EF (F34 x) (rtF f)∧pe x=decide (rtF f*rtF f=f):=by
 obtain ⟨h1,h2⟩:=GH h.val
 have h3:EF (F34 x) (rtF f):=⟨_,h1,rfl⟩
 refine ⟨h3,?_⟩
 rw [h2]
 unfold rtF
 rw [← ma]
 by_cases e:toF (fF (f.val:Int)*fF (f.val:Int))=f
 ·rw [decide_eq_true e,decide_eq_true]
  have:=DF (e.trans (mM f).symm)
  exact this
 ·rw [decide_eq_false e,decide_eq_false]
  intro h4
  exact e ((DG h4).trans (mM f))
theorem DU {x:List Int} {v:Int} (hx:R x v):R (F35 x) (fF v):=by
 unfold F35 fF
 have ht:=sJ hx
 have h2:=FV
 generalize F27 x (aA (F51 252 2) 32 0 32)=t at *
 generalize F27 (F31 2) (aA (F51 253 5) 32 0 32)=u at *
 rw [(oY ht ht).beq hx]
 by_cases h:v ^ cw*v ^ cw % PF=v % PF
 ·rw [if_pos h,decide_eq_true h,Bool.not_true,aB];exact ht
 ·rw [if_neg h,decide_eq_false h,Bool.not_false,aC];exact oY ht h2
theorem EB {x:List Int} {f:Tabn.F} (h:RF x f):RF (F35 x) (rtF f)∧qd x=decide (rtF f*rtF f=f):=by
 have h3:RF (F35 x) (rtF f):=⟨_,DU h.val,rfl⟩
 refine ⟨h3,?_⟩
 rw [Gw h.val]
 unfold rtF
 rw [← ma]
 by_cases e:toF (fF (f.val:Int)*fF (f.val:Int))=f
 ·rw [decide_eq_true e,decide_eq_true]
  have:=DF (e.trans (mM f).symm)
  exact this
 ·rw [decide_eq_false e,decide_eq_false]
  intro h4
  exact e ((DG h4).trans (mM f))
theorem RF.beq {x y:List Int} {f g:Tabn.F} (h:RF x f) (h':RF y g):(x==y)=decide (f=g):=by
 rw [h.val.beq h'.val,iE,iE]
 by_cases e:f=g
 ·rw [decide_eq_true e,e,decide_eq_true rfl]
 ·rw [decide_eq_false e,decide_eq_false (fun h=>e (gk h))]
def PE (p:Pt CT) (s:List Int):Prop:=∃ X Y Z T fx fy fz ft,s=X++(Y++(Z++T))∧EF X fx∧EF Y fy∧EF Z fz∧EF T ft∧Ex p fx fy fz ft
theorem Ct {X Y Z T:List Int} (hx:X.length=5) (hy:Y.length=5) (hz:Z.length=5) (ht:T.length=5) :
  ((X++(Y++(Z++T))).drop 0).take 5=X∧((X++(Y++(Z++T))).drop 5).take 5=Y∧((X++(Y++(Z++T))).drop 10).take 5=Z∧((X++(Y++(Z++T))).drop 15).take 5=T:=by
 obtain ⟨a,b,c,d,e,rfl⟩:=rX hx
 obtain ⟨a',b',c',d',e',rfl⟩:=rX hy
 obtain ⟨a2,b2,c2,d2,e2,rfl⟩:=rX hz
 obtain ⟨a3,b3,c3,d3,e3,rfl⟩:=rX ht
 exact ⟨rfl,rfl,rfl,rfl⟩
theorem BX {X Y Z T:List Int} (hx:X.length=5) (hy:Y.length=5) (hz:Z.length=5) (ht:T.length=5) :
  aL (aL (aL (aL [0,0,0,0,0,0,0,0,0,0,0,0,0,0,0,0,0,0,0,0] 0 X) 5 Y) 10 Z) 15 T=X++(Y++(Z++T)):=by
 obtain ⟨a,b,c,d,e,rfl⟩:=rX hx
 obtain ⟨a',b',c',d',e',rfl⟩:=rX hy
 obtain ⟨a2,b2,c2,d2,e2,rfl⟩:=rX hz
 obtain ⟨a3,b3,c3,d3,e3,rfl⟩:=rX ht
 rfl
theorem Gq:EF (F30 121665) rW:=by rw [KE.1];exact ⟨121665,iX (by decide),by decide⟩
theorem Hf:EF (F30 121666) nR:=by rw [KE.2];exact ⟨121666,iX (by decide),by decide⟩
theorem pQ:EF bQ dT:=by
 unfold bQ pj
 refine (lp me (eC Gq (qI Hf))).to ?_
 unfold dT
 rfl
theorem FT {p q:Pt CT} {s t k:List Int} (hp:PE p s) (hq:PE q t) (hk:EF k (dT+dT)):PE (p.add q) (jw s t k):=by
 obtain ⟨X,Y,Z,T,fx,fy,fz,ft,rfl,hX,hY,hZ,hT,hE⟩:=hp
 obtain ⟨X',Y',Z',T',fx',fy',fz',ft',rfl,hX',hY',hZ',hT',hE'⟩:=hq
 obtain ⟨c1,c2,c3,c4⟩:=Ct hX.len hY.len hZ.len hT.len
 obtain ⟨d1,d2,d3,d4⟩:=Ct hX'.len hY'.len hZ'.len hT'.len
 unfold jw
 rw [c1,c2,c3,c4,d1,d2,d3,d4]
 have hc:=eC (eC hT hT') hk
 have hd:=lv (eC hZ hZ') (eC hZ hZ')
 have hq':=eC (lv hY hX) (lv hY' hX')
 have hp':=eC (lp hY hX) (lp hY' hX')
 have he:=lp hq' hp'
 have hf:=lp hd hc
 have hg:=lv hd hc
 have hh:=lv hq' hp'
 have r1:=eC he hf
 have r2:=eC hg hh
 have r3:=eC hf hg
 have r4:=eC he hh
 rw [BX r1.len r2.len r3.len r4.len]
 exact ⟨_,_,_,_,_,_,_,_,rfl,r1,r2,r3,r4,Gu hE hE'⟩
theorem PE.zero:PE (Pt.zero CT) (aL (aL [0,0,0,0,0,0,0,0,0,0,0,0,0,0,0,0,0,0,0,0] 5 (F30 1)) 10 (F30 1)) :=
 ⟨F30 0,F30 1,F30 1,F30 0,0,1,1,0,rfl,me,pf,pf,me,⟨dz,Cs 1,lT 1,(show (0:Tabn.F)=0*1*1 by decide)⟩⟩
theorem lD (N m k:Nat) (hk:k<m):N/2 ^ (m-(k+1))=2*(N/2 ^ (m-k))+N/2 ^ (m-1-k) % 2:=by
 have e:m-k=(m-1-k)+1:=by omega
 rw [show m-(k+1)=m-1-k by omega,e,Nat.pow_succ,← Nat.div_div_eq_div_mul]
 omega
theorem tn {n:Nat} {x:Int} (h:x=((n % 2:Nat):Int)):((x:Int)==1)=decide (n % 2=1):=by
 subst h
 rcases Nat.mod_two_eq_zero_or_one n with h|h <;> rw [h] <;> rfl
theorem ES {p:Pt CT} {s n:List Int} (hp:PE p s) (hn:Dig 256 n) {N:Nat} (hN:num 256 n=(N:Int)):PE (Pt.mul N p) (pA s n):=by
 have hk:EF (F16 bQ bQ) (dT+dT):=lv pQ pQ
 have hlt:N<2 ^ (8*n.length):=by
  obtain ⟨M,h1,h2⟩:=jf hn
  rw [h1] at hN
  have:=Int.ofNat.inj hN
  omega
 have key:∀ k,k≤8*n.length→PE (Pt.mul (N/2 ^ (8*n.length-k)) p) (itr (nG s n) k (aL (aL [0,0,0,0,0,0,0,0,0,0,0,0,0,0,0,0,0,0,0,0] 5 (F30 1)) 10 (F30 1))):=by
  intro k
  induction k with
  |zero =>
   intro _
   rw [aX,Nat.sub_zero,Nat.div_eq_of_lt hlt]
   exact PE.zero
  |succ k ih =>
   intro hk'
   have ih:=ih (by omega)
   rw [aP,lD N (8*n.length) k (by omega),Nat.two_mul,Nat.add_assoc,Pt.add_mul]
   generalize itr (nG s n) k _=z at *
   generalize N/2 ^ (8*n.length-k)=M at *
   unfold nG
   rw [tn (mL hn hN (8*n.length-1-k))]
   have h2:=FT ih ih hk
   rcases Nat.mod_two_eq_zero_or_one (N/2 ^ (8*n.length-1-k)) with h|h
   ·rw [h,decide_eq_false (by decide),aB,Nat.add_zero]
    exact h2
   ·rw [h,decide_eq_true rfl,aC,Pt.add_mul,Pt.mul_one,← Pt.add_assoc]
    exact FT h2 hp hk
 have:=key (8*n.length) (Nat.le_refl _)
 rw [Nat.sub_self,Nat.pow_zero,Nat.div_one] at this
 exact this
def PR (p:Pt CT) (s:List Int):Prop:=∃ X Y Z fx fy fz,s=X++(Y++Z)∧RF X fx∧RF Y fy∧RF Z fz∧Pj p fx fy fz
theorem CD {X Y Z:List Int} (hx:X.length=16) (hy:Y.length=16) (hz:Z.length=16) :
  ((X++(Y++Z)).drop 0).take 16=X∧((X++(Y++Z)).drop 16).take 16=Y∧((X++(Y++Z)).drop 32).take 16=Z:=by
 refine ⟨?_,?_,?_⟩
 ·rw [List.drop_zero,List.take_append_of_le_length (by omega),List.take_of_length_le (by omega)]
 ·rw [← hx,List.drop_left,List.take_append_of_le_length (by omega),List.take_of_length_le (by omega)]
 ·rw [← List.append_assoc,show 32=(X++Y).length by rw [List.length_append];omega,List.drop_left,List.take_of_length_le (by omega)]
theorem nd {Z A B:List Int} {o:Nat} (ho:o=A.length):aL (A++Z) o B=A++(B++Z.drop B.length):=by
 subst ho
 unfold aL
 rw [List.take_left,List.drop_append,List.append_assoc]
 simp
theorem Ag {X Y Z:List Int} (hx:X.length=16) (hy:Y.length=16) (hz:Z.length=16) :
  aL (aL (aL [0,0,0,0,0,0,0,0,0,0,0,0,0,0,0,0,0,0,0,0,0,0,0,0,0,0,0,0,0,0,0,0,0,0,0,0,0,0,0,0,0,0,0,0,0,0,0,0] 0 X) 16 Y) 32 Z=X++(Y++Z):=by
 rw [show aL [0,0,0,0,0,0,0,0,0,0,0,0,0,0,0,0,0,0,0,0,0,0,0,0,0,0,0,0,0,0,0,0,0,0,0,0,0,0,0,0,0,0,0,0,0,0,0,0] 0 X=X++(List.replicate 48 0).drop X.length from nd (A:=[]) rfl]
 rw [nd hx.symm,← List.append_assoc,nd (by rw [List.length_append];omega),List.append_assoc,hx,hy,hz]
 show X++(Y++(Z++[]))=_
 rw [List.append_nil]
theorem HF:RF (F31 121665) rW:=by rw [KE.1];exact ⟨121665,ii (by decide),by decide⟩
theorem Gt:RF (F31 121666) nR:=by rw [KE.2];exact ⟨121666,ii (by decide),by decide⟩
theorem vI:RF cb dT:=by
 unfold cb cG aE ab
 refine (tN pH (dh HF (pq Gt))).to ?_
 unfold dT
 rfl
theorem Fq {p q:Pt CT} {s t:List Int} (hp:PR p s) (hq:PR q t):PR (p.add q) (rL s t cb):=by
 obtain ⟨X,Y,Z,fx,fy,fz,rfl,hX,hY,hZ,hE⟩:=hp
 obtain ⟨X',Y',Z',fx',fy',fz',rfl,hX',hY',hZ',hE'⟩:=hq
 obtain ⟨c1,c2,c3⟩:=CD hX.len hY.len hZ.len
 obtain ⟨d1,d2,d3⟩:=CD hX'.len hY'.len hZ'.len
 unfold rL
 rw [c1,c2,c3,d1,d2,d3]
 have hk:=vI
 generalize cb=k at *
 unfold aE ca cG
 have hxx:=dh hX hX'
 have hyy:=dh hY hY'
 have hzz:=dh hZ hZ'
 have hcr:=uM (dh hX hY') (dh hX' hY)
 have he:=dh hk (dh hxx hyy)
 have hz2:=dh hzz hzz
 have hf:=uM hz2 he
 have hg:=tN hz2 he
 have r1:=dh (dh hcr hzz) hg
 have r2:=dh (dh (uM hyy hxx) hzz) hf
 have r3:=dh hf hg
 rw [Ag r1.len r2.len r3.len]
 exact ⟨_,_,_,_,_,_,rfl,r1,r2,r3,CU hE hE'⟩
theorem PR.zero:PR (Pt.zero CT) (aL (aL [0,0,0,0,0,0,0,0,0,0,0,0,0,0,0,0,0,0,0,0,0,0,0,0,0,0,0,0,0,0,0,0,0,0,0,0,0,0,0,0,0,0,0,0,0,0,0,0] 16 (ab 1)) 32 (ab 1)):=by
 have h0:F31 0=[0,0,0,0,0,0,0,0,0,0,0,0,0,0,0,0]:=by kernel_rfl
 have h1:F31 1=[1,0,0,0,0,0,0,0,0,0,0,0,0,0,0,0]:=by kernel_rfl
 refine ⟨F31 0,F31 1,F31 1,0,1,1,?_,pH,qv,qv,⟨dz,Cs 1,lT 1⟩⟩
 unfold ab
 rw [h0,h1]
 rfl
theorem DR {p:Pt CT} {s n:List Int} (hp:PR p s) (hn:Dig 256 n) {N:Nat} (hN:num 256 n=(N:Int)):PR (Pt.mul N p) (vF n s):=by
 have hlt:N<2 ^ (8*n.length):=by
  obtain ⟨M,h1,h2⟩:=jf hn
  rw [h1] at hN
  have:=Int.ofNat.inj hN
  omega
 have key:∀ k,PR (Pt.mul (N % 2 ^ k) p) (itr (mA n) k (aL (aL [0,0,0,0,0,0,0,0,0,0,0,0,0,0,0,0,0,0,0,0,0,0,0,0,0,0,0,0,0,0,0,0,0,0,0,0,0,0,0,0,0,0,0,0,0,0,0,0] 16 (ab 1)) 32 (ab 1),s)).1 ∧
   PR (Pt.mul (2 ^ k) p) (itr (mA n) k (aL (aL [0,0,0,0,0,0,0,0,0,0,0,0,0,0,0,0,0,0,0,0,0,0,0,0,0,0,0,0,0,0,0,0,0,0,0,0,0,0,0,0,0,0,0,0,0,0,0,0] 16 (ab 1)) 32 (ab 1),s)).2:=by
  intro k
  induction k with
  |zero =>
   rw [aX,Nat.pow_zero,Nat.mod_one,Pt.mul_one]
   exact ⟨PR.zero,hp⟩
  |succ k ih =>
   rw [aP]
   generalize itr (mA n) k _=z at *
   obtain ⟨i1,i2⟩:=ih
   have hb:=sX hn hN (k/8) (k % 8) (Nat.mod_lt _ (by decide))
   rw [Nat.div_add_mod] at hb
   unfold mA
   rw [tn hb]
   refine ⟨?_,?_⟩
   ·show PR _ (sel _ _ _)
    rw [oG N k]
    rcases Nat.mod_two_eq_zero_or_one (N/2 ^ k) with h|h
    ·rw [h,decide_eq_false (by decide),aB,Nat.zero_mul,Nat.add_zero]
     exact i1
    ·rw [h,decide_eq_true rfl,aC,Nat.one_mul,Pt.add_mul]
     exact Fq i1 i2
   ·show PR _ (rL _ _ _)
    rw [Nat.pow_succ,Nat.mul_two,Pt.add_mul]
    exact Fq i2 i2
 have:=(key (8*n.length)).1
 rw [Nat.mod_eq_of_lt hlt] at this
 exact this
end Go.Vm
namespace Go.Vm
open Go
theorem Dj (bs : ByteArray) : ∀ (n i : Nat) (r : List UInt8), bs.size - i = n → i ≤ bs.size → ByteArray.toList.loop bs i r = r.reverse ++ bs.data.toList.drop i := by
  intro n
  induction n with
  | zero =>
    intro i r h hi
    rw [ByteArray.toList.loop]
    have hs : bs.size = bs.data.toList.length := by rw [Array.length_toList]; rfl
    rw [if_neg (by omega), List.drop_of_length_le (by omega), List.append_nil]
  | succ n ih =>
    intro i r h hi
    rw [ByteArray.toList.loop]
    have hs : bs.size = bs.data.toList.length := by rw [Array.length_toList]; rfl
    have hlt : i < bs.data.toList.length := by omega
    rw [if_pos (by omega), ih (i + 1) _ (by omega) (by omega), List.reverse_cons, List.append_assoc]
    congr 1
    have e : bs.get! i = bs.data.toList[i]'hlt := by
      have h2 : i < bs.data.size := by rw [← Array.length_toList]; exact hlt
      show bs.data[i]! = _
      rw [getElem!_pos bs.data i h2, Array.getElem_toList]
    rw [e, List.drop_eq_getElem_cons hlt]
    rfl
theorem rf (bs:ByteArray):bs.toList=bs.data.toList:=by
 show ByteArray.toList.loop bs 0 []=_
 rw [Dj bs _ 0 [] rfl (Nat.zero_le _)]
 rfl
theorem xY (x:ByteArray):aQ x x=true:=by unfold aQ;exact beq_self_eq_true _
theorem zG (x y:ByteArray):aQ x y=true↔x=y:=by
 unfold aQ
 rw [rf,rf,beq_iff_eq]
 constructor
 ·intro h
  cases x;cases y
  congr 1
  exact Array.toList_inj.1 h
 ·rintro rfl;rfl
theorem vX {x y:List Int} (hx:Dig 256 x) (hy:Dig 256 y) (h:bytesOf x=bytesOf y):x=y:=by
 unfold bytesOf at h
 have h1:(x.map fun n=>UInt8.ofNat n.toNat)=y.map fun n=>UInt8.ofNat n.toNat:=by
  have:=congrArg (fun b:ByteArray=>b.data.toList) h
  simpa using this
 have back:∀ z:List Int,Dig 256 z→(z.map fun n=>UInt8.ofNat n.toNat).map (fun u=>(u.toNat:Int))=z:=by
  intro z hz
  rw [List.map_map]
  conv=>rhs;rw [← List.map_id z]
  apply List.map_congr_left
  intro a ha
  have:=hz a ha
  simp only [Function.comp,id]
  rw [UInt8.toNat_ofNat']
  omega
 rw [← back x hx,← back y hy,h1]
theorem oP {x y:List Int} (hx:Dig 256 x) (hy:Dig 256 y):aQ (bytesOf x) (bytesOf y)=decide (x=y):=by
 by_cases h:x=y
 ·subst h;rw [xY,decide_eq_true rfl]
 ·rw [decide_eq_false h]
  cases hs:aQ (bytesOf x) (bytesOf y)
  ·rfl
  ·exact absurd (vX hx hy ((zG _ _).1 hs)) h
end Go.Vm
namespace Go.Vm
open Go Tabn
def dF (p:Pt CT):List Int:=bK 256 32 (kD p:Int)
theorem cX (p:Pt CT):(dF p).length=32:=aa _ _ _
theorem kZ (p:Pt CT):Dig 256 (dF p):=cW (by decide) _ _
theorem kr {v:Int} (h:0≤v) (h':v<2 ^ 256):num 256 (bK 256 32 v)=v:=by
 rw [eM (by decide)]
 exact Int.emod_eq_of_lt h h'
theorem lu {v w:Int} (h:0≤v) (h':v<2 ^ 256) (k:0≤w) (k':w<2 ^ 256) (e:bK 256 32 v=bK 256 32 w):v=w:=by
 rw [← kr h h',e,kr k k']
theorem kt (p:Pt CT):0≤(kD p:Int)∧(kD p:Int)<2 ^ 256:=⟨Int.natCast_nonneg _,by have:=EW p;exact_mod_cast this⟩
theorem yN {n:Nat} (h:n<2 ^ 256):((n:Nat):Int)<2 ^ 256:=by exact_mod_cast h
theorem nnn (n:Nat):(0:Int)≤((n:Nat):Int):=Int.natCast_nonneg n
theorem pk {p q:Pt CT} (h:dF p=dF q):p=q :=
 Ce (Int.ofNat.inj (lu (kt p).1 (kt p).2 (kt q).1 (kt q).2 h))
theorem HP {a b:List Int} (ha:Dig 256 a) (la:a.length=32) (hb:Dig 256 b) (lb:b.length=32) (h1:a.take 31=b.take 31) (h2:a.getD 31 0=b.getD 31 0):a=b:=by
 have e1:num 256 a=num 256 b:=by
  have p1:=du (B:=256) (xs:=a) (i:=31)
  have p2:=du (B:=256) (xs:=b) (i:=31)
  rw [List.take_of_length_le (by omega)] at p1 p2
  rw [p1,p2,h1,h2]
 rw [← mR (by decide) ha,← mR (by decide) hb,la,lb,e1]
theorem lH {v:Nat} (hv:v<2 ^ 255):(bK 256 32 (v:Int)).set 31 ((bK 256 32 (v:Int)).getD 31 0+128)=bK 256 32 ((v+2 ^ 255:Nat):Int)∧0≤(bK 256 32 (v:Int)).getD 31 0∧(bK 256 32 (v:Int)).getD 31 0<128:=by
 have hl:(bK 256 32 (v:Int)).length=32:=aa _ _ _
 have hd:=cW (B:=256) (by decide) 32 (v:Int)
 have hb:(2:Int) ^ 256=115792089237316195423570985008687907853269984665640564039457584007913129639936:=rfl
 have hc:(2:Nat) ^ 255=57896044618658097711785492504343953926634992332820282019728792003956564819968:=rfl
 have he:(256:Int) ^ 31=452312848583266388373324160190187140051835877600158453279131187530910662656:=rfl
 rw [hc] at hv
 have g:(bK 256 32 (v:Int)).getD 31 0=(v:Int)/256 ^ 31 % 256:=cZ (by decide) 32 31 _ (by decide)
 rw [he] at g
 have g1:0≤(bK 256 32 (v:Int)).getD 31 0∧(bK 256 32 (v:Int)).getD 31 0<128:=by rw [g];omega
 refine ⟨?_,g1⟩
 refine ic (by decide) (ky hd (by omega)) (by rw [List.length_set,hl]) ?_
 rw [ew (by rw [hl];decide),kr (by omega) (by rw [hb];omega),he,hc]
 omega
theorem GQ {v:Int} (h:0≤v∧v<128):iOr .u8 v 128=v+128:=by
 have:=tC rT (u:=1) (v:=v) (n:=7) (by decide) h.1 h.2 (by show v+128<256;omega)
 exact this
theorem yQ {v:Int} (h:0≤v∧v<128):aD .u8 v 128=v+128:=by
 unfold aD
 rw [dC]
 omega
theorem BA (p:Pt CT):dF p=sel (decide (p.x.val % 2=1)) ((bK 256 32 (p.y.val:Int)).set 31 ((bK 256 32 (p.y.val:Int)).getD 31 0+128)) (bK 256 32 (p.y.val:Int)):=by
 have hv:p.y.val<2 ^ 255:=Nat.lt_trans p.y.isLt jR
 unfold dF kD
 rcases Nat.mod_two_eq_zero_or_one p.x.val with h|h
 ·rw [h,decide_eq_false (by decide),aB,Nat.zero_mul,Nat.add_zero]
 ·rw [h,decide_eq_true rfl,aC,(lH hv).1,Nat.one_mul]
theorem FH {p:Pt CT} {s:List Int} (h:PE p s):gh s=dF p:=by
 obtain ⟨X,Y,Z,T,fx,fy,fz,ft,rfl,hX,hY,hZ,hT,hE⟩:=h
 obtain ⟨c1,c2,c3,c4⟩:=Ct hX.len hY.len hZ.len hT.len
 unfold gh
 rw [c1,c2,c3,BA]
 have e1:EF (F20 X (F25 Z)) p.x:=(eC hX (qI hZ)).to (by rw [hE.x];exact zh hE.z0)
 have e2:EF (F20 Y (F25 Z)) p.y:=(eC hY (qI hZ)).to (by rw [hE.y];exact zh hE.z0)
 rw [e1.odd,e2.bytes,GQ (lH (Nat.lt_trans p.y.isLt jR)).2]
theorem RF.low {x:List Int} {f:Tabn.F} (h:RF x f):(((bL (x.getD 0 0) 2):Int)==1)=decide (f.val % 2=1):=by
 have h1:=h.val
 unfold R at h1
 rw [h1,iE,cZ (by decide) 16 0 _ (by decide),Int.pow_zero,Int.ediv_one]
 have e:bL ((f.val:Int) % 65536) 2=((f.val % 2:Nat):Int):=by
  unfold bL
  rw [Int.tmod_eq_emod_of_nonneg (by omega)]
  omega
 rw [e]
 rcases Nat.mod_two_eq_zero_or_one f.val with h|h <;> rw [h] <;> rfl
theorem FE {p:Pt CT} {s:List Int} (h:PR p s):lr s=dF p:=by
 obtain ⟨X,Y,Z,fx,fy,fz,rfl,hX,hY,hZ,hE⟩:=h
 obtain ⟨c1,c2,c3⟩:=CD hX.len hY.len hZ.len
 unfold lr aE
 rw [c1,c2,c3,BA]
 have e1:RF (F21 X (F28 Z)) p.x:=(dh hX (pq hZ)).to (by rw [hE.x];exact zh hE.z0)
 have e2:RF (F21 Y (F28 Z)) p.y:=(dh hY (pq hZ)).to (by rw [hE.y];exact zh hE.z0)
 rw [e1.low,e2.bytes,yQ (lH (Nat.lt_trans p.y.isLt jR)).2]
structure Parts (b:List Int) (N:Nat):Prop where
 eq:b=bK 256 32 (N:Int)
 num:num 256 b=(N:Int)
 lt:N<2 ^ 256
 top:b.getD 31 0=((N/2 ^ 248:Nat):Int)
 odd:(decide ((b.getD 31 0:Int) ≥ 128))=decide (N/2 ^ 255=1)
theorem dZ {b:List Int} (hb:Dig 256 b) (hl:b.length=32):∃ N,Parts b N:=by
 obtain ⟨N,h1,h2⟩:=jf hb
 rw [hl] at h2
 have e1:b=bK 256 32 (N:Int):=ic (by decide) hb hl h1
 have e2:b.getD 31 0=((N/2 ^ 248:Nat):Int):=by
  rw [e1,cZ (by decide) 32 31 _ (by decide)]
  have he:(256:Int) ^ 31=452312848583266388373324160190187140051835877600158453279131187530910662656:=rfl
  have hc:(2:Nat) ^ 248=452312848583266388373324160190187140051835877600158453279131187530910662656:=rfl
  have hd:(2:Nat) ^ (8*32)=115792089237316195423570985008687907853269984665640564039457584007913129639936:=rfl
  rw [hd] at h2
  rw [he,hc]
  omega
 refine ⟨N,e1,h1,h2,e2,?_⟩
 rw [e2]
 have hc:(2:Nat) ^ 248=452312848583266388373324160190187140051835877600158453279131187530910662656:=rfl
 have hc2:(2:Nat) ^ 255=57896044618658097711785492504343953926634992332820282019728792003956564819968:=rfl
 have hd:(2:Nat) ^ (8*32)=115792089237316195423570985008687907853269984665640564039457584007913129639936:=rfl
 rw [hd] at h2
 rw [hc,hc2]
 by_cases h:N/57896044618658097711785492504343953926634992332820282019728792003956564819968=1
 ·rw [decide_eq_true h,decide_eq_true (by omega)]
 ·rw [decide_eq_false h,decide_eq_false (by omega)]
theorem nF {N:Nat} (h:N<2 ^ 256):N/2 ^ 255<2:=by
 have hc2:(2:Nat) ^ 255=57896044618658097711785492504343953926634992332820282019728792003956564819968:=rfl
 have hd:(2:Nat) ^ 256=115792089237316195423570985008687907853269984665640564039457584007913129639936:=rfl
 rw [hd] at h
 rw [hc2]
 omega
theorem Parts.y {b:List Int} {N:Nat} (h:Parts b N):uOf b=Fin.ofNat P (N % 2 ^ 255):=by
 apply gk
 unfold uOf
 rw [dD,h.num,ib]
 show ((N:Int) % 57896044618658097711785492504343953926634992332820282019728792003956564819968) % ((P:Nat):Int)=((N % 2 ^ 255 % P:Nat):Int)
 rw [Int.natCast_emod,Int.natCast_emod]
 rfl
def back (N:Nat):Nat:=(Fin.ofNat P (N % 2 ^ 255)).val+N/2 ^ 255*2 ^ 255
theorem Da {N:Nat} (h:N<2 ^ 256):back N=N↔N % 2 ^ 255<P:=by
 have h1:(Fin.ofNat P (N % 2 ^ 255)).val=N % 2 ^ 255 % P:=rfl
 unfold back
 rw [h1]
 constructor
 ·intro e
  have h2:N % 2 ^ 255 % P<P:=Nat.mod_lt _ FY
  have:N % 2 ^ 255 % P=N % 2 ^ 255:=by omega
  omega
 ·intro e
  rw [Nat.mod_eq_of_lt e]
  omega
theorem Dc {N:Nat} (h:N<2 ^ 256):back N<2 ^ 256:=by
 have h1:=nF h
 have h2:=(Fin.ofNat P (N % 2 ^ 255)).isLt
 have h3:=jR
 unfold back
 omega
theorem qY {N:Nat} (h:N<2 ^ 256):bK 256 32 (back N:Int)=sel (decide (N/2 ^ 255=1)) ((bK 256 32 ((Fin.ofNat P (N % 2 ^ 255)).val:Int)).set 31 ((bK 256 32 ((Fin.ofNat P (N % 2 ^ 255)).val:Int)).getD 31 0+128)) (bK 256 32 ((Fin.ofNat P (N % 2 ^ 255)).val:Int)):=by
 have hv:(Fin.ofNat P (N % 2 ^ 255)).val<2 ^ 255:=Nat.lt_trans (Fin.ofNat P (N % 2 ^ 255)).isLt jR
 have h1:=nF h
 unfold back
 by_cases e:N/2 ^ 255=1
 ·rw [e,decide_eq_true rfl,aC,(lH hv).1,Nat.one_mul]
 ·have e0:N/2 ^ 255=0:=by omega
  rw [e0,decide_eq_false (by decide),aB,Nat.zero_mul,Nat.add_zero]
theorem sQ {b:List Int} {N:Nat} (h:Parts b N):bK 256 32 (back N:Int)=b↔N % 2 ^ 255<P:=by
 rw [← Da h.lt]
 have h1:=Dc h.lt
 have h2:=h.lt
 constructor
 ·intro e
  rw [h.eq] at e
  exact Int.ofNat.inj (lu (nnn _) (yN h1) (nnn _) (yN h2) e)
 ·intro e
  rw [e]
  exact h.eq.symm
theorem uw:∀ a,a<256→a &&& 128=a/128*128:=by decide +kernel
theorem Dl {x:Int} (h:0≤x∧x<256):aM .u8 x 128=x/128*2 ^ 7:=by
 obtain ⟨a,rfl,ha⟩:=pJ (N:=256) h
 have:=dK rT ha (b:=128) (by decide)
 rw [uw a ha] at this
 have e:((a/128*128:Nat):Int)=(a:Int)/128*2 ^ 7:=by omega
 rw [← e];exact this
theorem Gv {b:List Int} {N:Nat} (h:Parts b N) (hb:Dig 256 b) (hl:b.length=32) :
  (((iOr .u8 ((bK 256 32 ((Fin.ofNat P (N % 2 ^ 255)).val:Int)).getD 31 0) (aM .u8 (b.getD 31 0) 128)):Int) != b.getD 31 0)=false ∧
   aQ (bytesOf (((bK 256 32 ((Fin.ofNat P (N % 2 ^ 255)).val:Int)).drop 0).take 31)) (bytesOf ((b.drop 0).take 31))=true↔N % 2 ^ 255<P:=by
 rw [← sQ h]
 have hv:(Fin.ofNat P (N % 2 ^ 255)).val<2 ^ 255:=Nat.lt_trans (Fin.ofNat P (N % 2 ^ 255)).isLt jR
 have hB:=qY h.lt
 have hh:=nF h.lt
 obtain ⟨t1,t2,t3⟩:=lH hv
 have hd:=cW (B:=256) (by decide) 32 (((Fin.ofNat P (N % 2 ^ 255)).val:Nat):Int)
 have hld:=aa 256 32 (((Fin.ofNat P (N % 2 ^ 255)).val:Nat):Int)
 generalize bK 256 32 (((Fin.ofNat P (N % 2 ^ 255)).val:Nat):Int)=C at *
 have b31:0≤b.getD 31 0∧b.getD 31 0<256:=ak (by decide) hb
 have b128:b.getD 31 0/128=((N/2 ^ 255:Nat):Int):=by
  rw [h.top]
  have hc:(2:Nat) ^ 248=452312848583266388373324160190187140051835877600158453279131187530910662656:=rfl
  have hc2:(2:Nat) ^ 255=57896044618658097711785492504343953926634992332820282019728792003956564819968:=rfl
  rw [hc,hc2]
  omega
 rw [Dl b31,b128]
 have hor:iOr .u8 (C.getD 31 0) (((N/2 ^ 255:Nat):Int)*2 ^ 7)=C.getD 31 0+((N/2 ^ 255:Nat):Int)*2 ^ 7 :=
  tC rT (Int.natCast_nonneg _) t2 t3 (by show C.getD 31 0+((N/2 ^ 255:Nat):Int)*128<256;generalize N/2 ^ 255=m at *;omega)
 rw [hor,List.drop_zero,List.drop_zero,oP (fun x hx=>hd x (List.mem_of_mem_take hx)) (fun x hx=>hb x (List.mem_of_mem_take hx))]
 have g1:(bK 256 32 (back N:Int)).take 31=C.take 31:=by
  rw [hB]
  cases decide (N/2 ^ 255=1)
  ·rfl
  ·rw [aC,kJ]
 have g2:(bK 256 32 (back N:Int)).getD 31 0=C.getD 31 0+((N/2 ^ 255:Nat):Int)*2 ^ 7:=by
  rw [hB]
  by_cases e:N/2 ^ 255=1
  ·rw [e,decide_eq_true rfl,aC,bz (by omega)]
   rfl
  ·have e0:N/2 ^ 255=0:=by omega
   rw [e0,decide_eq_false (by decide),aB]
   show _=C.getD 31 0+0*128
   omega
 rw [← g1,← g2]
 constructor
 ·rintro ⟨h1,h2⟩
  refine HP (cW (by decide) _ _) (aa _ _ _) hb hl (of_decide_eq_true h2) ?_
  simpa using h1
 ·intro e
  rw [e]
  simp
theorem HB {b:List Int} {N:Nat} (h:Parts b N) (hb:Dig 256 b) (hl:b.length=32) :
  aQ (bytesOf (((sel (decide ((b.getD 31 0:Int) ≥ 128)) ((bK 256 32 ((Fin.ofNat P (N % 2 ^ 255)).val:Int)).set 31 (aD .u8 ((bK 256 32 ((Fin.ofNat P (N % 2 ^ 255)).val:Int)).getD 31 0) 128)) (bK 256 32 ((Fin.ofNat P (N % 2 ^ 255)).val:Int))).drop 0).take 32)) (bytesOf b)=true↔N % 2 ^ 255<P:=by
 rw [← sQ h]
 have hv:(Fin.ofNat P (N % 2 ^ 255)).val<2 ^ 255:=Nat.lt_trans (Fin.ofNat P (N % 2 ^ 255)).isLt jR
 rw [yQ (lH hv).2,h.odd,← qY h.lt,List.drop_zero,List.take_of_length_le (by rw [aa];exact Nat.le_refl _),oP (cW (by decide) _ _) hb]
 exact decide_eq_true_iff
theorem FU {α:Type} {h:Nat} (hh:h<2) {c:Nat} (hc:c<2) (x y:α):sel (!((decide (c=1))==(decide (h=1)))) x y=if c=h then y else x:=by
 have h1:c=0∨c=1:=by omega
 have h2:h=0∨h=1:=by omega
 rcases h1 with rfl|rfl <;> rcases h2 with rfl|rfl <;> rfl
theorem KX {X:List Int} {r:Tabn.F} {h:Nat} (hX:EF X r) (hh:h<2):EF (sel (!((F32 X)==(decide (h=1)))) (F18 (F30 0) X) X) (xOf r h):=by
 rw [hX.odd,FU hh (Nat.mod_lt _ (by decide))]
 unfold xOf
 split
 ·exact hX
 ·exact lp me hX
theorem KZ {X:List Int} {r:Tabn.F} {h:Nat} (hX:RF X r) (hh:h<2):RF (sel (!((((bL (X.getD 0 0) 2):Int)==1)==(decide (h=1)))) (F19 (F31 0) X) X) (xOf r h):=by
 rw [hX.low,FU hh (Nat.mod_lt _ (by decide))]
 unfold xOf
 split
 ·exact hX
 ·exact tN pH hX
theorem wY (a b:Tabn.F):a*b=b*a:=by grind -lia -linarith
theorem IA {Y:List Int} {y:Tabn.F} (h:EF Y y):EF (F20 (F18 (F20 Y Y) (F30 1)) (F25 (F16 (F20 (F20 Y Y) (bQ)) (F30 1)))) (ot y):=by
 refine (eC (lp (eC h h) pf) (qI (lv (eC (eC h h) pQ) pf))).to ?_
 unfold ot
 rw [wY (y*y) dT]
theorem Jl {Y:List Int} {y:Tabn.F} (h:RF Y y):RF (aE (cG (aE Y Y) (ab 1)) (F28 (ca (aE (cb) (aE Y Y)) (ab 1)))) (ot y):=by
 unfold aE cG ca ab
 exact dh (tN (dh h h) qv) (pq (uM (dh vI (dh h h)) qv))
def Reads (ok:Bool) (b:List Int) (R:Pt CT→Prop):Prop:=(ok=true∧∃ p,b=dF p∧R p)∨(ok=false∧∀ p,b≠dF p)
theorem Br {b:List Int} {N:Nat} (h:Parts b N) (hn:¬ zC rtF N):∀ p,b≠dF p:=by
 intro p e
 apply hn
 rw [h.eq] at e
 have h2:=h.lt
 have:=Int.ofNat.inj (lu (nnn _) (yN h2) (kt p).1 (kt p).2 e)
 rw [this]
 exact Eu Ik p
theorem Gk {b:List Int} (hb:Dig 256 b):Reads (fL b) b (fun p=>PE p (gP b)):=by
 by_cases hl:b.length=32
 ·obtain ⟨N,hN⟩:=dZ hb hl
  have hlook:=Gv hN hb hl
  have hY:EF (F23 b) (Fin.ofNat P (N % 2 ^ 255)):=(FA hb hl).to hN.y
  have hh:=nF hN.lt
  obtain ⟨hR,hok⟩:=FC (IA hY)
  have hX:=KX hR hh
  have hz:=hR.same me
  have hpt:=uh (rt:=rtF) hN.lt
  have hne:=Br hN
  unfold zC at hpt hne
  unfold gP fL
  rw [xf,decide_eq_true hl,Bool.not_true,aB,aB,hN.odd,hY.bytes,hok,hz]
  generalize F34 (F20 (F18 (F20 (F23 b) (F23 b)) (F30 1)) (F25 (F16 (F20 (F20 (F23 b) (F23 b)) (bQ)) (F30 1))))=Rt at *
  generalize ot (Fin.ofNat P (N % 2 ^ 255))=xx at *
  by_cases c:N % 2 ^ 255<P
  ·obtain ⟨c1,c2⟩:=hlook.2 c
   rw [c1,c2,Bool.not_true,aB,aB,aB,aB]
   by_cases c3:rtF xx*rtF xx=xx
   ·rw [decide_eq_true c3,Bool.not_true,aB,aB]
    by_cases c4:rtF xx=0∧N/2 ^ 255=1
    ·refine .inr ⟨?_,hne (fun h=>h.2.2 c4)⟩
     rw [decide_eq_true c4.1,decide_eq_true c4.2]
     rfl
    ·obtain ⟨p,p1,p2,p3⟩:=hpt ⟨c,c3,c4⟩
     have e1:∀ {α:Type} (x y:α),sel (decide (rtF xx=0)) (sel (decide (N/2 ^ 255=1)) x y) y=y:=by
      intro α x y
      by_cases d1:rtF xx=0
      ·by_cases d2:N/2 ^ 255=1
       ·exact absurd ⟨d1,d2⟩ c4
       ·rw [decide_eq_false d2,aB];cases decide (rtF xx=0) <;> rfl
      ·rw [decide_eq_false d1,aB]
     rw [e1,e1]
     refine .inl ⟨rfl,p,?_,?_⟩
     ·rw [hN.eq,← p1];rfl
     ·have hT:=eC hX hY
      rw [BX hX.len hY.len pf.len hT.len]
      exact ⟨_,_,_,_,_,_,_,_,rfl,hX,hY,pf,hT,⟨dz,by rw [p3];exact lT _,by rw [p2];exact lT _,by rw [p3,p2];exact lT _⟩⟩
   ·refine .inr ⟨?_,hne (fun h=>c3 h.2.1)⟩
    rw [decide_eq_false c3]
    rfl
  ·refine .inr ⟨?_,hne (fun h=>c h.1)⟩
   have h3:¬ _:=fun h=>c (hlook.1 h)
   generalize (((iOr .u8 ((bK 256 32 ((Fin.ofNat P (N % 2 ^ 255)).val:Int)).getD 31 0) (aM .u8 (b.getD 31 0) 128)):Int) != b.getD 31 0)=x1 at *
   generalize aQ (bytesOf (((bK 256 32 ((Fin.ofNat P (N % 2 ^ 255)).val:Int)).drop 0).take 31)) (bytesOf ((b.drop 0).take 31))=x2 at *
   cases x1
   ·cases x2
    ·rfl
    ·exact absurd ⟨rfl,rfl⟩ h3
   ·rfl
 ·refine .inr ⟨?_,fun p e=>hl (by rw [e];exact cX p)⟩
  unfold fL
  rw [xf,decide_eq_false hl]
  rfl
theorem Hj {b:List Int} (hb:Dig 256 b):Reads (gf b) b (fun p=>PR p (ov b)):=by
 by_cases hl:b.length=32
 ·obtain ⟨N,hN⟩:=dZ hb hl
  have hlook:=HB hN hb hl
  have hY:RF (F24 b) (Fin.ofNat P (N % 2 ^ 255)):=(Dm hb hl).to hN.y
  have hh:=nF hN.lt
  obtain ⟨hR,hok⟩:=EB (Jl hY)
  have hX:=KZ hR hh
  have hz:=hR.beq pH
  have hpt:=uh (rt:=rtF) hN.lt
  have hne:=Br hN
  have hlen:((((b.length:Nat):Int):Int) != 32)=false:=by rw [hl];rfl
  unfold zC at hpt hne
  rw [hN.odd] at hlook
  unfold ov gf
  rw [hlen,aB,aB,hN.odd,hY.bytes,hok]
  have e43:ab 0=F31 0:=rfl
  rw [e43,hz]
  generalize F35 (aE (cG (aE (F24 b) (F24 b)) (ab 1)) (F28 (ca (aE (cb) (aE (F24 b) (F24 b))) (ab 1))))=Rt at *
  generalize ot (Fin.ofNat P (N % 2 ^ 255))=xx at *
  by_cases c:N % 2 ^ 255<P
  ·rw [hlook.2 c,Bool.not_true,aB,aB]
   by_cases c3:rtF xx*rtF xx=xx
   ·rw [decide_eq_true c3,Bool.not_true,aB,aB]
    by_cases c4:rtF xx=0∧N/2 ^ 255=1
    ·refine .inr ⟨?_,hne (fun h=>h.2.2 c4)⟩
     rw [decide_eq_true c4.1,decide_eq_true c4.2]
     rfl
    ·obtain ⟨p,p1,p2,p3⟩:=hpt ⟨c,c3,c4⟩
     have e1:∀ {α:Type} (x y:α),sel (decide (rtF xx=0)) (sel (decide (N/2 ^ 255=1)) x y) y=y:=by
      intro α x y
      by_cases d1:rtF xx=0
      ·by_cases d2:N/2 ^ 255=1
       ·exact absurd ⟨d1,d2⟩ c4
       ·rw [decide_eq_false d2,aB];cases decide (rtF xx=0) <;> rfl
      ·rw [decide_eq_false d1,aB]
     rw [e1,e1]
     refine .inl ⟨rfl,p,?_,?_⟩
     ·rw [hN.eq,← p1];rfl
     ·unfold cG ab
      rw [Ag hX.len hY.len qv.len]
      exact ⟨_,_,_,_,_,_,rfl,hX,hY,qv,⟨dz,by rw [p3];exact lT _,by rw [p2];exact lT _⟩⟩
   ·refine .inr ⟨?_,hne (fun h=>c3 h.2.1)⟩
    rw [decide_eq_false c3]
    rfl
  ·refine .inr ⟨?_,hne (fun h=>c h.1)⟩
   have h3:¬ _:=fun h=>c (hlook.1 h)
   rw [Bool.not_eq_true] at h3
   rw [h3]
   rfl
 ·refine .inr ⟨?_,fun p e=>hl (by rw [e];exact cX p)⟩
  have hlen:((((b.length:Nat):Int):Int) != 32)=true:=by simp;omega
  unfold gf
  rw [hlen]
  rfl
end Go.Vm
namespace Go.Vm
open Go Tabn
structure Sc4 (s:List Int) (V:Nat):Prop where
 ex:∃ a b c d:Int,s=[a,b,c,d]∧(0≤a∧a<18446744073709551616)∧(0≤b∧b<18446744073709551616)∧(0≤c∧c<18446744073709551616)∧(0≤d∧d<18446744073709551616) ∧
  a+18446744073709551616*b+340282366920938463463374607431768211456*c+6277101735386680763835789423207666416102355444464034512896*d=(V:Int)
theorem oQ:L=7237005577332262213973186563042994240857116359379907606001950938285454250989:=rfl
theorem Sc4.zero:Sc4 [0,0,0,0] 0:=⟨0,0,0,0,rfl,by decide,by decide,by decide,by decide,by decide⟩
theorem Sc4.order:Sc4 ((wK.drop 0).take 4) L:=⟨6346243789798364141,1503914060200516822,0,1152921504606846976,rfl,by decide,by decide,by decide,by decide,by rw [oQ];decide⟩
theorem gR {x y c:Int} (hx:0≤x∧x<18446744073709551616) (hy:0≤y∧y<18446744073709551616) (hc:0≤c∧c≤1):fH x y c=x-y-c+18446744073709551616*cJ x y c:=by
 unfold fH cJ
 split <;> omega
theorem DS {a b:List Int} {V W:Nat} (ha:Sc4 a V) (hb:Sc4 b W):rM a b=decide (V<W):=by
 obtain ⟨a0,a1,a2,a3,rfl,h0,h1,h2,h3,hV⟩:=ha
 obtain ⟨b0,b1,b2,b3,rfl,k0,k1,k2,k3,hW⟩:=hb
 have e:rM [a0,a1,a2,a3] [b0,b1,b2,b3]=((cJ a3 b3 (cJ a2 b2 (cJ a1 b1 (cJ a0 b0 0))):Int)==1):=by kernel_rfl
 rw [e]
 have r0:=eT a0 b0 0
 have s0:=eW a0 b0 0
 have q0:=gR h0 k0 (show (0:Int)≤0∧(0:Int)≤1 by decide)
 generalize cJ a0 b0 0=c0 at *
 generalize fH a0 b0 0=d0 at *
 have r1:=eT a1 b1 c0
 have s1:=eW a1 b1 c0
 have q1:=gR h1 k1 r0
 generalize cJ a1 b1 c0=c1 at *
 generalize fH a1 b1 c0=d1 at *
 have r2:=eT a2 b2 c1
 have s2:=eW a2 b2 c1
 have q2:=gR h2 k2 r1
 generalize cJ a2 b2 c1=c2 at *
 generalize fH a2 b2 c1=d2 at *
 have r3:=eT a3 b3 c2
 have s3:=eW a3 b3 c2
 have q3:=gR h3 k3 r2
 generalize cJ a3 b3 c2=c3 at *
 generalize fH a3 b3 c2=d3 at *
 by_cases h:V<W
 ·have:c3=1:=by omega
  rw [this,decide_eq_true h];rfl
 ·have:c3=0:=by omega
  rw [this,decide_eq_false h];rfl
theorem Ee {s c:Int} (hs:0≤s∧s<18446744073709551616) (hc:0≤c∧c≤1):iOr .u64 (cd .u64 s 1) c=s % 9223372036854775808*2+c:=by
 have e1:cd .u64 s 1=s % 9223372036854775808*2 ^ 1:=by
  have:=mK .u64 s 1 (by decide)
  rw [show ((1:Nat):Int)=1 from rfl] at this
  rw [this,eJ]
  show s*2 % 18446744073709551616=s % 9223372036854775808*2
  omega
 rw [e1,yA _ c 1 (by omega) hc.1 (by show c<2;omega) (by show s % 9223372036854775808*2+c<_;omega)]
 rfl
theorem BG {s:Int} (hs:0≤s∧s<18446744073709551616):aJ .u64 s 63=s/9223372036854775808:=ec .u64 s 63 (by decide)
theorem yS {s:List Int} {V b:Nat} (h:Sc4 s V) (hV:V<L) (hb:b<2):Sc4 (lJ s (b:Int)) ((2*V+b) % L):=by
 obtain ⟨a0,a1,a2,a3,rfl,h0,h1,h2,h3,hN⟩:=h
 have e0:(itr (ea) 4 ((b:Int),[a0,a1,a2,a3])).2=[iOr .u64 (cd .u64 a0 1) (b:Int),iOr .u64 (cd .u64 a1 1) (aJ .u64 a0 63),iOr .u64 (cd .u64 a2 1) (aJ .u64 a1 63),iOr .u64 (cd .u64 a3 1) (aJ .u64 a2 63)]:=by kernel_rfl
 unfold lJ
 rw [e0,BG h0,BG h1,BG h2,Ee h0 (by omega),Ee h1 (by omega),Ee h2 (by omega),Ee h3 (by omega)]
 rw [oQ] at hV
 have g0:0≤a0 % 9223372036854775808*2+(b:Int)∧a0 % 9223372036854775808*2+(b:Int)<18446744073709551616:=by omega
 have g1:0≤a1 % 9223372036854775808*2+a0/9223372036854775808∧a1 % 9223372036854775808*2+a0/9223372036854775808<18446744073709551616:=by omega
 have g2:0≤a2 % 9223372036854775808*2+a1/9223372036854775808∧a2 % 9223372036854775808*2+a1/9223372036854775808<18446744073709551616:=by omega
 have g3:0≤a3 % 9223372036854775808*2+a2/9223372036854775808∧a3 % 9223372036854775808*2+a2/9223372036854775808<18446744073709551616:=by omega
 have hT:(a0 % 9223372036854775808*2+(b:Int))+18446744073709551616*(a1 % 9223372036854775808*2+a0/9223372036854775808)+340282366920938463463374607431768211456*(a2 % 9223372036854775808*2+a1/9223372036854775808)+6277101735386680763835789423207666416102355444464034512896*(a3 % 9223372036854775808*2+a2/9223372036854775808)=((2*V+b:Nat):Int):=by omega
 generalize a0 % 9223372036854775808*2+(b:Int)=t0 at *
 generalize a1 % 9223372036854775808*2+a0/9223372036854775808=t1 at *
 generalize a2 % 9223372036854775808*2+a1/9223372036854775808=t2 at *
 generalize a3 % 9223372036854775808*2+a2/9223372036854775808=t3 at *
 have hS:Sc4 [t0,t1,t2,t3] (2*V+b):=⟨t0,t1,t2,t3,rfl,g0,g1,g2,g3,hT⟩
 rw [DS hS Sc4.order]
 by_cases hlt:2*V+b<L
 ·rw [decide_eq_true hlt,Bool.not_true,aB,Nat.mod_eq_of_lt hlt]
  exact hS
 ·rw [decide_eq_false hlt,Bool.not_false,aC]
  have em:(2*V+b) % L=2*V+b-L:=by
   rw [Nat.mod_eq_sub_mod (by omega),Nat.mod_eq_of_lt]
   rw [oQ] at *
   omega
  rw [em]
  rw [oQ] at hlt ⊢
  have e1:(itr (ll) 4 (0,[t0,t1,t2,t3])).2=[fH t0 6346243789798364141 0,fH t1 1503914060200516822 (cJ t0 6346243789798364141 0),fH t2 0 (cJ t1 1503914060200516822 (cJ t0 6346243789798364141 0)),fH t3 1152921504606846976 (cJ t2 0 (cJ t1 1503914060200516822 (cJ t0 6346243789798364141 0)))]:=by kernel_rfl
  rw [e1]
  have r0:=eT t0 6346243789798364141 0
  have s0:=eW t0 6346243789798364141 0
  have q0:=gR g0 (show (0:Int)≤6346243789798364141∧(6346243789798364141:Int)<18446744073709551616 by decide) (show (0:Int)≤0∧(0:Int)≤1 by decide)
  generalize cJ t0 6346243789798364141 0=c0 at *
  generalize fH t0 6346243789798364141 0=d0 at *
  have r1:=eT t1 1503914060200516822 c0
  have s1:=eW t1 1503914060200516822 c0
  have q1:=gR g1 (show (0:Int)≤1503914060200516822∧(1503914060200516822:Int)<18446744073709551616 by decide) r0
  generalize cJ t1 1503914060200516822 c0=c1 at *
  generalize fH t1 1503914060200516822 c0=d1 at *
  have r2:=eT t2 0 c1
  have s2:=eW t2 0 c1
  have q2:=gR g2 (show (0:Int)≤0∧(0:Int)<18446744073709551616 by decide) r1
  generalize cJ t2 0 c1=c2 at *
  generalize fH t2 0 c1=d2 at *
  have r3:=eT t3 1152921504606846976 c2
  have s3:=eW t3 1152921504606846976 c2
  have q3:=gR g3 (show (0:Int)≤1152921504606846976∧(1152921504606846976:Int)<18446744073709551616 by decide) r2
  generalize cJ t3 1152921504606846976 c2=c3 at *
  generalize fH t3 1152921504606846976 c2=d3 at *
  exact ⟨d0,d1,d2,d3,rfl,s0,s1,s2,s3,by omega⟩
theorem sb:0<L:=by decide
theorem uW (M b:Nat):(2*(M % L)+b) % L=(2*M+b) % L:=by
 rw [Nat.add_mod,Nat.mul_mod,Nat.mod_mod,← Nat.mul_mod,← Nat.add_mod]
theorem qz {b:List Int} (hb:Dig 256 b) {N:Nat} (hN:num 256 b=(N:Int)):Sc4 (jv b) (N % L):=by
 have hlt:N<2 ^ (8*b.length):=by
  obtain ⟨M,h1,h2⟩:=jf hb
  rw [h1] at hN
  have:=Int.ofNat.inj hN
  omega
 have key:∀ k,k≤8*b.length→Sc4 (itr (lj b) k [0,0,0,0]) ((N/2 ^ (8*b.length-k)) % L):=by
  intro k
  induction k with
  |zero =>
   intro _
   rw [aX,Nat.sub_zero,Nat.div_eq_of_lt hlt]
   exact Sc4.zero
  |succ k ih =>
   intro hk'
   have ih:=ih (by omega)
   rw [aP,lD N (8*b.length) k (by omega),← uW]
   generalize itr (lj b) k _=z at *
   unfold lj
   rw [mL hb hN (8*b.length-1-k)]
   have hw:IntKind.wrap .u64 ((N/2 ^ (8*b.length-1-k) % 2:Nat):Int)=((N/2 ^ (8*b.length-1-k) % 2:Nat):Int):=by
    rw [eJ];omega
   rw [hw]
   exact yS ih (Nat.mod_lt _ sb) (Nat.mod_lt _ (by decide))
 have:=key (8*b.length) (Nat.le_refl _)
 rw [Nat.sub_self,Nat.pow_zero,Nat.div_one] at this
 exact this
theorem iT (B:Int):∀ (xs ys:List Int),num B (xs++ys)=num B xs+B ^ xs.length*num B ys
 |[],ys=>by show num B ys=0+B ^ 0*num B ys;rw [Int.pow_zero];omega
 |x :: xs,ys=>by
  show x+B*num B (xs++ys)=x+B*num B xs+B ^ (xs.length+1)*num B ys
  rw [iT B xs ys,Int.mul_add,Int.pow_succ,Int.mul_comm (B ^ xs.length) B,Int.mul_assoc,Int.add_assoc]
theorem EX {a:Int} (ha:0≤a∧a<18446744073709551616) {k:Nat} (hk:k<8):IntKind.wrap .u8 (aJ .u64 a ((8*k:Nat):Int))=a/256 ^ k % 256:=by
 rw [ec .u64 a (8*k) (by show 8*k≤64;omega),dC,Int.pow_mul]
 rfl
theorem jl {p0:List Int} {j:Nat} (h:0≤p0.getD j 0∧p0.getD j 0<18446744073709551616) (z:Nat × List Int):∀ k,k≤8→(itr (fK p0 j) k z).2=z.2++bK 256 k (p0.getD j 0):=by
 intro k
 induction k with
 |zero=>intro _;rw [aX];exact (List.append_nil _).symm
 |succ k ih =>
  intro hk
  rw [aP]
  show (itr (fK p0 j) k z).2++[_]=_
  rw [ih (by omega),iY (by decide) k 1,List.append_assoc,EX h (by omega)]
  rfl
theorem tZ {s:List Int} {V:Nat} (h:Sc4 s V):iu s=bK 256 32 (V:Int):=by
 obtain ⟨a,b,c,d,rfl,h0,h1,h2,h3,hV⟩:=h
 have w:∀ j,0≤[a,b,c,d].getD j 0∧[a,b,c,d].getD j 0<18446744073709551616:=by
  intro j
  match j with
  |0=>exact h0
  |1=>exact h1
  |2=>exact h2
  |3=>exact h3
  |j+4=>exact ⟨Int.le_refl 0,(show (0:Int)<18446744073709551616 by decide)⟩
 have e:iu [a,b,c,d]=bK 256 8 a++(bK 256 8 b++(bK 256 8 c++bK 256 8 d)):=by
  unfold iu
  rw [aP,aP,aP,aP,aX]
  show (itr (fK _ 3) 8 _).2=_
  rw [jl (w 3) _ 8 (by decide)]
  show (itr (fK _ 2) 8 _).2++_=_
  rw [jl (w 2) _ 8 (by decide)]
  show (itr (fK _ 1) 8 _).2++_++_=_
  rw [jl (w 1) _ 8 (by decide)]
  show (itr (fK _ 0) 8 _).2++_++_++_=_
  rw [jl (w 0) _ 8 (by decide)]
  show []++bK 256 8 a++bK 256 8 b++bK 256 8 c++bK 256 8 d=_
  rw [List.nil_append,List.append_assoc,List.append_assoc]
 rw [e]
 have n8:∀ x:Int,(0≤x∧x<18446744073709551616)→num 256 (bK 256 8 x)=x:=fun x hx=>by
  rw [eM (by decide)];exact Int.emod_eq_of_lt hx.1 hx.2
 refine ic (by decide) ?_ ?_ ?_
 ·intro x hx
  simp only [List.mem_append] at hx
  rcases hx with hx|hx|hx|hx <;> exact cW (by decide) _ _ x hx
 ·simp only [List.length_append,aa]
 ·have p:(256:Int) ^ 8=18446744073709551616:=rfl
  rw [iT,iT,iT,n8 a h0,n8 b h1,n8 c h2,n8 d h3,aa,aa,aa,p]
  omega
theorem mI {x y c:Int} (hx:0≤x∧x<18446744073709551616) (hy:0≤y∧y<18446744073709551616) (hc:0≤c∧c≤1):cN x y c=x+y+c-18446744073709551616*bp x y c:=by
 unfold cN bp
 omega
theorem Ff {V:Nat} (hV:V<2 ^ 256):num 256 (bK 256 32 (V:Int))=(V:Int):=kr (nnn V) (yN hV)
theorem As {s t:List Int} {V W:Nat} (hs:Sc4 s V) (ht:Sc4 t W) (hV:V<L) (hW:W<L):Sc4 (pd s t) ((V+W) % L):=by
 obtain ⟨a0,a1,a2,a3,rfl,h0,h1,h2,h3,hN⟩:=hs
 obtain ⟨b0,b1,b2,b3,rfl,k0,k1,k2,k3,hM⟩:=ht
 have e0:(itr (nq [b0,b1,b2,b3]) 4 (0,[a0,a1,a2,a3])).2=[cN a0 b0 0,cN a1 b1 (bp a0 b0 0),cN a2 b2 (bp a1 b1 (bp a0 b0 0)),cN a3 b3 (bp a2 b2 (bp a1 b1 (bp a0 b0 0)))]:=by kernel_rfl
 have hS:Sc4 (itr (nq [b0,b1,b2,b3]) 4 (0,[a0,a1,a2,a3])).2 (V+W):=by
  rw [e0]
  rw [oQ] at hV hW
  have r0:=jM h0 k0 (show (0:Int)≤0∧(0:Int)≤1 by decide)
  have s0:=gF a0 b0 0
  have q0:=mI h0 k0 (show (0:Int)≤0∧(0:Int)≤1 by decide)
  generalize bp a0 b0 0=c0 at *
  generalize cN a0 b0 0=d0 at *
  have r1:=jM h1 k1 r0
  have s1:=gF a1 b1 c0
  have q1:=mI h1 k1 r0
  generalize bp a1 b1 c0=c1 at *
  generalize cN a1 b1 c0=d1 at *
  have r2:=jM h2 k2 r1
  have s2:=gF a2 b2 c1
  have q2:=mI h2 k2 r1
  generalize bp a2 b2 c1=c2 at *
  generalize cN a2 b2 c1=d2 at *
  have r3:=jM h3 k3 r2
  have s3:=gF a3 b3 c2
  have q3:=mI h3 k3 r2
  generalize bp a3 b3 c2=c3 at *
  generalize cN a3 b3 c2=d3 at *
  exact ⟨d0,d1,d2,d3,rfl,s0,s1,s2,s3,by omega⟩
 have hlt:V+W<2 ^ 256:=by
  have h256:(2:Nat) ^ 256=115792089237316195423570985008687907853269984665640564039457584007913129639936:=rfl
  rw [oQ] at hV hW
  rw [h256];omega
 unfold pd
 rw [tZ hS,aV (aa _ _ _)]
 exact qz (cW (by decide) _ _) (Ff hlt)
theorem Sc4.dig {s:List Int} {V:Nat} (h:Sc4 s V):Dig (2 ^ 64) s∧num (2 ^ 64) s=(V:Int)∧V<2 ^ 256:=by
 obtain ⟨a,b,c,d,rfl,h0,h1,h2,h3,hV⟩:=h
 have p:(2:Int) ^ 64=18446744073709551616:=rfl
 have h256:(2:Nat) ^ 256=115792089237316195423570985008687907853269984665640564039457584007913129639936:=rfl
 rw [p,h256]
 refine ⟨?_,?_,by omega⟩
 ·intro x hx
  simp only [List.mem_cons,List.not_mem_nil,or_false] at hx
  rcases hx with rfl|rfl|rfl|rfl
  ·exact h0
  ·exact h1
  ·exact h2
  ·exact h3
 ·show a+18446744073709551616*(b+18446744073709551616*(c+18446744073709551616*(d+18446744073709551616*0)))=(V:Int)
  omega
theorem Av {s:List Int} {V:Nat} (h:Sc4 s V) (k:Nat):aM .u64 (aJ .u64 (s.getD (k/64) 0) ((k % 64:Nat):Int)) 1=((V/2 ^ k % 2:Nat):Int):=by
 obtain ⟨h1,h2,h3⟩:=h.dig
 have hd:=ak (B:=2 ^ 64) (by decide) h1 (i:=k/64)
 rw [qp fm (by decide) (show k % 64≤64 by omega) hd,hO (m:=64) (by decide) h1 k,h2]
 rw [Int.natCast_emod,Int.natCast_ediv,Int.natCast_pow]
 rfl
theorem Jn {s t:List Int} {V W:Nat} (hs:Sc4 s V) (ht:Sc4 t W) (hV:V<L):Sc4 (Bb s t) ((W*V) % L):=by
 have hlt:=ht.dig.2.2
 have key:∀ k,k≤256→Sc4 (itr (ln s t) k [0,0,0,0]) ((W/2 ^ (256-k)*V) % L):=by
  intro k
  induction k with
  |zero =>
   intro _
   rw [aX,Nat.sub_zero,Nat.div_eq_of_lt hlt,Nat.zero_mul]
   exact Sc4.zero
  |succ k ih =>
   intro hk'
   have ih:=ih (by omega)
   rw [aP,lD W 256 k (by omega)]
   generalize itr (ln s t) k _=z at *
   unfold ln
   rw [tn (Av ht (256-1-k))]
   have h2:=yS ih (Nat.mod_lt _ sb) (show 0<2 by decide)
   rw [Nat.add_zero] at h2
   have e2:2*(W/2 ^ (256-k)*V % L) % L=2*(W/2 ^ (256-k)*V) % L:=by rw [Nat.mul_mod,Nat.mod_mod,← Nat.mul_mod]
   rw [e2] at h2
   rcases Nat.mod_two_eq_zero_or_one (W/2 ^ (256-1-k)) with h|h
   ·rw [h,decide_eq_false (by decide),aB,Nat.add_zero,Nat.mul_assoc]
    exact h2
   ·rw [h,decide_eq_true rfl,aC,Nat.add_mul,Nat.one_mul,Nat.mul_assoc]
    have h3:=As h2 hs (Nat.mod_lt _ sb) hV
    rw [Nat.mod_add_mod] at h3
    exact h3
 have:=key 256 (Nat.le_refl _)
 rw [Nat.sub_self,Nat.pow_zero,Nat.div_one] at this
 exact this
end Go.Vm
namespace Go.Vm
open Go Tabn
theorem Gn {f:Nat→Int × List Int→Int × List Int} {W:Nat→Int} {sg:Int} {p:List Int} {n:Nat} {C:Int→Prop} (hn:p.length=n)
  (hf:∀ k c d,k<n→d.length=n→d.getD k 0=p.getD k 0→C c→∃ c' r,f k (c,d)=(c',d.set k r)∧(0≤r∧r<256)∧C c'∧r+256*(sg*c')=W k+sg*c) {c0:Int} (h0:C c0) :
  ∀ j,j≤n→∃ c d,itr f j (c0,p)=(c,d)∧d.length=n∧C c∧(∀ i,i<j→0≤d.getD i 0∧d.getD i 0<256)∧(∀ i,j≤i→d.getD i 0=p.getD i 0)∧num 256 (d.take j)+256 ^ j*(sg*c)=su 256 W j+sg*c0:=by
 intro j
 induction j with
 |zero =>
  intro _
  rw [aX]
  refine ⟨c0,p,rfl,hn,h0,fun i hi=>absurd hi (by omega),fun _ _=>rfl,?_⟩
  rw [List.take_zero,Int.pow_zero]
  show 0+1*(sg*c0)=0+sg*c0
  omega
 |succ j ih =>
  intro hj
  obtain ⟨c,d,e,hl,hc,hd,hp,hv⟩:=ih (by omega)
  rw [aP,e]
  obtain ⟨c',r,e1,hr,hc',hw⟩:=hf j c d (by omega) hl (hp j (Nat.le_refl _)) hc
  refine ⟨c',d.set j r,e1,by rw [List.length_set,hl],hc',?_,?_,?_⟩
  ·intro i hi
   by_cases hij:i=j
   ·subst hij;rw [bz (by omega)];exact hr
   ·rw [bP (by omega)];exact hd i (by omega)
  ·intro i hi
   rw [bP (by omega)];exact hp i (by omega)
  ·rw [du,kJ,bz (by omega),fw,Int.pow_succ]
   generalize (256:Int) ^ j=X at *
   generalize num 256 (d.take j)=a at *
   generalize su 256 W j=b at *
   generalize sg*c'=y at *
   generalize sg*c=x at *
   generalize sg*c0=x0 at *
   generalize W j=w at *
   have e2:a=b+x0-X*x:=by omega
   have e3:w=r+256*y-x:=by omega
   rw [e2,e3]
   grind -lia -linarith
theorem nH {f:Nat→Int × List Int→Int × List Int} {W:Nat→Int} {sg:Int} {p:List Int} {n:Nat} {C:Int→Prop} (hn:p.length=n)
  (hf:∀ k c d,k<n→d.length=n→d.getD k 0=p.getD k 0→C c→∃ c' r,f k (c,d)=(c',d.set k r)∧(0≤r∧r<256)∧C c'∧r+256*(sg*c')=W k+sg*c) {c0:Int} (h0:C c0) :
  ∃ c d,itr f n (c0,p)=(c,d)∧d.length=n∧C c∧Dig 256 d∧num 256 d+256 ^ n*(sg*c)=su 256 W n+sg*c0:=by
 obtain ⟨c,d,e,hl,hc,hd,_,hv⟩:=Gn (sg:=sg) hn hf h0 n (Nat.le_refl _)
 refine ⟨c,d,e,hl,hc,kT (fun i hi=>hd i (by omega)),?_⟩
 rw [List.take_of_length_le (by omega)] at hv
 exact hv
theorem Fw:(256:Int) ^ 33=29642774844752946028434172162224104410437116074403984394101141506025761187823616:=rfl
theorem JC {r:List Int} {V b:Nat} (hd:Dig 256 r) (hl:r.length=33) (hV:num 256 r=(V:Int)) (hlt:V<L) (hb:b<2) :
  ∃ d,itr bf 33 ((b:Int),r)=(0,d)∧d.length=33∧Dig 256 d∧num 256 d=((2*V+b:Nat):Int):=by
 obtain ⟨c,d,e,h1,h2,h3,h4⟩:=nH (f:=bf) (W:=fun k=>2*r.getD k 0) (sg:=1) (p:=r) (n:=33) (C:=fun c=>0≤c∧c≤1) hl (by
  intro k c d hk hld hg hc
  refine ⟨fc .i64 (aD .i64 (bJ .i64 2 (d.getD k 0)) c) 256,bL (aD .i64 (bJ .i64 2 (d.getD k 0)) c) 256,rfl,?_⟩
  rw [hg]
  have hr:0≤r.getD k 0∧r.getD k 0<256:=ak (by decide) hd
  generalize r.getD k 0=x at *
  have e1:bJ .i64 2 x=2*x:=by unfold bJ;exact bn (by omega) (by omega)
  have e2:aD .i64 (2*x) c=2*x+c:=cY (by omega) (by omega)
  have e3:fc .i64 (2*x+c) 256=(2*x+c)/256:=by
   unfold fc
   rw [Int.tdiv_eq_ediv_of_nonneg (by omega),bn (by omega) (by omega)]
  have e4:bL (2*x+c) 256=(2*x+c) % 256:=by
   unfold bL
   rw [Int.tmod_eq_emod_of_nonneg (by omega)]
  rw [e1,e2,e3,e4]
  omega) (c0:=(b:Int)) (by omega)
 have e5:su 256 (fun k=>2*r.getD k 0) 33=2*(V:Int):=by rw [nv,ge hl,hV]
 rw [e5,Fw] at h4
 rw [oQ] at hlt
 have hb1:=iC (B:=256) (by decide) h3
 have hc:c=0:=by omega
 subst hc
 exact ⟨d,e,h1,h3,by omega⟩
def oq:List Int:=[237,211,245,92,26,99,18,88,214,156,247,162,222,249,222,20,0,0,0,0,0,0,0,0,0,0,0,0,0,0,0,16]
theorem CO:num 256 oq=(L:Int):=by kernel_rfl
theorem AJ:Dig 256 oq:=by unfold Dig oq;decide
theorem CP:oq.length=32:=rfl
def qT (r:List Int) (k3:Nat) (z3:Int × List Int):Int × List Int :=
 ((sel (decide (((sel (decide ((((k3:Nat):Int):Int)<32)) (aT .i64 (aT .i64 (r.getD k3 0) z3.1) (IntKind.wrap .i64 (oq.getD k3 0))) (aT .i64 (r.getD k3 0) z3.1)):Int)<0)) 1 0),z3.2.set k3 (sel (decide (((sel (decide ((((k3:Nat):Int):Int)<32)) (aT .i64 (aT .i64 (r.getD k3 0) z3.1) (IntKind.wrap .i64 (oq.getD k3 0))) (aT .i64 (r.getD k3 0) z3.1)):Int)<0)) (aD .i64 (sel (decide ((((k3:Nat):Int):Int)<32)) (aT .i64 (aT .i64 (r.getD k3 0) z3.1) (IntKind.wrap .i64 (oq.getD k3 0))) (aT .i64 (r.getD k3 0) z3.1)) 256) (sel (decide ((((k3:Nat):Int):Int)<32)) (aT .i64 (aT .i64 (r.getD k3 0) z3.1) (IntKind.wrap .i64 (oq.getD k3 0))) (aT .i64 (r.getD k3 0) z3.1))))
theorem Fx {r:List Int} {T:Nat} (hd:Dig 256 r) (hl:r.length=33) (hT:num 256 r=(T:Int)) :
  ∃ c d,itr (qT r) 33 (0,List.replicate 33 0)=(c,d)∧d.length=33∧(c=0∨c=1)∧Dig 256 d∧num 256 d-256 ^ 33*c=(T:Int)-(L:Int):=by
 obtain ⟨c,d,e,h1,h2,h3,h4⟩:=nH (f:=qT r) (W:=fun k=>r.getD k 0 + -1*(oq++[0]).getD k 0) (sg:=-1) (p:=List.replicate 33 0) (n:=33) (C:=fun c=>0≤c∧c≤1) (by simp) (by
  intro k c d hk hld hg hc
  have hr:0≤r.getD k 0∧r.getD k 0<256:=ak (by decide) hd
  have hx:(sel (decide ((((k:Nat):Int):Int)<32)) (aT .i64 (aT .i64 (r.getD k 0) c) (IntKind.wrap .i64 (oq.getD k 0))) (aT .i64 (r.getD k 0) c))=r.getD k 0-c-(oq++[0]).getD k 0∧0≤(oq++[0]).getD k 0∧(oq++[0]).getD k 0<256:=by
   have e1:aT .i64 (r.getD k 0) c=r.getD k 0-c:=gY (by omega) (by omega)
   rw [e1]
   by_cases h:k<32
   ·have ho:0≤oq.getD k 0∧oq.getD k 0<256:=ak (by decide) AJ
    have eo:(oq++[0]).getD k 0=oq.getD k 0:=by
     rw [List.getD_eq_getElem?_getD,List.getElem?_append_left (by rw [CP];exact h),← List.getD_eq_getElem?_getD]
    rw [decide_eq_true (by omega),aC,eo,ei ho]
    exact ⟨gY (by omega) (by omega),ho⟩
   ·have hk2:k=32:=by omega
    subst hk2
    rw [decide_eq_false (by decide),aB]
    have eo:(oq++[0]).getD 32 0=0:=rfl
    rw [eo]
    omega
  unfold qT
  simp only
  rw [hx.1]
  obtain ⟨_,ho⟩:=hx
  generalize (oq++[0]).getD k 0=o at *
  generalize r.getD k 0=x at *
  by_cases hn:x-c-o<0
  ·rw [decide_eq_true hn,aC,aC]
   have e2:aD .i64 (x-c-o) 256=x-c-o+256:=cY (by omega) (by omega)
   rw [e2]
   exact ⟨1,_,rfl,by omega,by omega,by omega⟩
  ·rw [decide_eq_false hn,aB,aB]
   exact ⟨0,_,rfl,by omega,by omega,by omega⟩) (c0:=0) (by decide)
 have e5:su 256 (fun k=>r.getD k 0 + -1*(oq++[0]).getD k 0) 33=(T:Int)-(L:Int):=by
  rw [nJ,nv,ge hl,ge (xs:=oq++[0]) (n:=33) rfl,hT,iT,CO]
  show (T:Int) + -1*((L:Int)+_*(0+256*0))=_
  omega
 rw [e5] at h4
 refine ⟨c,d,e,h1,by omega,h3,?_⟩
 generalize (256:Int) ^ 33=X at *
 have:X*(-1*c) = -(X*c):=by rw [Int.neg_mul,Int.one_mul,Int.mul_neg]
 omega
theorem Hk {b:List Int} (hb:Dig 256 b) {N:Nat} (hN:num 256 b=(N:Int)) {i k1:Nat} (hk:k1<8) :
  bL (aJ .i64 (IntKind.wrap .i64 (b.getD i 0)) (((8:Nat):Int)-1-((k1:Nat):Int))) 2=((N/2 ^ (8*i+(7-k1)) % 2:Nat):Int):=by
 have hd:=ak (B:=256) (by decide) hb (i:=i)
 have e1:((8:Nat):Int)-1-((k1:Nat):Int)=((7-k1:Nat):Int):=by omega
 rw [ei hd,e1,ec .i64 _ (7-k1) (by show 7-k1≤64;omega)]
 have h2:=hO (m:=8) (by decide) hb (8*i+(7-k1))
 rw [show (8*i+(7-k1))/8=i by omega,show (8*i+(7-k1)) % 8=7-k1 by omega] at h2
 unfold bL
 have hp:=jV (7-k1)
 rw [Int.tmod_eq_emod_of_nonneg (Int.ediv_nonneg hd.1 (Int.le_of_lt hp)),h2]
 show num 256 b/2 ^ (8*i+(7-k1)) % 2=_
 rw [hN,Int.natCast_emod,Int.natCast_ediv,Int.natCast_pow]
 rfl
def wy (z:Nat × List Int) (V:Nat):Prop:=z.1=33∧z.2.length=33∧Dig 256 z.2∧num 256 z.2=(V:Int)∧V<L
theorem Hs {b:List Int} (hb:Dig 256 b) {N:Nat} (hN:num 256 b=(N:Int)) {k0 k1:Nat} (hk:k1<8) {z:Nat × List Int} {V:Nat} (hz:wy z V) :
  wy (iL b k0 k1 z) ((2*V+N/2 ^ (8*(b.length-1-k0)+(7-k1)) % 2) % L):=by
 obtain ⟨z1,z2,z3,z4,z5⟩:=hz
 have hb2:N/2 ^ (8*(b.length-1-k0)+(7-k1)) % 2<2:=Nat.mod_lt _ (by decide)
 obtain ⟨d,e,d1,d2,d3⟩:=JC z3 z2 z4 z5 hb2
 have hS:mH b k0 k1 z=qT (itr bf 33 ((bL (aJ .i64 (IntKind.wrap .i64 (b.getD (b.length-1-k0) 0)) (((8:Nat):Int)-1-((k1:Nat):Int))) 2),z.2)).2:=rfl
 unfold iL
 rw [hS,Hk hb hN hk,e]
 generalize N/2 ^ (8*(b.length-1-k0)+(7-k1)) % 2=bt at *
 obtain ⟨c,d',e',l1,l2,l3,l4⟩:=Fx d2 d1 d3
 show wy (sel ((itr (qT d) 33 (0,List.replicate 33 0)).1==0) 33 z.1,sel ((itr (qT d) 33 (0,List.replicate 33 0)).1==0) (itr (qT d) 33 (0,List.replicate 33 0)).2 d) _
 rw [e',z1]
 have hb1:=iC (B:=256) (by decide) l3
 have hb3:=iC (B:=256) (by decide) d2
 rw [l1] at hb1
 rw [d1] at hb3
 rw [Fw] at l4 hb1 hb3
 have hL:=oQ
 have hmod:(2*V+bt) % L=if 2*V+bt<L then 2*V+bt else 2*V+bt-L:=by
  split
  ·rename_i h;exact Nat.mod_eq_of_lt h
  ·rename_i h
   rw [Nat.mod_eq_sub_mod (by omega),Nat.mod_eq_of_lt (by omega)]
 rw [hmod]
 rcases l2 with rfl|rfl
 ·have h1:¬ 2*V+bt<L:=by omega
  rw [if_neg h1]
  refine ⟨rfl,l1,l3,?_,by omega⟩
  show num 256 d'=_
  omega
 ·have h1:2*V+bt<L:=by omega
  rw [if_pos h1]
  exact ⟨rfl,d1,d2,d3,h1⟩
theorem FZ {b:List Int} (hb:Dig 256 b) {N:Nat} (hN:num 256 b=(N:Int)):uf b=bK 256 32 ((N % L:Nat):Int):=by
 have hlt:N<2 ^ (8*b.length):=by
  obtain ⟨M,h1,h2⟩:=jf hb
  rw [h1] at hN
  have:=Int.ofNat.inj hN
  omega
 have hz0:wy (33,List.replicate 33 0) 0:=⟨rfl,by simp,Dig.zeros (by decide) _,by show num 256 (List.replicate 33 0)=((0:Nat):Int);rw [gu];rfl,sb⟩
 have inner:∀ (k0:Nat) (z:Nat × List Int),k0<b.length→wy z ((N/2 ^ (8*b.length-8*k0)) % L)→∀ k1,k1≤8→wy (itr (iL b k0) k1 (z.1,z.2)) ((N/2 ^ (8*b.length-(8*k0+k1))) % L):=by
  intro k0 z hk0 hz k1
  induction k1 with
  |zero=>intro _;rw [aX];exact hz
  |succ k1 ih =>
   intro hk1
   have:=Hs hb hN (k0:=k0) (show k1<8 by omega) (ih (by omega))
   rw [aP,show 8*k0+(k1+1)=8*k0+k1+1 by omega,lD N (8*b.length) (8*k0+k1) (by omega),← uW]
   rw [show 8*(b.length-1-k0)+(7-k1)=8*b.length-1-(8*k0+k1) by omega] at this
   exact this
 have outer:∀ k0,k0≤b.length→wy (itr (ke b) k0 (33,List.replicate 33 0)) ((N/2 ^ (8*b.length-8*k0)) % L):=by
  intro k0
  induction k0 with
  |zero =>
   intro _
   rw [aX,Nat.mul_zero,Nat.sub_zero,Nat.div_eq_of_lt hlt]
   exact hz0
  |succ k0 ih =>
   intro hk
   rw [aP]
   have:=inner k0 _ (by omega) (ih (by omega)) 8 (Nat.le_refl _)
   rw [show 8*(k0+1)=8*k0+8 by omega]
   exact this
 have h:=outer b.length (Nat.le_refl _)
 rw [Nat.sub_self,Nat.pow_zero,Nat.div_one] at h
 obtain ⟨_,h2,h3,h4,h5⟩:=h
 unfold uf
 have hl4:∀ k z,nL b k z=z.set k (IntKind.wrap .u8 (((itr (ke b) b.length (33,List.replicate 33 0)).2).getD k 0)):=fun _ _=>rfl
 generalize (itr (ke b) b.length (33,List.replicate 33 0)).2=rr at *
 obtain ⟨g1,g2,_,_⟩:=ni (B:=256) (f:=nL b) (g:=fun k=>IntKind.wrap .u8 (rr.getD k 0)) (p:=List.replicate 32 0) (n:=32) (o:=0) (by simp) (fun k z _ _ _=>hl4 k z) 32 (Nat.le_refl _)
 rw [List.length_replicate] at g1
 have e33:rr=bK 256 33 ((N % L:Nat):Int):=ic (by decide) h3 h2 h4
 have hgd:∀ i,i<32→(itr (nL b) 32 (List.replicate 32 0)).getD i 0=(bK 256 32 ((N % L:Nat):Int)).getD i 0:=by
  intro i hi
  have:=g2 i hi
  rw [Nat.add_zero] at this
  rw [this,e33,cZ (by decide) 33 i _ (by omega),cZ (by decide) 32 i _ hi,dC]
  exact Int.emod_emod_of_dvd _ (Int.dvd_refl _)
 apply List.ext_getElem?
 intro i
 by_cases hi:i<32
 ·have:=hgd i hi
  rw [List.getD_eq_getElem?_getD,List.getD_eq_getElem?_getD,List.getElem?_eq_getElem (by omega),List.getElem?_eq_getElem (by rw [aa];exact hi)] at this
  rw [List.getElem?_eq_getElem (by omega),List.getElem?_eq_getElem (by rw [aa];exact hi)]
  exact congrArg some this
 ·rw [List.getElem?_eq_none (by omega),List.getElem?_eq_none (by rw [aa];omega)]
end Go.Vm
namespace Go.Vm
open Go
theorem ik {α β:Type} (R:Nat→α→β→Prop) {f:Nat→α→α} {g:Nat→β→β}:∀ {n:Nat} {x:α} {y:β},R 0 x y→(∀ k,k<n→∀ a b,R k a b→R (k+1) (f k a) (g k b))→R n (itr f n x) (itr g n y):=by
 intro n
 induction n with
 |zero=>intro x y h0 hs;rw [aX,aX];exact h0
 |succ n ih =>
  intro x y h0 hs
  rw [aP,aP]
  exact hs n (Nat.lt_succ_self n) _ _ (ih h0 fun k hk=>hs k (Nat.lt_succ_of_lt hk))
theorem DW {w n s x:Nat} (hw:n+s=w) (hx:x<2 ^ w) :
  x*2 ^ s % 2 ^ w=2 ^ s*(x % 2 ^ n)∧x/2 ^ n<2 ^ s∧2 ^ s*(x % 2 ^ n)+x/2 ^ n<2 ^ w∧(x/2 ^ n+x*2 ^ s) % 2 ^ w=2 ^ s*(x % 2 ^ n)+x/2 ^ n:=by
 subst hw
 have e1:x*2 ^ s % 2 ^ (n+s)=2 ^ s*(x % 2 ^ n):=by rw [Nat.pow_add,Nat.mul_comm x,Nat.mul_comm (2 ^ n)];exact Nat.mul_mod_mul_left _ _ _
 have e2:x/2 ^ n<2 ^ s:=Nat.div_lt_of_lt_mul (by rw [← Nat.pow_add];exact hx)
 have e3:2 ^ s*(x % 2 ^ n)+x/2 ^ n<2 ^ (n+s):=by
  have h1:x % 2 ^ n<2 ^ n:=Nat.mod_lt _ (Nat.pow_pos (by decide))
  have h2:2 ^ s*(x % 2 ^ n+1)≤2 ^ s*2 ^ n:=Nat.mul_le_mul_left _ h1
  rw [Nat.pow_add,Nat.mul_comm (2 ^ n)]
  rw [Nat.mul_add] at h2
  omega
 refine ⟨e1,e2,e3,?_⟩
 rw [Nat.add_mod,e1,Nat.mod_eq_of_lt (Nat.lt_of_le_of_lt (Nat.div_le_self _ _) hx),Nat.add_comm,Nat.mod_eq_of_lt e3]
theorem tR {k:IntKind} {N:Nat} (h:Uns k N) {a n:Nat} (hn:n≤k.bits):cd k (a:Int) (n:Int)=((a*2 ^ n % N:Nat):Int):=by
 rw [mK k _ _ hn,h.wrap]
 simp
theorem nE (k:IntKind) {a n:Nat} (hn:n≤k.bits):aJ k (a:Int) (n:Int)=((a/2 ^ n:Nat):Int):=by
 rw [ec k _ _ hn]
 simp
theorem xk {k:IntKind} {N:Nat} (h:Uns k N) (a b:Nat):aD k (a:Int) (b:Int)=(((a+b) % N:Nat):Int):=by
 show k.wrap _=_
 rw [h.wrap]
 simp
theorem Ew {k:IntKind} {N:Nat} (h:Uns k N) (a b:Nat):bJ k (a:Int) (b:Int)=((a*b % N:Nat):Int):=by
 show k.wrap _=_
 rw [h.wrap]
 simp
theorem vu {k:IntKind} {N:Nat} (h:Uns k N) (a:Nat):k.wrap (a:Int)=((a % N:Nat):Int):=by
 rw [h.wrap]
 simp
theorem HD {k:IntKind} {w n s x:Nat} (h:Uns k (2 ^ w)) (hk:k.bits=w) (hw:n+s=w) (hx:x<2 ^ w) :
  iOr k (cd k (x:Int) (s:Int)) (aJ k (x:Int) (n:Int))=(((x/2 ^ n+x*2 ^ s) % 2 ^ w:Nat):Int):=by
 obtain ⟨e1,e2,e3,e4⟩:=DW hw hx
 rw [tR h (by omega),nE k (by omega),e1,jT h (by omega) (Nat.lt_of_le_of_lt (Nat.div_le_self _ _) hx),e4,← Nat.two_pow_add_eq_or_of_lt e2]
theorem Gj {w a b c:Nat} (ha:a<2 ^ w):(a &&& b) ^^^ (((2 ^ w-1) ^^^ a) &&& c)=(a &&& b) ||| (((2 ^ w-1) ^^^ a) &&& c):=by
 apply Nat.eq_of_testBit_eq
 intro i
 simp only [Nat.testBit_xor,Nat.testBit_and,Nat.testBit_or,Nat.testBit_two_pow_sub_one]
 cases hb:a.testBit i
 ·simp
 ·have:i<w:=by
   apply Classical.byContradiction
   intro hn
   rw [Nat.testBit_lt_two_pow (Nat.lt_of_lt_of_le ha (Nat.pow_le_pow_right (by decide) (by omega)))] at hb
   cases hb
  simp [this]
theorem Dt (a b c:Nat):(a &&& b) ^^^ (a &&& c) ^^^ (b &&& c)=((a &&& b) ||| (b &&& c)) ||| (a &&& c):=by
 apply Nat.eq_of_testBit_eq
 intro i
 simp only [Nat.testBit_xor,Nat.testBit_and,Nat.testBit_or]
 cases a.testBit i <;> cases b.testBit i <;> cases c.testBit i <;> rfl
def Wd (w:Nat) (x:Int):Prop:=∃ a:Nat,x=(a:Int)∧a<2 ^ w
theorem Wd.up {w v:Nat} {x:Int} (h:Wd w x) (hv:w≤v):Wd v x:=by
 obtain ⟨a,rfl,h⟩:=h
 exact ⟨a,rfl,Nat.lt_of_lt_of_le h (Nat.pow_le_pow_right (by decide) hv)⟩
theorem Wd.and {w:Nat} {k:IntKind} (h:Uns k (2 ^ w)) {x y:Int} (hx:Wd w x) (hy:Wd w y):Wd w (aM k x y):=by
 obtain ⟨a,rfl,ha⟩:=hx
 obtain ⟨b,rfl,hb⟩:=hy
 exact ⟨_,dK h ha hb,Nat.and_lt_two_pow _ hb⟩
theorem Wd.xor {w:Nat} {k:IntKind} (h:Uns k (2 ^ w)) {x y:Int} (hx:Wd w x) (hy:Wd w y):Wd w (al k x y):=by
 obtain ⟨a,rfl,ha⟩:=hx
 obtain ⟨b,rfl,hb⟩:=hy
 exact ⟨_,gX h ha hb,Nat.xor_lt_two_pow ha hb⟩
theorem Wd.mod {w:Nat} (x:Int):Wd w (x % ((2 ^ w:Nat):Int)):=by
 have hp:(0:Int)<((2 ^ w:Nat):Int):=Int.natCast_pos.2 (Nat.pow_pos (by decide))
 obtain ⟨a,ha⟩:=Int.eq_ofNat_of_zero_le (Int.emod_nonneg x (Int.ne_of_gt hp))
 have h2:=Int.emod_lt_of_pos x hp
 rw [ha] at h2
 exact ⟨a,ha,Int.ofNat_lt.1 h2⟩
theorem Wd.of {w:Nat} {x:Int} (h:0≤x) (h':x<((2 ^ w:Nat):Int)):Wd w x:=by
 obtain ⟨a,rfl⟩:=Int.eq_ofNat_of_zero_le h
 exact ⟨a,rfl,Int.ofNat_lt.1 h'⟩
theorem HO (o i:Nat):adr o i 1=o+i:=by rw [dU];omega
def DX (x:Int):Prop:=∃ b:Nat,x=(b:Int)∧b<256
theorem mP {v w:Nat} {k k':IntKind} (h:Uns k (2 ^ w)) (h':Uns k' (2 ^ v)) (hv:w≤v) {x y:Int} (hx:Wd w x) (hy:Wd w y):al k' x y=al k x y:=by
 have hp:2 ^ w≤2 ^ v:=Nat.pow_le_pow_right (by decide) hv
 obtain ⟨a,rfl,ha⟩:=hx
 obtain ⟨b,rfl,hb⟩:=hy
 rw [gX h ha hb,gX h' (by omega) (by omega)]
theorem Fy {w n:Nat} (k:IntKind) (hn:n≤k.bits) {x:Int} (hx:Wd w x):Wd w (aJ k x (n:Int)):=by
 obtain ⟨a,rfl,ha⟩:=hx
 exact ⟨_,nE k hn,Nat.lt_of_le_of_lt (Nat.div_le_self _ _) ha⟩
theorem vN {w n:Nat} (k k':IntKind) (hn:n≤k.bits) (hn':n≤k'.bits) {x:Int} (hx:Wd w x):aJ k' x (n:Int)=aJ k x (n:Int):=by
 obtain ⟨a,rfl,ha⟩:=hx
 rw [nE k hn,nE k' hn']
theorem FF {v w:Nat} {k k':IntKind} (h:Uns k (2 ^ w)) (h':Uns k' (2 ^ v)) (hv:w≤v) {x y z:Int} (hx:Wd w x) (hy:Wd w y) (hz:Wd w z) :
  iOr k' (aM k' x y) (aM k' (al k' ((2 ^ w-1:Nat):Int) x) z)=al k (aM k x y) (aM k (al k ((2 ^ w-1:Nat):Int) x) z):=by
 have hp:2 ^ w≤2 ^ v:=Nat.pow_le_pow_right (by decide) hv
 obtain ⟨a,rfl,ha⟩:=hx
 obtain ⟨b,rfl,hb⟩:=hy
 obtain ⟨c,rfl,hc⟩:=hz
 have hm:2 ^ w-1<2 ^ w:=Nat.sub_lt (Nat.pow_pos (by decide)) (by decide)
 have hq:=Nat.xor_lt_two_pow hm ha
 have h1:a &&& b<2 ^ w:=Nat.and_lt_two_pow _ hb
 have h2:((2 ^ w-1) ^^^ a) &&& c<2 ^ w:=Nat.and_lt_two_pow _ hc
 rw [gX h hm ha,gX h' (by omega) (by omega),dK h ha hb,dK h' (by omega) (by omega),dK h hq hc,dK h' (by omega) (by omega),gX h h1 h2,jT h' (by omega) (by omega),Gj ha]
theorem Ao {v w:Nat} {k k':IntKind} (h:Uns k (2 ^ w)) (h':Uns k' (2 ^ v)) (hv:w≤v) {x y z:Int} (hx:Wd w x) (hy:Wd w y) (hz:Wd w z) :
  iOr k' (iOr k' (aM k' x y) (aM k' y z)) (aM k' x z)=al k (al k (aM k x y) (aM k x z)) (aM k y z):=by
 have hp:2 ^ w≤2 ^ v:=Nat.pow_le_pow_right (by decide) hv
 obtain ⟨a,rfl,ha⟩:=hx
 obtain ⟨b,rfl,hb⟩:=hy
 obtain ⟨c,rfl,hc⟩:=hz
 have h1:a &&& b<2 ^ w:=Nat.and_lt_two_pow _ hb
 have h2:a &&& c<2 ^ w:=Nat.and_lt_two_pow _ hc
 have h3:b &&& c<2 ^ w:=Nat.and_lt_two_pow _ hc
 have h4:=Nat.or_lt_two_pow (n:=w) h1 h3
 rw [dK h ha hb,dK h' (by omega) (by omega),dK h ha hc,dK h' (by omega) (by omega),dK h hb hc,dK h' (by omega) (by omega),gX h h1 h2,gX h (Nat.xor_lt_two_pow h1 h2) h3,
  jT h' (by omega) (by omega),jT h' (by omega) (by omega),Dt]
end Go.Vm
namespace Go.Vm
open Go
theorem fu:Uns .u64 (2 ^ 64):=fm
theorem vV {n s:Nat} (hw:n+s=64) (h0:0<n) (h1:0<s) {x:Int} (hx:Wd 64 x):ck x (n:Int)=bY x (s:Int)∧Wd 64 (bY x (s:Int)):=by
 obtain ⟨a,rfl,ha⟩:=hx
 have c1:aM .u64 (IntKind.wrap .u64 (s:Int)) 63=(s:Int):=by
  have h:∀ s:Fin 64,aM .u64 (IntKind.wrap .u64 ((s.val:Nat):Int)) 63=((s.val:Nat):Int):=by decide
  exact h ⟨s,by omega⟩
 have c2:aT .u64 64 (s:Int)=(n:Int):=by rw [vh];omega
 have c3:aT .i64 64 (n:Int)=(s:Int):=by rw [gY (by omega) (by omega)];omega
 have e1:bY (a:Int) (s:Int)=(((a/2 ^ n+a*2 ^ s) % 2 ^ 64:Nat):Int):=by
  unfold bY
  rw [c1,c2]
  exact HD fu rfl hw ha
 refine ⟨?_,_,e1,Nat.mod_lt _ (Nat.pow_pos (by decide))⟩
 rw [e1]
 unfold ck
 rw [c3,nE .u64 (show n≤64 by omega),tR fm (show s≤64 by omega),xk fm]
 congr 1
 rw [show (2:Nat) ^ 64=18446744073709551616 from rfl]
 generalize a/2 ^ n=u
 generalize a*2 ^ s=v
 omega
theorem Ba {n1 s1 n2 s2 n3:Nat} (h1:n1+s1=64) (h2:n2+s2=64) (h1':0<n1∧0<s1) (h2':0<n2∧0<s2) (h3:n3<64) {x:Int} (hx:Wd 64 x) :
  bv x [(n1:Int),(n2:Int),(n3:Int)] true=al .u64 (al .u64 (bY x (s1:Int)) (bY x (s2:Int))) (aJ .u64 x (n3:Int))∧Wd 64 (al .u64 (al .u64 (bY x (s1:Int)) (bY x (s2:Int))) (aJ .u64 x (n3:Int))):=by
 obtain ⟨a1,a2⟩:=vV h1 h1'.1 h1'.2 hx
 obtain ⟨b1,b2⟩:=vV h2 h2'.1 h2'.2 hx
 have b3:=Fy (n:=n3) .u64 (show n3≤64 by omega) hx
 refine ⟨?_,(a2.xor fu b2).xor fu b3⟩
 unfold bv
 rw [aC]
 show al .u64 (al .u64 (ck x (n1:Int)) (ck x (n2:Int))) (aJ .u64 x (n3:Int))=_
 rw [a1,b1,mP (v:=64) fu fm (by decide) a2 b2,vN .u64 .u64 (show n3≤64 by omega) (show n3≤64 by omega) hx,mP (v:=64) fu fm (by decide) (a2.xor fu b2) b3]
theorem Az {n1 s1 n2 s2 n3 s3:Nat} (h1:n1+s1=64) (h2:n2+s2=64) (h3:n3+s3=64) (h1':0<n1∧0<s1) (h2':0<n2∧0<s2) (h3':0<n3∧0<s3) {x:Int} (hx:Wd 64 x) :
  bv x [(n1:Int),(n2:Int),(n3:Int)] false=al .u64 (al .u64 (bY x (s1:Int)) (bY x (s2:Int))) (bY x (s3:Int))∧Wd 64 (al .u64 (al .u64 (bY x (s1:Int)) (bY x (s2:Int))) (bY x (s3:Int))):=by
 obtain ⟨a1,a2⟩:=vV h1 h1'.1 h1'.2 hx
 obtain ⟨b1,b2⟩:=vV h2 h2'.1 h2'.2 hx
 obtain ⟨c1,c2⟩:=vV h3 h3'.1 h3'.2 hx
 refine ⟨?_,(a2.xor fu b2).xor fu c2⟩
 unfold bv
 rw [aB]
 show al .u64 (al .u64 (ck x (n1:Int)) (ck x (n2:Int))) (ck x (n3:Int))=_
 rw [a1,b1,c1,mP (v:=64) fu fm (by decide) a2 b2,mP (v:=64) fu fm (by decide) (a2.xor fu b2) c2]
theorem DP {x:Int} (hx:Wd 64 x):bv x [1,8,7] true=(al .u64 (al .u64 (bY x 63) (bY x 56)) (aJ .u64 x 7)):=(Ba (n1:=1) (s1:=63) (n2:=8) (s2:=56) (n3:=7) rfl rfl (by decide) (by decide) (by decide) hx).1
theorem Cm {x:Int} (hx:Wd 64 x):bv x [19,61,6] true=(al .u64 (al .u64 (bY x 45) (bY x 3)) (aJ .u64 x 6)):=(Ba (n1:=19) (s1:=45) (n2:=61) (s2:=3) (n3:=6) rfl rfl (by decide) (by decide) (by decide) hx).1
theorem CH {x:Int} (hx:Wd 64 x):bv x [28,34,39] false=(al .u64 (al .u64 (bY x 36) (bY x 30)) (bY x 25)):=(Az (n1:=28) (s1:=36) (n2:=34) (s2:=30) (n3:=39) (s3:=25) rfl rfl rfl (by decide) (by decide) (by decide) hx).1
theorem Co {x:Int} (hx:Wd 64 x):bv x [14,18,41] false=(al .u64 (al .u64 (bY x 50) (bY x 46)) (bY x 23)):=(Az (n1:=14) (s1:=50) (n2:=18) (s2:=46) (n3:=41) (s3:=23) rfl rfl rfl (by decide) (by decide) (by decide) hx).1
theorem iZ (x y:Int):aD .u64 x y=(x+y) % 18446744073709551616:=(fu).wrap _
theorem pO (x:Int):aM .u64 x 18446744073709551615=x % 18446744073709551616:=kw x 64 (by decide)
theorem pI (x:Int):Wd 64 (x % 18446744073709551616):=Wd.mod x
theorem mz (x:Int):x % 18446744073709551616 % 18446744073709551616=x % 18446744073709551616:=Int.emod_emod_of_dvd x (by decide)
def EZ (st x l k g f:Int):Int:=aD .u64 (aD .u64 (aD .u64 (aD .u64 l (al .u64 (al .u64 (bY f 50) (bY f 46)) (bY f 23))) (al .u64 (aM .u64 f g) (aM .u64 (ta .u64 f) k))) st) x
def HM (a c d:Int):Int:=aD .u64 (al .u64 (al .u64 (bY a 36) (bY a 30)) (bY a 25)) (al .u64 (al .u64 (aM .u64 a c) (aM .u64 a d)) (aM .u64 c d))
def EC (st x l k g f:Int):Int:=aM .u64 (aD .u64 (aD .u64 (aD .u64 (aD .u64 l (bv f [14,18,41] false)) (iOr .u64 (aM .u64 f g) (aM .u64 (al .u64 18446744073709551615 f) k))) st) x) 18446744073709551615
def GB (a c d:Int):Int:=aD .u64 (bv a [28,34,39] false) (iOr .u64 (iOr .u64 (aM .u64 a c) (aM .u64 c d)) (aM .u64 a d))
def DT (p0:List Int) (k1:Nat):List Int:=itr (lw) 64 (itr (iD p0 k1) 128 [0,0,0,0,0,0,0,0,0,0,0,0,0,0,0,0,0,0,0,0,0,0,0,0,0,0,0,0,0,0,0,0,0,0,0,0,0,0,0,0,0,0,0,0,0,0,0,0,0,0,0,0,0,0,0,0,0,0,0,0,0,0,0,0,0,0,0,0,0,0,0,0,0,0,0,0,0,0,0,0])
def Ds (p0:List Int) (k1:Nat):List Int:=itr (gE) 64 (itr (eU p0 k1) 128 [0,0,0,0,0,0,0,0,0,0,0,0,0,0,0,0,0,0,0,0,0,0,0,0,0,0,0,0,0,0,0,0,0,0,0,0,0,0,0,0,0,0,0,0,0,0,0,0,0,0,0,0,0,0,0,0,0,0,0,0,0,0,0,0,0,0,0,0,0,0,0,0,0,0,0,0,0,0,0,0])
theorem T64 {st x l k g f:Int} (hl:Wd 64 l) (hk:Wd 64 k) (hg:Wd 64 g) (hf:Wd 64 f):EC st x l k g f=EZ st x l k g f:=by
 unfold EC EZ
 rw [Co hf,pO]
 simp only [iZ,dA]
 have hc:iOr .u64 (aM .u64 f g) (aM .u64 (al .u64 18446744073709551615 f) k)=al .u64 (aM .u64 f g) (aM .u64 (ta .u64 f) k):=FF (v:=64) fu fm (by decide) hf hg hk
 rw [hc]
 generalize al .u64 (aM .u64 f g) (aM .u64 (ta .u64 f) k)=A
 generalize (al .u64 (al .u64 (bY f 50) (bY f 46)) (bY f 23))=B
 simp only [Int.emod_add_emod,mz]
theorem U64 {a c d:Int} (ha:Wd 64 a) (hc:Wd 64 c) (hd:Wd 64 d) (t:Int):aM .u64 (aD .u64 t (GB a c d)) 18446744073709551615=aD .u64 t (HM a c d):=by
 unfold GB HM
 rw [CH ha,pO]
 simp only [iZ,dA]
 have hm:iOr .u64 (iOr .u64 (aM .u64 a c) (aM .u64 c d)) (aM .u64 a d)=al .u64 (al .u64 (aM .u64 a c) (aM .u64 a d)) (aM .u64 c d):=Ao (v:=64) fu fm (by decide) ha hc hd
 rw [hm]
 generalize al .u64 (al .u64 (aM .u64 a c) (aM .u64 a d)) (aM .u64 c d)=A
 generalize (al .u64 (al .u64 (bY a 36) (bY a 30)) (bY a 25))=B
 simp only [Int.add_emod_emod,mz]
theorem V64 (e t:Int):aM .u64 (aD .u64 e t) 18446744073709551615=aD .u64 e t:=by
 rw [pO]
 simp only [iZ,dA,mz]
def vm (z:Int × Int × Int × Int × Int × Int × Int × Int) (y:List Int):Prop :=
 ∃ l k g f e d c a,z=(l,k,g,f,e,d,c,a)∧y=[a,c,d,e,f,g,k,l]∧Wd 64 l∧Wd 64 k∧Wd 64 g∧Wd 64 f∧Wd 64 e∧Wd 64 d∧Wd 64 c∧Wd 64 a
theorem HK (p0:List Int) (k1 j:Nat) (l k g f e d c a:Int):bw p0 k1 j (l,k,g,f,e,d,c,a) =
  (k,g,f,aD .u64 e (EZ (CX.getD (0+j) 0) ((DT p0 k1).getD j 0) l k g f),d,c,a,aD .u64 (EZ (CX.getD (0+j) 0) ((DT p0 k1).getD j 0) l k g f) (HM a c d)):=rfl
theorem GJ (p0:List Int) (k1 j:Nat) (l k g f e d c a:Int):hF p0 k1 j [a,c,d,e,f,g,k,l] =
  [aM .u64 (aD .u64 (EC (aJ .u64 (CX.getD j 0) 0) ((Ds p0 k1).getD j 0) l k g f) (GB a c d)) 18446744073709551615,a,c,d,aM .u64 (aD .u64 e (EC (aJ .u64 (CX.getD j 0) 0) ((Ds p0 k1).getD j 0) l k g f)) 18446744073709551615,f,g,k]:=rfl
theorem DK (j:Nat) (hj:j<80):aJ .u64 (CX.getD j 0) 0=(CX.getD (0+j) 0):=by
 have h:∀ j:Fin 80,aJ .u64 (CX.getD j.val 0) 0=(CX.getD (0+j.val) 0):=by decide +kernel
 exact h ⟨j,hj⟩
theorem FP {p0:List Int} {k1 j:Nat} (hj:j<80) (hW:(Ds p0 k1).getD j 0=(DT p0 k1).getD j 0) {z:Int × Int × Int × Int × Int × Int × Int × Int} {y:List Int} (h:vm z y) :
  vm (bw p0 k1 j z) (hF p0 k1 j y):=by
 obtain ⟨l,k,g,f,e,d,c,a,rfl,rfl,hl,hk,hg,hf,he,hd,hc,ha⟩:=h
 rw [HK,GJ,hW,DK j hj,T64 hl hk hg hf,U64 ha hc hd,V64]
 refine ⟨_,_,_,_,_,_,_,_,rfl,rfl,hk,hg,hf,?_,hd,hc,ha,?_⟩
 ·rw [iZ];exact pI _
 ·rw [iZ];exact pI _
theorem EG {a b n:Nat} (hb:b<256) (hn:n<8) (ha:a<256 ^ n) :
  iOr .u64 (cd .u64 (a:Int) 8) (IntKind.wrap .u64 (b:Int))=((a*256+b:Nat):Int)∧aD .u64 (bJ .u64 (a:Int) 256) (IntKind.wrap .u64 (b:Int))=((a*256+b:Nat):Int)∧a*256+b<256 ^ (n+1):=by
 have h1:a*256+b<256 ^ (n+1):=by
  have:(a+1)*256≤256 ^ n*256:=Nat.mul_le_mul_right _ ha
  rw [Nat.pow_succ]
  omega
 have h2:256 ^ (n+1)≤18446744073709551616:=by
  have:(256:Nat) ^ (n+1)≤256 ^ 8:=Nat.pow_le_pow_right (by decide) hn
  exact this
 have h3:18446744073709551616≤18446744073709551616:=by decide
 refine ⟨?_,?_,h1⟩
 ·rw [show (8:Int)=((8:Nat):Int) from rfl,tR fm (show 8≤64 by decide),vu fm,Nat.mod_eq_of_lt (show b<18446744073709551616 by omega),Nat.mod_eq_of_lt (show a*2 ^ 8<18446744073709551616 by omega),jT fm (by omega) (by omega)]
  congr 1
  rw [Nat.mul_comm a (2 ^ 8),← Nat.two_pow_add_eq_or_of_lt (i:=8) (show b<2 ^ 8 by omega) a]
 ·rw [show (256:Int)=((256:Nat):Int) from rfl,Ew fm,vu fm,xk fm]
  congr 1
  omega
def yL (k:Nat) (c r:List Int):Prop:=c.length=80∧r.length=80∧∀ j,j<80→∃ a:Nat,c.getD j 0=(a:Int)∧r.getD j 0=(a:Int)∧a<256 ^ (min (k-8*j) 8)
theorem KI (j:Nat):([0,0,0,0,0,0,0,0,0,0,0,0,0,0,0,0,0,0,0,0,0,0,0,0,0,0,0,0,0,0,0,0,0,0,0,0,0,0,0,0,0,0,0,0,0,0,0,0,0,0,0,0,0,0,0,0,0,0,0,0,0,0,0,0,0,0,0,0,0,0,0,0,0,0,0,0,0,0,0,0]:List Int).getD j 0=0:=by
 show (List.replicate 80 (0:Int)).getD j 0=0
 rw [List.getD_eq_getElem?_getD,List.getElem?_replicate]
 split <;> rfl
theorem Jx (j:Nat):([0,0,0,0,0,0,0,0,0,0,0,0,0,0,0,0,0,0,0,0,0,0,0,0,0,0,0,0,0,0,0,0,0,0,0,0,0,0,0,0,0,0,0,0,0,0,0,0,0,0,0,0,0,0,0,0,0,0,0,0,0,0,0,0,0,0,0,0,0,0,0,0,0,0,0,0,0,0,0,0]:List Int).getD j 0=0:=by
 show (List.replicate 80 (0:Int)).getD j 0=0
 rw [List.getD_eq_getElem?_getD,List.getElem?_replicate]
 split <;> rfl
def zB (p0:List Int):List Int:=itr (gz p0) 8 (((itr (aq) ((239-p0.length % 128) % 128) (p0.length+1,p0++[128])).2)++(List.replicate 16 0))
theorem Hi {p0:List Int} {k1:Nat} (hT:zB p0=cf p0) (hB:∀ j,DX ((cf p0).getD j 0)) :
  yL 128 (itr (iD p0 k1) 128 [0,0,0,0,0,0,0,0,0,0,0,0,0,0,0,0,0,0,0,0,0,0,0,0,0,0,0,0,0,0,0,0,0,0,0,0,0,0,0,0,0,0,0,0,0,0,0,0,0,0,0,0,0,0,0,0,0,0,0,0,0,0,0,0,0,0,0,0,0,0,0,0,0,0,0,0,0,0,0,0]) (itr (eU p0 k1) 128 [0,0,0,0,0,0,0,0,0,0,0,0,0,0,0,0,0,0,0,0,0,0,0,0,0,0,0,0,0,0,0,0,0,0,0,0,0,0,0,0,0,0,0,0,0,0,0,0,0,0,0,0,0,0,0,0,0,0,0,0,0,0,0,0,0,0,0,0,0,0,0,0,0,0,0,0,0,0,0,0]):=by
 refine ik yL ⟨rfl,rfl,fun j hj=>⟨0,KI j,Jx j,Nat.pow_pos (by decide)⟩⟩ ?_
 rintro k hk c r ⟨h1,h2,h3⟩
 have e1:iD p0 k1 k c=c.set (k/8) (iOr .u64 (cd .u64 (c.getD (k/8) 0) 8) (IntKind.wrap .u64 ((cf p0).getD (128*k1+k) 0))):=by
  unfold iD
  rw [HO,Nat.zero_add]
 have e2:eU p0 k1 k r=r.set (k/8) (aD .u64 (bJ .u64 (r.getD (k/8) 0) 256) (IntKind.wrap .u64 ((cf p0).getD (128*k1+k) 0))):=by
  show r.set (8*k/64) (aD .u64 (bJ .u64 (r.getD (8*k/64) 0) 256) (IntKind.wrap .u64 ((zB p0).getD (128*k1+k) 0)))=_
  rw [hT,show 8*k/64=k/8 by omega]
 rw [e1,e2]
 obtain ⟨b,hb,hb'⟩:=hB (128*k1+k)
 obtain ⟨a,ha1,ha2,ha3⟩:=h3 (k/8) (by omega)
 rw [show min (k-8*(k/8)) 8=k % 8 by omega] at ha3
 obtain ⟨q1,q2,q3⟩:=EG hb' (show k % 8<8 from Nat.mod_lt _ (by decide)) ha3
 rw [ha1,ha2,hb,q1,q2]
 refine ⟨by rw [List.length_set,h1],by rw [List.length_set,h2],fun j hj=>?_⟩
 by_cases hjk:k/8=j
 ·subst hjk
  exact ⟨_,bz (by omega),bz (by omega),by rw [show min (k+1-8*(k/8)) 8=k % 8+1 by omega];exact q3⟩
 ·obtain ⟨x,x1,x2,x3⟩:=h3 j hj
  refine ⟨x,by rw [bP hjk,x1],by rw [bP hjk,x2],Nat.lt_of_lt_of_le x3 (Nat.pow_le_pow_right (by decide) (by omega))⟩
def xd (k:Nat) (c r:List Int):Prop:=c.length=80∧r.length=80∧∀ j,j<k+16→Wd 64 (c.getD j 0)∧r.getD j 0=c.getD j 0
theorem Ec {p0:List Int} {k1:Nat} (hT:zB p0=cf p0) (hB:∀ j,DX ((cf p0).getD j 0)):xd 64 (DT p0 k1) (Ds p0 k1):=by
 obtain ⟨h1,h2,h3⟩:=Hi (k1:=k1) hT hB
 refine ik xd ⟨h1,h2,fun j hj=>?_⟩ ?_
 ·obtain ⟨a,a1,a2,a3⟩:=h3 j (by omega)
  refine ⟨⟨a,a1,Nat.lt_of_lt_of_le a3 ?_⟩,by rw [a1,a2]⟩
  have:(256:Nat) ^ (min (128-8*j) 8)≤256 ^ 8:=Nat.pow_le_pow_right (by decide) (Nat.min_le_right _ _)
  exact this
 ·rintro k hk c r ⟨g1,g2,g3⟩
  obtain ⟨x1,y1⟩:=g3 (k+16-16) (by omega)
  obtain ⟨x2,y2⟩:=g3 (k+16-7) (by omega)
  obtain ⟨x3,y3⟩:=g3 (k+16-15) (by omega)
  obtain ⟨x4,y4⟩:=g3 (k+16-2) (by omega)
  have e:aM .u64 (aD .u64 (aD .u64 (aD .u64 (r.getD (k+16-16) 0) (r.getD (k+16-7) 0)) (bv (r.getD (k+16-15) 0) [1,8,7] true)) (bv (r.getD (k+16-2) 0) [19,61,6] true)) 18446744073709551615 =
    aD .u64 (aD .u64 (aD .u64 (c.getD (k+16-16) 0) (c.getD (k+16-7) 0)) (al .u64 (al .u64 (bY (c.getD (k+16-15) 0) 63) (bY (c.getD (k+16-15) 0) 56)) (aJ .u64 (c.getD (k+16-15) 0) 7))) (al .u64 (al .u64 (bY (c.getD (k+16-2) 0) 45) (bY (c.getD (k+16-2) 0) 3)) (aJ .u64 (c.getD (k+16-2) 0) 6)):=by
   rw [y1,y2,y3,y4,DP x3,Cm x4,pO]
   simp only [iZ,dA]
   generalize (al .u64 (al .u64 (bY (c.getD (k+16-15) 0) 63) (bY (c.getD (k+16-15) 0) 56)) (aJ .u64 (c.getD (k+16-15) 0) 7))=A
   generalize (al .u64 (al .u64 (bY (c.getD (k+16-2) 0) 45) (bY (c.getD (k+16-2) 0) 3)) (aJ .u64 (c.getD (k+16-2) 0) 6))=B
   simp only [Int.emod_add_emod,mz]
  have hw:Wd 64 (aD .u64 (aD .u64 (aD .u64 (c.getD (k+16-16) 0) (c.getD (k+16-7) 0)) (al .u64 (al .u64 (bY (c.getD (k+16-15) 0) 63) (bY (c.getD (k+16-15) 0) 56)) (aJ .u64 (c.getD (k+16-15) 0) 7))) (al .u64 (al .u64 (bY (c.getD (k+16-2) 0) 45) (bY (c.getD (k+16-2) 0) 3)) (aJ .u64 (c.getD (k+16-2) 0) 6))):=by
   rw [iZ];exact pI _
  show xd (k+1) (c.set (k+16) (aD .u64 (aD .u64 (aD .u64 (c.getD (k+16-16) 0) (c.getD (k+16-7) 0)) (al .u64 (al .u64 (bY (c.getD (k+16-15) 0) 63) (bY (c.getD (k+16-15) 0) 56)) (aJ .u64 (c.getD (k+16-15) 0) 7))) (al .u64 (al .u64 (bY (c.getD (k+16-2) 0) 45) (bY (c.getD (k+16-2) 0) 3)) (aJ .u64 (c.getD (k+16-2) 0) 6)))) (r.set (k+16) (aM .u64 (aD .u64 (aD .u64 (aD .u64 (r.getD (k+16-16) 0) (r.getD (k+16-7) 0)) (bv (r.getD (k+16-15) 0) [1,8,7] true)) (bv (r.getD (k+16-2) 0) [19,61,6] true)) 18446744073709551615))
  rw [e]
  refine ⟨by rw [List.length_set,g1],by rw [List.length_set,g2],fun j hj=>?_⟩
  by_cases hjk:k+16=j
  ·subst hjk
   rw [bz (by omega),bz (by omega)]
   exact ⟨hw,rfl⟩
  ·rw [bP hjk,bP hjk]
   exact g3 j (by omega)
def kE (z:List Int):Prop:=z.length=8∧∀ j,j<8→Wd 64 (z.getD j 0)
theorem EE {z:List Int} (h:kE z):vm (z.getD 7 0,z.getD 6 0,z.getD 5 0,z.getD 4 0,z.getD 3 0,z.getD 2 0,z.getD 1 0,z.getD 0 0) z:=by
 obtain ⟨h1,h2⟩:=h
 refine ⟨_,_,_,_,_,_,_,_,rfl,?_,h2 7 (by decide),h2 6 (by decide),h2 5 (by decide),h2 4 (by decide),h2 3 (by decide),h2 2 (by decide),h2 1 (by decide),h2 0 (by decide)⟩
 match z,h1 with
 |[_,_,_,_,_,_,_,_],_=>rfl
theorem FG {p0:List Int} {k1:Nat} (hT:zB p0=cf p0) (hB:∀ j,DX ((cf p0).getD j 0)) {z:List Int} (hz:kE z):jY p0 k1 z=iA p0 k1 z∧kE (jY p0 k1 z):=by
 obtain ⟨w1,w2,w3⟩:=Ec (k1:=k1) hT hB
 have hr:vm (itr (bw p0 k1) 80 (z.getD 7 0,z.getD 6 0,z.getD 5 0,z.getD 4 0,z.getD 3 0,z.getD 2 0,z.getD 1 0,z.getD 0 0)) (itr (hF p0 k1) 80 z) :=
  ik (fun _=>vm) (EE hz) fun j hj a b hab=>FP hj (w3 j (by omega)).2 hab
 obtain ⟨l,k,g,f,e,d,c,a,e1,e2,hl,hk,hg,hf,he,hd,hc,ha⟩:=hr
 have key:(fun (k:Nat) (x y:List Int)=>x=y∧kE x) 8 (itr (pr p0 k1 z) 8 z) (itr (iy p0 k1 z) 8 z):=by
  refine ik (fun (k:Nat) (x y:List Int)=>x=y∧kE x) ⟨rfl,hz⟩ ?_
  rintro j hj x y ⟨rfl,hx1,hx2⟩
  have q1:pr p0 k1 z j x=x.set j (aD .u64 (x.getD j 0) ([a,c,d,e,f,g,k,l].getD j 0)):=by
   unfold pr
   rw [e1]
  have q2:iy p0 k1 z j x=x.set j (aM .u64 (aD .u64 (x.getD j 0) ([a,c,d,e,f,g,k,l].getD j 0)) 18446744073709551615):=by
   unfold iy
   rw [e2]
  rw [q1,q2,V64]
  refine ⟨rfl,by rw [List.length_set,hx1],fun i hi=>?_⟩
  by_cases hij:j=i
  ·subst hij
   rw [bz (by omega),iZ]
   exact pI _
  ·rw [bP hij]
   exact hx2 i hi
 exact key
theorem Ev:((yx.drop 0).take 8)=itr (gI) 8 [7640891576956012808,13503953896175478587,4354685564936845355,11912009170470909681,5840696475078001361,11170449401992604703,2270897969802886507,6620516959819538809]:=by kernel_rfl
theorem zt:kE ((yx.drop 0).take 8):=by
 have h:(List.length ((yx.drop 0).take 8)==8 && (List.range 8).all fun j=>decide (0≤(((yx.drop 0).take 8):List Int).getD j 0) && decide ((((yx.drop 0).take 8):List Int).getD j 0<((2 ^ 64:Nat):Int)))=true:=by kernel_rfl
 rw [Bool.and_eq_true] at h
 refine ⟨eq_of_beq h.1,fun j hj=>?_⟩
 have h2:=List.all_eq_true.1 h.2 j (List.mem_range.2 hj)
 rw [Bool.and_eq_true] at h2
 exact Wd.of (of_decide_eq_true h2.1) (of_decide_eq_true h2.2)
def jx (p0:List Int):Nat × List Int:=itr (aq) ((239-p0.length % 128) % 128) (p0.length+1,p0++[128])
theorem Jz (p0:List Int):(jx p0).2.length=(jx p0).1∧(jx p0).1<p0.length+1+128:=by
 have key:(fun (k:Nat) (a b:Nat × List Int)=>a.2.length=a.1∧a.1=p0.length+1+k) ((239-p0.length % 128) % 128) (jx p0) (itr (fun _ y=>y) ((239-p0.length % 128) % 128) (jx p0)):=by
  refine ik (fun (k:Nat) (a b:Nat × List Int)=>a.2.length=a.1∧a.1=p0.length+1+k) (g:=fun _ y=>y) (y:=jx p0) ⟨by simp,rfl⟩ ?_
  rintro k hk a b ⟨h1,h2⟩
  show (a.2++[0]).length=a.1+1∧a.1+1=_
  exact ⟨by rw [List.length_append,h1];rfl,by omega⟩
 have h:=key.2
 have hm:((239-p0.length % 128) % 128)<128:=Nat.mod_lt _ (by decide)
 exact ⟨key.1,by omega⟩
theorem IW {p0:List Int} (hp:Dig 256 p0):Dig 256 (jx p0).2:=by
 refine ik (fun (k:Nat) (a b:Nat × List Int)=>Dig 256 a.2) (n:=((239-p0.length % 128) % 128)) (y:=(jx p0)) (g:=fun _ y=>y) ?_ ?_
 ·intro x hx
  rcases List.mem_append.1 hx with h|h
  ·exact hp x h
  ·rw [List.mem_singleton.1 h];decide
 ·rintro k hk a b h x hx
  rcases List.mem_append.1 hx with h'|h'
  ·exact h x h'
  ·rw [List.mem_singleton.1 h'];decide
def di (n k:Nat):Int:=IntKind.wrap .u8 (aJ .u64 (bJ .u64 (IntKind.wrap .u64 ((n:Nat):Int)) 8) ((8*k:Nat):Int))
theorem vw (B:List Int) (n:Nat) (hn:B.length=n) (t:List Int) (j:Nat) (x:Int):(B++t).set (n+j) x=B++t.set j x:=by
 subst hn
 rw [List.set_append_right _ _ (by omega)]
 congr 2
 omega
theorem xc {α:Type} (f:Nat→α→α) (x:α):itr f 8 x=f 7 (f 6 (f 5 (f 4 (f 3 (f 2 (f 1 (f 0 x))))))):=by
 simp only [aP,aX]
theorem Ge {p0:List Int} (hl:p0.length≤100000000):zB p0=(jx p0).2++(List.replicate 8 0++[di p0.length 7,di p0.length 6,di p0.length 5,di p0.length 4,di p0.length 3,di p0.length 2,di p0.length 1,di p0.length 0]):=by
 obtain ⟨h1,h2⟩:=Jz p0
 have hs:∀ (k:Nat) (z:List Int),k<8→gz p0 k z=z.set ((jx p0).1+(15-k)) (di p0.length k):=by
  intro k z hk
  show z.set (aT .i64 ((((jx p0).1+16:Nat):Int)-1-((0:Nat):Int)) (k:Int)).toNat _=_
  rw [gY (by omega) (by omega)]
  have:(((((jx p0).1+16:Nat):Int)-1-((0:Nat):Int))-(k:Int)).toNat=(jx p0).1+(15-k):=by omega
  rw [this]
  rfl
 show itr (gz p0) 8 ((jx p0).2++List.replicate 16 0)=_
 rw [xc,hs 0 _ (by decide),hs 1 _ (by decide),hs 2 _ (by decide),hs 3 _ (by decide),hs 4 _ (by decide),hs 5 _ (by decide),hs 6 _ (by decide),hs 7 _ (by decide)]
 simp only [vw _ _ h1]
 rfl
theorem xg (p0:List Int):cf p0=(jx p0).2++(List.replicate 8 0++[di p0.length 7,di p0.length 6,di p0.length 5,di p0.length 4,di p0.length 3,di p0.length 2,di p0.length 1,di p0.length 0]):=by
 unfold cf
 rw [xc]
 show (((((((((jx p0).2++List.replicate 8 0)++[di p0.length 7])++[di p0.length 6])++[di p0.length 5])++[di p0.length 4])++[di p0.length 3])++[di p0.length 2])++[di p0.length 1])++[di p0.length 0]=_
 simp only [List.append_assoc,List.cons_append,List.nil_append]
theorem HA (n k:Nat):0≤di n k∧di n k<256:=by
 unfold di
 rw [dC]
 omega
theorem FO {p0:List Int} (hp:Dig 256 p0):Dig 256 (cf p0):=by
 rw [xg]
 intro x hx
 rcases List.mem_append.1 hx with h|h
 ·exact IW hp x h
 ·rcases List.mem_append.1 h with h|h
  ·rw [List.eq_of_mem_replicate h];decide
  ·simp only [List.mem_cons,List.not_mem_nil,or_false] at h
   rcases h with rfl|rfl|rfl|rfl|rfl|rfl|rfl|rfl <;> exact HA _ _
theorem xS {p0:List Int} (hp:Dig 256 p0) (j:Nat):DX ((cf p0).getD j 0):=by
 obtain ⟨h1,h2⟩:=ak (i:=j) (by decide) (FO hp)
 obtain ⟨a,ha⟩:=Int.eq_ofNat_of_zero_le h1
 exact ⟨a,ha,by rw [ha] at h2;omega⟩
theorem DV (p0:List Int):bF p0=(itr (aq) ((239-p0.length % 128) % 128) (p0.length+1,p0++[128])).1+16:=by
 unfold bF
 rw [xc]
 show (jx p0).1+8+1+1+1+1+1+1+1+1=(jx p0).1+16
 omega
theorem JF {p0:List Int} (hp:Dig 256 p0) (hl:p0.length≤100000000):eP p0=bH p0:=by
 have hT:zB p0=cf p0:=(Ge hl).trans (xg p0).symm
 have hB:=fun j=>xS hp j
 have hH:(fun (k:Nat) (x y:List Int)=>x=y∧kE x) ((bF p0)/128) (itr (jY p0) ((bF p0)/128) ((yx.drop 0).take 8)) (itr (iA p0) ((bF p0)/128) (itr (gI) 8 [7640891576956012808,13503953896175478587,4354685564936845355,11912009170470909681,5840696475078001361,11170449401992604703,2270897969802886507,6620516959819538809])):=by
  refine ik (fun (k:Nat) (x y:List Int)=>x=y∧kE x) ⟨Ev,zt⟩ ?_
  rintro k hk x y ⟨rfl,hx⟩
  exact FG hT hB hx
 obtain ⟨h1,h2,h3⟩:=hH
 have key:(fun (k:Nat) (x:List Int) (y:Nat × List Int)=>x=y.2++List.replicate (64-k) 0∧y.2.length=k) 64 (eP p0) (itr (cS p0) 64 (0,[])):=by
  refine ik (fun (k:Nat) (x:List Int) (y:Nat × List Int)=>x=y.2++List.replicate (64-k) 0∧y.2.length=k) ⟨rfl,rfl⟩ ?_
  rintro k hk x y ⟨rfl,hy⟩
  have hw:=h3 (k/8) (by omega)
  have q1:tw p0 k (y.2++List.replicate (64-k) 0)=(y.2++List.replicate (64-k) 0).set k (IntKind.wrap .u8 (aJ .u64 ((itr (jY p0) ((bF p0)/128) ((yx.drop 0).take 8)).getD (k/8) 0) ((56-(8*(k % 8)):Nat):Int))):=rfl
  have q2:(cS p0 k y).2=y.2++[IntKind.wrap .u8 (aJ .u64 ((itr (jY p0) ((bF p0)/128) ((yx.drop 0).take 8)).getD (k/8) 0) ((56-(8*(k % 8)):Nat):Int))]:=by
   show y.2++[IntKind.wrap .u8 (aJ .u64 ((itr (iA p0) (((itr (aq) ((239-p0.length % 128) % 128) (p0.length+1,p0++[128])).1+16)/128) (itr (gI) 8 [7640891576956012808,13503953896175478587,4354685564936845355,11912009170470909681,5840696475078001361,11170449401992604703,2270897969802886507,6620516959819538809])).getD ((8*k)/64) 0) ((56-((8*k) % 64):Nat):Int))]=_
   rw [← DV,← h1,show (8*k)/64=k/8 by omega,show 56-((8*k) % 64)=56-(8*(k % 8)) by omega,vN .u64 .u64 (show 56-(8*(k % 8))≤64 by omega) (show 56-(8*(k % 8))≤64 by omega) hw]
  refine ⟨?_,by rw [q2,List.length_append,hy];rfl⟩
  rw [q1,q2,show (64-k)=(64-(k+1))+1 by omega,List.replicate_succ]
  have:=vw y.2 k hy (0 :: List.replicate (64-(k+1)) 0) 0 (IntKind.wrap .u8 (aJ .u64 ((itr (jY p0) ((bF p0)/128) ((yx.drop 0).take 8)).getD (k/8) 0) ((56-(8*(k % 8)):Nat):Int)))
  rw [show k+0=k from rfl] at this
  rw [this,List.set_cons_zero,List.append_assoc]
  rfl
 have k1:=key.1
 rw [Nat.sub_self,List.replicate_zero,List.append_nil] at k1
 exact k1
end Go.Vm
namespace Go.Vm
open Go Tabn
theorem Jb (p:List Int):Dig 256 (bH p):=by
 have:∀ k,Dig 256 (itr (cS p) k (0,[])).2:=by
  intro k
  induction k with
  |zero=>rw [aX];exact Dig.nil
  |succ k ih =>
   rw [aP]
   intro z hz
   rcases List.mem_append.1 hz with h|h
   ·exact ih z h
   ·rw [List.mem_singleton.1 h,dC];omega
 exact this _
theorem tj {x y:List Int} (hx:Dig 256 x) (hy:Dig 256 y):Dig 256 (x++y):=fun z hz=>(List.mem_append.1 hz).elim (hx z) (hy z)
theorem eQ {x:List Int} (h:Dig 256 x) (n:Nat):Dig 256 (x.take n):=fun z hz=>h z (List.mem_of_mem_take hz)
theorem DH {x:List Int} (h:Dig 256 x) (n:Nat):Dig 256 (x.drop n):=fun z hz=>h z (List.mem_of_mem_drop hz)
def nN (b:List Int):Nat:=(num 256 b).toNat
theorem Be {b:List Int} (h:Dig 256 b):num 256 b=(nN b:Int):=(Int.toNat_of_nonneg (iC (by decide) h).1).symm
def hsh (p:List Int):List Int:=bH p
theorem mY (p:List Int):(hsh p).length=64:=hI p
theorem dd (p:List Int):Dig 256 (hsh p):=Jb p
theorem AT {p:List Int} (hp:Dig 256 p) (hl:p.length≤100000000):eP p=hsh p:=JF hp hl
def hN (p:List Int):Nat:=nN (hsh p) % L
theorem Gd (a b:List Int):aA (ju [a,b]) (bA [a,b] [a,b].length) 0 (bA [a,b] [a,b].length)=a++b:=by
 rw [aV (wc _)]
 unfold ju
 show (itr (gC [a,b]) 2 (0,[])).2=a++b
 rw [aP,aP,aX]
 show ([]++a)++b=a++b
 rfl
theorem Gr (a b c:List Int):aA (ju [a,b,c]) (bA [a,b,c] [a,b,c].length) 0 (bA [a,b,c] [a,b,c].length)=a++b++c:=by
 rw [aV (wc _)]
 unfold ju
 show (itr (gC [a,b,c]) 3 (0,[])).2=a++b++c
 rw [aP,aP,aP,aX]
 show (([]++a)++b)++c=a++b++c
 rfl
theorem Eh:PE BT rO:=by
 have hy:EF (pj 4 5) yB:=by
  unfold pj
  refine (eC (f:=4) (g:=finv 5) ⟨4,iX (by decide),by decide⟩ (qI (f:=5) ⟨5,iX (by decide),by decide⟩)).to BB
 unfold rO
 have hb:F33 (pj 4 5)=dF BT:=by rw [hy.bytes];unfold dF;rw [vd]
 rw [hb,aV (cX BT)]
 rcases Gk (kZ BT) with ⟨_,p,h1,h2⟩|⟨_,h⟩
 ·rw [pk h1]
  rw [← pk h1] at h2 ⊢
  exact h2
 ·exact absurd rfl (h BT)
theorem De:PR BT tE:=by
 have hy:RF (aE (ab 4) (F28 (ab 5))) yB:=by
  unfold aE ab
  refine (dh (f:=4) (g:=finv 5) ⟨4,ii (by decide),by decide⟩ (pq (f:=5) ⟨5,ii (by decide),by decide⟩)).to BB
 unfold tE
 have hb:F49 (aE (ab 4) (F28 (ab 5)))=dF BT:=by rw [hy.bytes];unfold dF;rw [vd]
 rw [hb,aV (cX BT)]
 rcases Hj (kZ BT) with ⟨_,p,h1,h2⟩|⟨_,h⟩
 ·rw [← pk h1] at h2
  exact h2
 ·exact absurd rfl (h BT)
def ts (seed:List Int):Nat:=qh ((hsh seed).take 32)
def rN (seed msg:List Int):Nat:=hN ((hsh seed).drop 32++msg)
def gq (seed:List Int):Pt CT:=Pt.mul (ts seed) BT
def rP (seed msg:List Int):Pt CT:=Pt.mul (rN seed msg) BT
def kN (seed msg:List Int):Nat:=hN (dF (rP seed msg)++dF (gq seed)++msg)
def sN (seed msg:List Int):Nat:=(kN seed msg*ts seed+rN seed msg) % L
def kS (seed msg:List Int):List Int:=dF (rP seed msg)++bK 256 32 (sN seed msg:Int)
theorem sY (p:List Int):((hsh p).drop 0).take 32=(hsh p).take 32:=by rw [List.drop_zero]
theorem mw (p:List Int):((hsh p).take 32).length=32:=by rw [List.length_take,mY];rfl
theorem sV (p:List Int):((hsh p).drop 32).length=32:=by rw [List.length_drop,mY]
theorem sL (p:List Int):aA (F43 ((hsh p).take 32)) 32 0 32=iv ((hsh p).take 32):=by
 rw [Du (eQ (dd p) 32),aV (by rw [mc,mw])]
theorem xy {n:List Int} {N:Nat} (hn:Dig 256 n) (h:num 256 n=(N:Int)):gh (pA rO n)=dF (Pt.mul N BT):=FH (ES Eh hn h)
theorem ur {n:List Int} {N:Nat} (hn:Dig 256 n) (h:num 256 n=(N:Int)):lr (vF n tE)=dF (Pt.mul N BT):=FE (DR De hn h)
theorem JS {p0:List Int} (h0:Dig 256 p0) (hl:p0.length=32):ee p0=dF (gq p0):=by
 have e:((((p0.length:Nat):Int):Int) != 32)=false:=by rw [hl];rfl
 unfold ee
 rw [e,aB,AT h0 (by omega),sY,sL]
 exact xy (gO (eQ (dd p0) 32)) (jH (eQ (dd p0) 32))
theorem wk (p:List Int):aA (F44 (aA (bH p) 64 0 32)) 32 0 32=iv ((hsh p).take 32):=by
 have e1:aA (bH p) 64 0 32=(hsh p).take 32:=by rw [fi (hI p),List.drop_zero];rfl
 rw [e1,xj (eQ (dd p) 32),aV (by rw [mc,mw])]
theorem Fh {p0:List Int}:qS p0=dF (gq p0):=by
 unfold qS
 have e2:(aA (bH p0) 64 0 32).length=32:=kH p0 0 (by decide)
 rw [e2,wk]
 exact ur (gO (eQ (dd p0) 32)) (jH (eQ (dd p0) 32))
theorem vt {x:List Int} (hx:Dig 256 x) (hl:x.length≤100000000):Sc4 (jv (aA (eP x) 64 0 64)) (hN x):=by
 rw [AT hx hl,aV (mY x)]
 exact qz (dd x) (Be (dd x))
theorem vW (x:List Int):hN x<L:=Nat.mod_lt _ sb
theorem Jo:L<2 ^ 256:=Fm
theorem lA {V:Nat} (h:V<L):num 256 (bK 256 32 (V:Int))=(V:Int):=Ff (Nat.lt_trans h Jo)
theorem wD (V:Nat):Dig 256 (bK 256 32 (V:Int)):=cW (by decide) _ _
theorem oF (p:List Int):aA (hsh p) 64 32 32=(hsh p).drop 32:=by
 rw [fi (mY p),List.take_of_length_le (by rw [sV];exact Nat.le_refl _)]
theorem Il {p0 p1:List Int} (h0:Dig 256 p0) (hl:p0.length=32) (h1:Dig 256 p1) (hl1:p1.length≤10000):nt p0 p1=kS p0 p1:=by
 have e9:(((FT9 p0):Int) != 0)=false:=by rw [(tF hl).1];rfl
 unfold nt we xV wm pS xN eZ xO lq
 rw [e9,aB,Gd,Gr,JS h0 hl,(tF hl).2,aV (cX _),AT h0 (by omega),oF,sY,sL]
 have dpre:Dig 256 ((hsh p0).drop 32++p1):=tj (DH (dd p0) 32) h1
 have lpre:((hsh p0).drop 32++p1).length≤100000000:=by rw [List.length_append,sV];omega
 have hr:=vt dpre lpre
 rw [tZ hr,aV (aa _ _ _),xy (wD _) (lA (vW _))]
 have dk:Dig 256 (aA (dF (rP p0 p1)) 32 0 32++dF (gq p0)++p1):=by
  rw [aV (cX _)]
  exact tj (tj (kZ _) (kZ _)) h1
 have lk:(aA (dF (rP p0 p1)) 32 0 32++dF (gq p0)++p1).length≤100000000:=by
  rw [aV (cX _),List.length_append,List.length_append,cX,cX];omega
 have hk:=vt dk lk
 rw [aV (cX _)] at hk
 have hs:=qz (gO (eQ (dd p0) 32)) (jH (eQ (dd p0) 32))
 have hm:=Jn hk hs (vW _)
 have hp:=As hm hr (Nat.mod_lt _ sb) (vW _)
 show dF (rP p0 p1)++iu (pd (Bb (jv (aA (eP (aA (dF (rP p0 p1)) 32 0 32++dF (gq p0)++p1)) 64 0 64)) _) _)=_
 rw [aV (cX (rP p0 p1))]
 rw [tZ hp]
 unfold kS
 congr 2
 unfold sN
 congr 1
 show (qh ((hsh p0).take 32) % L*hN (dF (rP p0 p1)++dF (gq p0)++p1) % L+hN ((hsh p0).drop 32++p1)) % L=(kN p0 p1*ts p0+rN p0 p1) % L
 rw [Nat.mod_add_mod,Nat.add_mod,Nat.mul_mod,Nat.mod_mod,← Nat.mul_mod,← Nat.add_mod,Nat.mul_comm]
 rfl
end Go.Vm
namespace Go.Vm
open Go Tabn
theorem BS {a b c:List Int}:rJ a b c=bK 256 32 (hN (a++b++c):Int):=by
 unfold rJ
 rw [aV (xs:=a++b++c) (by rw [List.length_append,List.length_append])]
 show uf (aA (hsh (a++b++c)) 64 0 64)=_
 rw [aV (mY _)]
 exact FZ (dd _) (Be (dd _))
def ob (K S:List Int) (i j:Nat) (z:List Int):List Int :=
 z.set (i+j) (aD .i64 (z.getD (i+j) 0) (bJ .i64 (IntKind.wrap .i64 (K.getD i 0)) (IntKind.wrap .i64 (S.getD j 0))))
def mg (K S R:List Int) (i:Nat) (z:List Int):List Int :=
 itr (ob K S i) 32 (z.set i (aD .i64 (z.getD i 0) (IntKind.wrap .i64 (R.getD i 0))))
theorem BJ {a b:Int} (ha:0≤a∧a<256) (hb:0≤b∧b<256):0≤a*b∧a*b≤65025:=by
 refine ⟨Int.mul_nonneg ha.1 hb.1,?_⟩
 have:=Int.mul_le_mul (show a≤255 by omega) (show b≤255 by omega) hb.1 (by decide)
 omega
def Wb (M:Int) (z:List Int):Prop:=∀ t,0≤z.getD t 0∧z.getD t 0≤M
theorem Wb.set {M M':Int} {z:List Int} {i:Nat} {v:Int} (h:Wb M z) (hm:M≤M') (hv:0≤v∧v≤M'):Wb M' (z.set i v):=by
 intro t
 by_cases hi:i<z.length
 ·by_cases e:t=i
  ·subst e;rw [bz hi];exact hv
  ·rw [bP (by omega)];have:=h t;omega
 ·rw [List.set_eq_of_length_le (by omega)];have:=h t;omega
theorem xI {K S:List Int} (hK:Dig 256 K) (hS:Dig 256 S) {i:Nat} (hi:i<32) {z:List Int} {M:Int} (hM:0≤M∧M≤1000000000) (hz:Wb M z) (hl:z.length=66) :
  ∀ j,j≤32→(itr (ob K S i) j z).length=66∧Wb (M+j*65025) (itr (ob K S i) j z)∧num 256 (itr (ob K S i) j z)=num 256 z+K.getD i 0*256 ^ i*num 256 (S.take j):=by
 intro j
 induction j with
 |zero =>
  intro _
  rw [aX]
  refine ⟨hl,fun t=>?_,?_⟩
  ·have:=hz t;omega
  ·show _=num 256 z+K.getD i 0*256 ^ i*0
   rw [Int.mul_zero,Int.add_zero]
 |succ j ih =>
  intro hj
  obtain ⟨h1,h2,h3⟩:=ih (by omega)
  rw [aP]
  generalize itr (ob K S i) j z=y at *
  unfold ob
  have hk:0≤K.getD i 0∧K.getD i 0<256:=ak (by decide) hK
  have hs:0≤S.getD j 0∧S.getD j 0<256:=ak (by decide) hS
  have hy:=h2 (i+j)
  have hm:=BJ hk hs
  rw [ei hk,ei hs]
  have e1:bJ .i64 (K.getD i 0) (S.getD j 0)=K.getD i 0*S.getD j 0:=by unfold bJ;exact bn (by omega) (by omega)
  have e2:aD .i64 (y.getD (i+j) 0) (K.getD i 0*S.getD j 0)=y.getD (i+j) 0+K.getD i 0*S.getD j 0:=cY (by omega) (by omega)
  rw [e1,e2]
  refine ⟨by rw [List.length_set,h1],h2.set (by omega) (by omega),?_⟩
  rw [ew (by omega),h3,du,Int.pow_add]
  generalize (256:Int) ^ i=X
  generalize (256:Int) ^ j=Y
  generalize K.getD i 0=k
  generalize S.getD j 0=s
  generalize num 256 (S.take j)=n
  generalize y.getD (i+j) 0=o
  generalize num 256 z=m
  grind -lia -linarith
theorem xZ {K S R:List Int} (hK:Dig 256 K) (hS:Dig 256 S) (hR:Dig 256 R) (lS:S.length=32) :
  ∀ i,i≤32→(itr (mg K S R) i (List.replicate 66 0)).length=66∧Wb (i*3000000) (itr (mg K S R) i (List.replicate 66 0))∧num 256 (itr (mg K S R) i (List.replicate 66 0))=num 256 (R.take i)+num 256 (K.take i)*num 256 S:=by
 intro i
 induction i with
 |zero =>
  intro _
  rw [aX]
  refine ⟨by simp,fun t=>?_,?_⟩
  ·rw [wF];omega
  ·rw [gu]
   show 0=0+0*num 256 S
   rw [Int.zero_mul];rfl
 |succ i ih =>
  intro hi
  obtain ⟨h1,h2,h3⟩:=ih (by omega)
  rw [aP]
  generalize itr (mg K S R) i (List.replicate 66 0)=y at *
  unfold mg
  have hr:0≤R.getD i 0∧R.getD i 0<256:=ak (by decide) hR
  have hy:=h2 i
  rw [ei hr]
  have e2:aD .i64 (y.getD i 0) (R.getD i 0)=y.getD i 0+R.getD i 0:=cY (by omega) (by omega)
  rw [e2]
  have hw:Wb (i*3000000+255) (y.set i (y.getD i 0+R.getD i 0)):=h2.set (by omega) (by omega)
  obtain ⟨g1,g2,g3⟩:=xI hK hS (show i<32 by omega) (by omega) hw (by rw [List.length_set,h1]) 32 (Nat.le_refl _)
  refine ⟨g1,fun t=>?_,?_⟩
  ·have:=g2 t;omega
  ·rw [g3,ew (by omega),h3,List.take_of_length_le (by omega:S.length≤32),du,du]
   generalize (256:Int) ^ i=X
   generalize K.getD i 0=k
   generalize R.getD i 0=r
   generalize num 256 S=s
   generalize num 256 (K.take i)=n
   generalize num 256 (R.take i)=m
   generalize y.getD i 0=o
   grind -lia -linarith
def lg (w:List Int) (k2:Nat) (z2:Int × List Int):Int × List Int :=
 ((fc .i64 (aD .i64 z2.1 (w.getD k2 0)) 256),z2.2.set k2 (IntKind.wrap .u8 (bL (aD .i64 z2.1 (w.getD k2 0)) 256)))
theorem zg {w:List Int} (hl:w.length=66) (hw:Wb 96000000 w) {T:Nat} (hT:num 256 w=(T:Int)) (hX:(T:Int)<256 ^ 66) :
  ((itr (lg w) 66 (0,List.replicate 66 0)).2).length=66∧Dig 256 (itr (lg w) 66 (0,List.replicate 66 0)).2∧num 256 (itr (lg w) 66 (0,List.replicate 66 0)).2=(T:Int):=by
 obtain ⟨c,d,e,h1,h2,h3,h4⟩:=nH (f:=lg w) (W:=fun k=>w.getD k 0) (sg:=1) (p:=List.replicate 66 0) (n:=66) (C:=fun c=>0≤c∧c≤96000000) (by simp) (by
  intro k c d hk hld hg hc
  have hx:=hw k
  unfold lg
  simp only
  generalize w.getD k 0=x at *
  have e2:aD .i64 c x=c+x:=cY (by omega) (by omega)
  have e3:fc .i64 (c+x) 256=(c+x)/256:=by
   unfold fc
   rw [Int.tdiv_eq_ediv_of_nonneg (by omega),bn (by omega) (by omega)]
  have e4:IntKind.wrap .u8 (bL (c+x) 256)=(c+x) % 256:=by
   unfold bL
   rw [Int.tmod_eq_emod_of_nonneg (by omega),dC]
   exact Int.emod_emod_of_dvd _ (Int.dvd_refl _)
  rw [e2,e3,e4]
  exact ⟨(c+x)/256,(c+x) % 256,rfl,by omega,by omega,by omega⟩) (c0:=0) (by decide)
 rw [ge hl,hT] at h4
 have hb1:=(iC (B:=256) (by decide) h3).1
 generalize (256:Int) ^ 66=X at *
 have hc0:c=0:=by
  by_cases h:c=0
  ·exact h
  ·exfalso
   have:X*1≤X*c:=Int.mul_le_mul_of_nonneg_left (by omega) (by omega)
   rw [Int.one_mul] at h4
   omega
 subst hc0
 rw [e]
 exact ⟨h1,h3,by simpa using h4⟩
theorem oX (v:Int):(bK 256 32 v).take 32=bK 256 32 v:=List.take_of_length_le (by rw [aa];exact Nat.le_refl _)
theorem BD (a b:List Int):rN a b<L:=vW _
theorem Fn (a b:List Int):kN a b<L:=vW _
theorem EH (x y:List Int):x++y++[]=x++y:=List.append_nil _
theorem ID {p0 p1:List Int} (h1:Dig 256 p1):Eo p0 p1=kS p0 p1:=by
 have eR:rJ (aA (bH p0) 64 32 32) p1 ([]:List Int)=bK 256 32 (rN p0 p1:Int):=by
  rw [BS]
  show bK 256 32 (hN (aA (hsh p0) 64 32 32++p1++[]):Int)=_
  rw [oF,EH]
  rfl
 have eO:lr (vF (aA (rJ (aA (bH p0) 64 32 32) p1 ([]:List Int)) 32 0 32) tE)=dF (rP p0 p1):=by
  rw [eR,aV (aa _ _ _)]
  exact ur (wD _) (lA (BD p0 p1))
 have eK:rJ (aA (lr (vF (aA (rJ (aA (bH p0) 64 32 32) p1 ([]:List Int)) 32 0 32) tE)) 32 0 32) (aA (qS p0) 32 0 32) p1=bK 256 32 (kN p0 p1:Int):=by
  rw [eO,aV (cX _),Fh,aV (cX _),BS]
  rfl
 have eS:F44 (aA (bH p0) 64 0 32)=iv ((hsh p0).take 32):=by
  have e1:aA (bH p0) 64 0 32=(hsh p0).take 32:=by rw [fi (hI p0),List.drop_zero];rfl
  rw [e1,xj (eQ (dd p0) 32)]
 have dS:=gO (eQ (dd p0) 32)
 have lS:(iv ((hsh p0).take 32)).length=32:=by rw [mc,mw]
 have h0:tH p0 p1=mg (bK 256 32 (kN p0 p1:Int)) (iv ((hsh p0).take 32)) (bK 256 32 (rN p0 p1:Int)):=by
  funext i z
  unfold tH wq jj mg
  have e1:uJ p0 p1 i=ob (bK 256 32 (kN p0 p1:Int)) (iv ((hsh p0).take 32)) i:=by
   funext j y
   unfold uJ tc mE jj ob
   rw [eK,eS]
  rw [e1,eR]
 obtain ⟨w1,w2,w3⟩:=xZ (wD (kN p0 p1)) dS (wD (rN p0 p1)) lS 32 (Nat.le_refl _)
 rw [oX,oX,lA (BD p0 p1),lA (Fn p0 p1),jH (eQ (dd p0) 32)] at w3
 have hT:num 256 (itr (mg (bK 256 32 (kN p0 p1:Int)) (iv ((hsh p0).take 32)) (bK 256 32 (rN p0 p1:Int))) 32 (List.replicate 66 0))=((rN p0 p1+kN p0 p1*ts p0:Nat):Int):=by
  rw [w3,Int.natCast_add,Int.natCast_mul]
  rfl
 have hlt:((rN p0 p1+kN p0 p1*ts p0:Nat):Int)<256 ^ 66:=by
  have a1:kN p0 p1<256 ^ 32:=Nat.lt_trans (Fn p0 p1) (by decide)
  have a2:ts p0<256 ^ 32:=Nat.lt_trans (BV (eQ (dd p0) 32) (mw p0)).2.2 (by decide)
  have a3:rN p0 p1<256 ^ 32:=Nat.lt_trans (BD p0 p1) (by decide)
  have a4:kN p0 p1*ts p0≤256 ^ 32*256 ^ 32:=Nat.mul_le_mul (Nat.le_of_lt a1) (Nat.le_of_lt a2)
  have a5:(256:Nat) ^ 66=256 ^ 32*256 ^ 32*65536:=by rw [← Nat.pow_add,show 65536=256 ^ 2 from rfl,← Nat.pow_add]
  have a6:0<(256:Nat) ^ 32:=Nat.pow_pos (by decide)
  have a7:(256:Nat) ^ 32*1≤256 ^ 32*256 ^ 32:=Nat.mul_le_mul (Nat.le_refl _) a6
  have a8:rN p0 p1+kN p0 p1*ts p0<256 ^ 66:=by
   rw [a5]
   generalize (256:Nat) ^ 32*256 ^ 32=X at *
   generalize (256:Nat) ^ 32=Y at *
   generalize kN p0 p1*ts p0=m at *
   omega
  have a9:(((256:Nat) ^ 66:Nat):Int)=256 ^ 66:=Int.natCast_pow 256 66
  rw [← a9]
  exact Int.ofNat_lt.2 a8
 have hc:sp p0 p1=lg (itr (mg (bK 256 32 (kN p0 p1:Int)) (iv ((hsh p0).take 32)) (bK 256 32 (rN p0 p1:Int))) 32 (List.replicate 66 0)):=by
  funext k z
  unfold sp mD lg
  rw [h0]
 obtain ⟨c1,c2,c3⟩:=zg w1 (fun t=>by have:=w2 t;omega) hT hlt
 unfold Eo xU tJ mE jj
 rw [eO,hc,aV c1,FZ c2 c3]
 unfold kS sN
 rw [Nat.add_comm]
end Go.Vm
namespace Go.Vm
open Go
theorem IM:oV=true:=by kernel_rfl
theorem CJ (s:ByteArray) (h:s.size<4294967296):cK s=tx s []:=by
 unfold cK tx
 rw [rG s h,ai,List.append_nil]
theorem iM (s:ByteArray) (h:s.size<4294967296):aA (cK s) (4+s.size) 0 (4+s.size)=tx s []:=by rw [aV (uE s),CJ s h]
theorem qb (x:Int):aA [x] 1 0 1=[x]:=rfl
theorem vE (u m:ByteArray) (hu:u.size≤100000) (hm:m.size≤100000):cl u m=50 :: tx u (tx gQ (tx m []))∧aS u m=(50 :: tx u (tx gQ (tx m []))).length:=by
 have e:[aA [50] 1 0 1,aA (cK u) (4+u.size) 0 (4+u.size),aA (fB) (4+gQ.size) 0 (4+gQ.size),aA (cK m) (4+m.size) 0 (4+m.size)].flatten=50 :: tx u (tx gQ (tx m [])):=by
  unfold fB
  rw [qb,iM u (by omega),iM gQ (by decide),iM m (by omega)]
  simp only [List.flatten_cons,List.flatten_nil,it,List.append_assoc,List.cons_append,List.nil_append,List.append_nil]
 constructor
 ·unfold cl kv;rw [sv];exact e
 ·unfold aS;rw [xn];exact congrArg List.length e
theorem qk (u m:ByteArray) (hu:u.size≤100000) (hm:m.size≤100000):aA (cl u m) (aS u m) 0 (aS u m)=50 :: tx u (tx gQ (tx m [])):=by
 obtain ⟨h1,h2⟩:=vE u m hu hm
 rw [h1,h2,aV rfl]
theorem EA (u p:ByteArray) (hu:u.size≤100000) (hp:p.size≤100000):cq u p=50 :: tx u (tx gQ (tx sPw (0 :: tx p []))):=by
 unfold cq gm jk
 rw [wt _ _ _ (by omega),wf,mV _ _ hu (by decide)]
 simp only [it,List.append_assoc,List.cons_append,List.nil_append]
 rfl
theorem GI (u m:ByteArray):aI u m=1+4+u.size+4+gQ.size+4+m.size:=rfl
theorem DM (u p:ByteArray) (hu:u.size≤100000) (hp:p.size≤100000):dY u p=50 :: tx u (tx gQ (tx sPw (0 :: tx p [])))∧am u p=(50 :: tx u (tx gQ (tx sPw (0 :: tx p [])))).length:=by
 have e:[aA (cl u sPw) (aS u sPw) 0 (aS u sPw),aA [0] 1 0 1,aA (cK p) (4+p.size) 0 (4+p.size)].flatten=50 :: tx u (tx gQ (tx sPw (0 :: tx p []))):=by
  rw [qb,qk u sPw hu (by decide),iM p (by omega)]
  simp only [List.flatten_cons,List.flatten_nil,it,List.append_assoc,List.cons_append,List.nil_append,List.append_nil]
 constructor
 ·unfold dY ip;rw [sv];exact e
 ·unfold am;rw [xn];exact congrArg List.length e
theorem pK (u b:ByteArray) (c:Int) (hu:u.size≤100000) (hb:b.size≤100000):fS u b c=50 :: tx u (tx gQ (tx sPk (c :: tx sEd (tx b []))))∧aY u b c=(50 :: tx u (tx gQ (tx sPk (c :: tx sEd (tx b []))))).length:=by
 have e:[aA (fh u) (aS u sPk) 0 (aS u sPk),aA [c] 1 0 1,aA (fj) (4+sEd.size) 0 (4+sEd.size),aA (cK b) (4+b.size) 0 (4+b.size)].flatten=50 :: tx u (tx gQ (tx sPk (c :: tx sEd (tx b [])))):=by
  unfold fh fj
  rw [qb,qk u sPk hu (by decide),iM sEd (by decide),iM b (by omega)]
  simp only [List.flatten_cons,List.flatten_nil,it,List.append_assoc,List.cons_append,List.nil_append,List.append_nil]
 constructor
 ·unfold fS mZ;rw [sv];exact e
 ·unfold aY;rw [xn];exact congrArg List.length e
theorem zF (u b:ByteArray) (c:Int) (hu:u.size≤100000) (hb:b.size≤100000):aA (fS u b c) (aY u b c) 0 (aY u b c)=50 :: tx u (tx gQ (tx sPk (c :: tx sEd (tx b [])))):=by
 obtain ⟨h1,h2⟩:=pK u b c hu hb
 rw [h1,h2,aV rfl]
def fJ (s:List Int) (u b:ByteArray):List Int:=tx (bytesOf s) (50 :: tx u (tx gQ (tx sPk (1 :: tx sEd (tx b [])))))
theorem wtn (s:ByteArray) (h:s.size<4294967296):el s=tx s []:=by rw [mp s h];unfold tx;rw [ai,List.append_nil]
theorem zK (s:List Int) (u b:ByteArray) (hs:s.length≤100000) (hu:u.size≤100000) (hb:b.size≤100000):fQ s u b=fJ s u b:=by
 have hz:(bytesOf s).size=s.length:=ag s
 unfold fQ jU lh mF jg
 rw [wt _ _ _ (by omega),wt _ _ _ (by decide),wf,wtn _ (by omega),aV (jA u sPk),mV u sPk hu (by decide)]
 unfold fJ
 simp only [it,List.append_assoc,List.cons_append,List.nil_append]
 rfl
theorem si (s:List Int) (u b:ByteArray):Dg (fJ s u b):=sf (Bp (by decide) (sf (sf (sf (Bp (by decide) (sf (sf GU)))))))
theorem xG (s:List Int) (u b:ByteArray):(fJ s u b).length=s.length+u.size+b.size+60:=by
 unfold fJ
 simp only [uL,List.length_cons,List.length_nil,ag]
 have e1:gQ.size=14:=rfl
 have e2:sPk.size=9:=rfl
 have e3:sEd.size=11:=rfl
 omega
theorem lV {p:ByteArray}:aA (aF p) p.size 0 p.size=aF p:=aV (ai p)
theorem tA {p2:ByteArray} (h32:p2.size=32):(aF p2).length=32:=by rw [ai,h32]
theorem wE {p2:ByteArray} (h32:p2.size=32):bg p2=cA (bytesOf (dF (gq (aF p2))))∧aZ p2=cA (bytesOf (dF (gq (aF p2)))):=by
 have k:=tA h32
 have t:∀ x:List Int,x.length=32→(x.drop 0).take 32=x:=fun x hx=>by rw [List.drop_zero,List.take_of_length_le (by omega)]
 have hsz:(bytesOf (dF (gq (aF p2)))).size≤1000:=by rw [ag,cX];decide
 constructor
 ·unfold bg
  rw [lV,(tF k).2,JS (nu p2) k,t _ (cX _)]
 ·unfold aZ
  rw [lV,Fh,t _ (cX _),jG _ hsz]
theorem yV (p2:ByteArray):(cA (bytesOf (dF (gq (aF p2))))).size≤51:=Nat.le_trans (jn _) (by rw [ag,cX];decide)
def ja (p0:List Int) (p1 p2:ByteArray):List Int:=50 :: tx p1 (tx gQ (tx sPk (1 :: tx sEd (tx (cA (bytesOf (dF (gq (aF p2))))) (tx (cA (bytesOf (kS (aF p2) (fJ p0 p1 (cA (bytesOf (dF (gq (aF p2)))))))))  [])))))
theorem jQ (a b:List Int):(kS a b).length=64:=by unfold kS;rw [List.length_append,cX,aa]
theorem Gi (a b:List Int):Dg (kS a b):=wX (kZ _) (wD _)
theorem BN {p0:List Int} {p1 p2:ByteArray} (hl:p0.length+p1.size+p2.size≤1000) (h32:p2.size=32):fA p0 p1 p2=ja p0 p1 p2∧cU p0 p1 p2=(ja p0 p1 p2).length∧fR p2=0:=by
 have k:=tA h32
 have hz:=yV p2
 obtain ⟨e0,_⟩:=wE h32
 have e9:FT9 (aF p2)=0:=(tF k).1
 have c0:(((0:Int)) != 0)=false:=rfl
 have v1:gt p0 p1 p2=kS (aF p2) (fJ p0 p1 (cA (bytesOf (dF (gq (aF p2)))))):=by
  unfold gt
  rw [lV,e0,aV (mG _ _ _),zK _ _ _ (by omega) (by omega) (by omega)]
  exact Il (nu p2) k (si _ _ _) (by rw [xG];omega)
 have v6:fb p0 p1 p2=cA (bytesOf (kS (aF p2) (fJ p0 p1 (cA (bytesOf (dF (gq (aF p2)))))))):=by
  unfold fb
  rw [v1,lV,e9,c0,aB,aV (jQ _ _),HW _ (Gi _ _) (jQ _ _)]
  exact (jG _ (by rw [ag,jQ];decide)).symm
 have hs:(cA (bytesOf (kS (aF p2) (fJ p0 p1 (cA (bytesOf (dF (gq (aF p2))))))))).size≤83:=Nat.le_trans (jn _) (by rw [ag,jQ];decide)
 have v7:kq p0 p1 p2=ja p0 p1 p2:=by
  unfold kq nh sj sk ru
  rw [v6,e0,wt _ _ _ (by omega),wt _ _ _ (by omega),wt _ _ _ (by decide),wf,mV _ _ (by omega) (by decide)]
  unfold ja
  simp only [it,List.append_assoc,List.cons_append,List.nil_append]
  rfl
 refine ⟨?_,?_,?_⟩
 ·unfold fA;rw [lV,e9,c0,aB,v7]
 ·unfold cU;rw [lV,e9,c0,aB,v6,e0,GI];unfold ja
  simp only [uL,List.length_cons,List.length_nil]
  have e1:gQ.size=14:=rfl
  have e2:sPk.size=9:=rfl
  have e3:sEd.size=11:=rfl
  have e4:(⟨#[112,117,98,108,105,99,107,101,121]⟩:ByteArray).size=9:=rfl
  have e5:(⟨#[115,115,104,45,101,100,50,53,53,49,57]⟩:ByteArray).size=11:=rfl
  omega
 ·unfold fR;rw [lV,e9,c0,aB]
theorem zZ {p0:List Int} {p1 p2:ByteArray} (hl:p0.length+p1.size+p2.size≤1000) (h32:p2.size=32):jI p0 p1 p2=ja p0 p1 p2∧et p0 p1 p2=(ja p0 p1 p2).length:=by
 have k:=tA h32
 have hz:=yV p2
 obtain ⟨_,e0⟩:=wE h32
 have hb:(bytesOf p0).size=p0.length:=ag p0
 have m0:aA (cK (bytesOf p0)++aA (fS p1 (aZ p2) 1) (aY p1 (aZ p2) 1) 0 (aY p1 (aZ p2) 1)) ((4+(bytesOf p0).size)+aY p1 (aZ p2) 1) 0 ((4+(bytesOf p0).size)+aY p1 (aZ p2) 1)=fJ p0 p1 (cA (bytesOf (dF (gq (aF p2))))):=by
  rw [e0,zF _ _ _ (by omega) (by omega),(pK _ _ _ (by omega) (by omega)).2,CJ _ (by omega),aV (by rw [List.length_append,uL];rfl),it]
  rfl
 have v1:ba p0 p1 p2=kS (aF p2) (fJ p0 p1 (cA (bytesOf (dF (gq (aF p2)))))):=by
  unfold ba
  rw [m0,lV]
  exact ID (si _ _ _)
 have t64:((kS (aF p2) (fJ p0 p1 (cA (bytesOf (dF (gq (aF p2))))))).drop 0).take 64=kS (aF p2) (fJ p0 p1 (cA (bytesOf (dF (gq (aF p2)))))):=by rw [List.drop_zero,List.take_of_length_le (by rw [jQ];decide)]
 have hbs:az (bytesOf (kS (aF p2) (fJ p0 p1 (cA (bytesOf (dF (gq (aF p2))))))))=cA (bytesOf (kS (aF p2) (fJ p0 p1 (cA (bytesOf (dF (gq (aF p2)))))))):=(jG _ (by rw [ag,jQ];decide)).symm
 have hs:(cA (bytesOf (kS (aF p2) (fJ p0 p1 (cA (bytesOf (dF (gq (aF p2))))))))).size≤83:=Nat.le_trans (jn _) (by rw [ag,jQ];decide)
 obtain ⟨q1,q2⟩:=pK p1 (cA (bytesOf (dF (gq (aF p2))))) 1 (by omega) (by omega)
 constructor
 ·unfold jI
  rw [v1,t64,hbs,e0,q1,iM _ (by omega)]
  unfold ja
  simp only [it,List.cons_append,List.nil_append]
 ·unfold et
  rw [v1,t64,hbs,e0,q2]
  unfold ja
  simp only [uL,List.length_cons,List.length_nil]
  omega
theorem GY (u p:ByteArray):aG u p=(cq u p).length:=by
 unfold cq gm jk aG
 rw [fY,nS,jA]
theorem oM (x:List Int) {n:Nat} (h:n=x.length):bytesOf ((x.drop 0).take n)=bytesOf x:=by rw [CR h]
theorem writes_true {p0:List Int} {p1 p2:ByteArray}:bl p0 p1 p2=true:=by
 unfold bl
 rw [IM,Bool.not_true,aB]
 cases hb:decide (((((p0.length+p1.size)+p2.size:Nat):Int):Int)>1000)
 case true=>rw [aC]
 have hl:p0.length+p1.size+p2.size≤1000:=by have:=of_decide_eq_false hb;omega
 rw [aB]
 have t1:bytesOf (((cq p1 p2).drop 0).take (aG p1 p2))=bytesOf (((dY p1 p2).drop 0).take (am p1 p2)):=by
  obtain ⟨q1,q2⟩:=DM p1 p2 (by omega) (by omega)
  rw [oM (cq p1 p2) (GY p1 p2),oM (dY p1 p2) (by rw [q1,q2]),q1,EA _ _ (by omega) (by omega)]
 have t2:bytesOf (((iS p1 p2).drop 0).take (cg p1 p2))=bytesOf (((jb p1 p2).drop 0).take (aY p1 (az p2) 0)):=by
  have hz:=jn p2
  rw [oM (iS p1 p2) (Dh p1 p2).symm,Gf p1 p2 (by omega) (by omega)]
  unfold jb
  rw [← jG p2 (by omega)]
  obtain ⟨q1,q2⟩:=pK p1 (cA p2) 0 (by omega) (by omega)
  rw [oM (fS p1 (cA p2) 0) (by rw [q1,q2]),q1]
 have t3:bytesOf (((lm p1).drop 0).take (eG p1))=bytesOf (((cl p1 sNo).drop 0).take (aS p1 sNo)):=by
  obtain ⟨q1,q2⟩:=vE p1 sNo (by omega) (by decide)
  rw [oM (cl p1 sNo) (by rw [q1,q2]),q1]
  unfold lm eG
  rw [oM _ (jA p1 sNo).symm,mV p1 sNo (by omega) (by decide)]
 rw [t1,t2,t3,jo,jo,jo,aC,aC]
 cases h32:((((p2.size:Nat):Int):Int) != 32)
 case true =>
  have k:((((aF p2).length:Nat):Int) != 32)=true:=by rw [ai];exact h32
  have e9:FT9 (aF p2)=2:=by unfold FT9;rw [k,aC]
  have e1:fR p2=2:=by unfold fR;rw [lV,e9];rfl
  have e2:cU p0 p1 p2=0:=by unfold cU;rw [lV,e9];rfl
  rw [aC,e1,e2]
  rfl
 rw [aB]
 have hs:p2.size=32:=by have:=bU h32;omega
 obtain ⟨a1,a2,a3⟩:=BN hl hs
 obtain ⟨b1,b2⟩:=zZ hl hs
 rw [a3,oM (fA p0 p1 p2) (by rw [a1,a2]),oM (jI p0 p1 p2) (by rw [b1,b2]),a1,b1,jo]
 rfl
end Go.Vm
end
