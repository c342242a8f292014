/- A part of the proofs of chapter 05: the small machine that walks the program, the walks of its functions, and what they compute in plain. -/
import Derived.Test.YtnbpdjjcilhjoaaDoorPe
import Derived.Test.YtnbpdjjcilhjoaaDoorRows
import Derived.LaidMore
import Derived.Stop.Joined
set_option linter.unusedVariables false
set_option linter.unusedSimpArgs false
set_option maxRecDepth 4000
namespace Go.Vm
open Go
theorem unsP64:Uns .u64 (2 ^ 64):=uns64
theorem rot64 {n s:Nat} (hw:n + s=64) (h0:0 < n) (h1:0 < s) {x:Int} (hx:Wd 64 x):FD60w64 x (n:Int)=FD51 x (s:Int)∧Wd 64 (FD51 x (s:Int)):=by
 obtain ⟨a,rfl,ha⟩:=hx
 have c1:iAnd .u64 (IntKind.wrap .u64 (s:Int)) 63=(s:Int):=by
  have h:∀ s:Fin 64,iAnd .u64 (IntKind.wrap .u64 ((s.val:Nat):Int)) 63=((s.val:Nat):Int):=by decide
  exact h ⟨s,by omega⟩
 have c2:iSub .u64 64 (s:Int)=(n:Int):=by rw [iSub_u64]; omega
 have c3:iSub .i64 64 (n:Int)=(s:Int):=by rw [iSub_i64 (by omega) (by omega)]; omega
 have e1:FD51 (a:Int) (s:Int)=(((a / 2 ^ n + a * 2 ^ s) % 2 ^ 64:Nat):Int):=by
  unfold FD51
  rw [c1,c2]
  exact rot_or unsP64 rfl hw ha
 refine ⟨?_,_,e1,Nat.mod_lt _ (Nat.pow_pos (by decide))⟩
 rw [e1]
 unfold FD60w64
 rw [c3,shr_nat .u64 (show n≤64 by omega),shl_nat uns64 (show s≤64 by omega),add_nat uns64]
 congr 1
 rw [show (2:Nat) ^ 64=18446744073709551616 from rfl]
 generalize a / 2 ^ n=u
 generalize a * 2 ^ s=v
 omega
theorem mixS64 {n1 s1 n2 s2 n3:Nat} (h1:n1 + s1=64) (h2:n2 + s2=64) (h1':0 < n1∧0 < s1) (h2':0 < n2∧0 < s2) (h3:n3 < 64) {x:Int} (hx:Wd 64 x) :
  FD54w64 x [(n1:Int),(n2:Int),(n3:Int)] true=iXor .u64 (iXor .u64 (FD51 x (s1:Int)) (FD51 x (s2:Int))) (iShr .u64 x (n3:Int))∧Wd 64 (iXor .u64 (iXor .u64 (FD51 x (s1:Int)) (FD51 x (s2:Int))) (iShr .u64 x (n3:Int))):=by
 obtain ⟨a1,a2⟩:=rot64 h1 h1'.1 h1'.2 hx
 obtain ⟨b1,b2⟩:=rot64 h2 h2'.1 h2'.2 hx
 have b3:=shr_wd (n:=n3) .u64 (show n3≤64 by omega) hx
 refine ⟨?_,(a2.xor unsP64 b2).xor unsP64 b3⟩
 unfold FD54w64
 rw [sel_true]
 show iXor .u64 (iXor .u64 (FD60w64 x (n1:Int)) (FD60w64 x (n2:Int))) (iShr .u64 x (n3:Int))=_
 rw [a1,b1,xor_same (v:=64) unsP64 uns64 (by decide) a2 b2,shr_same .u64 .u64 (show n3≤64 by omega) (show n3≤64 by omega) hx,xor_same (v:=64) unsP64 uns64 (by decide) (a2.xor unsP64 b2) b3]
theorem mixB64 {n1 s1 n2 s2 n3 s3:Nat} (h1:n1 + s1=64) (h2:n2 + s2=64) (h3:n3 + s3=64) (h1':0 < n1∧0 < s1) (h2':0 < n2∧0 < s2) (h3':0 < n3∧0 < s3) {x:Int} (hx:Wd 64 x) :
  FD54w64 x [(n1:Int),(n2:Int),(n3:Int)] false=iXor .u64 (iXor .u64 (FD51 x (s1:Int)) (FD51 x (s2:Int))) (FD51 x (s3:Int))∧Wd 64 (iXor .u64 (iXor .u64 (FD51 x (s1:Int)) (FD51 x (s2:Int))) (FD51 x (s3:Int))):=by
 obtain ⟨a1,a2⟩:=rot64 h1 h1'.1 h1'.2 hx
 obtain ⟨b1,b2⟩:=rot64 h2 h2'.1 h2'.2 hx
 obtain ⟨c1,c2⟩:=rot64 h3 h3'.1 h3'.2 hx
 refine ⟨?_,(a2.xor unsP64 b2).xor unsP64 c2⟩
 unfold FD54w64
 rw [sel_false]
 show iXor .u64 (iXor .u64 (FD60w64 x (n1:Int)) (FD60w64 x (n2:Int))) (FD60w64 x (n3:Int))=_
 rw [a1,b1,c1,xor_same (v:=64) unsP64 uns64 (by decide) a2 b2,xor_same (v:=64) unsP64 uns64 (by decide) (a2.xor unsP64 b2) c2]
theorem mixa0w64 {x:Int} (hx:Wd 64 x):FD54w64 x [1,8,7] true=(iXor .u64 (iXor .u64 (FD51 x 63) (FD51 x 56)) (iShr .u64 x 7)):=(mixS64 (n1:=1) (s1:=63) (n2:=8) (s2:=56) (n3:=7) rfl rfl (by decide) (by decide) (by decide) hx).1
theorem mixa1w64 {x:Int} (hx:Wd 64 x):FD54w64 x [19,61,6] true=(iXor .u64 (iXor .u64 (FD51 x 45) (FD51 x 3)) (iShr .u64 x 6)):=(mixS64 (n1:=19) (s1:=45) (n2:=61) (s2:=3) (n3:=6) rfl rfl (by decide) (by decide) (by decide) hx).1
theorem mixb0w64 {x:Int} (hx:Wd 64 x):FD54w64 x [28,34,39] false=(iXor .u64 (iXor .u64 (FD51 x 36) (FD51 x 30)) (FD51 x 25)):=(mixB64 (n1:=28) (s1:=36) (n2:=34) (s2:=30) (n3:=39) (s3:=25) rfl rfl rfl (by decide) (by decide) (by decide) hx).1
theorem mixb1w64 {x:Int} (hx:Wd 64 x):FD54w64 x [14,18,41] false=(iXor .u64 (iXor .u64 (FD51 x 50) (FD51 x 46)) (FD51 x 23)):=(mixB64 (n1:=14) (s1:=50) (n2:=18) (s2:=46) (n3:=41) (s3:=23) rfl rfl rfl (by decide) (by decide) (by decide) hx).1
theorem iAddK64 (x y:Int):iAdd .u64 x y=(x + y) % 18446744073709551616:=(unsP64).wrap _
theorem maskK64 (x:Int):iAnd .u64 x 18446744073709551615=x % 18446744073709551616:=iAnd_mask x 64 (by decide)
theorem wdMod64 (x:Int):Wd 64 (x % 18446744073709551616):=Wd.mod x
theorem modmod64 (x:Int):x % 18446744073709551616 % 18446744073709551616=x % 18446744073709551616:=Int.emod_emod_of_dvd x (by decide)
noncomputable def Tc64 (st x l k g f:Int):Int:=iAdd .u64 (iAdd .u64 (iAdd .u64 (iAdd .u64 l (iXor .u64 (iXor .u64 (FD51 f 50) (FD51 f 46)) (FD51 f 23))) (iXor .u64 (iAnd .u64 f g) (iAnd .u64 (iNot .u64 f) k))) st) x
noncomputable def Uc64 (a c d:Int):Int:=iAdd .u64 (iXor .u64 (iXor .u64 (FD51 a 36) (FD51 a 30)) (FD51 a 25)) (iXor .u64 (iXor .u64 (iAnd .u64 a c) (iAnd .u64 a d)) (iAnd .u64 c d))
noncomputable def Tr64 (st x l k g f:Int):Int:=iAnd .u64 (iAdd .u64 (iAdd .u64 (iAdd .u64 (iAdd .u64 l (FD54w64 f [14,18,41] false)) (iOr .u64 (iAnd .u64 f g) (iAnd .u64 (iXor .u64 18446744073709551615 f) k))) st) x) 18446744073709551615
noncomputable def Ur64 (a c d:Int):Int:=iAdd .u64 (FD54w64 a [28,34,39] false) (iOr .u64 (iOr .u64 (iAnd .u64 a c) (iAnd .u64 c d)) (iAnd .u64 a d))
noncomputable def Wc64 (p0:List Int) (k1:Nat):List Int:=itr (FD35l2) 64 (itr (FD35l1 p0 k1) 128 [0,0,0,0,0,0,0,0,0,0,0,0,0,0,0,0,0,0,0,0,0,0,0,0,0,0,0,0,0,0,0,0,0,0,0,0,0,0,0,0,0,0,0,0,0,0,0,0,0,0,0,0,0,0,0,0,0,0,0,0,0,0,0,0,0,0,0,0,0,0,0,0,0,0,0,0,0,0,0,0])
noncomputable def Wr64 (p0:List Int) (k1:Nat):List Int:=itr (FD36w64l5) 64 (itr (FD36w64l4 p0 k1) 128 [0,0,0,0,0,0,0,0,0,0,0,0,0,0,0,0,0,0,0,0,0,0,0,0,0,0,0,0,0,0,0,0,0,0,0,0,0,0,0,0,0,0,0,0,0,0,0,0,0,0,0,0,0,0,0,0,0,0,0,0,0,0,0,0,0,0,0,0,0,0,0,0,0,0,0,0,0,0,0,0])
theorem T64 {st x l k g f:Int} (hl:Wd 64 l) (hk:Wd 64 k) (hg:Wd 64 g) (hf:Wd 64 f):Tr64 st x l k g f=Tc64 st x l k g f:=by
 unfold Tr64 Tc64
 rw [mixb1w64 hf,maskK64]
 simp only [iAddK64,iAdd_u64]
 have hc:iOr .u64 (iAnd .u64 f g) (iAnd .u64 (iXor .u64 18446744073709551615 f) k)=iXor .u64 (iAnd .u64 f g) (iAnd .u64 (iNot .u64 f) k):=ch_same (v:=64) unsP64 uns64 (by decide) hf hg hk
 rw [hc]
 generalize iXor .u64 (iAnd .u64 f g) (iAnd .u64 (iNot .u64 f) k)=A
 generalize (iXor .u64 (iXor .u64 (FD51 f 50) (FD51 f 46)) (FD51 f 23))=B
 simp only [Int.emod_add_emod,modmod64]
theorem U64 {a c d:Int} (ha:Wd 64 a) (hc:Wd 64 c) (hd:Wd 64 d) (t:Int):iAnd .u64 (iAdd .u64 t (Ur64 a c d)) 18446744073709551615=iAdd .u64 t (Uc64 a c d):=by
 unfold Ur64 Uc64
 rw [mixb0w64 ha,maskK64]
 simp only [iAddK64,iAdd_u64]
 have hm:iOr .u64 (iOr .u64 (iAnd .u64 a c) (iAnd .u64 c d)) (iAnd .u64 a d)=iXor .u64 (iXor .u64 (iAnd .u64 a c) (iAnd .u64 a d)) (iAnd .u64 c d):=maj_same (v:=64) unsP64 uns64 (by decide) ha hc hd
 rw [hm]
 generalize iXor .u64 (iXor .u64 (iAnd .u64 a c) (iAnd .u64 a d)) (iAnd .u64 c d)=A
 generalize (iXor .u64 (iXor .u64 (FD51 a 36) (FD51 a 30)) (FD51 a 25))=B
 simp only [Int.add_emod_emod,modmod64]
theorem V64 (e t:Int):iAnd .u64 (iAdd .u64 e t) 18446744073709551615=iAdd .u64 e t:=by
 rw [maskK64]
 simp only [iAddK64,iAdd_u64,modmod64]
def R8w64 (z:Int × Int × Int × Int × Int × Int × Int × Int) (y:List Int):Prop :=
 ∃ l k g f e d c a,z=(l,k,g,f,e,d,c,a)∧y=[a,c,d,e,f,g,k,l]∧Wd 64 l∧Wd 64 k∧Wd 64 g∧Wd 64 f∧Wd 64 e∧Wd 64 d∧Wd 64 c∧Wd 64 a
theorem rndC64 (p0:List Int) (k1 j:Nat) (l k g f e d c a:Int):FD35l3 p0 k1 j (l,k,g,f,e,d,c,a) =
  (k,g,f,iAdd .u64 e (Tc64 (gSteps.getD (0 + j) 0) ((Wc64 p0 k1).getD j 0) l k g f),d,c,a,iAdd .u64 (Tc64 (gSteps.getD (0 + j) 0) ((Wc64 p0 k1).getD j 0) l k g f) (Uc64 a c d)):=rfl
theorem rndR64 (p0:List Int) (k1 j:Nat) (l k g f e d c a:Int):FD36w64l6 p0 k1 j [a,c,d,e,f,g,k,l] =
  [iAnd .u64 (iAdd .u64 (Tr64 (iShr .u64 (gSteps.getD j 0) 0) ((Wr64 p0 k1).getD j 0) l k g f) (Ur64 a c d)) 18446744073709551615,a,c,d,iAnd .u64 (iAdd .u64 e (Tr64 (iShr .u64 (gSteps.getD j 0) 0) ((Wr64 p0 k1).getD j 0) l k g f)) 18446744073709551615,f,g,k]:=rfl
theorem stepOk64 (j:Nat) (hj:j < 80):iShr .u64 (gSteps.getD j 0) 0=(gSteps.getD (0 + j) 0):=by
 have h:∀ j:Fin 80,iShr .u64 (gSteps.getD j.val 0) 0=(gSteps.getD (0 + j.val) 0):=by decide +kernel
 exact h ⟨j,hj⟩
theorem round64 {p0:List Int} {k1 j:Nat} (hj:j < 80) (hW:(Wr64 p0 k1).getD j 0=(Wc64 p0 k1).getD j 0) {z:Int × Int × Int × Int × Int × Int × Int × Int} {y:List Int} (h:R8w64 z y) :
  R8w64 (FD35l3 p0 k1 j z) (FD36w64l6 p0 k1 j y):=by
 obtain ⟨l,k,g,f,e,d,c,a,rfl,rfl,hl,hk,hg,hf,he,hd,hc,ha⟩:=h
 rw [rndC64,rndR64,hW,stepOk64 j hj,T64 hl hk hg hf,U64 ha hc hd,V64]
 refine ⟨_,_,_,_,_,_,_,_,rfl,rfl,hk,hg,hf,?_,hd,hc,ha,?_⟩
 ·rw [iAddK64]; exact wdMod64 _
 ·rw [iAddK64]; exact wdMod64 _
theorem loadS64 {a b n:Nat} (hb:b < 256) (hn:n < 8) (ha:a < 256 ^ n) :
  iOr .u64 (iShl .u64 (a:Int) 8) (IntKind.wrap .u64 (b:Int))=((a * 256 + b:Nat):Int)∧iAdd .u64 (iMul .u64 (a:Int) 256) (IntKind.wrap .u64 (b:Int))=((a * 256 + b:Nat):Int)∧a * 256 + b < 256 ^ (n + 1):=by
 have h1:a * 256 + b < 256 ^ (n + 1):=by
  have:(a + 1) * 256≤256 ^ n * 256:=Nat.mul_le_mul_right _ ha
  rw [Nat.pow_succ]
  omega
 have h2:256 ^ (n + 1)≤18446744073709551616:=by
  have:(256:Nat) ^ (n + 1)≤256 ^ 8:=Nat.pow_le_pow_right (by decide) hn
  exact this
 have h3:18446744073709551616≤18446744073709551616:=by decide
 refine ⟨?_,?_,h1⟩
 ·rw [show (8:Int)=((8:Nat):Int) from rfl,shl_nat uns64 (show 8≤64 by decide),wrap_nat uns64,Nat.mod_eq_of_lt (show b < 18446744073709551616 by omega),Nat.mod_eq_of_lt (show a * 2 ^ 8 < 18446744073709551616 by omega),iOr_nat uns64 (by omega) (by omega)]
  congr 1
  rw [Nat.mul_comm a (2 ^ 8),← Nat.two_pow_add_eq_or_of_lt (i:=8) (show b < 2 ^ 8 by omega) a]
 ·rw [show (256:Int)=((256:Nat):Int) from rfl,mul_nat uns64,wrap_nat uns64,add_nat uns64]
  congr 1
  omega
def LoadR64 (k:Nat) (c r:List Int):Prop:=c.length=80∧r.length=80∧∀ j,j < 80→∃ a:Nat,c.getD j 0=(a:Int)∧r.getD j 0=(a:Int)∧a < 256 ^ (min (k - 8 * j) 8)
theorem zc64 (j:Nat):([0,0,0,0,0,0,0,0,0,0,0,0,0,0,0,0,0,0,0,0,0,0,0,0,0,0,0,0,0,0,0,0,0,0,0,0,0,0,0,0,0,0,0,0,0,0,0,0,0,0,0,0,0,0,0,0,0,0,0,0,0,0,0,0,0,0,0,0,0,0,0,0,0,0,0,0,0,0,0,0]:List Int).getD j 0=0:=by
 show (List.replicate 80 (0:Int)).getD j 0=0
 rw [List.getD_eq_getElem?_getD,List.getElem?_replicate]
 split <;> rfl
theorem zr64 (j:Nat):([0,0,0,0,0,0,0,0,0,0,0,0,0,0,0,0,0,0,0,0,0,0,0,0,0,0,0,0,0,0,0,0,0,0,0,0,0,0,0,0,0,0,0,0,0,0,0,0,0,0,0,0,0,0,0,0,0,0,0,0,0,0,0,0,0,0,0,0,0,0,0,0,0,0,0,0,0,0,0,0]:List Int).getD j 0=0:=by
 show (List.replicate 80 (0:Int)).getD j 0=0
 rw [List.getD_eq_getElem?_getD,List.getElem?_replicate]
 split <;> rfl
noncomputable def Tx64 (p0:List Int):List Int:=itr (FD36w64l1 p0) 8 (((itr (FD36w64l0) ((239 - p0.length % 128) % 128) (p0.length + 1,p0 ++ [128])).2) ++ (List.replicate 16 0))
theorem load64 {p0:List Int} {k1:Nat} (hT:Tx64 p0=FD49w128 p0) (hB:∀ j,Byte ((FD49w128 p0).getD j 0)) :
  LoadR64 128 (itr (FD35l1 p0 k1) 128 [0,0,0,0,0,0,0,0,0,0,0,0,0,0,0,0,0,0,0,0,0,0,0,0,0,0,0,0,0,0,0,0,0,0,0,0,0,0,0,0,0,0,0,0,0,0,0,0,0,0,0,0,0,0,0,0,0,0,0,0,0,0,0,0,0,0,0,0,0,0,0,0,0,0,0,0,0,0,0,0]) (itr (FD36w64l4 p0 k1) 128 [0,0,0,0,0,0,0,0,0,0,0,0,0,0,0,0,0,0,0,0,0,0,0,0,0,0,0,0,0,0,0,0,0,0,0,0,0,0,0,0,0,0,0,0,0,0,0,0,0,0,0,0,0,0,0,0,0,0,0,0,0,0,0,0,0,0,0,0,0,0,0,0,0,0,0,0,0,0,0,0]):=by
 refine itr_rel LoadR64 ⟨rfl,rfl,fun j hj => ⟨0,zc64 j,zr64 j,Nat.pow_pos (by decide)⟩⟩ ?_
 rintro k hk c r ⟨h1,h2,h3⟩
 have e1:FD35l1 p0 k1 k c=c.set (k / 8) (iOr .u64 (iShl .u64 (c.getD (k / 8) 0) 8) (IntKind.wrap .u64 ((FD49w128 p0).getD (128 * k1 + k) 0))):=by
  unfold FD35l1
  rw [adrOne,Nat.zero_add]
 have e2:FD36w64l4 p0 k1 k r=r.set (k / 8) (iAdd .u64 (iMul .u64 (r.getD (k / 8) 0) 256) (IntKind.wrap .u64 ((FD49w128 p0).getD (128 * k1 + k) 0))):=by
  show r.set (8 * k / 64) (iAdd .u64 (iMul .u64 (r.getD (8 * k / 64) 0) 256) (IntKind.wrap .u64 ((Tx64 p0).getD (128 * k1 + k) 0)))=_
  rw [hT,show 8 * k / 64=k / 8 by omega]
 rw [e1,e2]
 obtain ⟨b,hb,hb'⟩:=hB (128 * k1 + k)
 obtain ⟨a,ha1,ha2,ha3⟩:=h3 (k / 8) (by omega)
 rw [show min (k - 8 * (k / 8)) 8=k % 8 by omega] at ha3
 obtain ⟨q1,q2,q3⟩:=loadS64 hb' (show k % 8 < 8 from Nat.mod_lt _ (by decide)) ha3
 rw [ha1,ha2,hb,q1,q2]
 refine ⟨by rw [List.length_set,h1],by rw [List.length_set,h2],fun j hj => ?_⟩
 by_cases hjk:k / 8=j
 ·subst hjk
  exact ⟨_,getD_set_eq (by omega),getD_set_eq (by omega),by rw [show min (k + 1 - 8 * (k / 8)) 8=k % 8 + 1 by omega]; exact q3⟩
 ·obtain ⟨x,x1,x2,x3⟩:=h3 j hj
  refine ⟨x,by rw [getD_set_ne hjk,x1],by rw [getD_set_ne hjk,x2],Nat.lt_of_lt_of_le x3 (Nat.pow_le_pow_right (by decide) (by omega))⟩
def SchR64 (k:Nat) (c r:List Int):Prop:=c.length=80∧r.length=80∧∀ j,j < k + 16→Wd 64 (c.getD j 0)∧r.getD j 0=c.getD j 0
theorem words64 {p0:List Int} {k1:Nat} (hT:Tx64 p0=FD49w128 p0) (hB:∀ j,Byte ((FD49w128 p0).getD j 0)):SchR64 64 (Wc64 p0 k1) (Wr64 p0 k1):=by
 obtain ⟨h1,h2,h3⟩:=load64 (k1:=k1) hT hB
 refine itr_rel SchR64 ⟨h1,h2,fun j hj => ?_⟩ ?_
 ·obtain ⟨a,a1,a2,a3⟩:=h3 j (by omega)
  refine ⟨⟨a,a1,Nat.lt_of_lt_of_le a3 ?_⟩,by rw [a1,a2]⟩
  have:(256:Nat) ^ (min (128 - 8 * j) 8)≤256 ^ 8:=Nat.pow_le_pow_right (by decide) (Nat.min_le_right _ _)
  exact this
 ·rintro k hk c r ⟨g1,g2,g3⟩
  obtain ⟨x1,y1⟩:=g3 (k + 16 - 16) (by omega)
  obtain ⟨x2,y2⟩:=g3 (k + 16 - 7) (by omega)
  obtain ⟨x3,y3⟩:=g3 (k + 16 - 15) (by omega)
  obtain ⟨x4,y4⟩:=g3 (k + 16 - 2) (by omega)
  have e:iAnd .u64 (iAdd .u64 (iAdd .u64 (iAdd .u64 (r.getD (k + 16 - 16) 0) (r.getD (k + 16 - 7) 0)) (FD54w64 (r.getD (k + 16 - 15) 0) [1,8,7] true)) (FD54w64 (r.getD (k + 16 - 2) 0) [19,61,6] true)) 18446744073709551615 =
    iAdd .u64 (iAdd .u64 (iAdd .u64 (c.getD (k + 16 - 16) 0) (c.getD (k + 16 - 7) 0)) (iXor .u64 (iXor .u64 (FD51 (c.getD (k + 16 - 15) 0) 63) (FD51 (c.getD (k + 16 - 15) 0) 56)) (iShr .u64 (c.getD (k + 16 - 15) 0) 7))) (iXor .u64 (iXor .u64 (FD51 (c.getD (k + 16 - 2) 0) 45) (FD51 (c.getD (k + 16 - 2) 0) 3)) (iShr .u64 (c.getD (k + 16 - 2) 0) 6)):=by
   rw [y1,y2,y3,y4,mixa0w64 x3,mixa1w64 x4,maskK64]
   simp only [iAddK64,iAdd_u64]
   generalize (iXor .u64 (iXor .u64 (FD51 (c.getD (k + 16 - 15) 0) 63) (FD51 (c.getD (k + 16 - 15) 0) 56)) (iShr .u64 (c.getD (k + 16 - 15) 0) 7))=A
   generalize (iXor .u64 (iXor .u64 (FD51 (c.getD (k + 16 - 2) 0) 45) (FD51 (c.getD (k + 16 - 2) 0) 3)) (iShr .u64 (c.getD (k + 16 - 2) 0) 6))=B
   simp only [Int.emod_add_emod,modmod64]
  have hw:Wd 64 (iAdd .u64 (iAdd .u64 (iAdd .u64 (c.getD (k + 16 - 16) 0) (c.getD (k + 16 - 7) 0)) (iXor .u64 (iXor .u64 (FD51 (c.getD (k + 16 - 15) 0) 63) (FD51 (c.getD (k + 16 - 15) 0) 56)) (iShr .u64 (c.getD (k + 16 - 15) 0) 7))) (iXor .u64 (iXor .u64 (FD51 (c.getD (k + 16 - 2) 0) 45) (FD51 (c.getD (k + 16 - 2) 0) 3)) (iShr .u64 (c.getD (k + 16 - 2) 0) 6))):=by
   rw [iAddK64]; exact wdMod64 _
  show SchR64 (k + 1) (c.set (k + 16) (iAdd .u64 (iAdd .u64 (iAdd .u64 (c.getD (k + 16 - 16) 0) (c.getD (k + 16 - 7) 0)) (iXor .u64 (iXor .u64 (FD51 (c.getD (k + 16 - 15) 0) 63) (FD51 (c.getD (k + 16 - 15) 0) 56)) (iShr .u64 (c.getD (k + 16 - 15) 0) 7))) (iXor .u64 (iXor .u64 (FD51 (c.getD (k + 16 - 2) 0) 45) (FD51 (c.getD (k + 16 - 2) 0) 3)) (iShr .u64 (c.getD (k + 16 - 2) 0) 6)))) (r.set (k + 16) (iAnd .u64 (iAdd .u64 (iAdd .u64 (iAdd .u64 (r.getD (k + 16 - 16) 0) (r.getD (k + 16 - 7) 0)) (FD54w64 (r.getD (k + 16 - 15) 0) [1,8,7] true)) (FD54w64 (r.getD (k + 16 - 2) 0) [19,61,6] true)) 18446744073709551615))
  rw [e]
  refine ⟨by rw [List.length_set,g1],by rw [List.length_set,g2],fun j hj => ?_⟩
  by_cases hjk:k + 16=j
  ·subst hjk
   rw [getD_set_eq (by omega),getD_set_eq (by omega)]
   exact ⟨hw,rfl⟩
  ·rw [getD_set_ne hjk,getD_set_ne hjk]
   exact g3 j (by omega)
def Ok8w64 (z:List Int):Prop:=z.length=8∧∀ j,j < 8→Wd 64 (z.getD j 0)
theorem eight64 {z:List Int} (h:Ok8w64 z):R8w64 (z.getD 7 0,z.getD 6 0,z.getD 5 0,z.getD 4 0,z.getD 3 0,z.getD 2 0,z.getD 1 0,z.getD 0 0) z:=by
 obtain ⟨h1,h2⟩:=h
 refine ⟨_,_,_,_,_,_,_,_,rfl,?_,h2 7 (by decide),h2 6 (by decide),h2 5 (by decide),h2 4 (by decide),h2 3 (by decide),h2 2 (by decide),h2 1 (by decide),h2 0 (by decide)⟩
 match z,h1 with
 | [_,_,_,_,_,_,_,_],_ => rfl
theorem block64 {p0:List Int} {k1:Nat} (hT:Tx64 p0=FD49w128 p0) (hB:∀ j,Byte ((FD49w128 p0).getD j 0)) {z:List Int} (hz:Ok8w64 z):FD35l0 p0 k1 z=FD36w64l3 p0 k1 z∧Ok8w64 (FD35l0 p0 k1 z):=by
 obtain ⟨w1,w2,w3⟩:=words64 (k1:=k1) hT hB
 have hr:R8w64 (itr (FD35l3 p0 k1) 80 (z.getD 7 0,z.getD 6 0,z.getD 5 0,z.getD 4 0,z.getD 3 0,z.getD 2 0,z.getD 1 0,z.getD 0 0)) (itr (FD36w64l6 p0 k1) 80 z) :=
  itr_rel (fun _ => R8w64) (eight64 hz) fun j hj a b hab => round64 hj (w3 j (by omega)).2 hab
 obtain ⟨l,k,g,f,e,d,c,a,e1,e2,hl,hk,hg,hf,he,hd,hc,ha⟩:=hr
 have key:(fun (k:Nat) (x y:List Int) => x=y∧Ok8w64 x) 8 (itr (FD35l4 p0 k1 z) 8 z) (itr (FD36w64l7 p0 k1 z) 8 z):=by
  refine itr_rel (fun (k:Nat) (x y:List Int) => x=y∧Ok8w64 x) ⟨rfl,hz⟩ ?_
  rintro j hj x y ⟨rfl,hx1,hx2⟩
  have q1:FD35l4 p0 k1 z j x=x.set j (iAdd .u64 (x.getD j 0) ([a,c,d,e,f,g,k,l].getD j 0)):=by
   unfold FD35l4
   rw [e1]
  have q2:FD36w64l7 p0 k1 z j x=x.set j (iAnd .u64 (iAdd .u64 (x.getD j 0) ([a,c,d,e,f,g,k,l].getD j 0)) 18446744073709551615):=by
   unfold FD36w64l7
   rw [e2]
  rw [q1,q2,V64]
  refine ⟨rfl,by rw [List.length_set,hx1],fun i hi => ?_⟩
  by_cases hij:j=i
  ·subst hij
   rw [getD_set_eq (by omega),iAddK64]
   exact wdMod64 _
  ·rw [getD_set_ne hij]
   exact hx2 i hi
 exact key
theorem start64:((gStarts.drop 0).take 8)=itr (FD36w64l2) 8 [7640891576956012808,13503953896175478587,4354685564936845355,11912009170470909681,5840696475078001361,11170449401992604703,2270897969802886507,6620516959819538809]:=by kernel_rfl
theorem startOk64:Ok8w64 ((gStarts.drop 0).take 8):=by
 have h:(List.length ((gStarts.drop 0).take 8) == 8 && (List.range 8).all fun j => decide (0≤(((gStarts.drop 0).take 8):List Int).getD j 0) && decide ((((gStarts.drop 0).take 8):List Int).getD j 0 < ((2 ^ 64:Nat):Int)))=true:=by kernel_rfl
 rw [Bool.and_eq_true] at h
 refine ⟨eq_of_beq h.1,fun j hj => ?_⟩
 have h2:=List.all_eq_true.1 h.2 j (List.mem_range.2 hj)
 rw [Bool.and_eq_true] at h2
 exact Wd.of (of_decide_eq_true h2.1) (of_decide_eq_true h2.2)
noncomputable def Bt64 (p0:List Int):Nat × List Int:=itr (FD36w64l0) ((239 - p0.length % 128) % 128) (p0.length + 1,p0 ++ [128])
theorem bt64 (p0:List Int):(Bt64 p0).2.length=(Bt64 p0).1∧(Bt64 p0).1 < p0.length + 1 + 128:=by
 have key:(fun (k:Nat) (a b:Nat × List Int) => a.2.length=a.1∧a.1=p0.length + 1 + k) ((239 - p0.length % 128) % 128) (Bt64 p0) (itr (fun _ y => y) ((239 - p0.length % 128) % 128) (Bt64 p0)):=by
  refine itr_rel (fun (k:Nat) (a b:Nat × List Int) => a.2.length=a.1∧a.1=p0.length + 1 + k) (g:=fun _ y => y) (y:=Bt64 p0) ⟨by simp,rfl⟩ ?_
  rintro k hk a b ⟨h1,h2⟩
  show (a.2 ++ [0]).length=a.1 + 1∧a.1 + 1=_
  exact ⟨by rw [List.length_append,h1]; rfl,by omega⟩
 have h:=key.2
 have hm:((239 - p0.length % 128) % 128) < 128:=Nat.mod_lt _ (by decide)
 exact ⟨key.1,by omega⟩
theorem btB64 {p0:List Int} (hp:Dig 256 p0):Dig 256 (Bt64 p0).2:=by
 refine itr_rel (fun (k:Nat) (a b:Nat × List Int) => Dig 256 a.2) (n:=((239 - p0.length % 128) % 128)) (y:=(Bt64 p0)) (g:=fun _ y => y) ?_ ?_
 ·intro x hx
  rcases List.mem_append.1 hx with h | h
  ·exact hp x h
  ·rw [List.mem_singleton.1 h]; decide
 ·rintro k hk a b h x hx
  rcases List.mem_append.1 hx with h' | h'
  ·exact h x h'
  ·rw [List.mem_singleton.1 h']; decide
def bit64 (n k:Nat):Int:=IntKind.wrap .u8 (iShr .u64 (iMul .u64 (IntKind.wrap .u64 (n:Int)) 8) ((8 * k:Nat):Int))
theorem setApp64 (B:List Int) (n:Nat) (hn:B.length=n) (t:List Int) (j:Nat) (x:Int):(B ++ t).set (n + j) x=B ++ t.set j x:=by
 subst hn
 rw [List.set_append_right _ _ (by omega)]
 congr 2
 omega
theorem itr864 {α:Type} (f:Nat→α→α) (x:α):itr f 8 x=f 7 (f 6 (f 5 (f 4 (f 3 (f 2 (f 1 (f 0 x))))))):=by
 simp only [itr_succ,itr_zero]
theorem text64 {p0:List Int} (hl:p0.length≤100000000):Tx64 p0=(Bt64 p0).2 ++ (List.replicate 8 0 ++ [bit64 p0.length 7,bit64 p0.length 6,bit64 p0.length 5,bit64 p0.length 4,bit64 p0.length 3,bit64 p0.length 2,bit64 p0.length 1,bit64 p0.length 0]):=by
 obtain ⟨h1,h2⟩:=bt64 p0
 have hs:∀ (k:Nat) (z:List Int),k < 8→FD36w64l1 p0 k z=z.set ((Bt64 p0).1 + (15 - k)) (bit64 p0.length k):=by
  intro k z hk
  show z.set (iSub .i64 ((((Bt64 p0).1 + 16:Nat):Int) - 1 - ((0:Nat):Int)) (k:Int)).toNat _=_
  rw [iSub_i64 (by omega) (by omega)]
  have:(((((Bt64 p0).1 + 16:Nat):Int) - 1 - ((0:Nat):Int)) - (k:Int)).toNat=(Bt64 p0).1 + (15 - k):=by omega
  rw [this]
  rfl
 show itr (FD36w64l1 p0) 8 ((Bt64 p0).2 ++ List.replicate 16 0)=_
 rw [itr864,hs 0 _ (by decide),hs 1 _ (by decide),hs 2 _ (by decide),hs 3 _ (by decide),hs 4 _ (by decide),hs 5 _ (by decide),hs 6 _ (by decide),hs 7 _ (by decide)]
 simp only [setApp64 _ _ h1]
 rfl
theorem textC64 (p0:List Int):FD49w128 p0=(Bt64 p0).2 ++ (List.replicate 8 0 ++ [bit64 p0.length 7,bit64 p0.length 6,bit64 p0.length 5,bit64 p0.length 4,bit64 p0.length 3,bit64 p0.length 2,bit64 p0.length 1,bit64 p0.length 0]):=by
 unfold FD49w128
 rw [itr864]
 show (((((((((Bt64 p0).2 ++ List.replicate 8 0) ++ [bit64 p0.length 7]) ++ [bit64 p0.length 6]) ++ [bit64 p0.length 5]) ++ [bit64 p0.length 4]) ++ [bit64 p0.length 3]) ++ [bit64 p0.length 2]) ++ [bit64 p0.length 1]) ++ [bit64 p0.length 0]=_
 simp only [List.append_assoc,List.cons_append,List.nil_append]
theorem bitB64 (n k:Nat):0≤bit64 n k∧bit64 n k < 256:=by
 unfold bit64
 rw [wrap_u8]
 omega
theorem textB64 {p0:List Int} (hp:Dig 256 p0):Dig 256 (FD49w128 p0):=by
 rw [textC64]
 intro x hx
 rcases List.mem_append.1 hx with h | h
 ·exact btB64 hp x h
 ·rcases List.mem_append.1 h with h | h
  ·rw [List.eq_of_mem_replicate h]; decide
  ·simp only [List.mem_cons,List.not_mem_nil,or_false] at h
   rcases h with rfl | rfl | rfl | rfl | rfl | rfl | rfl | rfl <;> exact bitB64 _ _
theorem textByte64 {p0:List Int} (hp:Dig 256 p0) (j:Nat):Byte ((FD49w128 p0).getD j 0):=by
 obtain ⟨h1,h2⟩:=getD_dig (i:=j) (by decide) (textB64 hp)
 obtain ⟨a,ha⟩:=Int.eq_ofNat_of_zero_le h1
 exact ⟨a,ha,by rw [ha] at h2; omega⟩
theorem count64 (p0:List Int):FD49w128n0 p0=(itr (FD36w64l0) ((239 - p0.length % 128) % 128) (p0.length + 1,p0 ++ [128])).1 + 16:=by
 unfold FD49w128n0
 rw [itr864]
 show (Bt64 p0).1 + 8 + 1 + 1 + 1 + 1 + 1 + 1 + 1 + 1=(Bt64 p0).1 + 16
 omega
theorem sum64 {p0:List Int} (hp:Dig 256 p0) (hl:p0.length≤100000000):FD35 p0=FD36w64 p0:=by
 have hT:Tx64 p0=FD49w128 p0:=(text64 hl).trans (textC64 p0).symm
 have hB:=fun j => textByte64 hp j
 have hH:(fun (k:Nat) (x y:List Int) => x=y∧Ok8w64 x) ((FD49w128n0 p0) / 128) (itr (FD35l0 p0) ((FD49w128n0 p0) / 128) ((gStarts.drop 0).take 8)) (itr (FD36w64l3 p0) ((FD49w128n0 p0) / 128) (itr (FD36w64l2) 8 [7640891576956012808,13503953896175478587,4354685564936845355,11912009170470909681,5840696475078001361,11170449401992604703,2270897969802886507,6620516959819538809])):=by
  refine itr_rel (fun (k:Nat) (x y:List Int) => x=y∧Ok8w64 x) ⟨start64,startOk64⟩ ?_
  rintro k hk x y ⟨rfl,hx⟩
  exact block64 hT hB hx
 obtain ⟨h1,h2,h3⟩:=hH
 have key:(fun (k:Nat) (x:List Int) (y:Nat × List Int) => x=y.2 ++ List.replicate (64 - k) 0∧y.2.length=k) 64 (FD35 p0) (itr (FD36w64l8 p0) 64 (0,[])):=by
  refine itr_rel (fun (k:Nat) (x:List Int) (y:Nat × List Int) => x=y.2 ++ List.replicate (64 - k) 0∧y.2.length=k) ⟨rfl,rfl⟩ ?_
  rintro k hk x y ⟨rfl,hy⟩
  have hw:=h3 (k / 8) (by omega)
  have q1:FD35l5 p0 k (y.2 ++ List.replicate (64 - k) 0)=(y.2 ++ List.replicate (64 - k) 0).set k (IntKind.wrap .u8 (iShr .u64 ((itr (FD35l0 p0) ((FD49w128n0 p0) / 128) ((gStarts.drop 0).take 8)).getD (k / 8) 0) ((56 - (8 * (k % 8)):Nat):Int))):=rfl
  have q2:(FD36w64l8 p0 k y).2=y.2 ++ [IntKind.wrap .u8 (iShr .u64 ((itr (FD35l0 p0) ((FD49w128n0 p0) / 128) ((gStarts.drop 0).take 8)).getD (k / 8) 0) ((56 - (8 * (k % 8)):Nat):Int))]:=by
   show y.2 ++ [IntKind.wrap .u8 (iShr .u64 ((itr (FD36w64l3 p0) (((itr (FD36w64l0) ((239 - p0.length % 128) % 128) (p0.length + 1,p0 ++ [128])).1 + 16) / 128) (itr (FD36w64l2) 8 [7640891576956012808,13503953896175478587,4354685564936845355,11912009170470909681,5840696475078001361,11170449401992604703,2270897969802886507,6620516959819538809])).getD ((8 * k) / 64) 0) ((56 - ((8 * k) % 64):Nat):Int))]=_
   rw [← count64,← h1,show (8 * k) / 64=k / 8 by omega,show 56 - ((8 * k) % 64)=56 - (8 * (k % 8)) by omega,shr_same .u64 .u64 (show 56 - (8 * (k % 8))≤64 by omega) (show 56 - (8 * (k % 8))≤64 by omega) hw]
  refine ⟨?_,by rw [q2,List.length_append,hy]; rfl⟩
  rw [q1,q2,show (64 - k)=(64 - (k + 1)) + 1 by omega,List.replicate_succ]
  have:=setApp64 y.2 k hy (0 :: List.replicate (64 - (k + 1)) 0) 0 (IntKind.wrap .u8 (iShr .u64 ((itr (FD35l0 p0) ((FD49w128n0 p0) / 128) ((gStarts.drop 0).take 8)).getD (k / 8) 0) ((56 - (8 * (k % 8)):Nat):Int)))
  rw [show k + 0=k from rfl] at this
  rw [this,List.set_cons_zero,List.append_assoc]
  rfl
 have k1:=key.1
 rw [Nat.sub_self,List.replicate_zero,List.append_nil] at k1
 exact k1
end Go.Vm
set_option linter.unusedVariables false
set_option linter.unusedSimpArgs false
set_option maxRecDepth 4000
namespace Go.Vm
open Go Tabn
theorem EF.len {x:List Int} {f:Tabn.F}:EF x f→x.length=5:=fun ⟨v,h,e⟩ => by
 obtain ⟨⟨a,b,c,d,g,rfl,_⟩,_⟩:=h
 rfl
theorem EF.val {x:List Int} {f:Tabn.F}:EF x f→E x (f.val:Int):=fun ⟨v,h,e⟩ => h.to (by rw [← e,toF_val,Int.emod_emod_of_dvd _ (Int.dvd_refl _)])
theorem RF.val {x:List Int} {f:Tabn.F}:RF x f→R x (f.val:Int):=fun ⟨v,h,e⟩ => h.to (by rw [← e,toF_val,Int.emod_emod_of_dvd _ (Int.dvd_refl _)])
theorem toF_valF (f:Tabn.F):toF (f.val:Int)=f:=toF_ext (by rw [toF_val,pp_nat',← Int.natCast_emod,Nat.mod_eq_of_lt f.isLt])
theorem valF_mod (f:Tabn.F):(f.val:Int) % PP=(f.val:Int):=by rw [pp_nat',← Int.natCast_emod,Nat.mod_eq_of_lt f.isLt]
theorem EF.same {x y:List Int} {f g:Tabn.F} (h:EF x f) (h':EF y g):F29 x y=decide (f=g):=by
 rw [h.val.same h'.val,valF_mod,valF_mod]
 by_cases e:f=g
 ·rw [decide_eq_true e,e,decide_eq_true rfl]
 ·rw [decide_eq_false e,decide_eq_false (fun h => e (toF_ext h))]
theorem EF.odd {x:List Int} {f:Tabn.F} (h:EF x f):F32 x=decide (f.val % 2=1):=by
 rw [h.val.odd,valF_mod]
 by_cases e:f.val % 2=1
 ·rw [decide_eq_true e,decide_eq_true (by omega)]
 ·rw [decide_eq_false e,decide_eq_false (by omega)]
def rtF (f:Tabn.F):Tabn.F:=toF (rootV (f.val:Int))
theorem rt_is:isRoot rtF:=by
 intro s
 unfold rtF
 have h:=root_sq (s.val:Int)
 have e:(((s * s).val:Nat):Int) % PP=(s.val:Int) * (s.val:Int) % PP:=by
  rw [Fin.val_mul,Int.natCast_emod,Int.natCast_mul,← pp_nat',Int.emod_emod_of_dvd _ (Int.dvd_refl _)]
 have e1:rootV (((s * s).val:Nat):Int) % PP=rootV ((s.val:Int) * (s.val:Int)) % PP:=by
  have hp:∀ n:Nat,(((s * s).val:Nat):Int) ^ n % PP=((s.val:Int) * (s.val:Int)) ^ n % PP:=fun n => pow_mod e n
  unfold rootV
  have hc:((((s * s).val:Nat):Int) ^ eRoot * (((s * s).val:Nat):Int) ^ eRoot % PP=(((s * s).val:Nat):Int) % PP)=(((s.val:Int) * (s.val:Int)) ^ eRoot * ((s.val:Int) * (s.val:Int)) ^ eRoot % PP=(s.val:Int) * (s.val:Int) % PP):=by
   rw [mul_mod (hp eRoot) (hp eRoot),e]
  simp only [hc]
  split
  ·exact hp eRoot
  ·exact mul_mod (hp eRoot) rfl
 rw [← toF_mul]
 apply toF_ext
 rw [toF_val,mul_mod e1 e1,h,← e,valF_mod]
theorem EF_root {x:List Int} {f:Tabn.F} (h:EF x f):EF (F34 x) (rtF f)∧F34_1 x=decide (rtF f * rtF f=f):=by
 obtain ⟨h1,h2⟩:=E_root h.val
 have h3:EF (F34 x) (rtF f):=⟨_,h1,rfl⟩
 refine ⟨h3,?_⟩
 rw [h2]
 unfold rtF
 rw [← toF_mul]
 by_cases e:toF (rootV (f.val:Int) * rootV (f.val:Int))=f
 ·rw [decide_eq_true e,decide_eq_true]
  have:=of_toF (e.trans (toF_valF f).symm)
  exact this
 ·rw [decide_eq_false e,decide_eq_false]
  intro h4
  exact e ((toF_eq h4).trans (toF_valF f))
theorem R_rootv {x:List Int} {v:Int} (hx:R x v):R (F35 x) (rootV v):=by
 unfold F35 rootV
 have ht:=R_rootpow hx
 have h2:=R_two
 generalize F27 x (part1 (F51 252 2) 32 0 32)=t at *
 generalize F27 (F31 2) (part1 (F51 253 5) 32 0 32)=u at *
 rw [(R_mul ht ht).beq hx]
 by_cases h:v ^ eRoot * v ^ eRoot % PP=v % PP
 ·rw [if_pos h,decide_eq_true h,Bool.not_true,sel_false]; exact ht
 ·rw [if_neg h,decide_eq_false h,Bool.not_false,sel_true]; exact R_mul ht h2
theorem RF_root {x:List Int} {f:Tabn.F} (h:RF x f):RF (F35 x) (rtF f)∧F35_1 x=decide (rtF f * rtF f=f):=by
 have h3:RF (F35 x) (rtF f):=⟨_,R_rootv h.val,rfl⟩
 refine ⟨h3,?_⟩
 rw [R_root h.val]
 unfold rtF
 rw [← toF_mul]
 by_cases e:toF (rootV (f.val:Int) * rootV (f.val:Int))=f
 ·rw [decide_eq_true e,decide_eq_true]
  have:=of_toF (e.trans (toF_valF f).symm)
  exact this
 ·rw [decide_eq_false e,decide_eq_false]
  intro h4
  exact e ((toF_eq h4).trans (toF_valF f))
theorem RF.beq {x y:List Int} {f g:Tabn.F} (h:RF x f) (h':RF y g):(x == y)=decide (f=g):=by
 rw [h.val.beq h'.val,valF_mod,valF_mod]
 by_cases e:f=g
 ·rw [decide_eq_true e,e,decide_eq_true rfl]
 ·rw [decide_eq_false e,decide_eq_false (fun h => e (toF_ext h))]
def PE (p:Pt CT) (s:List Int):Prop:=∃ X Y Z T fx fy fz ft,s=X ++ (Y ++ (Z ++ T))∧EF X fx∧EF Y fy∧EF Z fz∧EF T ft∧Ex p fx fy fz ft
theorem cut20 {X Y Z T:List Int} (hx:X.length=5) (hy:Y.length=5) (hz:Z.length=5) (ht:T.length=5) :
  ((X ++ (Y ++ (Z ++ T))).drop 0).take 5=X∧((X ++ (Y ++ (Z ++ T))).drop 5).take 5=Y∧((X ++ (Y ++ (Z ++ T))).drop 10).take 5=Z∧((X ++ (Y ++ (Z ++ T))).drop 15).take 5=T:=by
 obtain ⟨a,b,c,d,e,rfl⟩:=five hx
 obtain ⟨a',b',c',d',e',rfl⟩:=five hy
 obtain ⟨a2,b2,c2,d2,e2,rfl⟩:=five hz
 obtain ⟨a3,b3,c3,d3,e3,rfl⟩:=five ht
 exact ⟨rfl,rfl,rfl,rfl⟩
theorem make20 {X Y Z T:List Int} (hx:X.length=5) (hy:Y.length=5) (hz:Z.length=5) (ht:T.length=5) :
  splice (splice (splice (splice [0,0,0,0,0,0,0,0,0,0,0,0,0,0,0,0,0,0,0,0] 0 X) 5 Y) 10 Z) 15 T=X ++ (Y ++ (Z ++ T)):=by
 obtain ⟨a,b,c,d,e,rfl⟩:=five hx
 obtain ⟨a',b',c',d',e',rfl⟩:=five hy
 obtain ⟨a2,b2,c2,d2,e2,rfl⟩:=five hz
 obtain ⟨a3,b3,c3,d3,e3,rfl⟩:=five ht
 rfl
theorem EF_665:EF (F30 121665) c665:=by rw [c_lits.1]; exact ⟨121665,E_small (by decide),by decide⟩
theorem EF_666:EF (F30 121666) c666:=by rw [c_lits.2]; exact ⟨121666,E_small (by decide),by decide⟩
theorem EF_curve:EF FT37 dT:=by
 unfold FT37 FT48
 refine (EF_sub EF_zero (EF_mul EF_665 (EF_inv EF_666))).to ?_
 unfold dT
 rfl
theorem add38 {p q:Pt CT} {s t k:List Int} (hp:PE p s) (hq:PE q t) (hk:EF k (dT + dT)):PE (p.add q) (FT38 s t k):=by
 obtain ⟨X,Y,Z,T,fx,fy,fz,ft,rfl,hX,hY,hZ,hT,hE⟩:=hp
 obtain ⟨X',Y',Z',T',fx',fy',fz',ft',rfl,hX',hY',hZ',hT',hE'⟩:=hq
 obtain ⟨c1,c2,c3,c4⟩:=cut20 hX.len hY.len hZ.len hT.len
 obtain ⟨d1,d2,d3,d4⟩:=cut20 hX'.len hY'.len hZ'.len hT'.len
 unfold FT38
 rw [c1,c2,c3,c4,d1,d2,d3,d4]
 have hc:=EF_mul (EF_mul hT hT') hk
 have hd:=EF_add (EF_mul hZ hZ') (EF_mul hZ hZ')
 have hq':=EF_mul (EF_add hY hX) (EF_add hY' hX')
 have hp':=EF_mul (EF_sub hY hX) (EF_sub hY' hX')
 have he:=EF_sub hq' hp'
 have hf:=EF_sub hd hc
 have hg:=EF_add hd hc
 have hh:=EF_add hq' hp'
 have r1:=EF_mul he hf
 have r2:=EF_mul hg hh
 have r3:=EF_mul hf hg
 have r4:=EF_mul he hh
 rw [make20 r1.len r2.len r3.len r4.len]
 exact ⟨_,_,_,_,_,_,_,_,rfl,r1,r2,r3,r4,ex_add hE hE'⟩
theorem PE.zero:PE (Pt.zero CT) (splice (splice [0,0,0,0,0,0,0,0,0,0,0,0,0,0,0,0,0,0,0,0] 5 (F30 1)) 10 (F30 1)) :=
 ⟨F30 0,F30 1,F30 1,F30 0,0,1,1,0,rfl,EF_zero,EF_one,EF_one,EF_zero,⟨one_ne_zero',mul0z 1,mul1' 1,(show (0:Tabn.F)=0 * 1 * 1 by decide)⟩⟩
theorem bits_half (N m k:Nat) (hk:k < m):N / 2 ^ (m - (k + 1))=2 * (N / 2 ^ (m - k)) + N / 2 ^ (m - 1 - k) % 2:=by
 have e:m - k=(m - 1 - k) + 1:=by omega
 rw [show m - (k + 1)=m - 1 - k by omega,e,Nat.pow_succ,← Nat.div_div_eq_div_mul]
 omega
theorem bit_one {n:Nat} {x:Int} (h:x=((n % 2:Nat):Int)):((x:Int) == 1)=decide (n % 2=1):=by
 subst h
 rcases Nat.mod_two_eq_zero_or_one n with h | h <;> rw [h] <;> rfl
theorem times19 {p:Pt CT} {s n:List Int} (hp:PE p s) (hn:Dig 256 n) {N:Nat} (hN:num 256 n=(N:Int)):PE (Pt.mul N p) (FT19 s n):=by
 have hk:EF (F16 FT37 FT37) (dT + dT):=EF_add EF_curve EF_curve
 have hlt:N < 2 ^ (8 * n.length):=by
  obtain ⟨M,h1,h2⟩:=num_nat hn
  rw [h1] at hN
  have:=Int.ofNat.inj hN
  omega
 have key:∀ k,k≤8 * n.length→PE (Pt.mul (N / 2 ^ (8 * n.length - k)) p) (itr (FT19l0 s n) k (splice (splice [0,0,0,0,0,0,0,0,0,0,0,0,0,0,0,0,0,0,0,0] 5 (F30 1)) 10 (F30 1))):=by
  intro k
  induction k with
  | zero =>
   intro _
   rw [itr_zero,Nat.sub_zero,Nat.div_eq_of_lt hlt]
   exact PE.zero
  | succ k ih =>
   intro hk'
   have ih:=ih (by omega)
   rw [itr_succ,bits_half N (8 * n.length) k (by omega),Nat.two_mul,Nat.add_assoc,Pt.add_mul]
   generalize itr (FT19l0 s n) k _=z at *
   generalize N / 2 ^ (8 * n.length - k)=M at *
   unfold FT19l0
   rw [bit_one (byte_bit hn hN (8 * n.length - 1 - k))]
   have h2:=add38 ih ih hk
   rcases Nat.mod_two_eq_zero_or_one (N / 2 ^ (8 * n.length - 1 - k)) with h | h
   ·rw [h,decide_eq_false (by decide),sel_false,Nat.add_zero]
    exact h2
   ·rw [h,decide_eq_true rfl,sel_true,Pt.add_mul,Pt.mul_one,← Pt.add_assoc]
    exact add38 h2 hp hk
 have:=key (8 * n.length) (Nat.le_refl _)
 rw [Nat.sub_self,Nat.pow_zero,Nat.div_one] at this
 exact this
def PR (p:Pt CT) (s:List Int):Prop:=∃ X Y Z fx fy fz,s=X ++ (Y ++ Z)∧RF X fx∧RF Y fy∧RF Z fz∧Pj p fx fy fz
theorem cut48 {X Y Z:List Int} (hx:X.length=16) (hy:Y.length=16) (hz:Z.length=16) :
  ((X ++ (Y ++ Z)).drop 0).take 16=X∧((X ++ (Y ++ Z)).drop 16).take 16=Y∧((X ++ (Y ++ Z)).drop 32).take 16=Z:=by
 refine ⟨?_,?_,?_⟩
 ·rw [List.drop_zero,List.take_append_of_le_length (by omega),List.take_of_length_le (by omega)]
 ·rw [← hx,List.drop_left,List.take_append_of_le_length (by omega),List.take_of_length_le (by omega)]
 ·rw [← List.append_assoc,show 32=(X ++ Y).length by rw [List.length_append]; omega,List.drop_left,List.take_of_length_le (by omega)]
theorem splice_at {Z A B:List Int} {o:Nat} (ho:o=A.length):splice (A ++ Z) o B=A ++ (B ++ Z.drop B.length):=by
 subst ho
 unfold splice
 rw [List.take_left,List.drop_append,List.append_assoc]
 simp
theorem make48 {X Y Z:List Int} (hx:X.length=16) (hy:Y.length=16) (hz:Z.length=16) :
  splice (splice (splice [0,0,0,0,0,0,0,0,0,0,0,0,0,0,0,0,0,0,0,0,0,0,0,0,0,0,0,0,0,0,0,0,0,0,0,0,0,0,0,0,0,0,0,0,0,0,0,0] 0 X) 16 Y) 32 Z=X ++ (Y ++ Z):=by
 rw [show splice [0,0,0,0,0,0,0,0,0,0,0,0,0,0,0,0,0,0,0,0,0,0,0,0,0,0,0,0,0,0,0,0,0,0,0,0,0,0,0,0,0,0,0,0,0,0,0,0] 0 X=X ++ (List.replicate 48 0).drop X.length from splice_at (A:=[]) rfl]
 rw [splice_at hx.symm,← List.append_assoc,splice_at (by rw [List.length_append]; omega),List.append_assoc,hx,hy,hz]
 show X ++ (Y ++ (Z ++ []))=_
 rw [List.append_nil]
theorem RF_665:RF (F31 121665) c665:=by rw [c_lits.1]; exact ⟨121665,R_small (by decide),by decide⟩
theorem RF_666:RF (F31 121666) c666:=by rw [c_lits.2]; exact ⟨121666,R_small (by decide),by decide⟩
theorem RF_curve:RF FT45 dT:=by
 unfold FT45 FT42 FT57 FT43
 refine (RF_sub RF_zero (RF_mul RF_665 (RF_inv RF_666))).to ?_
 unfold dT
 rfl
theorem add44 {p q:Pt CT} {s t:List Int} (hp:PR p s) (hq:PR q t):PR (p.add q) (FT44 s t FT45):=by
 obtain ⟨X,Y,Z,fx,fy,fz,rfl,hX,hY,hZ,hE⟩:=hp
 obtain ⟨X',Y',Z',fx',fy',fz',rfl,hX',hY',hZ',hE'⟩:=hq
 obtain ⟨c1,c2,c3⟩:=cut48 hX.len hY.len hZ.len
 obtain ⟨d1,d2,d3⟩:=cut48 hX'.len hY'.len hZ'.len
 unfold FT44
 rw [c1,c2,c3,d1,d2,d3]
 have hk:=RF_curve
 generalize FT45=k at *
 unfold FT57 FT68 FT42
 have hxx:=RF_mul hX hX'
 have hyy:=RF_mul hY hY'
 have hzz:=RF_mul hZ hZ'
 have hcr:=RF_add (RF_mul hX hY') (RF_mul hX' hY)
 have he:=RF_mul hk (RF_mul hxx hyy)
 have hz2:=RF_mul hzz hzz
 have hf:=RF_add hz2 he
 have hg:=RF_sub hz2 he
 have r1:=RF_mul (RF_mul hcr hzz) hg
 have r2:=RF_mul (RF_mul (RF_add hyy hxx) hzz) hf
 have r3:=RF_mul hf hg
 rw [make48 r1.len r2.len r3.len]
 exact ⟨_,_,_,_,_,_,rfl,r1,r2,r3,pj_add hE hE'⟩
theorem PR.zero:PR (Pt.zero CT) (splice (splice [0,0,0,0,0,0,0,0,0,0,0,0,0,0,0,0,0,0,0,0,0,0,0,0,0,0,0,0,0,0,0,0,0,0,0,0,0,0,0,0,0,0,0,0,0,0,0,0] 16 (FT43 1)) 32 (FT43 1)):=by
 have h0:F31 0=[0,0,0,0,0,0,0,0,0,0,0,0,0,0,0,0]:=by kernel_rfl
 have h1:F31 1=[1,0,0,0,0,0,0,0,0,0,0,0,0,0,0,0]:=by kernel_rfl
 refine ⟨F31 0,F31 1,F31 1,0,1,1,?_,RF_zero,RF_one,RF_one,⟨one_ne_zero',mul0z 1,mul1' 1⟩⟩
 unfold FT43
 rw [h0,h1]
 rfl
theorem times27 {p:Pt CT} {s n:List Int} (hp:PR p s) (hn:Dig 256 n) {N:Nat} (hN:num 256 n=(N:Int)):PR (Pt.mul N p) (FT27 n s):=by
 have hlt:N < 2 ^ (8 * n.length):=by
  obtain ⟨M,h1,h2⟩:=num_nat hn
  rw [h1] at hN
  have:=Int.ofNat.inj hN
  omega
 have key:∀ k,PR (Pt.mul (N % 2 ^ k) p) (itr (FT27l0 n) k (splice (splice [0,0,0,0,0,0,0,0,0,0,0,0,0,0,0,0,0,0,0,0,0,0,0,0,0,0,0,0,0,0,0,0,0,0,0,0,0,0,0,0,0,0,0,0,0,0,0,0] 16 (FT43 1)) 32 (FT43 1),s)).1 ∧
   PR (Pt.mul (2 ^ k) p) (itr (FT27l0 n) k (splice (splice [0,0,0,0,0,0,0,0,0,0,0,0,0,0,0,0,0,0,0,0,0,0,0,0,0,0,0,0,0,0,0,0,0,0,0,0,0,0,0,0,0,0,0,0,0,0,0,0] 16 (FT43 1)) 32 (FT43 1),s)).2:=by
  intro k
  induction k with
  | zero =>
   rw [itr_zero,Nat.pow_zero,Nat.mod_one,Pt.mul_one]
   exact ⟨PR.zero,hp⟩
  | succ k ih =>
   rw [itr_succ]
   generalize itr (FT27l0 n) k _=z at *
   obtain ⟨i1,i2⟩:=ih
   have hb:=byte_bit2 hn hN (k / 8) (k % 8) (Nat.mod_lt _ (by decide))
   rw [Nat.div_add_mod] at hb
   unfold FT27l0
   rw [bit_one hb]
   refine ⟨?_,?_⟩
   ·show PR _ (sel _ _ _)
    rw [mod_bit_nat N k]
    rcases Nat.mod_two_eq_zero_or_one (N / 2 ^ k) with h | h
    ·rw [h,decide_eq_false (by decide),sel_false,Nat.zero_mul,Nat.add_zero]
     exact i1
    ·rw [h,decide_eq_true rfl,sel_true,Nat.one_mul,Pt.add_mul]
     exact add44 i1 i2
   ·show PR _ (FT44 _ _ _)
    rw [Nat.pow_succ,Nat.mul_two,Pt.add_mul]
    exact add44 i2 i2
 have:=(key (8 * n.length)).1
 rw [Nat.mod_eq_of_lt hlt] at this
 exact this
end Go.Vm
set_option linter.unusedVariables false
set_option linter.unusedSimpArgs false
set_option maxRecDepth 4000
namespace Go.Vm
open Go Tabn
def encL (p:Pt CT):List Int:=digs 256 32 (encN p:Int)
theorem encL_len (p:Pt CT):(encL p).length=32:=digs_length _ _ _
theorem encL_dig (p:Pt CT):Dig 256 (encL p):=digs_dig (by decide) _ _
theorem num_small {v:Int} (h:0≤v) (h':v < 2 ^ 256):num 256 (digs 256 32 v)=v:=by
 rw [num_digs (by decide)]
 exact Int.emod_eq_of_lt h h'
theorem digs_inj32 {v w:Int} (h:0≤v) (h':v < 2 ^ 256) (k:0≤w) (k':w < 2 ^ 256) (e:digs 256 32 v=digs 256 32 w):v=w:=by
 rw [← num_small h h',e,num_small k k']
theorem encN_bd (p:Pt CT):0≤(encN p:Int)∧(encN p:Int) < 2 ^ 256:=⟨Int.natCast_nonneg _,by have:=encN_lt p; exact_mod_cast this⟩
theorem ncast {n:Nat} (h:n < 2 ^ 256):(n:Int) < 2 ^ 256:=by exact_mod_cast h
theorem nnn (n:Nat):(0:Int)≤(n:Int):=Int.natCast_nonneg n
theorem encL_inj {p q:Pt CT} (h:encL p=encL q):p=q :=
 encN_inj (Int.ofNat.inj (digs_inj32 (encN_bd p).1 (encN_bd p).2 (encN_bd q).1 (encN_bd q).2 h))
theorem list31 {a b:List Int} (ha:Dig 256 a) (la:a.length=32) (hb:Dig 256 b) (lb:b.length=32) (h1:a.take 31=b.take 31) (h2:a.getD 31 0=b.getD 31 0):a=b:=by
 have e1:num 256 a=num 256 b:=by
  have p1:=num_take (B:=256) (xs:=a) (i:=31)
  have p2:=num_take (B:=256) (xs:=b) (i:=31)
  rw [List.take_of_length_le (by omega)] at p1 p2
  rw [p1,p2,h1,h2]
 rw [← digs_num (by decide) ha,← digs_num (by decide) hb,la,lb,e1]
theorem top_set {v:Nat} (hv:v < 2 ^ 255):(digs 256 32 (v:Int)).set 31 ((digs 256 32 (v:Int)).getD 31 0 + 128)=digs 256 32 ((v + 2 ^ 255:Nat):Int)∧0≤(digs 256 32 (v:Int)).getD 31 0∧(digs 256 32 (v:Int)).getD 31 0 < 128:=by
 have hl:(digs 256 32 (v:Int)).length=32:=digs_length _ _ _
 have hd:=digs_dig (B:=256) (by decide) 32 (v:Int)
 have hb:(2:Int) ^ 256=115792089237316195423570985008687907853269984665640564039457584007913129639936:=rfl
 have hc:(2:Nat) ^ 255=57896044618658097711785492504343953926634992332820282019728792003956564819968:=rfl
 have he:(256:Int) ^ 31=452312848583266388373324160190187140051835877600158453279131187530910662656:=rfl
 rw [hc] at hv
 have g:(digs 256 32 (v:Int)).getD 31 0=(v:Int) / 256 ^ 31 % 256:=digs_getD (by decide) 32 31 _ (by decide)
 rw [he] at g
 have g1:0≤(digs 256 32 (v:Int)).getD 31 0∧(digs 256 32 (v:Int)).getD 31 0 < 128:=by rw [g]; omega
 refine ⟨?_,g1⟩
 refine digs_of (by decide) (dig_set hd (by omega)) (by rw [List.length_set,hl]) ?_
 rw [num_set (by rw [hl]; decide),num_small (by omega) (by rw [hb]; omega),he,hc]
 omega
theorem top_or {v:Int} (h:0≤v∧v < 128):iOr .u8 v 128=v + 128:=by
 have:=iOr_low uns8 (u:=1) (v:=v) (n:=7) (by decide) h.1 h.2 (by show v + 128 < 256; omega)
 exact this
theorem top_add {v:Int} (h:0≤v∧v < 128):iAdd .u8 v 128=v + 128:=by
 unfold iAdd
 rw [wrap_u8]
 omega
theorem bit255 (p:Pt CT):encL p=sel (decide (p.x.val % 2=1)) ((digs 256 32 (p.y.val:Int)).set 31 ((digs 256 32 (p.y.val:Int)).getD 31 0 + 128)) (digs 256 32 (p.y.val:Int)):=by
 have hv:p.y.val < 2 ^ 255:=Nat.lt_trans p.y.isLt two255
 unfold encL encN
 rcases Nat.mod_two_eq_zero_or_one p.x.val with h | h
 ·rw [h,decide_eq_false (by decide),sel_false,Nat.zero_mul,Nat.add_zero]
 ·rw [h,decide_eq_true rfl,sel_true,(top_set hv).1,Nat.one_mul]
theorem bytes20 {p:Pt CT} {s:List Int} (h:PE p s):FT20 s=encL p:=by
 obtain ⟨X,Y,Z,T,fx,fy,fz,ft,rfl,hX,hY,hZ,hT,hE⟩:=h
 obtain ⟨c1,c2,c3,c4⟩:=cut20 hX.len hY.len hZ.len hT.len
 unfold FT20
 rw [c1,c2,c3,bit255]
 have e1:EF (F20 X (F25 Z)) p.x:=(EF_mul hX (EF_inv hZ)).to (by rw [hE.x]; exact over hE.z0)
 have e2:EF (F20 Y (F25 Z)) p.y:=(EF_mul hY (EF_inv hZ)).to (by rw [hE.y]; exact over hE.z0)
 rw [e1.odd,e2.bytes,top_or (top_set (Nat.lt_trans p.y.isLt two255)).2]
theorem RF.low {x:List Int} {f:Tabn.F} (h:RF x f):(((iRem (x.getD 0 0) 2):Int) == 1)=decide (f.val % 2=1):=by
 have h1:=h.val
 unfold R at h1
 rw [h1,valF_mod,digs_getD (by decide) 16 0 _ (by decide),Int.pow_zero,Int.ediv_one]
 have e:iRem ((f.val:Int) % 65536) 2=((f.val % 2:Nat):Int):=by
  unfold iRem
  rw [Int.tmod_eq_emod_of_nonneg (by omega)]
  omega
 rw [e]
 rcases Nat.mod_two_eq_zero_or_one f.val with h | h <;> rw [h] <;> rfl
theorem bytes26 {p:Pt CT} {s:List Int} (h:PR p s):FT26 s=encL p:=by
 obtain ⟨X,Y,Z,fx,fy,fz,rfl,hX,hY,hZ,hE⟩:=h
 obtain ⟨c1,c2,c3⟩:=cut48 hX.len hY.len hZ.len
 unfold FT26 FT57
 rw [c1,c2,c3,bit255]
 have e1:RF (F21 X (F28 Z)) p.x:=(RF_mul hX (RF_inv hZ)).to (by rw [hE.x]; exact over hE.z0)
 have e2:RF (F21 Y (F28 Z)) p.y:=(RF_mul hY (RF_inv hZ)).to (by rw [hE.y]; exact over hE.z0)
 rw [e1.low,e2.bytes,top_add (top_set (Nat.lt_trans p.y.isLt two255)).2]
structure Parts (b:List Int) (N:Nat):Prop where
 eq:b=digs 256 32 (N:Int)
 num:num 256 b=(N:Int)
 lt:N < 2 ^ 256
 top:b.getD 31 0=((N / 2 ^ 248:Nat):Int)
 odd:(decide ((b.getD 31 0:Int) ≥ 128))=decide (N / 2 ^ 255=1)
theorem parts {b:List Int} (hb:Dig 256 b) (hl:b.length=32):∃ N,Parts b N:=by
 obtain ⟨N,h1,h2⟩:=num_nat hb
 rw [hl] at h2
 have e1:b=digs 256 32 (N:Int):=digs_of (by decide) hb hl h1
 have e2:b.getD 31 0=((N / 2 ^ 248:Nat):Int):=by
  rw [e1,digs_getD (by decide) 32 31 _ (by decide)]
  have he:(256:Int) ^ 31=452312848583266388373324160190187140051835877600158453279131187530910662656:=rfl
  have hc:(2:Nat) ^ 248=452312848583266388373324160190187140051835877600158453279131187530910662656:=rfl
  have hd:(2:Nat) ^ (8 * 32)=115792089237316195423570985008687907853269984665640564039457584007913129639936:=rfl
  rw [hd] at h2
  rw [he,hc]
  omega
 refine ⟨N,e1,h1,h2,e2,?_⟩
 rw [e2]
 have hc:(2:Nat) ^ 248=452312848583266388373324160190187140051835877600158453279131187530910662656:=rfl
 have hc2:(2:Nat) ^ 255=57896044618658097711785492504343953926634992332820282019728792003956564819968:=rfl
 have hd:(2:Nat) ^ (8 * 32)=115792089237316195423570985008687907853269984665640564039457584007913129639936:=rfl
 rw [hd] at h2
 rw [hc,hc2]
 by_cases h:N / 57896044618658097711785492504343953926634992332820282019728792003956564819968=1
 ·rw [decide_eq_true h,decide_eq_true (by omega)]
 ·rw [decide_eq_false h,decide_eq_false (by omega)]
theorem half_lt {N:Nat} (h:N < 2 ^ 256):N / 2 ^ 255 < 2:=by
 have hc2:(2:Nat) ^ 255=57896044618658097711785492504343953926634992332820282019728792003956564819968:=rfl
 have hd:(2:Nat) ^ 256=115792089237316195423570985008687907853269984665640564039457584007913129639936:=rfl
 rw [hd] at h
 rw [hc2]
 omega
theorem Parts.y {b:List Int} {N:Nat} (h:Parts b N):uOf b=Fin.ofNat P (N % 2 ^ 255):=by
 apply toF_ext
 unfold uOf
 rw [toF_val,h.num,pp_nat']
 show ((N:Int) % 57896044618658097711785492504343953926634992332820282019728792003956564819968) % (P:Int)=((N % 2 ^ 255 % P:Nat):Int)
 rw [Int.natCast_emod,Int.natCast_emod]
 rfl
def back (N:Nat):Nat:=(Fin.ofNat P (N % 2 ^ 255)).val + N / 2 ^ 255 * 2 ^ 255
theorem back_eq {N:Nat} (h:N < 2 ^ 256):back N=N↔N % 2 ^ 255 < P:=by
 have h1:(Fin.ofNat P (N % 2 ^ 255)).val=N % 2 ^ 255 % P:=rfl
 unfold back
 rw [h1]
 constructor
 ·intro e
  have h2:N % 2 ^ 255 % P < P:=Nat.mod_lt _ P_pos
  have:N % 2 ^ 255 % P=N % 2 ^ 255:=by omega
  omega
 ·intro e
  rw [Nat.mod_eq_of_lt e]
  omega
theorem back_lt {N:Nat} (h:N < 2 ^ 256):back N < 2 ^ 256:=by
 have h1:=half_lt h
 have h2:=(Fin.ofNat P (N % 2 ^ 255)).isLt
 have h3:=two255
 unfold back
 omega
theorem back_bytes {N:Nat} (h:N < 2 ^ 256):digs 256 32 (back N:Int)=sel (decide (N / 2 ^ 255=1)) ((digs 256 32 ((Fin.ofNat P (N % 2 ^ 255)).val:Int)).set 31 ((digs 256 32 ((Fin.ofNat P (N % 2 ^ 255)).val:Int)).getD 31 0 + 128)) (digs 256 32 ((Fin.ofNat P (N % 2 ^ 255)).val:Int)):=by
 have hv:(Fin.ofNat P (N % 2 ^ 255)).val < 2 ^ 255:=Nat.lt_trans (Fin.ofNat P (N % 2 ^ 255)).isLt two255
 have h1:=half_lt h
 unfold back
 by_cases e:N / 2 ^ 255=1
 ·rw [e,decide_eq_true rfl,sel_true,(top_set hv).1,Nat.one_mul]
 ·have e0:N / 2 ^ 255=0:=by omega
  rw [e0,decide_eq_false (by decide),sel_false,Nat.zero_mul,Nat.add_zero]
theorem back_same {b:List Int} {N:Nat} (h:Parts b N):digs 256 32 (back N:Int)=b↔N % 2 ^ 255 < P:=by
 rw [← back_eq h.lt]
 have h1:=back_lt h.lt
 have h2:=h.lt
 constructor
 ·intro e
  rw [h.eq] at e
  exact Int.ofNat.inj (digs_inj32 (nnn _) (ncast h1) (nnn _) (ncast h2) e)
 ·intro e
  rw [e]
  exact h.eq.symm
theorem byte_and128:∀ a,a < 256→a &&& 128=a / 128 * 128:=by decide +kernel
theorem and_128 {x:Int} (h:0≤x∧x < 256):iAnd .u8 x 128=x / 128 * 2 ^ 7:=by
 obtain ⟨a,rfl,ha⟩:=int_nat (N:=256) h
 have:=iAnd_nat uns8 ha (b:=128) (by decide)
 rw [byte_and128 a ha] at this
 have e:((a / 128 * 128:Nat):Int)=(a:Int) / 128 * 2 ^ 7:=by omega
 rw [← e]; exact this
theorem look33 {b:List Int} {N:Nat} (h:Parts b N) (hb:Dig 256 b) (hl:b.length=32) :
  (((iOr .u8 ((digs 256 32 ((Fin.ofNat P (N % 2 ^ 255)).val:Int)).getD 31 0) (iAnd .u8 (b.getD 31 0) 128)):Int) != b.getD 31 0)=false ∧
   strEq (bytesOf (((digs 256 32 ((Fin.ofNat P (N % 2 ^ 255)).val:Int)).drop 0).take 31)) (bytesOf ((b.drop 0).take 31))=true↔N % 2 ^ 255 < P:=by
 rw [← back_same h]
 have hv:(Fin.ofNat P (N % 2 ^ 255)).val < 2 ^ 255:=Nat.lt_trans (Fin.ofNat P (N % 2 ^ 255)).isLt two255
 have hB:=back_bytes h.lt
 have hh:=half_lt h.lt
 obtain ⟨t1,t2,t3⟩:=top_set hv
 have hd:=digs_dig (B:=256) (by decide) 32 (((Fin.ofNat P (N % 2 ^ 255)).val:Nat):Int)
 have hld:=digs_length 256 32 (((Fin.ofNat P (N % 2 ^ 255)).val:Nat):Int)
 generalize digs 256 32 (((Fin.ofNat P (N % 2 ^ 255)).val:Nat):Int)=C at *
 have b31:0≤b.getD 31 0∧b.getD 31 0 < 256:=getD_dig (by decide) hb
 have b128:b.getD 31 0 / 128=((N / 2 ^ 255:Nat):Int):=by
  rw [h.top]
  have hc:(2:Nat) ^ 248=452312848583266388373324160190187140051835877600158453279131187530910662656:=rfl
  have hc2:(2:Nat) ^ 255=57896044618658097711785492504343953926634992332820282019728792003956564819968:=rfl
  rw [hc,hc2]
  omega
 rw [and_128 b31,b128]
 have hor:iOr .u8 (C.getD 31 0) (((N / 2 ^ 255:Nat):Int) * 2 ^ 7)=C.getD 31 0 + ((N / 2 ^ 255:Nat):Int) * 2 ^ 7 :=
  iOr_low uns8 (Int.natCast_nonneg _) t2 t3 (by show C.getD 31 0 + ((N / 2 ^ 255:Nat):Int) * 128 < 256; generalize N / 2 ^ 255=m at *; omega)
 rw [hor,List.drop_zero,List.drop_zero,strEq_bytes (fun x hx => hd x (List.mem_of_mem_take hx)) (fun x hx => hb x (List.mem_of_mem_take hx))]
 have g1:(digs 256 32 (back N:Int)).take 31=C.take 31:=by
  rw [hB]
  cases decide (N / 2 ^ 255=1)
  ·rfl
  ·rw [sel_true,take_set_lt]
 have g2:(digs 256 32 (back N:Int)).getD 31 0=C.getD 31 0 + ((N / 2 ^ 255:Nat):Int) * 2 ^ 7:=by
  rw [hB]
  by_cases e:N / 2 ^ 255=1
  ·rw [e,decide_eq_true rfl,sel_true,getD_set_eq (by omega)]
   rfl
  ·have e0:N / 2 ^ 255=0:=by omega
   rw [e0,decide_eq_false (by decide),sel_false]
   show _=C.getD 31 0 + 0 * 128
   omega
 rw [← g1,← g2]
 constructor
 ·rintro ⟨h1,h2⟩
  refine list31 (digs_dig (by decide) _ _) (digs_length _ _ _) hb hl (of_decide_eq_true h2) ?_
  simpa using h1
 ·intro e
  rw [e]
  simp
theorem look40 {b:List Int} {N:Nat} (h:Parts b N) (hb:Dig 256 b) (hl:b.length=32) :
  strEq (bytesOf (((sel (decide ((b.getD 31 0:Int) ≥ 128)) ((digs 256 32 ((Fin.ofNat P (N % 2 ^ 255)).val:Int)).set 31 (iAdd .u8 ((digs 256 32 ((Fin.ofNat P (N % 2 ^ 255)).val:Int)).getD 31 0) 128)) (digs 256 32 ((Fin.ofNat P (N % 2 ^ 255)).val:Int))).drop 0).take 32)) (bytesOf b)=true↔N % 2 ^ 255 < P:=by
 rw [← back_same h]
 have hv:(Fin.ofNat P (N % 2 ^ 255)).val < 2 ^ 255:=Nat.lt_trans (Fin.ofNat P (N % 2 ^ 255)).isLt two255
 rw [top_add (top_set hv).2,h.odd,← back_bytes h.lt,List.drop_zero,List.take_of_length_le (by rw [digs_length]; exact Nat.le_refl _),strEq_bytes (digs_dig (by decide) _ _) hb]
 exact decide_eq_true_iff
theorem sel_x {α:Type} {h:Nat} (hh:h < 2) {c:Nat} (hc:c < 2) (x y:α):sel (!((decide (c=1)) == (decide (h=1)))) x y=if c=h then y else x:=by
 have h1:c=0 ∨ c=1:=by omega
 have h2:h=0 ∨ h=1:=by omega
 rcases h1 with rfl | rfl <;> rcases h2 with rfl | rfl <;> rfl
theorem EF_x {X:List Int} {r:Tabn.F} {h:Nat} (hX:EF X r) (hh:h < 2):EF (sel (!((F32 X) == (decide (h=1)))) (F18 (F30 0) X) X) (xOf r h):=by
 rw [hX.odd,sel_x hh (Nat.mod_lt _ (by decide))]
 unfold xOf
 split
 ·exact hX
 ·exact EF_sub EF_zero hX
theorem RF_x {X:List Int} {r:Tabn.F} {h:Nat} (hX:RF X r) (hh:h < 2):RF (sel (!((((iRem (X.getD 0 0) 2):Int) == 1) == (decide (h=1)))) (F19 (F31 0) X) X) (xOf r h):=by
 rw [hX.low,sel_x hh (Nat.mod_lt _ (by decide))]
 unfold xOf
 split
 ·exact hX
 ·exact RF_sub RF_zero hX
theorem fmul_comm' (a b:Tabn.F):a * b=b * a:=by grind -lia -linarith
theorem EF_xx {Y:List Int} {y:Tabn.F} (h:EF Y y):EF (F20 (F18 (F20 Y Y) (F30 1)) (F25 (F16 (F20 (F20 Y Y) (FT37)) (F30 1)))) (xxOf y):=by
 refine (EF_mul (EF_sub (EF_mul h h) EF_one) (EF_inv (EF_add (EF_mul (EF_mul h h) EF_curve) EF_one))).to ?_
 unfold xxOf
 rw [fmul_comm' (y * y) dT]
theorem RF_xx {Y:List Int} {y:Tabn.F} (h:RF Y y):RF (FT57 (FT42 (FT57 Y Y) (FT43 1)) (F28 (FT68 (FT57 (FT45) (FT57 Y Y)) (FT43 1)))) (xxOf y):=by
 unfold FT57 FT42 FT68 FT43
 exact RF_mul (RF_sub (RF_mul h h) RF_one) (RF_inv (RF_add (RF_mul RF_curve (RF_mul h h)) RF_one))
def Reads (ok:Bool) (b:List Int) (R:Pt CT→Prop):Prop:=(ok=true∧∃ p,b=encL p∧R p) ∨ (ok=false∧∀ p,b ≠ encL p)
theorem notEnc {b:List Int} {N:Nat} (h:Parts b N) (hn:¬ RdOk rtF N):∀ p,b ≠ encL p:=by
 intro p e
 apply hn
 rw [h.eq] at e
 have h2:=h.lt
 have:=Int.ofNat.inj (digs_inj32 (nnn _) (ncast h2) (encN_bd p).1 (encN_bd p).2 e)
 rw [this]
 exact rd_only rt_is p
theorem read33 {b:List Int} (hb:Dig 256 b):Reads (FT33_1 b) b (fun p => PE p (FT33 b)):=by
 by_cases hl:b.length=32
 ·obtain ⟨N,hN⟩:=parts hb hl
  have hlook:=look33 hN hb hl
  have hY:EF (F23 b) (Fin.ofNat P (N % 2 ^ 255)):=(EF_read hb hl).to hN.y
  have hh:=half_lt hN.lt
  obtain ⟨hR,hok⟩:=EF_root (EF_xx hY)
  have hX:=EF_x hR hh
  have hz:=hR.same EF_zero
  have hpt:=rd_point (rt:=rtF) hN.lt
  have hne:=notEnc hN
  unfold RdOk at hpt hne
  unfold FT33 FT33_1
  rw [read_ok,decide_eq_true hl,Bool.not_true,sel_false,sel_false,hN.odd,hY.bytes,hok,hz]
  generalize F34 (F20 (F18 (F20 (F23 b) (F23 b)) (F30 1)) (F25 (F16 (F20 (F20 (F23 b) (F23 b)) (FT37)) (F30 1))))=Rt at *
  generalize xxOf (Fin.ofNat P (N % 2 ^ 255))=xx at *
  by_cases c:N % 2 ^ 255 < P
  ·obtain ⟨c1,c2⟩:=hlook.2 c
   rw [c1,c2,Bool.not_true,sel_false,sel_false,sel_false,sel_false]
   by_cases c3:rtF xx * rtF xx=xx
   ·rw [decide_eq_true c3,Bool.not_true,sel_false,sel_false]
    by_cases c4:rtF xx=0∧N / 2 ^ 255=1
    ·refine .inr ⟨?_,hne (fun h => h.2.2 c4)⟩
     rw [decide_eq_true c4.1,decide_eq_true c4.2]
     rfl
    ·obtain ⟨p,p1,p2,p3⟩:=hpt ⟨c,c3,c4⟩
     have e1:∀ {α:Type} (x y:α),sel (decide (rtF xx=0)) (sel (decide (N / 2 ^ 255=1)) x y) y=y:=by
      intro α x y
      by_cases d1:rtF xx=0
      ·by_cases d2:N / 2 ^ 255=1
       ·exact absurd ⟨d1,d2⟩ c4
       ·rw [decide_eq_false d2,sel_false]; cases decide (rtF xx=0) <;> rfl
      ·rw [decide_eq_false d1,sel_false]
     rw [e1,e1]
     refine .inl ⟨rfl,p,?_,?_⟩
     ·rw [hN.eq,← p1]; rfl
     ·have hT:=EF_mul hX hY
      rw [make20 hX.len hY.len EF_one.len hT.len]
      exact ⟨_,_,_,_,_,_,_,_,rfl,hX,hY,EF_one,hT,⟨one_ne_zero',by rw [p3]; exact mul1' _,by rw [p2]; exact mul1' _,by rw [p3,p2]; exact mul1' _⟩⟩
   ·refine .inr ⟨?_,hne (fun h => c3 h.2.1)⟩
    rw [decide_eq_false c3]
    rfl
  ·refine .inr ⟨?_,hne (fun h => c h.1)⟩
   have h3:¬ _:=fun h => c (hlook.1 h)
   generalize (((iOr .u8 ((digs 256 32 ((Fin.ofNat P (N % 2 ^ 255)).val:Int)).getD 31 0) (iAnd .u8 (b.getD 31 0) 128)):Int) != b.getD 31 0)=x1 at *
   generalize strEq (bytesOf (((digs 256 32 ((Fin.ofNat P (N % 2 ^ 255)).val:Int)).drop 0).take 31)) (bytesOf ((b.drop 0).take 31))=x2 at *
   cases x1
   ·cases x2
    ·rfl
    ·exact absurd ⟨rfl,rfl⟩ h3
   ·rfl
 ·refine .inr ⟨?_,fun p e => hl (by rw [e]; exact encL_len p)⟩
  unfold FT33_1
  rw [read_ok,decide_eq_false hl]
  rfl
theorem read40 {b:List Int} (hb:Dig 256 b):Reads (FT40_1 b) b (fun p => PR p (FT40 b)):=by
 by_cases hl:b.length=32
 ·obtain ⟨N,hN⟩:=parts hb hl
  have hlook:=look40 hN hb hl
  have hY:RF (F24 b) (Fin.ofNat P (N % 2 ^ 255)):=(RF_read hb hl).to hN.y
  have hh:=half_lt hN.lt
  obtain ⟨hR,hok⟩:=RF_root (RF_xx hY)
  have hX:=RF_x hR hh
  have hz:=hR.beq RF_zero
  have hpt:=rd_point (rt:=rtF) hN.lt
  have hne:=notEnc hN
  have hlen:(((b.length:Int):Int) != 32)=false:=by rw [hl]; rfl
  unfold RdOk at hpt hne
  rw [hN.odd] at hlook
  unfold FT40 FT40_1
  rw [hlen,sel_false,sel_false,hN.odd,hY.bytes,hok]
  have e43:FT43 0=F31 0:=rfl
  rw [e43,hz]
  generalize F35 (FT57 (FT42 (FT57 (F24 b) (F24 b)) (FT43 1)) (F28 (FT68 (FT57 (FT45) (FT57 (F24 b) (F24 b))) (FT43 1))))=Rt at *
  generalize xxOf (Fin.ofNat P (N % 2 ^ 255))=xx at *
  by_cases c:N % 2 ^ 255 < P
  ·rw [hlook.2 c,Bool.not_true,sel_false,sel_false]
   by_cases c3:rtF xx * rtF xx=xx
   ·rw [decide_eq_true c3,Bool.not_true,sel_false,sel_false]
    by_cases c4:rtF xx=0∧N / 2 ^ 255=1
    ·refine .inr ⟨?_,hne (fun h => h.2.2 c4)⟩
     rw [decide_eq_true c4.1,decide_eq_true c4.2]
     rfl
    ·obtain ⟨p,p1,p2,p3⟩:=hpt ⟨c,c3,c4⟩
     have e1:∀ {α:Type} (x y:α),sel (decide (rtF xx=0)) (sel (decide (N / 2 ^ 255=1)) x y) y=y:=by
      intro α x y
      by_cases d1:rtF xx=0
      ·by_cases d2:N / 2 ^ 255=1
       ·exact absurd ⟨d1,d2⟩ c4
       ·rw [decide_eq_false d2,sel_false]; cases decide (rtF xx=0) <;> rfl
      ·rw [decide_eq_false d1,sel_false]
     rw [e1,e1]
     refine .inl ⟨rfl,p,?_,?_⟩
     ·rw [hN.eq,← p1]; rfl
     ·unfold FT42 FT43
      rw [make48 hX.len hY.len RF_one.len]
      exact ⟨_,_,_,_,_,_,rfl,hX,hY,RF_one,⟨one_ne_zero',by rw [p3]; exact mul1' _,by rw [p2]; exact mul1' _⟩⟩
   ·refine .inr ⟨?_,hne (fun h => c3 h.2.1)⟩
    rw [decide_eq_false c3]
    rfl
  ·refine .inr ⟨?_,hne (fun h => c h.1)⟩
   have h3:¬ _:=fun h => c (hlook.1 h)
   rw [Bool.not_eq_true] at h3
   rw [h3]
   rfl
 ·refine .inr ⟨?_,fun p e => hl (by rw [e]; exact encL_len p)⟩
  have hlen:(((b.length:Int):Int) != 32)=true:=by simp; omega
  unfold FT40_1
  rw [hlen]
  rfl
end Go.Vm
set_option linter.unusedVariables false
set_option linter.unusedSimpArgs false
set_option maxRecDepth 4000
namespace Go.Vm
open Go Tabn
structure Sc4 (s:List Int) (V:Nat):Prop where
 ex:∃ a b c d:Int,s=[a,b,c,d]∧(0≤a∧a < 18446744073709551616)∧(0≤b∧b < 18446744073709551616)∧(0≤c∧c < 18446744073709551616)∧(0≤d∧d < 18446744073709551616) ∧
  a + 18446744073709551616 * b + 340282366920938463463374607431768211456 * c + 6277101735386680763835789423207666416102355444464034512896 * d=(V:Int)
theorem L_lit:L=7237005577332262213973186563042994240857116359379907606001950938285454250989:=rfl
theorem Sc4.zero:Sc4 [0,0,0,0] 0:=⟨0,0,0,0,rfl,by decide,by decide,by decide,by decide,by decide⟩
theorem Sc4.order:Sc4 ((gOrder.drop 0).take 4) L:=⟨6346243789798364141,1503914060200516822,0,1152921504606846976,rfl,by decide,by decide,by decide,by decide,by rw [L_lit]; decide⟩
theorem sub64_eq {x y c:Int} (hx:0≤x∧x < 18446744073709551616) (hy:0≤y∧y < 18446744073709551616) (hc:0≤c∧c≤1):sub64 x y c=x - y - c + 18446744073709551616 * sub64b x y c:=by
 unfold sub64 sub64b
 split <;> omega
theorem below34 {a b:List Int} {V W:Nat} (ha:Sc4 a V) (hb:Sc4 b W):FT34 a b=decide (V < W):=by
 obtain ⟨a0,a1,a2,a3,rfl,h0,h1,h2,h3,hV⟩:=ha
 obtain ⟨b0,b1,b2,b3,rfl,k0,k1,k2,k3,hW⟩:=hb
 have e:FT34 [a0,a1,a2,a3] [b0,b1,b2,b3]=((sub64b a3 b3 (sub64b a2 b2 (sub64b a1 b1 (sub64b a0 b0 0))):Int) == 1):=by kernel_rfl
 rw [e]
 have r0:=sub64b_01 a0 b0 0
 have s0:=sub64_rng a0 b0 0
 have q0:=sub64_eq h0 k0 (show (0:Int)≤0∧(0:Int)≤1 by decide)
 generalize sub64b a0 b0 0=c0 at *
 generalize sub64 a0 b0 0=d0 at *
 have r1:=sub64b_01 a1 b1 c0
 have s1:=sub64_rng a1 b1 c0
 have q1:=sub64_eq h1 k1 r0
 generalize sub64b a1 b1 c0=c1 at *
 generalize sub64 a1 b1 c0=d1 at *
 have r2:=sub64b_01 a2 b2 c1
 have s2:=sub64_rng a2 b2 c1
 have q2:=sub64_eq h2 k2 r1
 generalize sub64b a2 b2 c1=c2 at *
 generalize sub64 a2 b2 c1=d2 at *
 have r3:=sub64b_01 a3 b3 c2
 have s3:=sub64_rng a3 b3 c2
 have q3:=sub64_eq h3 k3 r2
 generalize sub64b a3 b3 c2=c3 at *
 generalize sub64 a3 b3 c2=d3 at *
 by_cases h:V < W
 ·have:c3=1:=by omega
  rw [this,decide_eq_true h]; rfl
 ·have:c3=0:=by omega
  rw [this,decide_eq_false h]; rfl
theorem shl1 {s c:Int} (hs:0≤s∧s < 18446744073709551616) (hc:0≤c∧c≤1):iOr .u64 (iShl .u64 s 1) c=s % 9223372036854775808 * 2 + c:=by
 have e1:iShl .u64 s 1=s % 9223372036854775808 * 2 ^ 1:=by
  have:=iShl_at .u64 s 1 (by decide)
  rw [show ((1:Nat):Int)=1 from rfl] at this
  rw [this,wrap_u64]
  show s * 2 % 18446744073709551616=s % 9223372036854775808 * 2
  omega
 rw [e1,iOr_sum _ c 1 (by omega) hc.1 (by show c < 2; omega) (by show s % 9223372036854775808 * 2 + c < _; omega)]
 rfl
theorem shr63 {s:Int} (hs:0≤s∧s < 18446744073709551616):iShr .u64 s 63=s / 9223372036854775808:=iShr_at .u64 s 63 (by decide)
theorem shift53 {s:List Int} {V b:Nat} (h:Sc4 s V) (hV:V < L) (hb:b < 2):Sc4 (FT53 s (b:Int)) ((2 * V + b) % L):=by
 obtain ⟨a0,a1,a2,a3,rfl,h0,h1,h2,h3,hN⟩:=h
 have e0:(itr (FT53l0) 4 ((b:Int),[a0,a1,a2,a3])).2=[iOr .u64 (iShl .u64 a0 1) (b:Int),iOr .u64 (iShl .u64 a1 1) (iShr .u64 a0 63),iOr .u64 (iShl .u64 a2 1) (iShr .u64 a1 63),iOr .u64 (iShl .u64 a3 1) (iShr .u64 a2 63)]:=by kernel_rfl
 unfold FT53
 rw [e0,shr63 h0,shr63 h1,shr63 h2,shl1 h0 (by omega),shl1 h1 (by omega),shl1 h2 (by omega),shl1 h3 (by omega)]
 rw [L_lit] at hV
 have g0:0≤a0 % 9223372036854775808 * 2 + (b:Int)∧a0 % 9223372036854775808 * 2 + (b:Int) < 18446744073709551616:=by omega
 have g1:0≤a1 % 9223372036854775808 * 2 + a0 / 9223372036854775808∧a1 % 9223372036854775808 * 2 + a0 / 9223372036854775808 < 18446744073709551616:=by omega
 have g2:0≤a2 % 9223372036854775808 * 2 + a1 / 9223372036854775808∧a2 % 9223372036854775808 * 2 + a1 / 9223372036854775808 < 18446744073709551616:=by omega
 have g3:0≤a3 % 9223372036854775808 * 2 + a2 / 9223372036854775808∧a3 % 9223372036854775808 * 2 + a2 / 9223372036854775808 < 18446744073709551616:=by omega
 have hT:(a0 % 9223372036854775808 * 2 + (b:Int)) + 18446744073709551616 * (a1 % 9223372036854775808 * 2 + a0 / 9223372036854775808) + 340282366920938463463374607431768211456 * (a2 % 9223372036854775808 * 2 + a1 / 9223372036854775808) + 6277101735386680763835789423207666416102355444464034512896 * (a3 % 9223372036854775808 * 2 + a2 / 9223372036854775808)=((2 * V + b:Nat):Int):=by omega
 generalize a0 % 9223372036854775808 * 2 + (b:Int)=t0 at *
 generalize a1 % 9223372036854775808 * 2 + a0 / 9223372036854775808=t1 at *
 generalize a2 % 9223372036854775808 * 2 + a1 / 9223372036854775808=t2 at *
 generalize a3 % 9223372036854775808 * 2 + a2 / 9223372036854775808=t3 at *
 have hS:Sc4 [t0,t1,t2,t3] (2 * V + b):=⟨t0,t1,t2,t3,rfl,g0,g1,g2,g3,hT⟩
 rw [below34 hS Sc4.order]
 by_cases hlt:2 * V + b < L
 ·rw [decide_eq_true hlt,Bool.not_true,sel_false,Nat.mod_eq_of_lt hlt]
  exact hS
 ·rw [decide_eq_false hlt,Bool.not_false,sel_true]
  have em:(2 * V + b) % L=2 * V + b - L:=by
   rw [Nat.mod_eq_sub_mod (by omega),Nat.mod_eq_of_lt]
   rw [L_lit] at *
   omega
  rw [em]
  rw [L_lit] at hlt ⊢
  have e1:(itr (FT53l1) 4 (0,[t0,t1,t2,t3])).2=[sub64 t0 6346243789798364141 0,sub64 t1 1503914060200516822 (sub64b t0 6346243789798364141 0),sub64 t2 0 (sub64b t1 1503914060200516822 (sub64b t0 6346243789798364141 0)),sub64 t3 1152921504606846976 (sub64b t2 0 (sub64b t1 1503914060200516822 (sub64b t0 6346243789798364141 0)))]:=by kernel_rfl
  rw [e1]
  have r0:=sub64b_01 t0 6346243789798364141 0
  have s0:=sub64_rng t0 6346243789798364141 0
  have q0:=sub64_eq g0 (show (0:Int)≤6346243789798364141∧(6346243789798364141:Int) < 18446744073709551616 by decide) (show (0:Int)≤0∧(0:Int)≤1 by decide)
  generalize sub64b t0 6346243789798364141 0=c0 at *
  generalize sub64 t0 6346243789798364141 0=d0 at *
  have r1:=sub64b_01 t1 1503914060200516822 c0
  have s1:=sub64_rng t1 1503914060200516822 c0
  have q1:=sub64_eq g1 (show (0:Int)≤1503914060200516822∧(1503914060200516822:Int) < 18446744073709551616 by decide) r0
  generalize sub64b t1 1503914060200516822 c0=c1 at *
  generalize sub64 t1 1503914060200516822 c0=d1 at *
  have r2:=sub64b_01 t2 0 c1
  have s2:=sub64_rng t2 0 c1
  have q2:=sub64_eq g2 (show (0:Int)≤0∧(0:Int) < 18446744073709551616 by decide) r1
  generalize sub64b t2 0 c1=c2 at *
  generalize sub64 t2 0 c1=d2 at *
  have r3:=sub64b_01 t3 1152921504606846976 c2
  have s3:=sub64_rng t3 1152921504606846976 c2
  have q3:=sub64_eq g3 (show (0:Int)≤1152921504606846976∧(1152921504606846976:Int) < 18446744073709551616 by decide) r2
  generalize sub64b t3 1152921504606846976 c2=c3 at *
  generalize sub64 t3 1152921504606846976 c2=d3 at *
  exact ⟨d0,d1,d2,d3,rfl,s0,s1,s2,s3,by omega⟩
theorem L_pos:0 < L:=by decide
theorem step_mod (M b:Nat):(2 * (M % L) + b) % L=(2 * M + b) % L:=by
 rw [Nat.add_mod,Nat.mul_mod,Nat.mod_mod,← Nat.mul_mod,← Nat.add_mod]
theorem reduce22 {b:List Int} (hb:Dig 256 b) {N:Nat} (hN:num 256 b=(N:Int)):Sc4 (FT22 b) (N % L):=by
 have hlt:N < 2 ^ (8 * b.length):=by
  obtain ⟨M,h1,h2⟩:=num_nat hb
  rw [h1] at hN
  have:=Int.ofNat.inj hN
  omega
 have key:∀ k,k≤8 * b.length→Sc4 (itr (FT22l0 b) k [0,0,0,0]) ((N / 2 ^ (8 * b.length - k)) % L):=by
  intro k
  induction k with
  | zero =>
   intro _
   rw [itr_zero,Nat.sub_zero,Nat.div_eq_of_lt hlt]
   exact Sc4.zero
  | succ k ih =>
   intro hk'
   have ih:=ih (by omega)
   rw [itr_succ,bits_half N (8 * b.length) k (by omega),← step_mod]
   generalize itr (FT22l0 b) k _=z at *
   unfold FT22l0
   rw [byte_bit hb hN (8 * b.length - 1 - k)]
   have hw:IntKind.wrap .u64 ((N / 2 ^ (8 * b.length - 1 - k) % 2:Nat):Int)=((N / 2 ^ (8 * b.length - 1 - k) % 2:Nat):Int):=by
    rw [wrap_u64]; omega
   rw [hw]
   exact shift53 ih (Nat.mod_lt _ L_pos) (Nat.mod_lt _ (by decide))
 have:=key (8 * b.length) (Nat.le_refl _)
 rw [Nat.sub_self,Nat.pow_zero,Nat.div_one] at this
 exact this
theorem num_append (B:Int):∀ (xs ys:List Int),num B (xs ++ ys)=num B xs + B ^ xs.length * num B ys
 | [],ys => by show num B ys=0 + B ^ 0 * num B ys; rw [Int.pow_zero]; omega
 | x :: xs,ys => by
  show x + B * num B (xs ++ ys)=x + B * num B xs + B ^ (xs.length + 1) * num B ys
  rw [num_append B xs ys,Int.mul_add,Int.pow_succ,Int.mul_comm (B ^ xs.length) B,Int.mul_assoc,Int.add_assoc]
theorem byte_at {a:Int} (ha:0≤a∧a < 18446744073709551616) {k:Nat} (hk:k < 8):IntKind.wrap .u8 (iShr .u64 a ((8 * k:Nat):Int))=a / 256 ^ k % 256:=by
 rw [iShr_at .u64 a (8 * k) (by show 8 * k≤64; omega),wrap_u8,Int.pow_mul]
 rfl
theorem word_bytes {p0:List Int} {j:Nat} (h:0≤p0.getD j 0∧p0.getD j 0 < 18446744073709551616) (z:Nat × List Int):∀ k,k≤8→(itr (FT23l1 p0 j) k z).2=z.2 ++ digs 256 k (p0.getD j 0):=by
 intro k
 induction k with
 | zero => intro _; rw [itr_zero]; exact (List.append_nil _).symm
 | succ k ih =>
  intro hk
  rw [itr_succ]
  show (itr (FT23l1 p0 j) k z).2 ++ [_]=_
  rw [ih (by omega),digs_append (by decide) k 1,List.append_assoc,byte_at h (by omega)]
  rfl
theorem bytes23 {s:List Int} {V:Nat} (h:Sc4 s V):FT23 s=digs 256 32 (V:Int):=by
 obtain ⟨a,b,c,d,rfl,h0,h1,h2,h3,hV⟩:=h
 have w:∀ j,0≤[a,b,c,d].getD j 0∧[a,b,c,d].getD j 0 < 18446744073709551616:=by
  intro j
  match j with
  | 0 => exact h0
  | 1 => exact h1
  | 2 => exact h2
  | 3 => exact h3
  | j + 4 => exact ⟨Int.le_refl 0,(show (0:Int) < 18446744073709551616 by decide)⟩
 have e:FT23 [a,b,c,d]=digs 256 8 a ++ (digs 256 8 b ++ (digs 256 8 c ++ digs 256 8 d)):=by
  unfold FT23
  rw [itr_succ,itr_succ,itr_succ,itr_succ,itr_zero]
  show (itr (FT23l1 _ 3) 8 _).2=_
  rw [word_bytes (w 3) _ 8 (by decide)]
  show (itr (FT23l1 _ 2) 8 _).2 ++ _=_
  rw [word_bytes (w 2) _ 8 (by decide)]
  show (itr (FT23l1 _ 1) 8 _).2 ++ _ ++ _=_
  rw [word_bytes (w 1) _ 8 (by decide)]
  show (itr (FT23l1 _ 0) 8 _).2 ++ _ ++ _ ++ _=_
  rw [word_bytes (w 0) _ 8 (by decide)]
  show [] ++ digs 256 8 a ++ digs 256 8 b ++ digs 256 8 c ++ digs 256 8 d=_
  rw [List.nil_append,List.append_assoc,List.append_assoc]
 rw [e]
 have n8:∀ x:Int,(0≤x∧x < 18446744073709551616)→num 256 (digs 256 8 x)=x:=fun x hx => by
  rw [num_digs (by decide)]; exact Int.emod_eq_of_lt hx.1 hx.2
 refine digs_of (by decide) ?_ ?_ ?_
 ·intro x hx
  simp only [List.mem_append] at hx
  rcases hx with hx | hx | hx | hx <;> exact digs_dig (by decide) _ _ x hx
 ·simp only [List.length_append,digs_length]
 ·have p:(256:Int) ^ 8=18446744073709551616:=rfl
  rw [num_append,num_append,num_append,n8 a h0,n8 b h1,n8 c h2,n8 d h3,digs_length,digs_length,digs_length,p]
  omega
theorem add64_eq {x y c:Int} (hx:0≤x∧x < 18446744073709551616) (hy:0≤y∧y < 18446744073709551616) (hc:0≤c∧c≤1):add64 x y c=x + y + c - 18446744073709551616 * add64c x y c:=by
 unfold add64 add64c
 omega
theorem V_num {V:Nat} (hV:V < 2 ^ 256):num 256 (digs 256 32 (V:Int))=(V:Int):=num_small (nnn V) (ncast hV)
theorem plus25 {s t:List Int} {V W:Nat} (hs:Sc4 s V) (ht:Sc4 t W) (hV:V < L) (hW:W < L):Sc4 (FT25 s t) ((V + W) % L):=by
 obtain ⟨a0,a1,a2,a3,rfl,h0,h1,h2,h3,hN⟩:=hs
 obtain ⟨b0,b1,b2,b3,rfl,k0,k1,k2,k3,hM⟩:=ht
 have e0:(itr (FT25l0 [b0,b1,b2,b3]) 4 (0,[a0,a1,a2,a3])).2=[add64 a0 b0 0,add64 a1 b1 (add64c a0 b0 0),add64 a2 b2 (add64c a1 b1 (add64c a0 b0 0)),add64 a3 b3 (add64c a2 b2 (add64c a1 b1 (add64c a0 b0 0)))]:=by kernel_rfl
 have hS:Sc4 (itr (FT25l0 [b0,b1,b2,b3]) 4 (0,[a0,a1,a2,a3])).2 (V + W):=by
  rw [e0]
  rw [L_lit] at hV hW
  have r0:=add64c_01 h0 k0 (show (0:Int)≤0∧(0:Int)≤1 by decide)
  have s0:=add64_rng a0 b0 0
  have q0:=add64_eq h0 k0 (show (0:Int)≤0∧(0:Int)≤1 by decide)
  generalize add64c a0 b0 0=c0 at *
  generalize add64 a0 b0 0=d0 at *
  have r1:=add64c_01 h1 k1 r0
  have s1:=add64_rng a1 b1 c0
  have q1:=add64_eq h1 k1 r0
  generalize add64c a1 b1 c0=c1 at *
  generalize add64 a1 b1 c0=d1 at *
  have r2:=add64c_01 h2 k2 r1
  have s2:=add64_rng a2 b2 c1
  have q2:=add64_eq h2 k2 r1
  generalize add64c a2 b2 c1=c2 at *
  generalize add64 a2 b2 c1=d2 at *
  have r3:=add64c_01 h3 k3 r2
  have s3:=add64_rng a3 b3 c2
  have q3:=add64_eq h3 k3 r2
  generalize add64c a3 b3 c2=c3 at *
  generalize add64 a3 b3 c2=d3 at *
  exact ⟨d0,d1,d2,d3,rfl,s0,s1,s2,s3,by omega⟩
 have hlt:V + W < 2 ^ 256:=by
  have h256:(2:Nat) ^ 256=115792089237316195423570985008687907853269984665640564039457584007913129639936:=rfl
  rw [L_lit] at hV hW
  rw [h256]; omega
 unfold FT25
 rw [bytes23 hS,part1_all (digs_length _ _ _)]
 exact reduce22 (digs_dig (by decide) _ _) (V_num hlt)
theorem Sc4.dig {s:List Int} {V:Nat} (h:Sc4 s V):Dig (2 ^ 64) s∧num (2 ^ 64) s=(V:Int)∧V < 2 ^ 256:=by
 obtain ⟨a,b,c,d,rfl,h0,h1,h2,h3,hV⟩:=h
 have p:(2:Int) ^ 64=18446744073709551616:=rfl
 have h256:(2:Nat) ^ 256=115792089237316195423570985008687907853269984665640564039457584007913129639936:=rfl
 rw [p,h256]
 refine ⟨?_,?_,by omega⟩
 ·intro x hx
  simp only [List.mem_cons,List.not_mem_nil,or_false] at hx
  rcases hx with rfl | rfl | rfl | rfl
  ·exact h0
  ·exact h1
  ·exact h2
  ·exact h3
 ·show a + 18446744073709551616 * (b + 18446744073709551616 * (c + 18446744073709551616 * (d + 18446744073709551616 * 0)))=(V:Int)
  omega
theorem word_bit {s:List Int} {V:Nat} (h:Sc4 s V) (k:Nat):iAnd .u64 (iShr .u64 (s.getD (k / 64) 0) ((k % 64:Nat):Int)) 1=((V / 2 ^ k % 2:Nat):Int):=by
 obtain ⟨h1,h2,h3⟩:=h.dig
 have hd:=getD_dig (B:=2 ^ 64) (by decide) h1 (i:=k / 64)
 rw [bit_at uns64 (by decide) (show k % 64≤64 by omega) hd,digit_bit (m:=64) (by decide) h1 k,h2]
 rw [Int.natCast_emod,Int.natCast_ediv,Int.natCast_pow]
 rfl
theorem mul24 {s t:List Int} {V W:Nat} (hs:Sc4 s V) (ht:Sc4 t W) (hV:V < L):Sc4 (FT24 s t) ((W * V) % L):=by
 have hlt:=ht.dig.2.2
 have key:∀ k,k≤256→Sc4 (itr (FT24l0 s t) k [0,0,0,0]) ((W / 2 ^ (256 - k) * V) % L):=by
  intro k
  induction k with
  | zero =>
   intro _
   rw [itr_zero,Nat.sub_zero,Nat.div_eq_of_lt hlt,Nat.zero_mul]
   exact Sc4.zero
  | succ k ih =>
   intro hk'
   have ih:=ih (by omega)
   rw [itr_succ,bits_half W 256 k (by omega)]
   generalize itr (FT24l0 s t) k _=z at *
   unfold FT24l0
   rw [bit_one (word_bit ht (256 - 1 - k))]
   have h2:=shift53 ih (Nat.mod_lt _ L_pos) (show 0 < 2 by decide)
   rw [Nat.add_zero] at h2
   have e2:2 * (W / 2 ^ (256 - k) * V % L) % L=2 * (W / 2 ^ (256 - k) * V) % L:=by rw [Nat.mul_mod,Nat.mod_mod,← Nat.mul_mod]
   rw [e2] at h2
   rcases Nat.mod_two_eq_zero_or_one (W / 2 ^ (256 - 1 - k)) with h | h
   ·rw [h,decide_eq_false (by decide),sel_false,Nat.add_zero,Nat.mul_assoc]
    exact h2
   ·rw [h,decide_eq_true rfl,sel_true,Nat.add_mul,Nat.one_mul,Nat.mul_assoc]
    have h3:=plus25 h2 hs (Nat.mod_lt _ L_pos) hV
    rw [Nat.mod_add_mod] at h3
    exact h3
 have:=key 256 (Nat.le_refl _)
 rw [Nat.sub_self,Nat.pow_zero,Nat.div_one] at this
 exact this
end Go.Vm
set_option linter.unusedVariables false
set_option linter.unusedSimpArgs false
set_option maxRecDepth 4000
namespace Go.Vm
open Go Tabn
theorem chainG {f:Nat→Int × List Int→Int × List Int} {W:Nat→Int} {sg:Int} {p:List Int} {n:Nat} {C:Int→Prop} (hn:p.length=n)
  (hf:∀ k c d,k < n→d.length=n→d.getD k 0=p.getD k 0→C c→∃ c' r,f k (c,d)=(c',d.set k r)∧(0≤r∧r < 256)∧C c'∧r + 256 * (sg * c')=W k + sg * c) {c0:Int} (h0:C c0) :
  ∀ j,j≤n→∃ c d,itr f j (c0,p)=(c,d)∧d.length=n∧C c∧(∀ i,i < j→0≤d.getD i 0∧d.getD i 0 < 256)∧(∀ i,j≤i→d.getD i 0=p.getD i 0)∧num 256 (d.take j) + 256 ^ j * (sg * c)=su 256 W j + sg * c0:=by
 intro j
 induction j with
 | zero =>
  intro _
  rw [itr_zero]
  refine ⟨c0,p,rfl,hn,h0,fun i hi => absurd hi (by omega),fun _ _ => rfl,?_⟩
  rw [List.take_zero,Int.pow_zero]
  show 0 + 1 * (sg * c0)=0 + sg * c0
  omega
 | succ j ih =>
  intro hj
  obtain ⟨c,d,e,hl,hc,hd,hp,hv⟩:=ih (by omega)
  rw [itr_succ,e]
  obtain ⟨c',r,e1,hr,hc',hw⟩:=hf j c d (by omega) hl (hp j (Nat.le_refl _)) hc
  refine ⟨c',d.set j r,e1,by rw [List.length_set,hl],hc',?_,?_,?_⟩
  ·intro i hi
   by_cases hij:i=j
   ·subst hij; rw [getD_set_eq (by omega)]; exact hr
   ·rw [getD_set_ne (by omega)]; exact hd i (by omega)
  ·intro i hi
   rw [getD_set_ne (by omega)]; exact hp i (by omega)
  ·rw [num_take,take_set_lt,getD_set_eq (by omega),su_succ,Int.pow_succ]
   generalize (256:Int) ^ j=X at *
   generalize num 256 (d.take j)=a at *
   generalize su 256 W j=b at *
   generalize sg * c'=y at *
   generalize sg * c=x at *
   generalize sg * c0=x0 at *
   generalize W j=w at *
   have e2:a=b + x0 - X * x:=by omega
   have e3:w=r + 256 * y - x:=by omega
   rw [e2,e3]
   grind -lia -linarith
theorem chain_all {f:Nat→Int × List Int→Int × List Int} {W:Nat→Int} {sg:Int} {p:List Int} {n:Nat} {C:Int→Prop} (hn:p.length=n)
  (hf:∀ k c d,k < n→d.length=n→d.getD k 0=p.getD k 0→C c→∃ c' r,f k (c,d)=(c',d.set k r)∧(0≤r∧r < 256)∧C c'∧r + 256 * (sg * c')=W k + sg * c) {c0:Int} (h0:C c0) :
  ∃ c d,itr f n (c0,p)=(c,d)∧d.length=n∧C c∧Dig 256 d∧num 256 d + 256 ^ n * (sg * c)=su 256 W n + sg * c0:=by
 obtain ⟨c,d,e,hl,hc,hd,_,hv⟩:=chainG (sg:=sg) hn hf h0 n (Nat.le_refl _)
 refine ⟨c,d,e,hl,hc,dig_of_getD (fun i hi => hd i (by omega)),?_⟩
 rw [List.take_of_length_le (by omega)] at hv
 exact hv
theorem pow33:(256:Int) ^ 33=29642774844752946028434172162224104410437116074403984394101141506025761187823616:=rfl
theorem dbl33 {r:List Int} {V b:Nat} (hd:Dig 256 r) (hl:r.length=33) (hV:num 256 r=(V:Int)) (hlt:V < L) (hb:b < 2) :
  ∃ d,itr FT32l2 33 ((b:Int),r)=(0,d)∧d.length=33∧Dig 256 d∧num 256 d=((2 * V + b:Nat):Int):=by
 obtain ⟨c,d,e,h1,h2,h3,h4⟩:=chain_all (f:=FT32l2) (W:=fun k => 2 * r.getD k 0) (sg:=1) (p:=r) (n:=33) (C:=fun c => 0≤c∧c≤1) hl (by
  intro k c d hk hld hg hc
  refine ⟨iQuo .i64 (iAdd .i64 (iMul .i64 2 (d.getD k 0)) c) 256,iRem (iAdd .i64 (iMul .i64 2 (d.getD k 0)) c) 256,rfl,?_⟩
  rw [hg]
  have hr:0≤r.getD k 0∧r.getD k 0 < 256:=getD_dig (by decide) hd
  generalize r.getD k 0=x at *
  have e1:iMul .i64 2 x=2 * x:=by unfold iMul; exact wrap_small (by omega) (by omega)
  have e2:iAdd .i64 (2 * x) c=2 * x + c:=iAdd_i64 (by omega) (by omega)
  have e3:iQuo .i64 (2 * x + c) 256=(2 * x + c) / 256:=by
   unfold iQuo
   rw [Int.tdiv_eq_ediv_of_nonneg (by omega),wrap_small (by omega) (by omega)]
  have e4:iRem (2 * x + c) 256=(2 * x + c) % 256:=by
   unfold iRem
   rw [Int.tmod_eq_emod_of_nonneg (by omega)]
  rw [e1,e2,e3,e4]
  omega) (c0:=(b:Int)) (by omega)
 have e5:su 256 (fun k => 2 * r.getD k 0) 33=2 * (V:Int):=by rw [su_mul,su_all hl,hV]
 rw [e5,pow33] at h4
 rw [L_lit] at hlt
 have hb1:=num_bd (B:=256) (by decide) h3
 have hc:c=0:=by omega
 subst hc
 exact ⟨d,e,h1,h3,by omega⟩
noncomputable def ordL:List Int:=[237,211,245,92,26,99,18,88,214,156,247,162,222,249,222,20,0,0,0,0,0,0,0,0,0,0,0,0,0,0,0,16]
theorem ordL_num:num 256 ordL=(L:Int):=by kernel_rfl
theorem ordL_dig:Dig 256 ordL:=by unfold Dig ordL; decide
theorem ordL_len:ordL.length=32:=rfl
noncomputable def lessS (r:List Int) (k3:Nat) (z3:Int × List Int):Int × List Int :=
 ((sel (decide (((sel (decide (((k3:Int):Int) < 32)) (iSub .i64 (iSub .i64 (r.getD k3 0) z3.1) (IntKind.wrap .i64 (ordL.getD k3 0))) (iSub .i64 (r.getD k3 0) z3.1)):Int) < 0)) 1 0),z3.2.set k3 (sel (decide (((sel (decide (((k3:Int):Int) < 32)) (iSub .i64 (iSub .i64 (r.getD k3 0) z3.1) (IntKind.wrap .i64 (ordL.getD k3 0))) (iSub .i64 (r.getD k3 0) z3.1)):Int) < 0)) (iAdd .i64 (sel (decide (((k3:Int):Int) < 32)) (iSub .i64 (iSub .i64 (r.getD k3 0) z3.1) (IntKind.wrap .i64 (ordL.getD k3 0))) (iSub .i64 (r.getD k3 0) z3.1)) 256) (sel (decide (((k3:Int):Int) < 32)) (iSub .i64 (iSub .i64 (r.getD k3 0) z3.1) (IntKind.wrap .i64 (ordL.getD k3 0))) (iSub .i64 (r.getD k3 0) z3.1))))
theorem less33 {r:List Int} {T:Nat} (hd:Dig 256 r) (hl:r.length=33) (hT:num 256 r=(T:Int)) :
  ∃ c d,itr (lessS r) 33 (0,List.replicate 33 0)=(c,d)∧d.length=33∧(c=0 ∨ c=1)∧Dig 256 d∧num 256 d - 256 ^ 33 * c=(T:Int) - (L:Int):=by
 obtain ⟨c,d,e,h1,h2,h3,h4⟩:=chain_all (f:=lessS r) (W:=fun k => r.getD k 0 + -1 * (ordL ++ [0]).getD k 0) (sg:=-1) (p:=List.replicate 33 0) (n:=33) (C:=fun c => 0≤c∧c≤1) (by simp) (by
  intro k c d hk hld hg hc
  have hr:0≤r.getD k 0∧r.getD k 0 < 256:=getD_dig (by decide) hd
  have hx:(sel (decide (((k:Int):Int) < 32)) (iSub .i64 (iSub .i64 (r.getD k 0) c) (IntKind.wrap .i64 (ordL.getD k 0))) (iSub .i64 (r.getD k 0) c))=r.getD k 0 - c - (ordL ++ [0]).getD k 0∧0≤(ordL ++ [0]).getD k 0∧(ordL ++ [0]).getD k 0 < 256:=by
   have e1:iSub .i64 (r.getD k 0) c=r.getD k 0 - c:=iSub_i64 (by omega) (by omega)
   rw [e1]
   by_cases h:k < 32
   ·have ho:0≤ordL.getD k 0∧ordL.getD k 0 < 256:=getD_dig (by decide) ordL_dig
    have eo:(ordL ++ [0]).getD k 0=ordL.getD k 0:=by
     rw [List.getD_eq_getElem?_getD,List.getElem?_append_left (by rw [ordL_len]; exact h),← List.getD_eq_getElem?_getD]
    rw [decide_eq_true (by omega),sel_true,eo,wrap8_64 ho]
    exact ⟨iSub_i64 (by omega) (by omega),ho⟩
   ·have hk2:k=32:=by omega
    subst hk2
    rw [decide_eq_false (by decide),sel_false]
    have eo:(ordL ++ [0]).getD 32 0=0:=rfl
    rw [eo]
    omega
  unfold lessS
  simp only
  rw [hx.1]
  obtain ⟨_,ho⟩:=hx
  generalize (ordL ++ [0]).getD k 0=o at *
  generalize r.getD k 0=x at *
  by_cases hn:x - c - o < 0
  ·rw [decide_eq_true hn,sel_true,sel_true]
   have e2:iAdd .i64 (x - c - o) 256=x - c - o + 256:=iAdd_i64 (by omega) (by omega)
   rw [e2]
   exact ⟨1,_,rfl,by omega,by omega,by omega⟩
  ·rw [decide_eq_false hn,sel_false,sel_false]
   exact ⟨0,_,rfl,by omega,by omega,by omega⟩) (c0:=0) (by decide)
 have e5:su 256 (fun k => r.getD k 0 + -1 * (ordL ++ [0]).getD k 0) 33=(T:Int) - (L:Int):=by
  rw [su_add,su_mul,su_all hl,su_all (xs:=ordL ++ [0]) (n:=33) rfl,hT,num_append,ordL_num]
  show (T:Int) + -1 * ((L:Int) + _ * (0 + 256 * 0))=_
  omega
 rw [e5] at h4
 refine ⟨c,d,e,h1,by omega,h3,?_⟩
 generalize (256:Int) ^ 33=X at *
 have:X * (-1 * c)=-(X * c):=by rw [Int.neg_mul,Int.one_mul,Int.mul_neg]
 omega
theorem bit_of {b:List Int} (hb:Dig 256 b) {N:Nat} (hN:num 256 b=(N:Int)) {i k1:Nat} (hk:k1 < 8) :
  iRem (iShr .i64 (IntKind.wrap .i64 (b.getD i 0)) (((8:Nat):Int) - 1 - (k1:Int))) 2=((N / 2 ^ (8 * i + (7 - k1)) % 2:Nat):Int):=by
 have hd:=getD_dig (B:=256) (by decide) hb (i:=i)
 have e1:((8:Nat):Int) - 1 - (k1:Int)=((7 - k1:Nat):Int):=by omega
 rw [wrap8_64 hd,e1,iShr_at .i64 _ (7 - k1) (by show 7 - k1≤64; omega)]
 have h2:=digit_bit (m:=8) (by decide) hb (8 * i + (7 - k1))
 rw [show (8 * i + (7 - k1)) / 8=i by omega,show (8 * i + (7 - k1)) % 8=7 - k1 by omega] at h2
 unfold iRem
 have hp:=two_pos (7 - k1)
 rw [Int.tmod_eq_emod_of_nonneg (Int.ediv_nonneg hd.1 (Int.le_of_lt hp)),h2]
 show num 256 b / 2 ^ (8 * i + (7 - k1)) % 2=_
 rw [hN,Int.natCast_emod,Int.natCast_ediv,Int.natCast_pow]
 rfl
def St33 (z:Nat × List Int) (V:Nat):Prop:=z.1=33∧z.2.length=33∧Dig 256 z.2∧num 256 z.2=(V:Int)∧V < L
theorem bit33 {b:List Int} (hb:Dig 256 b) {N:Nat} (hN:num 256 b=(N:Int)) {k0 k1:Nat} (hk:k1 < 8) {z:Nat × List Int} {V:Nat} (hz:St33 z V) :
  St33 (FT32l1 b k0 k1 z) ((2 * V + N / 2 ^ (8 * (b.length - 1 - k0) + (7 - k1)) % 2) % L):=by
 obtain ⟨z1,z2,z3,z4,z5⟩:=hz
 have hb2:N / 2 ^ (8 * (b.length - 1 - k0) + (7 - k1)) % 2 < 2:=Nat.mod_lt _ (by decide)
 obtain ⟨d,e,d1,d2,d3⟩:=dbl33 z3 z2 z4 z5 hb2
 have hS:FT32l3 b k0 k1 z=lessS (itr FT32l2 33 ((iRem (iShr .i64 (IntKind.wrap .i64 (b.getD (b.length - 1 - k0) 0)) (((8:Nat):Int) - 1 - (k1:Int))) 2),z.2)).2:=rfl
 unfold FT32l1
 rw [hS,bit_of hb hN hk,e]
 generalize N / 2 ^ (8 * (b.length - 1 - k0) + (7 - k1)) % 2=bt at *
 obtain ⟨c,d',e',l1,l2,l3,l4⟩:=less33 d2 d1 d3
 show St33 (sel ((itr (lessS d) 33 (0,List.replicate 33 0)).1 == 0) 33 z.1,sel ((itr (lessS d) 33 (0,List.replicate 33 0)).1 == 0) (itr (lessS d) 33 (0,List.replicate 33 0)).2 d) _
 rw [e',z1]
 have hb1:=num_bd (B:=256) (by decide) l3
 have hb3:=num_bd (B:=256) (by decide) d2
 rw [l1] at hb1
 rw [d1] at hb3
 rw [pow33] at l4 hb1 hb3
 have hL:=L_lit
 have hmod:(2 * V + bt) % L=if 2 * V + bt < L then 2 * V + bt else 2 * V + bt - L:=by
  split
  ·rename_i h; exact Nat.mod_eq_of_lt h
  ·rename_i h
   rw [Nat.mod_eq_sub_mod (by omega),Nat.mod_eq_of_lt (by omega)]
 rw [hmod]
 rcases l2 with rfl | rfl
 ·have h1:¬ 2 * V + bt < L:=by omega
  rw [if_neg h1]
  refine ⟨rfl,l1,l3,?_,by omega⟩
  show num 256 d'=_
  omega
 ·have h1:2 * V + bt < L:=by omega
  rw [if_pos h1]
  exact ⟨rfl,d1,d2,d3,h1⟩
theorem mod32 {b:List Int} (hb:Dig 256 b) {N:Nat} (hN:num 256 b=(N:Int)):FT32 b=digs 256 32 ((N % L:Nat):Int):=by
 have hlt:N < 2 ^ (8 * b.length):=by
  obtain ⟨M,h1,h2⟩:=num_nat hb
  rw [h1] at hN
  have:=Int.ofNat.inj hN
  omega
 have hz0:St33 (33,List.replicate 33 0) 0:=⟨rfl,by simp,Dig.zeros (by decide) _,by show num 256 (List.replicate 33 0)=((0:Nat):Int); rw [num_zeros]; rfl,L_pos⟩
 have inner:∀ (k0:Nat) (z:Nat × List Int),k0 < b.length→St33 z ((N / 2 ^ (8 * b.length - 8 * k0)) % L)→∀ k1,k1≤8→St33 (itr (FT32l1 b k0) k1 (z.1,z.2)) ((N / 2 ^ (8 * b.length - (8 * k0 + k1))) % L):=by
  intro k0 z hk0 hz k1
  induction k1 with
  | zero => intro _; rw [itr_zero]; exact hz
  | succ k1 ih =>
   intro hk1
   have:=bit33 hb hN (k0:=k0) (show k1 < 8 by omega) (ih (by omega))
   rw [itr_succ,show 8 * k0 + (k1 + 1)=8 * k0 + k1 + 1 by omega,bits_half N (8 * b.length) (8 * k0 + k1) (by omega),← step_mod]
   rw [show 8 * (b.length - 1 - k0) + (7 - k1)=8 * b.length - 1 - (8 * k0 + k1) by omega] at this
   exact this
 have outer:∀ k0,k0≤b.length→St33 (itr (FT32l0 b) k0 (33,List.replicate 33 0)) ((N / 2 ^ (8 * b.length - 8 * k0)) % L):=by
  intro k0
  induction k0 with
  | zero =>
   intro _
   rw [itr_zero,Nat.mul_zero,Nat.sub_zero,Nat.div_eq_of_lt hlt]
   exact hz0
  | succ k0 ih =>
   intro hk
   rw [itr_succ]
   have:=inner k0 _ (by omega) (ih (by omega)) 8 (Nat.le_refl _)
   rw [show 8 * (k0 + 1)=8 * k0 + 8 by omega]
   exact this
 have h:=outer b.length (Nat.le_refl _)
 rw [Nat.sub_self,Nat.pow_zero,Nat.div_one] at h
 obtain ⟨_,h2,h3,h4,h5⟩:=h
 unfold FT32
 have hl4:∀ k z,FT32l4 b k z=z.set k (IntKind.wrap .u8 (((itr (FT32l0 b) b.length (33,List.replicate 33 0)).2).getD k 0)):=fun _ _ => rfl
 generalize (itr (FT32l0 b) b.length (33,List.replicate 33 0)).2=rr at *
 obtain ⟨g1,g2,_,_⟩:=itr_pt (B:=256) (f:=FT32l4 b) (g:=fun k => IntKind.wrap .u8 (rr.getD k 0)) (p:=List.replicate 32 0) (n:=32) (o:=0) (by simp) (fun k z _ _ _ => hl4 k z) 32 (Nat.le_refl _)
 rw [List.length_replicate] at g1
 have e33:rr=digs 256 33 ((N % L:Nat):Int):=digs_of (by decide) h3 h2 h4
 have hgd:∀ i,i < 32→(itr (FT32l4 b) 32 (List.replicate 32 0)).getD i 0=(digs 256 32 ((N % L:Nat):Int)).getD i 0:=by
  intro i hi
  have:=g2 i hi
  rw [Nat.add_zero] at this
  rw [this,e33,digs_getD (by decide) 33 i _ (by omega),digs_getD (by decide) 32 i _ hi,wrap_u8]
  exact Int.emod_emod_of_dvd _ (Int.dvd_refl _)
 apply List.ext_getElem?
 intro i
 by_cases hi:i < 32
 ·have:=hgd i hi
  rw [List.getD_eq_getElem?_getD,List.getD_eq_getElem?_getD,List.getElem?_eq_getElem (by omega),List.getElem?_eq_getElem (by rw [digs_length]; exact hi)] at this
  rw [List.getElem?_eq_getElem (by omega),List.getElem?_eq_getElem (by rw [digs_length]; exact hi)]
  exact congrArg some this
 ·rw [List.getElem?_eq_none (by omega),List.getElem?_eq_none (by rw [digs_length]; omega)]
end Go.Vm
set_option linter.unusedVariables false
set_option linter.unusedSimpArgs false
set_option maxRecDepth 4000
namespace Go.Vm
open Go Tabn
theorem dig64 (p:List Int):Dig 256 (FD36w64 p):=by
 have:∀ k,Dig 256 (itr (FD36w64l8 p) k (0,[])).2:=by
  intro k
  induction k with
  | zero => rw [itr_zero]; exact Dig.nil
  | succ k ih =>
   rw [itr_succ]
   intro z hz
   rcases List.mem_append.1 hz with h | h
   ·exact ih z h
   ·rw [List.mem_singleton.1 h,wrap_u8]; omega
 exact this _
theorem dig_app {x y:List Int} (hx:Dig 256 x) (hy:Dig 256 y):Dig 256 (x ++ y):=fun z hz => (List.mem_append.1 hz).elim (hx z) (hy z)
theorem dig_take {x:List Int} (h:Dig 256 x) (n:Nat):Dig 256 (x.take n):=fun z hz => h z (List.mem_of_mem_take hz)
theorem dig_drop {x:List Int} (h:Dig 256 x) (n:Nat):Dig 256 (x.drop n):=fun z hz => h z (List.mem_of_mem_drop hz)
theorem dig_u8 {xs:List Int} (h:∀ x ∈ xs,IntKind.min .u8≤x∧x≤IntKind.max .u8):Dig 256 xs:=fun x hx => ⟨(h x hx).1,Int.lt_of_le_of_lt (h x hx).2 (by decide)⟩
def nN (b:List Int):Nat:=(num 256 b).toNat
theorem nN_num {b:List Int} (h:Dig 256 b):num 256 b=(nN b:Int):=(Int.toNat_of_nonneg (num_bd (by decide) h).1).symm
noncomputable def hsh (p:List Int):List Int:=FD36w64 p
theorem hsh_len (p:List Int):(hsh p).length=64:=lenD36w64 p
theorem hsh_dig (p:List Int):Dig 256 (hsh p):=dig64 p
theorem hsh35 {p:List Int} (hp:Dig 256 p) (hl:p.length≤100000000):FD35 p=hsh p:=sum64 hp hl
noncomputable def hN (p:List Int):Nat:=nN (hsh p) % L
theorem joinT2 (a b:List Int):part1 (FT21 [a,b]) (lensTo [a,b] [a,b].length) 0 (lensTo [a,b] [a,b].length)=a ++ b:=by
 rw [part1_all (lenT21 _)]
 unfold FT21
 show (itr (FT21l0 [a,b]) 2 (0,[])).2=a ++ b
 rw [itr_succ,itr_succ,itr_zero]
 show ([] ++ a) ++ b=a ++ b
 rfl
theorem joinT3 (a b c:List Int):part1 (FT21 [a,b,c]) (lensTo [a,b,c] [a,b,c].length) 0 (lensTo [a,b,c] [a,b,c].length)=a ++ b ++ c:=by
 rw [part1_all (lenT21 _)]
 unfold FT21
 show (itr (FT21l0 [a,b,c]) 3 (0,[])).2=a ++ b ++ c
 rw [itr_succ,itr_succ,itr_succ,itr_zero]
 show (([] ++ a) ++ b) ++ c=a ++ b ++ c
 rfl
theorem PE_base:PE BT FT18:=by
 have hy:EF (FT48 4 5) yB:=by
  unfold FT48
  refine (EF_mul (f:=4) (g:=finv 5) ⟨4,E_small (by decide),by decide⟩ (EF_inv (f:=5) ⟨5,E_small (by decide),by decide⟩)).to base_y
 unfold FT18
 have hb:F33 (FT48 4 5)=encL BT:=by rw [hy.bytes]; unfold encL; rw [base_enc]
 rw [hb,part1_all (encL_len BT)]
 rcases read33 (encL_dig BT) with ⟨_,p,h1,h2⟩ | ⟨_,h⟩
 ·rw [encL_inj h1]
  rw [← encL_inj h1] at h2 ⊢
  exact h2
 ·exact absurd rfl (h BT)
theorem PR_base:PR BT FT30:=by
 have hy:RF (FT57 (FT43 4) (F28 (FT43 5))) yB:=by
  unfold FT57 FT43
  refine (RF_mul (f:=4) (g:=finv 5) ⟨4,R_small (by decide),by decide⟩ (RF_inv (f:=5) ⟨5,R_small (by decide),by decide⟩)).to base_y
 unfold FT30
 have hb:F49 (FT57 (FT43 4) (F28 (FT43 5)))=encL BT:=by rw [hy.bytes]; unfold encL; rw [base_enc]
 rw [hb,part1_all (encL_len BT)]
 rcases read40 (encL_dig BT) with ⟨_,p,h1,h2⟩ | ⟨_,h⟩
 ·rw [← encL_inj h1] at h2
  exact h2
 ·exact absurd rfl (h BT)
noncomputable def secN (seed:List Int):Nat:=trimN ((hsh seed).take 32)
noncomputable def rN (seed msg:List Int):Nat:=hN ((hsh seed).drop 32 ++ msg)
noncomputable def keyP (seed:List Int):Pt CT:=Pt.mul (secN seed) BT
noncomputable def rP (seed msg:List Int):Pt CT:=Pt.mul (rN seed msg) BT
noncomputable def kN (seed msg:List Int):Nat:=hN (encL (rP seed msg) ++ encL (keyP seed) ++ msg)
noncomputable def sN (seed msg:List Int):Nat:=(kN seed msg * secN seed + rN seed msg) % L
noncomputable def sigL (seed msg:List Int):List Int:=encL (rP seed msg) ++ digs 256 32 (sN seed msg:Int)
theorem take_half (p:List Int):((hsh p).drop 0).take 32=(hsh p).take 32:=by rw [List.drop_zero]
theorem half_len (p:List Int):((hsh p).take 32).length=32:=by rw [List.length_take,hsh_len]; rfl
theorem half_len2 (p:List Int):((hsh p).drop 32).length=32:=by rw [List.length_drop,hsh_len]
theorem trim_part (p:List Int):part1 (F43 ((hsh p).take 32)) 32 0 32=trim ((hsh p).take 32):=by
 rw [F43_val (dig_take (hsh_dig p) 32),part1_all (by rw [trim_len,half_len])]
theorem mul_enc {n:List Int} {N:Nat} (hn:Dig 256 n) (h:num 256 n=(N:Int)):FT20 (FT19 FT18 n)=encL (Pt.mul N BT):=bytes20 (times19 PE_base hn h)
theorem mul_encR {n:List Int} {N:Nat} (hn:Dig 256 n) (h:num 256 n=(N:Int)):FT26 (FT27 n FT30)=encL (Pt.mul N BT):=bytes26 (times27 PR_base hn h)
theorem pub9 {p0:List Int} (h0:Dig 256 p0) (hl:p0.length=32):FT9_1 p0=encL (keyP p0):=by
 have e:(((p0.length:Int):Int) != 32)=false:=by rw [hl]; rfl
 unfold FT9_1
 rw [e,sel_false,hsh35 h0 (by omega),take_half,trim_part]
 exact mul_enc (trim_dig (dig_take (hsh_dig p0) 32)) (trimN_num (dig_take (hsh_dig p0) 32))
theorem trimR_part (p:List Int):part1 (F44 (part1 (FD36w64 p) 64 0 32)) 32 0 32=trim ((hsh p).take 32):=by
 have e1:part1 (FD36w64 p) 64 0 32=(hsh p).take 32:=by rw [part1_eq (lenD36w64 p),List.drop_zero]; rfl
 rw [e1,F44_val (dig_take (hsh_dig p) 32),part1_all (by rw [trim_len,half_len])]
theorem pub11 {p0:List Int}:FT11 p0=encL (keyP p0):=by
 unfold FT11
 have e2:(part1 (FD36w64 p0) 64 0 32).length=32:=len_half p0 0 (by decide)
 rw [e2,trimR_part]
 exact mul_encR (trim_dig (dig_take (hsh_dig p0) 32)) (trimN_num (dig_take (hsh_dig p0) 32))
theorem red_hash {x:List Int} (hx:Dig 256 x) (hl:x.length≤100000000):Sc4 (FT22 (part1 (FD35 x) 64 0 64)) (hN x):=by
 rw [hsh35 hx hl,part1_all (hsh_len x)]
 exact reduce22 (hsh_dig x) (nN_num (hsh_dig x))
theorem hN_lt (x:List Int):hN x < L:=Nat.mod_lt _ L_pos
theorem L_256:L < 2 ^ 256:=L_lt2
theorem small_num {V:Nat} (h:V < L):num 256 (digs 256 32 (V:Int))=(V:Int):=V_num (Nat.lt_trans h L_256)
theorem digsD (V:Nat):Dig 256 (digs 256 32 (V:Int)):=digs_dig (by decide) _ _
theorem prefix_part (p:List Int):part1 (hsh p) 64 32 32=(hsh p).drop 32:=by
 rw [part1_eq (hsh_len p),List.take_of_length_le (by rw [half_len2]; exact Nat.le_refl _)]
theorem sig10 {p0 p1:List Int} (h0:Dig 256 p0) (hl:p0.length=32) (h1:Dig 256 p1) (hl1:p1.length≤10000):FT10_1 p0 p1=sigL p0 p1:=by
 have e9:(((FT9 p0):Int) != 0)=false:=by rw [(FT9_ok hl).1]; rfl
 unfold FT10_1
 rw [e9,sel_false,joinT2,joinT3,pub9 h0 hl,(FT9_ok hl).2,part1_all (encL_len _),hsh35 h0 (by omega),prefix_part,take_half,trim_part]
 have dpre:Dig 256 ((hsh p0).drop 32 ++ p1):=dig_app (dig_drop (hsh_dig p0) 32) h1
 have lpre:((hsh p0).drop 32 ++ p1).length≤100000000:=by rw [List.length_append,half_len2]; omega
 have hr:=red_hash dpre lpre
 rw [bytes23 hr,part1_all (digs_length _ _ _),mul_enc (digsD _) (small_num (hN_lt _))]
 have dk:Dig 256 (part1 (encL (rP p0 p1)) 32 0 32 ++ encL (keyP p0) ++ p1):=by
  rw [part1_all (encL_len _)]
  exact dig_app (dig_app (encL_dig _) (encL_dig _)) h1
 have lk:(part1 (encL (rP p0 p1)) 32 0 32 ++ encL (keyP p0) ++ p1).length≤100000000:=by
  rw [part1_all (encL_len _),List.length_append,List.length_append,encL_len,encL_len]; omega
 have hk:=red_hash dk lk
 rw [part1_all (encL_len _)] at hk
 have hs:=reduce22 (trim_dig (dig_take (hsh_dig p0) 32)) (trimN_num (dig_take (hsh_dig p0) 32))
 have hm:=mul24 hk hs (hN_lt _)
 have hp:=plus25 hm hr (Nat.mod_lt _ L_pos) (hN_lt _)
 show encL (rP p0 p1) ++ FT23 (FT25 (FT24 (FT22 (part1 (FD35 (part1 (encL (rP p0 p1)) 32 0 32 ++ encL (keyP p0) ++ p1)) 64 0 64)) _) _)=_
 rw [part1_all (encL_len (rP p0 p1))]
 rw [bytes23 hp]
 unfold sigL
 congr 2
 unfold sN
 congr 1
 show (trimN ((hsh p0).take 32) % L * hN (encL (rP p0 p1) ++ encL (keyP p0) ++ p1) % L + hN ((hsh p0).drop 32 ++ p1)) % L=(kN p0 p1 * secN p0 + rN p0 p1) % L
 rw [Nat.mod_add_mod,Nat.add_mod,Nat.mul_mod,Nat.mod_mod,← Nat.mul_mod,← Nat.add_mod,Nat.mul_comm]
 rfl
end Go.Vm
set_option linter.unusedVariables false
set_option linter.unusedSimpArgs false
set_option maxRecDepth 4000
namespace Go.Vm
open Go Tabn
theorem hash31 {a b c:List Int}:FT31 a b c=digs 256 32 (hN (a ++ b ++ c):Int):=by
 unfold FT31
 rw [part1_all (xs:=a ++ b ++ c) (by rw [List.length_append,List.length_append])]
 show FT32 (part1 (hsh (a ++ b ++ c)) 64 0 64)=_
 rw [part1_all (hsh_len _)]
 exact mod32 (hsh_dig _) (nN_num (hsh_dig _))
noncomputable def wide1 (K S:List Int) (i j:Nat) (z:List Int):List Int :=
 z.set (i + j) (iAdd .i64 (z.getD (i + j) 0) (iMul .i64 (IntKind.wrap .i64 (K.getD i 0)) (IntKind.wrap .i64 (S.getD j 0))))
noncomputable def wide0 (K S R:List Int) (i:Nat) (z:List Int):List Int :=
 itr (wide1 K S i) 32 (z.set i (iAdd .i64 (z.getD i 0) (IntKind.wrap .i64 (R.getD i 0))))
theorem byte_mul {a b:Int} (ha:0≤a∧a < 256) (hb:0≤b∧b < 256):0≤a * b∧a * b≤65025:=by
 refine ⟨Int.mul_nonneg ha.1 hb.1,?_⟩
 have:=Int.mul_le_mul (show a≤255 by omega) (show b≤255 by omega) hb.1 (by decide)
 omega
def Wb (M:Int) (z:List Int):Prop:=∀ t,0≤z.getD t 0∧z.getD t 0≤M
theorem Wb.set {M M':Int} {z:List Int} {i:Nat} {v:Int} (h:Wb M z) (hm:M≤M') (hv:0≤v∧v≤M'):Wb M' (z.set i v):=by
 intro t
 by_cases hi:i < z.length
 ·by_cases e:t=i
  ·subst e; rw [getD_set_eq hi]; exact hv
  ·rw [getD_set_ne (by omega)]; have:=h t; omega
 ·rw [List.set_eq_of_length_le (by omega)]; have:=h t; omega
theorem inner_wide {K S:List Int} (hK:Dig 256 K) (hS:Dig 256 S) {i:Nat} (hi:i < 32) {z:List Int} {M:Int} (hM:0≤M∧M≤1000000000) (hz:Wb M z) (hl:z.length=66) :
  ∀ j,j≤32→(itr (wide1 K S i) j z).length=66∧Wb (M + j * 65025) (itr (wide1 K S i) j z)∧num 256 (itr (wide1 K S i) j z)=num 256 z + K.getD i 0 * 256 ^ i * num 256 (S.take j):=by
 intro j
 induction j with
 | zero =>
  intro _
  rw [itr_zero]
  refine ⟨hl,fun t => ?_,?_⟩
  ·have:=hz t; omega
  ·show _=num 256 z + K.getD i 0 * 256 ^ i * 0
   rw [Int.mul_zero,Int.add_zero]
 | succ j ih =>
  intro hj
  obtain ⟨h1,h2,h3⟩:=ih (by omega)
  rw [itr_succ]
  generalize itr (wide1 K S i) j z=y at *
  unfold wide1
  have hk:0≤K.getD i 0∧K.getD i 0 < 256:=getD_dig (by decide) hK
  have hs:0≤S.getD j 0∧S.getD j 0 < 256:=getD_dig (by decide) hS
  have hy:=h2 (i + j)
  have hm:=byte_mul hk hs
  rw [wrap8_64 hk,wrap8_64 hs]
  have e1:iMul .i64 (K.getD i 0) (S.getD j 0)=K.getD i 0 * S.getD j 0:=by unfold iMul; exact wrap_small (by omega) (by omega)
  have e2:iAdd .i64 (y.getD (i + j) 0) (K.getD i 0 * S.getD j 0)=y.getD (i + j) 0 + K.getD i 0 * S.getD j 0:=iAdd_i64 (by omega) (by omega)
  rw [e1,e2]
  refine ⟨by rw [List.length_set,h1],h2.set (by omega) (by omega),?_⟩
  rw [num_set (by omega),h3,num_take,Int.pow_add]
  generalize (256:Int) ^ i=X
  generalize (256:Int) ^ j=Y
  generalize K.getD i 0=k
  generalize S.getD j 0=s
  generalize num 256 (S.take j)=n
  generalize y.getD (i + j) 0=o
  generalize num 256 z=m
  grind -lia -linarith
theorem outer_wide {K S R:List Int} (hK:Dig 256 K) (hS:Dig 256 S) (hR:Dig 256 R) (lS:S.length=32) :
  ∀ i,i≤32→(itr (wide0 K S R) i (List.replicate 66 0)).length=66∧Wb (i * 3000000) (itr (wide0 K S R) i (List.replicate 66 0))∧num 256 (itr (wide0 K S R) i (List.replicate 66 0))=num 256 (R.take i) + num 256 (K.take i) * num 256 S:=by
 intro i
 induction i with
 | zero =>
  intro _
  rw [itr_zero]
  refine ⟨by simp,fun t => ?_,?_⟩
  ·rw [getD_zeros]; omega
  ·rw [num_zeros]
   show 0=0 + 0 * num 256 S
   rw [Int.zero_mul]; rfl
 | succ i ih =>
  intro hi
  obtain ⟨h1,h2,h3⟩:=ih (by omega)
  rw [itr_succ]
  generalize itr (wide0 K S R) i (List.replicate 66 0)=y at *
  unfold wide0
  have hr:0≤R.getD i 0∧R.getD i 0 < 256:=getD_dig (by decide) hR
  have hy:=h2 i
  rw [wrap8_64 hr]
  have e2:iAdd .i64 (y.getD i 0) (R.getD i 0)=y.getD i 0 + R.getD i 0:=iAdd_i64 (by omega) (by omega)
  rw [e2]
  have hw:Wb (i * 3000000 + 255) (y.set i (y.getD i 0 + R.getD i 0)):=h2.set (by omega) (by omega)
  obtain ⟨g1,g2,g3⟩:=inner_wide hK hS (show i < 32 by omega) (by omega) hw (by rw [List.length_set,h1]) 32 (Nat.le_refl _)
  refine ⟨g1,fun t => ?_,?_⟩
  ·have:=g2 t; omega
  ·rw [g3,num_set (by omega),h3,List.take_of_length_le (by omega:S.length≤32),num_take,num_take]
   generalize (256:Int) ^ i=X
   generalize K.getD i 0=k
   generalize R.getD i 0=r
   generalize num 256 S=s
   generalize num 256 (K.take i)=n
   generalize num 256 (R.take i)=m
   generalize y.getD i 0=o
   grind -lia -linarith
noncomputable def carryS (w:List Int) (k2:Nat) (z2:Int × List Int):Int × List Int :=
 ((iQuo .i64 (iAdd .i64 z2.1 (w.getD k2 0)) 256),z2.2.set k2 (IntKind.wrap .u8 (iRem (iAdd .i64 z2.1 (w.getD k2 0)) 256)))
theorem carry_all {w:List Int} (hl:w.length=66) (hw:Wb 96000000 w) {T:Nat} (hT:num 256 w=(T:Int)) (hX:(T:Int) < 256 ^ 66) :
  ((itr (carryS w) 66 (0,List.replicate 66 0)).2).length=66∧Dig 256 (itr (carryS w) 66 (0,List.replicate 66 0)).2∧num 256 (itr (carryS w) 66 (0,List.replicate 66 0)).2=(T:Int):=by
 obtain ⟨c,d,e,h1,h2,h3,h4⟩:=chain_all (f:=carryS w) (W:=fun k => w.getD k 0) (sg:=1) (p:=List.replicate 66 0) (n:=66) (C:=fun c => 0≤c∧c≤96000000) (by simp) (by
  intro k c d hk hld hg hc
  have hx:=hw k
  unfold carryS
  simp only
  generalize w.getD k 0=x at *
  have e2:iAdd .i64 c x=c + x:=iAdd_i64 (by omega) (by omega)
  have e3:iQuo .i64 (c + x) 256=(c + x) / 256:=by
   unfold iQuo
   rw [Int.tdiv_eq_ediv_of_nonneg (by omega),wrap_small (by omega) (by omega)]
  have e4:IntKind.wrap .u8 (iRem (c + x) 256)=(c + x) % 256:=by
   unfold iRem
   rw [Int.tmod_eq_emod_of_nonneg (by omega),wrap_u8]
   exact Int.emod_emod_of_dvd _ (Int.dvd_refl _)
  rw [e2,e3,e4]
  exact ⟨(c + x) / 256,(c + x) % 256,rfl,by omega,by omega,by omega⟩) (c0:=0) (by decide)
 rw [su_all hl,hT] at h4
 have hb1:=(num_bd (B:=256) (by decide) h3).1
 generalize (256:Int) ^ 66=X at *
 have hc0:c=0:=by
  by_cases h:c=0
  ·exact h
  ·exfalso
   have:X * 1≤X * c:=Int.mul_le_mul_of_nonneg_left (by omega) (by omega)
   rw [Int.one_mul] at h4
   omega
 subst hc0
 rw [e]
 exact ⟨h1,h3,by simpa using h4⟩
theorem digs32_take (v:Int):(digs 256 32 v).take 32=digs 256 32 v:=List.take_of_length_le (by rw [digs_length]; exact Nat.le_refl _)
theorem rN_lt (a b:List Int):rN a b < L:=hN_lt _
theorem kN_lt (a b:List Int):kN a b < L:=hN_lt _
theorem sN_lt (a b:List Int):sN a b < L:=Nat.mod_lt _ L_pos
theorem app_nil (x y:List Int):x ++ y ++ []=x ++ y:=List.append_nil _
theorem sig12 {p0 p1:List Int} (h1:Dig 256 p1):FT12 p0 p1=sigL p0 p1:=by
 have eR:FT31 (part1 (FD36w64 p0) 64 32 32) p1 ([]:List Int)=digs 256 32 (rN p0 p1:Int):=by
  rw [hash31]
  show digs 256 32 (hN (part1 (hsh p0) 64 32 32 ++ p1 ++ []):Int)=_
  rw [prefix_part,app_nil]
  rfl
 have eO:FT26 (FT27 (part1 (FT31 (part1 (FD36w64 p0) 64 32 32) p1 ([]:List Int)) 32 0 32) FT30)=encL (rP p0 p1):=by
  rw [eR,part1_all (digs_length _ _ _)]
  exact mul_encR (digsD _) (small_num (rN_lt p0 p1))
 have eK:FT31 (part1 (FT26 (FT27 (part1 (FT31 (part1 (FD36w64 p0) 64 32 32) p1 ([]:List Int)) 32 0 32) FT30)) 32 0 32) (part1 (FT11 p0) 32 0 32) p1=digs 256 32 (kN p0 p1:Int):=by
  rw [eO,part1_all (encL_len _),pub11,part1_all (encL_len _),hash31]
  rfl
 have eS:F44 (part1 (FD36w64 p0) 64 0 32)=trim ((hsh p0).take 32):=by
  have e1:part1 (FD36w64 p0) 64 0 32=(hsh p0).take 32:=by rw [part1_eq (lenD36w64 p0),List.drop_zero]; rfl
  rw [e1,F44_val (dig_take (hsh_dig p0) 32)]
 have dS:=trim_dig (dig_take (hsh_dig p0) 32)
 have lS:(trim ((hsh p0).take 32)).length=32:=by rw [trim_len,half_len]
 have h0:FT12l0 p0 p1=wide0 (digs 256 32 (kN p0 p1:Int)) (trim ((hsh p0).take 32)) (digs 256 32 (rN p0 p1:Int)):=by
  funext i z
  unfold FT12l0 wide0
  have e1:FT12l1 p0 p1 i=wide1 (digs 256 32 (kN p0 p1:Int)) (trim ((hsh p0).take 32)) i:=by
   funext j y
   unfold FT12l1 wide1
   rw [eK,eS]
  rw [e1,eR]
 obtain ⟨w1,w2,w3⟩:=outer_wide (digsD (kN p0 p1)) dS (digsD (rN p0 p1)) lS 32 (Nat.le_refl _)
 rw [digs32_take,digs32_take,small_num (rN_lt p0 p1),small_num (kN_lt p0 p1),trimN_num (dig_take (hsh_dig p0) 32)] at w3
 have hT:num 256 (itr (wide0 (digs 256 32 (kN p0 p1:Int)) (trim ((hsh p0).take 32)) (digs 256 32 (rN p0 p1:Int))) 32 (List.replicate 66 0))=((rN p0 p1 + kN p0 p1 * secN p0:Nat):Int):=by
  rw [w3,Int.natCast_add,Int.natCast_mul]
  rfl
 have hlt:((rN p0 p1 + kN p0 p1 * secN p0:Nat):Int) < 256 ^ 66:=by
  have a1:kN p0 p1 < 256 ^ 32:=Nat.lt_trans (kN_lt p0 p1) (by decide)
  have a2:secN p0 < 256 ^ 32:=Nat.lt_trans (trimN_bd (dig_take (hsh_dig p0) 32) (half_len p0)).2.2 (by decide)
  have a3:rN p0 p1 < 256 ^ 32:=Nat.lt_trans (rN_lt p0 p1) (by decide)
  have a4:kN p0 p1 * secN p0≤256 ^ 32 * 256 ^ 32:=Nat.mul_le_mul (Nat.le_of_lt a1) (Nat.le_of_lt a2)
  have a5:(256:Nat) ^ 66=256 ^ 32 * 256 ^ 32 * 65536:=by rw [← Nat.pow_add,show 65536=256 ^ 2 from rfl,← Nat.pow_add]
  have a6:0 < (256:Nat) ^ 32:=Nat.pow_pos (by decide)
  have a7:(256:Nat) ^ 32 * 1≤256 ^ 32 * 256 ^ 32:=Nat.mul_le_mul (Nat.le_refl _) a6
  have a8:rN p0 p1 + kN p0 p1 * secN p0 < 256 ^ 66:=by
   rw [a5]
   generalize (256:Nat) ^ 32 * 256 ^ 32=X at *
   generalize (256:Nat) ^ 32=Y at *
   generalize kN p0 p1 * secN p0=m at *
   omega
  have a9:(((256:Nat) ^ 66:Nat):Int)=256 ^ 66:=Int.natCast_pow 256 66
  rw [← a9]
  exact Int.ofNat_lt.2 a8
 have hc:FT12l2 p0 p1=carryS (itr (wide0 (digs 256 32 (kN p0 p1:Int)) (trim ((hsh p0).take 32)) (digs 256 32 (rN p0 p1:Int))) 32 (List.replicate 66 0)):=by
  funext k z
  unfold FT12l2 carryS
  rw [h0]
 obtain ⟨c1,c2,c3⟩:=carry_all w1 (fun t => by have:=w2 t; omega) hT hlt
 unfold FT12
 rw [eO,hc,part1_all c1,mod32 c2 c3]
 unfold sigL sN
 rw [Nat.add_comm]
end Go.Vm
set_option linter.unusedVariables false
set_option linter.unusedSimpArgs false
set_option maxRecDepth 4000
namespace Go.Vm
open Go Tabn
theorem pw64:(2:Int) ^ 64=18446744073709551616:=rfl
theorem pow_split (k:Nat):(256:Int) ^ k=(2 ^ 64) ^ (k / 8) * 2 ^ (8 * (k % 8)):=by
 have e1:(256:Int) ^ k=2 ^ (8 * k):=by rw [Int.pow_mul]; rfl
 rw [e1,← Int.pow_mul,← Int.pow_add]
 congr 1
 omega
theorem word_byte {t:List Int} {v:Int} {k:Nat} (hk:k < 32) (ht:Dig (2 ^ 64) t) (hl:t.length=4) (hv:num (2 ^ 64) t=v) (h0:0≤v) (hlt:v < 256 ^ k) {b:Int} (hb:0≤b∧b < 256) :
  Dig (2 ^ 64) (t.set (k / 8) (iOr .u64 (t.getD (k / 8) 0) (iShl .u64 (IntKind.wrap .u64 b) ((8 * (k % 8):Nat):Int)))) ∧
   num (2 ^ 64) (t.set (k / 8) (iOr .u64 (t.getD (k / 8) 0) (iShl .u64 (IntKind.wrap .u64 b) ((8 * (k % 8):Nat):Int))))=v + b * 256 ^ k:=by
 have hw:IntKind.wrap .u64 b=b:=by rw [wrap_u64]; omega
 have hp:(2:Int) ^ (8 * (k % 8))≤72057594037927936:=by
  have:=pow2_mono (show 8 * (k % 8)≤56 by omega)
  exact this
 have hp0:=two_pos (8 * (k % 8))
 have hbm:b * 2 ^ (8 * (k % 8))≤255 * 2 ^ (8 * (k % 8)):=Int.mul_le_mul_of_nonneg_right (by omega) (by omega)
 have hbn:0≤b * 2 ^ (8 * (k % 8)):=Int.mul_nonneg hb.1 (by omega)
 have hsh:iShl .u64 b ((8 * (k % 8):Nat):Int)=b * 2 ^ (8 * (k % 8)):=by
  rw [iShl_at .u64 b (8 * (k % 8)) (by show 8 * (k % 8)≤64; omega),wrap_u64]
  exact Int.emod_eq_of_lt hbn (by omega)
 have hold:t.getD (k / 8) 0=v / (2 ^ 64) ^ (k / 8):=by
  rw [getD_num (by decide) ht,hv]
  have hq:0 < ((2:Int) ^ 64) ^ (k / 8):=Int.pow_pos (by decide)
  have h1:v / (2 ^ 64) ^ (k / 8) < 2 ^ (8 * (k % 8)):=by
   refine Int.ediv_lt_of_lt_mul hq ?_
   rw [Int.mul_comm,← pow_split]; exact hlt
  exact Int.emod_eq_of_lt (Int.ediv_nonneg h0 (Int.le_of_lt hq)) (Int.lt_trans (Int.lt_of_lt_of_le h1 hp) (by decide))
 have ho:0≤t.getD (k / 8) 0∧t.getD (k / 8) 0 < 2 ^ (8 * (k % 8)):=by
  rw [hold]
  have hq:0 < ((2:Int) ^ 64) ^ (k / 8):=Int.pow_pos (by decide)
  refine ⟨Int.ediv_nonneg h0 (Int.le_of_lt hq),Int.ediv_lt_of_lt_mul hq ?_⟩
  rw [Int.mul_comm,← pow_split]; exact hlt
 have hor:iOr .u64 (t.getD (k / 8) 0) (b * 2 ^ (8 * (k % 8)))=t.getD (k / 8) 0 + b * 2 ^ (8 * (k % 8)) :=
  iOr_low uns64 hb.1 ho.1 ho.2 (by show _ < (18446744073709551616:Int); omega)
 rw [hw,hsh,hor]
 refine ⟨dig_set ht ⟨by omega,by rw [pw64]; omega⟩,?_⟩
 rw [num_set (by omega),hv,pow_split k]
 generalize ((2:Int) ^ 64) ^ (k / 8)=X
 generalize (2:Int) ^ (8 * (k % 8))=Y
 generalize t.getD (k / 8) 0=o
 grind -lia -linarith
theorem sc_of {t:List Int} {V:Nat} (h:Dig (2 ^ 64) t) (hl:t.length=4) (hV:num (2 ^ 64) t=(V:Int)):Sc4 t V:=by
 match t,hl with
 | [a,b,c,d],_ =>
  rw [pw64] at h hV
  refine ⟨a,b,c,d,rfl,h a (by simp),h b (by simp),h c (by simp),h d (by simp),?_⟩
  have e:num 18446744073709551616 [a,b,c,d]=a + 18446744073709551616 * (b + 18446744073709551616 * (c + 18446744073709551616 * (d + 18446744073709551616 * 0))):=rfl
  rw [e] at hV
  omega
theorem sc13 {p2:List Int} (hp:Dig 256 p2) (hl:p2.length=64):Sc4 (itr (FT13l0 p2) 32 [0,0,0,0]) (nN (p2.drop 32)):=by
 have hd:=dig_drop hp 32
 have key:∀ k,k≤32→Dig (2 ^ 64) (itr (FT13l0 p2) k [0,0,0,0])∧(itr (FT13l0 p2) k [0,0,0,0]).length=4∧num (2 ^ 64) (itr (FT13l0 p2) k [0,0,0,0])=num 256 ((p2.drop 32).take k):=by
  intro k
  induction k with
  | zero => intro _; rw [itr_zero]; exact ⟨by unfold Dig; decide,rfl,rfl⟩
  | succ k ih =>
   intro hk
   obtain ⟨h1,h2,h3⟩:=ih (by omega)
   rw [itr_succ]
   generalize itr (FT13l0 p2) k [0,0,0,0]=t at *
   have hb:0≤(p2.drop 32).getD k 0∧(p2.drop 32).getD k 0 < 256:=getD_dig (by decide) hd
   have eb:p2.getD (32 + k) 0=(p2.drop 32).getD k 0:=by
    rw [List.getD_eq_getElem?_getD,List.getD_eq_getElem?_getD,List.getElem?_drop]
   have hbd:=num_bd (B:=256) (by decide) (dig_take hd k)
   rw [List.length_take,List.length_drop,hl,Nat.min_eq_left (by omega)] at hbd
   obtain ⟨g1,g2⟩:=word_byte (show k < 32 by omega) h1 h2 h3 hbd.1 hbd.2 hb
   unfold FT13l0
   rw [eb]
   refine ⟨g1,by rw [List.length_set,h2],?_⟩
   rw [g2,num_take]
 obtain ⟨h1,h2,h3⟩:=key 32 (Nat.le_refl _)
 rw [List.take_of_length_le (by rw [List.length_drop]; omega),nN_num hd] at h3
 exact sc_of h1 h2 h3
theorem fst_belowT {S:Nat→Bool}:∀ (n:Nat) {k:Nat},k < fstB S n→S k=false
 | 0,k,h => absurd h (by unfold fstB; omega)
 | n + 1,k,h => by
  rw [fstB] at h
  cases hb:Nat.blt (fstB S n) n
  ·rw [hb,cond_false] at h
   have hn:fstB S n=n:=by
    have:=fst_le S n
    have hh:¬ fstB S n < n:=fun hlt => by rw [blt_true hlt] at hb; cases hb
    omega
   cases hs:S n
   ·rw [hs,cond_false] at h
    by_cases e:k=n
    ·rw [e]; exact hs
    ·exact fst_belowT n (by omega)
   ·rw [hs,cond_true] at h
    exact fst_belowT n (by omega)
  ·rw [hb,cond_true] at h
   exact fst_belowT n h
theorem fst_hit {S:Nat→Bool}:∀ (n:Nat),fstB S n < n→S (fstB S n)=true
 | 0,h => absurd h (by omega)
 | n + 1,h => by
  cases hb:Nat.blt (fstB S n) n
  ·cases hs:S n
   ·rw [fstB,hb,cond_false,hs,cond_false] at h
    omega
   ·rw [fstB,hb,cond_false,hs,cond_true]
    exact hs
  ·rw [fstB,hb,cond_true]
   exact fst_hit n (by rw [Nat.blt_eq] at hb; exact hb)
theorem upper_same {a b:List Int} {i m:Nat} (h:∀ j,i < j→j < m→a.getD j 0=b.getD j 0):∀ n,i + 1 + n≤m→num 256 (a.take (i + 1 + n)) - num 256 (b.take (i + 1 + n))=num 256 (a.take (i + 1)) - num 256 (b.take (i + 1)):=by
 intro n
 induction n with
 | zero => intro _; rfl
 | succ n ih =>
  intro hn
  have h1:=ih (by omega)
  have h2:=h (i + 1 + n) (by omega) (by omega)
  rw [show i + 1 + (n + 1)=(i + 1 + n) + 1 by omega,num_take,num_take,h2]
  omega
theorem below_top {a b:List Int} (ha:Dig 256 a) (hb:Dig 256 b) {i:Nat} (hi:i < a.length) (hi':i < b.length) (h:a.getD i 0 < b.getD i 0):num 256 (a.take (i + 1)) < num 256 (b.take (i + 1)):=by
 rw [num_take,num_take]
 have h1:=num_bd (B:=256) (by decide) (dig_take ha i)
 have h2:=num_bd (B:=256) (by decide) (dig_take hb i)
 rw [List.length_take,Nat.min_eq_left (by omega)] at h1 h2
 have h3:(a.getD i 0 + 1) * 256 ^ i≤b.getD i 0 * 256 ^ i:=Int.mul_le_mul_of_nonneg_right (by omega) (by omega)
 rw [Int.add_mul,Int.one_mul] at h3
 omega
theorem below41 {a b:List Int} (ha:Dig 256 a) (hb:Dig 256 b) (la:a.length=32) (lb:b.length=32):FT41 a b=decide (nN a < nN b):=by
 have na:=nN_num ha
 have nb:=nN_num hb
 have tl:∀ x:List Int,x.length=32→x.take 32=x:=fun x hx => List.take_of_length_le (by omega)
 unfold FT41
 cases hf:Nat.blt (fstB (FT41s0 a b) 32) 32
 ·have hn:fstB (FT41s0 a b) 32=32:=by
   have h1:=fst_le (FT41s0 a b) 32
   have hh:¬ fstB (FT41s0 a b) 32 < 32:=fun hlt => by rw [blt_true hlt] at hf; cases hf
   omega
  have hs:∀ k,k < 32→FT41s0 a b k=false:=fun k hk => fst_belowT 32 (by rw [hn]; exact hk)
  have hall:∀ j,j < 32→a.getD j 0=b.getD j 0:=by
   intro j hj
   have:=hs (31 - j) (by omega)
   unfold FT41s0 at this
   rw [show 32 - 1 - (31 - j)=j by omega] at this
   cases hx:((a.getD j 0:Int) != b.getD j 0)
   ·simpa using hx
   ·rw [hx] at this; cases this
  have he:num 256 a=num 256 b:=by
   have h1:=upper_same (a:=a) (b:=b) (i:=0) (m:=32) (fun j _ hj => hall j hj) 31 (by omega)
   rw [show 0 + 1 + 31=32 from rfl,tl a la,tl b lb,show (0:Nat) + 1=0 + 1 from rfl,num_take,num_take,hall 0 (by decide)] at h1
   have e0:num 256 (a.take 0)=0:=rfl
   have e1:num 256 (b.take 0)=0:=rfl
   rw [e0,e1] at h1
   omega
  rw [sel_false,decide_eq_false]
  omega
 ·rw [sel_true]
  have hlt:fstB (FT41s0 a b) 32 < 32:=by
   rw [Nat.blt_eq] at hf; exact hf
  have hsame:∀ j,31 - fstB (FT41s0 a b) 32 < j→j < 32→a.getD j 0=b.getD j 0:=by
   intro j h1 h2
   have:=fst_belowT (S:=FT41s0 a b) 32 (k:=31 - j) (by omega)
   unfold FT41s0 at this
   rw [show 32 - 1 - (31 - j)=j by omega] at this
   cases hx:((a.getD j 0:Int) != b.getD j 0)
   ·simpa using hx
   ·rw [hx] at this; cases this
  have hdiff:a.getD (31 - fstB (FT41s0 a b) 32) 0 ≠ b.getD (31 - fstB (FT41s0 a b) 32) 0:=by
   have hh:=fst_hit (S:=FT41s0 a b) 32 hlt
   have h31:FT41s0 a b (fstB (FT41s0 a b) 32)=sel (a.getD (32 - 1 - fstB (FT41s0 a b) 32) 0 != b.getD (32 - 1 - fstB (FT41s0 a b) 32) 0) true false:=rfl
   rw [h31,show 32 - 1 - fstB (FT41s0 a b) 32=31 - fstB (FT41s0 a b) 32 by omega] at hh
   intro e
   rw [e] at hh
   rw [show (b.getD (31 - fstB (FT41s0 a b) 32) 0 != b.getD (31 - fstB (FT41s0 a b) 32) 0)=false by simp,sel_false] at hh
   cases hh
  rw [show 32 - 1 - fstB (FT41s0 a b) 32=31 - fstB (FT41s0 a b) 32 by omega]
  generalize 31 - fstB (FT41s0 a b) 32=i at *
  have hi:i < 32:=by
   by_cases h:i < 32
   ·exact h
   ·exfalso
    apply hdiff
    rw [List.getD_eq_getElem?_getD,List.getD_eq_getElem?_getD,List.getElem?_eq_none (by omega),List.getElem?_eq_none (by omega)]
  have hup:=upper_same (a:=a) (b:=b) (i:=i) (m:=32) hsame (31 - i) (by omega)
  rw [show i + 1 + (31 - i)=32 by omega,tl a la,tl b lb] at hup
  by_cases hc:a.getD i 0 < b.getD i 0
  ·have:=below_top ha hb (i:=i) (by omega) (by omega) hc
   rw [decide_eq_true hc,decide_eq_true]
   omega
  ·have:=below_top hb ha (i:=i) (by omega) (by omega) (by omega)
   rw [decide_eq_false hc,decide_eq_false]
   omega
theorem splice20 {X Y Z T X' T':List Int} (hx:X.length=5) (hy:Y.length=5) (hz:Z.length=5) (ht:T.length=5) (hx':X'.length=5) (ht':T'.length=5) :
  splice (splice (X ++ (Y ++ (Z ++ T))) 0 X') 15 T'=X' ++ (Y ++ (Z ++ T')):=by
 obtain ⟨a,b,c,d,e,rfl⟩:=five hx
 obtain ⟨a',b',c',d',e',rfl⟩:=five hy
 obtain ⟨a2,b2,c2,d2,e2,rfl⟩:=five hz
 obtain ⟨a3,b3,c3,d3,e3,rfl⟩:=five ht
 obtain ⟨a4,b4,c4,d4,e4,rfl⟩:=five hx'
 obtain ⟨a5,b5,c5,d5,e5,rfl⟩:=five ht'
 rfl
theorem neg_mul' (a z:Tabn.F):0 - a * z=-a * z:=by grind -lia -linarith
theorem neg_mul2 (a b z:Tabn.F):0 - a * b * z=-a * b * z:=by grind -lia -linarith
theorem neg33 {p:Pt CT} {s:List Int} (h:PE p s):PE p.neg (splice (splice s 0 (F18 (F30 0) ((s.drop 0).take 5))) 15 (F18 (F30 0) ((s.drop 15).take 5))):=by
 obtain ⟨X,Y,Z,T,fx,fy,fz,ft,rfl,hX,hY,hZ,hT,hE⟩:=h
 obtain ⟨c1,c2,c3,c4⟩:=cut20 hX.len hY.len hZ.len hT.len
 rw [c1,c4]
 have n1:=EF_sub EF_zero hX
 have n2:=EF_sub EF_zero hT
 rw [splice20 hX.len hY.len hZ.len hT.len n1.len n2.len]
 refine ⟨_,_,_,_,_,_,_,_,rfl,n1,hY,hZ,n2,⟨hE.z0,?_,hE.y,?_⟩⟩
 ·rw [hE.x]; exact neg_mul' _ _
 ·rw [hE.t]; exact neg_mul2 _ _ _
theorem neg40 {p:Pt CT} {s:List Int} (h:PR p s):PR p.neg (splice s 0 (FT42 (FT43 0) ((s.drop 0).take 16))):=by
 obtain ⟨X,Y,Z,fx,fy,fz,rfl,hX,hY,hZ,hE⟩:=h
 obtain ⟨c1,c2,c3⟩:=cut48 hX.len hY.len hZ.len
 rw [c1]
 have n1:RF (FT42 (FT43 0) X) (0 - fx):=RF_sub RF_zero hX
 have e:splice (X ++ (Y ++ Z)) 0 (FT42 (FT43 0) X)=FT42 (FT43 0) X ++ (Y ++ Z):=by
  unfold splice
  rw [List.take_zero,List.nil_append,n1.len,Nat.zero_add,← hX.len,List.drop_left]
 rw [e]
 refine ⟨_,_,_,_,_,_,rfl,n1,hY,hZ,⟨hE.z0,?_,hE.y⟩⟩
 rw [hE.x]; exact neg_mul' _ _
noncomputable def want (A:Pt CT) (pub msg sig:List Int):Pt CT:=(Pt.mul (nN (sig.drop 32)) BT).add (Pt.mul (hN (sig.take 32 ++ pub ++ msg)) A.neg)
theorem val13 {p0 p1 p2:List Int} {A:Pt CT} (h1:Dig 256 p1) (h2:Dig 256 p2) (hA:p0=encL A) (hl:p2.length=64) (hl1:p1.length≤10000) :
  FT13 p0 p1 p2=(decide (nN (p2.drop 32) < L) && decide (encL (want A p0 p1 p2)=p2.take 32)):=by
 have h0:Dig 256 p0:=by rw [hA]; exact encL_dig A
 have e64:(((p2.length:Int):Int) != 64)=false:=by rw [hl]; rfl
 have hs:=sc13 h2 hl
 unfold FT13
 rw [e64,sel_false,below34 hs Sc4.order]
 rcases read33 h0 with ⟨r1,p,r2,r3⟩ | ⟨_,hno⟩
 ·have hp:p=A:=encL_inj (r2.symm.trans hA)
  subst hp
  rw [r1,Bool.not_true,sel_false]
  by_cases hc:nN (p2.drop 32) < L
  ·have d0:p2.drop 0=p2:=List.drop_zero
   rw [decide_eq_true hc,Bool.not_true,sel_false,Bool.true_and,joinT3,bytes23 hs,part1_all (digs_length _ _ _),d0]
   have dx:Dig 256 (p2.take 32 ++ p0 ++ p1):=dig_app (dig_app (dig_take h2 32) h0) h1
   have lx:(p2.take 32 ++ p0 ++ p1).length≤100000000:=by
    rw [List.length_append,List.length_append,List.length_take,hl,hA,encL_len]; omega
   have hk:=red_hash dx lx
   rw [bytes23 hk,part1_all (digs_length _ _ _)]
   have t1:=times19 PE_base (digsD _) (small_num hc)
   have t2:=times19 (neg33 r3) (digsD _) (small_num (hN_lt (p2.take 32 ++ p0 ++ p1)))
   have t3:=add38 t1 t2 (EF_add EF_curve EF_curve)
   rw [bytes20 t3,List.drop_zero,List.take_of_length_le (by rw [encL_len]; exact Nat.le_refl _),strEq_bytes (encL_dig _) (dig_take h2 32)]
   rfl
  ·rw [decide_eq_false hc]; rfl
 ·exact absurd hA (hno A)
theorem val14 {p0 p1 p2:List Int} {A:Pt CT} (h1:Dig 256 p1) (h2:Dig 256 p2) (hA:p0=encL A) (hl:p2.length=64) :
  FT14 p0 p1 p2=(decide (nN (p2.drop 32) < L) && decide (encL (want A p0 p1 p2)=p2.take 32)):=by
 have h0:Dig 256 p0:=by rw [hA]; exact encL_dig A
 have e64:(((p2.length:Int):Int) != 64)=false:=by rw [hl]; rfl
 have hd:(p2.drop 32).take (p2.length - 32)=p2.drop 32:=List.take_of_length_le (by rw [List.length_drop]; omega)
 have ld:(p2.drop 32).length=32:=by rw [List.length_drop]; omega
 have hL:nN ordL=L:=by
  have:=nN_num ordL_dig
  rw [ordL_num] at this
  exact (Int.ofNat.inj this).symm
 unfold FT14
 rw [e64,sel_false,hd]
 have e41:FT41 (p2.drop 32) (part1 [237,211,245,92,26,99,18,88,214,156,247,162,222,249,222,20,0,0,0,0,0,0,0,0,0,0,0,0,0,0,0,16] 32 0 32)=decide (nN (p2.drop 32) < L):=by
  rw [part1_all (n:=32) rfl]
  have:=below41 (dig_drop h2 32) ordL_dig ld ordL_len
  rw [hL] at this
  exact this
 rw [e41]
 rcases read40 h0 with ⟨r1,p,r2,r3⟩ | ⟨_,hno⟩
 ·have hp:p=A:=encL_inj (r2.symm.trans hA)
  subst hp
  rw [r1,Bool.not_true,sel_false]
  by_cases hc:nN (p2.drop 32) < L
  ·have d0:p2.drop 0=p2:=List.drop_zero
   rw [decide_eq_true hc,Bool.not_true,sel_false,Bool.true_and,hash31,part1_all (digs_length _ _ _),d0]
   have t1:=times27 PR_base (dig_drop h2 32) (nN_num (dig_drop h2 32))
   have t2:=times27 (neg40 r3) (digsD _) (small_num (hN_lt (p2.take 32 ++ p0 ++ p1)))
   have t3:=add44 t1 t2
   rw [bytes26 t3,List.drop_zero,List.take_of_length_le (by rw [encL_len]; exact Nat.le_refl _),strEq_bytes (encL_dig _) (dig_take h2 32)]
   rfl
  ·rw [decide_eq_false hc]; rfl
 ·exact absurd hA (hno A)
theorem no13 {p0 p1 p2:List Int} (h0:Dig 256 p0) (h:p2.length ≠ 64 ∨ ∀ A,p0 ≠ encL A):FT13 p0 p1 p2=false:=by
 unfold FT13
 rcases h with h | h
 ·have e64:(((p2.length:Int):Int) != 64)=true:=by simp; omega
  rw [e64]; rfl
 ·rcases read33 h0 with ⟨_,p,r2,_⟩ | ⟨r1,_⟩
  ·exact absurd r2 (h p)
  ·rw [r1]
   cases (((p2.length:Int):Int) != 64) <;> rfl
theorem no14 {p0 p1 p2:List Int} (h0:Dig 256 p0) (h:p2.length ≠ 64 ∨ ∀ A,p0 ≠ encL A):FT14 p0 p1 p2=false:=by
 unfold FT14
 rcases h with h | h
 ·have e64:(((p2.length:Int):Int) != 64)=true:=by simp; omega
  rw [e64]
  cases (!(FT40_1 p0)) <;> rfl
 ·rcases read40 h0 with ⟨_,p,r2,_⟩ | ⟨r1,_⟩
  ·exact absurd r2 (h p)
  ·rw [r1]; rfl
theorem same1314 {p0 p1 p2:List Int} (h0:Dig 256 p0) (h1:Dig 256 p1) (h2:Dig 256 p2) (hl1:p1.length≤10000):FT13 p0 p1 p2=FT14 p0 p1 p2:=by
 by_cases hl:p2.length=64
 ·by_cases hA:∃ A,p0=encL A
  ·obtain ⟨A,hA⟩:=hA
   rw [val13 h1 h2 hA hl hl1,val14 h1 h2 hA hl]
  ·have h:∀ A,p0 ≠ encL A:=fun A e => hA ⟨A,e⟩
   rw [no13 h0 (.inr h),no14 h0 (.inr h)]
 ·rw [no13 h0 (.inl hl),no14 h0 (.inl hl)]
end Go.Vm
set_option linter.unusedVariables false
set_option linter.unusedSimpArgs false
set_option maxRecDepth 4000
namespace Tabn
theorem Pt.mul_add {C:Crv} (k:Nat) (p q:Pt C):Pt.mul k (p.add q)=(Pt.mul k p).add (Pt.mul k q):=by
 induction k with
 | zero =>
  show Pt.zero C=(Pt.zero C).add (Pt.zero C)
  rw [Pt.zero_add]
 | succ k ih =>
  show (Pt.mul k (p.add q)).add (p.add q)=((Pt.mul k p).add p).add ((Pt.mul k q).add q)
  rw [ih,Pt.add_assoc,Pt.add_assoc,← Pt.add_assoc (Pt.mul k q) p q,Pt.add_comm (Pt.mul k q) p,Pt.add_assoc p]
theorem Pt.mul_neg_add {C:Crv} (k:Nat) (p:Pt C):(Pt.mul k p.neg).add (Pt.mul k p)=Pt.zero C:=by
 rw [← Pt.mul_add,Pt.neg_add,Pt.mul_zero]
theorem mul_inj {m n:Nat} (h:Pt.mul m BT=Pt.mul n BT) (hle:n≤m):L ∣ m - n:=by
 apply ord_B
 have e:m=n + (m - n):=by omega
 rw [e,Pt.add_mul] at h
 exact Pt.add_cancel (h.trans (Pt.add_zero _).symm)
end Tabn
namespace Go.Vm
open Go Tabn
theorem sigL_len (a b:List Int):(sigL a b).length=64:=by unfold sigL; rw [List.length_append,encL_len,digs_length]
theorem sigL_dig (a b:List Int):Dig 256 (sigL a b):=dig_app (encL_dig _) (digsD _)
theorem sigL_take (a b:List Int):(sigL a b).take 32=encL (rP a b):=by
 unfold sigL
 rw [List.take_append_of_le_length (by rw [encL_len]; exact Nat.le_refl _),List.take_of_length_le (by rw [encL_len]; exact Nat.le_refl _)]
theorem sigL_drop (a b:List Int):(sigL a b).drop 32=digs 256 32 (sN a b:Int):=by
 unfold sigL
 rw [← encL_len (rP a b),List.drop_left]
theorem nN_of {b:List Int} {V:Nat} (h:num 256 b=(V:Int)):nN b=V:=by unfold nN; rw [h]; rfl
theorem sigL_num (a b:List Int):nN ((sigL a b).drop 32)=sN a b:=by rw [sigL_drop]; exact nN_of (small_num (sN_lt a b))
theorem key_point (a b:List Int):Pt.mul (sN a b) BT=(Pt.mul (kN a b) (keyP a)).add (rP a b):=by
 unfold sN
 rw [Tabn.mul_mod,Pt.add_mul,Pt.mul_mul]
 rfl
theorem back_point {k:Nat} {A R:Pt CT}:((((Pt.mul k A).add R)).add (Pt.mul k A.neg))=R:=by
 rw [Pt.add_comm (Pt.mul k A) R,Pt.add_assoc,Pt.add_comm (Pt.mul k A),Pt.mul_neg_add,Pt.add_zero]
theorem sig_taken {a b:List Int} (hb:Dig 256 b) (lb:b.length≤10000):FT13 (encL (keyP a)) b (sigL a b)=true:=by
 rw [val13 hb (sigL_dig a b) rfl (sigL_len a b) lb,sigL_num,decide_eq_true (sN_lt a b),Bool.true_and,sigL_take]
 apply decide_eq_true
 congr 1
 unfold want
 rw [sigL_num,sigL_take,key_point]
 exact back_point
theorem sig_other {a b c:List Int} (hc:Dig 256 c) (lc:c.length≤10000) (hL:¬ L ∣ secN a) (hk:kN a b ≠ hN (encL (rP a b) ++ encL (keyP a) ++ c)):FT13 (encL (keyP a)) c (sigL a b)=false:=by
 rw [val13 hc (sigL_dig a b) rfl (sigL_len a b) lc,sigL_num,decide_eq_true (sN_lt a b),Bool.true_and,sigL_take]
 apply decide_eq_false
 intro h
 have h1:=encL_inj h
 unfold want at h1
 rw [sigL_num,sigL_take] at h1
 have hk1:=kN_lt a b
 have hk2:=hN_lt (encL (rP a b) ++ encL (keyP a) ++ c)
 generalize hN (encL (rP a b) ++ encL (keyP a) ++ c)=k' at *
 have h2:(Pt.mul (sN a b) BT).add (Pt.mul (kN a b) (keyP a).neg)=rP a b:=by rw [key_point]; exact back_point
 have h3:=Pt.add_cancel (h1.trans h2.symm)
 have h4:=Pt.mul_neg_add k' (keyP a)
 have h5:=Pt.mul_neg_add (kN a b) (keyP a)
 rw [h3] at h4
 have h6:=Pt.add_cancel (h4.trans h5.symm)
 unfold keyP at h6
 rw [← Pt.mul_mul,← Pt.mul_mul] at h6
 have key:∀ m n:Nat,m < L→n < L→m ≠ n→n≤m→Pt.mul (m * secN a) BT=Pt.mul (n * secN a) BT→False:=by
  intro m n hm hn hne hle he
  have h7:=mul_inj he (Nat.mul_le_mul_right _ hle)
  rw [← Nat.sub_mul] at h7
  rcases prime_L.dvd_mul h7 with h8 | h8
  ·have:=Nat.le_of_dvd (by omega) h8
   omega
  ·exact hL h8
 by_cases hle:kN a b≤k'
 ·exact key k' (kN a b) hk2 hk1 (fun e => hk e.symm) hle h6
 ·exact key (kN a b) k' hk1 hk2 hk (by omega) h6.symm
theorem enc_lit {N:Nat} (hN:N < 2 ^ 256) {x y:Tabn.F} {e:Nat} {l:List Int} (h:(tm N 256).1=x * (tm N 256).2.2∧(tm N 256).2.1=y * (tm N 256).2.2) (he:y.val + x.val % 2 * 2 ^ 255=e) (hl:digs 256 32 (e:Int)=l):encL (Pt.mul N BT)=l:=by
 obtain ⟨h1,h2⟩:=tm_lit hN h
 unfold encL encN
 rw [h1,h2,he]
 exact hl
theorem encKey {a:List Int} {N:Nat} {l:List Int} (h:secN a=N) (h':encL (Pt.mul N BT)=l):encL (keyP a)=l:=by
 subst h
 exact h'
theorem encR' {a b:List Int} {N:Nat} {l:List Int} (h:rN a b=N) (h':encL (Pt.mul N BT)=l):encL (rP a b)=l:=by
 subst h
 exact h'
end Go.Vm
set_option linter.unusedVariables false
set_option linter.unusedSimpArgs false
set_option maxRecDepth 4000
namespace Go.Vm
open Go
noncomputable def FT8:Bool :=
 (sel (((FT9_1 (part1 (List.replicate 32 0) 32 0 32)).getD 0 0:Int) == 59) (sel (FT13 (part1 (FT9_1 (part1 (List.replicate 32 0) 32 0 32)) 32 0 32) (part1 [120] 1 0 1) (part1 (FT10_1 (part1 (List.replicate 32 0) 32 0 32) (part1 [120] 1 0 1)) 64 0 64)) (!(FT13 (part1 (FT9_1 (part1 (List.replicate 32 0) 32 0 32)) 32 0 32) (part1 [121] 1 0 1) (part1 (FT10_1 (part1 (List.replicate 32 0) 32 0 32) (part1 [120] 1 0 1)) 64 0 64))) false) false)
noncomputable def ST8:List AV→Option (Prop × Ret)
 | [] => some (True,⟨.sc (.b (FT8)),[]⟩)
 | _ => none
noncomputable def BT8:Bs:={ P:=Go.Proofs.Tryd.prog,G:=gD,tab:=tabOf [(9,⟨[.ro .u8],1,VT9⟩),(10,⟨[.ro .u8,.ro .u8],1,VT10⟩),(13,⟨[.ro .u8,.ro .u8,.ro .u8],0,ST13⟩)],n:=49 }
theorem BT8.ok:BT8.Ok:=⟨tabOk (P:=Go.Proofs.Tryd.prog) (G:=gD) (l:=[(9,⟨[.ro .u8],1,VT9⟩),(10,⟨[.ro .u8,.ro .u8],1,VT10⟩),(13,⟨[.ro .u8,.ro .u8,.ro .u8],0,ST13⟩)]) (And.intro KV9 (And.intro KV10 (And.intro KT13 True.intro))),mixed⟩
theorem KT8:Known Go.Proofs.Tryd.prog gD 8 ⟨[],0,ST8⟩:=by
 refine Known.walk (B:=BT8) (fn:=Go.Proofs.Tryd.f8) BT8.ok (by kernel_rfl) rfl (by kernel_rfl) (by kernel_rfl) (by decide) ?_ ?_
 ·intro vs C r h
  simp only at h
  unfold ST8 at h
  split at h
  ·cases h; rfl
  ·cases h
 ·intro E args C r h hC hlen
  simp only at h
  unfold ST8 at h
  split at h
  rotate_left
  ·cases h
  skip
  cases h
  simp only [lens] at hlen
  refine ⟨show 0≤49 from by decide,?_⟩
  refine Tri.sub (Sub.of_eq (show _=([],[]) from rfl)) ?_
  refine sr [] none [] [] (TT∧True)
    ([],[])
    16 (⟨tt,trivial⟩) ?_
  refine sr [] none [1] [16] (((((0:Int)≤32∧(32:Int)=32)∧((32≤(140737488355328:Int))∧(((1:Nat):Int) * 32≤281474976710656)))∧True)∧(TT∧True))
    ([(1,.sc (.sl 16 0 32 1 none))],[(16,.ints .u8 32 (List.replicate 32 0))])
    48 (⟨⟨⟨(by omega),⟨(by omega),(by omega)⟩⟩,trivial⟩,⟨tt,trivial⟩⟩) ?_
  refine Tri.len 16 rfl (fun hl1 => ?_)
  refine sr [] none [3,2,1] [64,16] (TT∧(((((0 + 32≤32)∧True)∧((part1 (List.replicate 32 0) 32 0 32).length=32))∧True)∧(TT∧(TT∧(TT∧(TT∧(TT∧True)))))))
    ([(3,qi 0),(2,.sc (.sl 64 0 32 1 (some 32))),(1,.sc (.sl 16 0 32 1 none))],[(64,.ints .u8 32 (FT9_1 (part1 (List.replicate 32 0) 32 0 32))),(16,.ints .u8 32 (List.replicate 32 0))])
    160 (⟨tt,⟨⟨⟨⟨(by omega),trivial⟩,(by exact (by first | omega | (rw [part1_all rfl]; omega) | (rw [part1_all (n:=32) rfl]; rfl) | exact part1_le (by omega) (by omega) | exact part1_le (by decide) (by decide)))⟩,trivial⟩,⟨tt,⟨tt,⟨tt,⟨tt,⟨tt,trivial⟩⟩⟩⟩⟩⟩⟩) ?_
  refine Tri.len 64 rfl (fun hl2 => ?_)
  refine Tri.len 16 rfl (fun hl3 => ?_)
  refine sr [] none [5,4,3,2] [208,64] (TT∧((((((0 < 1)∧(1=1))∧True)∧((1 * 1≤16777216)∧(1=1)))∧True)∧((((1=1)∧((0=0)∧(0 < 1)))∧True)∧(((((0 + 32≤32)∧((0 + 1≤1)∧True))∧((part1 (List.replicate 32 0) 32 0 32).length=32∧(part1 [120] 1 0 1).length≤10000))∧True)∧(TT∧(TT∧(TT∧(TT∧(TT∧True)))))))))
    ([(5,qi 0),(4,.sc (.sl 208 0 64 1 none)),(3,qi 0),(2,.sc (.sl 64 0 32 1 (some 32)))],[(208,.ints .u8 64 (FT10_1 (part1 (List.replicate 32 0) 32 0 32) (part1 [120] 1 0 1))),(64,.ints .u8 32 (FT9_1 (part1 (List.replicate 32 0) 32 0 32)))])
    304 (⟨tt,⟨⟨⟨⟨⟨(by omega),(rfl)⟩,trivial⟩,⟨(by omega),(rfl)⟩⟩,trivial⟩,⟨⟨⟨(rfl),⟨(rfl),(by omega)⟩⟩,trivial⟩,⟨⟨⟨⟨(by omega),⟨(by omega),trivial⟩⟩,(by exact ⟨(by first | omega | (rw [part1_all rfl]; omega) | (rw [part1_all (n:=32) rfl]; rfl) | exact part1_le (by omega) (by omega) | exact part1_le (by decide) (by decide)),(by first | omega | (rw [part1_all rfl]; omega) | (rw [part1_all (n:=32) rfl]; rfl) | exact part1_le (by omega) (by omega) | exact part1_le (by decide) (by decide))⟩)⟩,trivial⟩,⟨tt,⟨tt,⟨tt,⟨tt,⟨tt,trivial⟩⟩⟩⟩⟩⟩⟩⟩⟩) ?_
  refine Tri.split (((FT9_1 (part1 (List.replicate 32 0) 32 0 32)).getD 0 0:Int) == 59) (fun h4 => ?_) (fun h4 => ?_)
  ·
   have h4':=eq_true_i h4
   refine Tri.split (FT13 (part1 (FT9_1 (part1 (List.replicate 32 0) 32 0 32)) 32 0 32) (part1 [120] 1 0 1) (part1 (FT10_1 (part1 (List.replicate 32 0) 32 0 32) (part1 [120] 1 0 1)) 64 0 64)) (fun h5 => ?_) (fun h5 => ?_)
   ·
    refine Tri.len 208 rfl (fun hl6 => ?_)
    refine Tri.len 64 rfl (fun hl7 => ?_)
    refine sr [(34,.b true),(41,.b true)] none [0] [] (TT∧(TT∧(TT∧(TT∧(TT∧(TT∧(TT∧(TT∧(TT∧(TT∧(TT∧((((0:Int)≤0∧0 < ((32:Nat):Int))∧True)∧(((0 < 32)∧True)∧(TT∧(TT∧((True∧((((FT9_1 (part1 (List.replicate 32 0) 32 0 32)).getD 0 0:Int) == 59)=true))∧(TT∧((((((0 < 1)∧(1=1))∧True)∧((1 * 1≤16777216)∧(1=1)))∧True)∧((((1=1)∧((0=0)∧(0 < 1)))∧True)∧(TT∧(((((0 + 32≤32)∧((0 + 1≤1)∧((0 + 64≤64)∧True)))∧((part1 [120] 1 0 1).length≤10000))∧True)∧(TT∧((True∧((FT13 (part1 (FT9_1 (part1 (List.replicate 32 0) 32 0 32)) 32 0 32) (part1 [120] 1 0 1) (part1 (FT10_1 (part1 (List.replicate 32 0) 32 0 32) (part1 [120] 1 0 1)) 64 0 64))=true))∧(TT∧((((((0 < 1)∧(1=1))∧True)∧((1 * 1≤16777216)∧(1=1)))∧True)∧((((1=1)∧((0=0)∧(0 < 1)))∧True)∧(TT∧(((((0 + 32≤32)∧((0 + 1≤1)∧((0 + 64≤64)∧True)))∧((part1 [121] 1 0 1).length≤10000))∧True)∧(TT∧(TT∧(TT∧True)))))))))))))))))))))))))))))))
      ([(0,.sc (.b (!(FT13 (part1 (FT9_1 (part1 (List.replicate 32 0) 32 0 32)) 32 0 32) (part1 [121] 1 0 1) (part1 (FT10_1 (part1 (List.replicate 32 0) 32 0 32) (part1 [120] 1 0 1)) 64 0 64)))))],[])
      800 (⟨tt,⟨tt,⟨tt,⟨tt,⟨tt,⟨tt,⟨tt,⟨tt,⟨tt,⟨tt,⟨tt,⟨⟨(by omega),trivial⟩,⟨⟨(by omega),trivial⟩,⟨tt,⟨tt,⟨⟨trivial,(h4)⟩,⟨tt,⟨⟨⟨⟨⟨(by omega),(rfl)⟩,trivial⟩,⟨(by omega),(rfl)⟩⟩,trivial⟩,⟨⟨⟨(rfl),⟨(rfl),(by omega)⟩⟩,trivial⟩,⟨tt,⟨⟨⟨⟨(by omega),⟨(by omega),⟨(by omega),trivial⟩⟩⟩,(by first | omega | (rw [adr_eq]; omega) | exact iAnd_nn _ _ | exact iSub_nn _ _ | exact part1_le (by omega) (by first | omega | (simp only [List.length_append]; omega)) | decide)⟩,trivial⟩,⟨tt,⟨⟨trivial,(h5)⟩,⟨tt,⟨⟨⟨⟨⟨(by omega),(rfl)⟩,trivial⟩,⟨(by omega),(rfl)⟩⟩,trivial⟩,⟨⟨⟨(rfl),⟨(rfl),(by omega)⟩⟩,trivial⟩,⟨tt,⟨⟨⟨⟨(by omega),⟨(by omega),⟨(by omega),trivial⟩⟩⟩,(by first | omega | (rw [adr_eq]; omega) | exact iAnd_nn _ _ | exact iSub_nn _ _ | exact part1_le (by omega) (by first | omega | (simp only [List.length_append]; omega)) | decide)⟩,trivial⟩,⟨tt,⟨tt,⟨tt,trivial⟩⟩⟩⟩⟩⟩⟩⟩⟩⟩⟩⟩⟩⟩⟩⟩⟩⟩⟩⟩⟩⟩⟩⟩⟩⟩⟩⟩⟩⟩⟩) ?_
    refine Tri.ret ?_
    repeat (first | refine thenP_ret ?_ | refine blkP_ret ?_ | refine countP_ret ?_ | refine joinP_ret ?_)
    refine endP.conv (r':=⟨.sc (.b (!(FT13 (part1 (FT9_1 (part1 (List.replicate 32 0) 32 0 32)) 32 0 32) (part1 [121] 1 0 1) (part1 (FT10_1 (part1 (List.replicate 32 0) 32 0 32) (part1 [120] 1 0 1)) 64 0 64)))),[]⟩) (by simp only [FT8,h4,h5,sel_true,sel_false]) ?_
    exact endP.ret [] TT (by kernel_rfl) (by kernel_rfl) (by kernel_rfl) tt
   ·
    refine Tri.len 208 rfl (fun hl8 => ?_)
    refine Tri.len 64 rfl (fun hl9 => ?_)
    refine sr [(34,.b true),(41,.b false)] none [0] [] (TT∧(TT∧(TT∧(TT∧(TT∧(TT∧(TT∧(TT∧(TT∧(TT∧(TT∧((((0:Int)≤0∧0 < ((32:Nat):Int))∧True)∧(((0 < 32)∧True)∧(TT∧(TT∧((True∧((((FT9_1 (part1 (List.replicate 32 0) 32 0 32)).getD 0 0:Int) == 59)=true))∧(TT∧((((((0 < 1)∧(1=1))∧True)∧((1 * 1≤16777216)∧(1=1)))∧True)∧((((1=1)∧((0=0)∧(0 < 1)))∧True)∧(TT∧(((((0 + 32≤32)∧((0 + 1≤1)∧((0 + 64≤64)∧True)))∧((part1 [120] 1 0 1).length≤10000))∧True)∧(TT∧((True∧((FT13 (part1 (FT9_1 (part1 (List.replicate 32 0) 32 0 32)) 32 0 32) (part1 [120] 1 0 1) (part1 (FT10_1 (part1 (List.replicate 32 0) 32 0 32) (part1 [120] 1 0 1)) 64 0 64))=false))∧(TT∧(TT∧(TT∧(TT∧(TT∧(TT∧(TT∧(TT∧True)))))))))))))))))))))))))))))))
      ([(0,.sc (.b false))],[])
      800 (⟨tt,⟨tt,⟨tt,⟨tt,⟨tt,⟨tt,⟨tt,⟨tt,⟨tt,⟨tt,⟨tt,⟨⟨(by omega),trivial⟩,⟨⟨(by omega),trivial⟩,⟨tt,⟨tt,⟨⟨trivial,(h4)⟩,⟨tt,⟨⟨⟨⟨⟨(by omega),(rfl)⟩,trivial⟩,⟨(by omega),(rfl)⟩⟩,trivial⟩,⟨⟨⟨(rfl),⟨(rfl),(by omega)⟩⟩,trivial⟩,⟨tt,⟨⟨⟨⟨(by omega),⟨(by omega),⟨(by omega),trivial⟩⟩⟩,(by first | omega | (rw [adr_eq]; omega) | exact iAnd_nn _ _ | exact iSub_nn _ _ | exact part1_le (by omega) (by first | omega | (simp only [List.length_append]; omega)) | decide)⟩,trivial⟩,⟨tt,⟨⟨trivial,(h5)⟩,⟨tt,⟨tt,⟨tt,⟨tt,⟨tt,⟨tt,⟨tt,⟨tt,trivial⟩⟩⟩⟩⟩⟩⟩⟩⟩⟩⟩⟩⟩⟩⟩⟩⟩⟩⟩⟩⟩⟩⟩⟩⟩⟩⟩⟩⟩⟩⟩) ?_
    refine Tri.ret ?_
    repeat (first | refine thenP_ret ?_ | refine blkP_ret ?_ | refine countP_ret ?_ | refine joinP_ret ?_)
    refine endP.conv (r':=⟨.sc (.b false),[]⟩) (by simp only [FT8,h4,h5,sel_true,sel_false]) ?_
    exact endP.ret [] TT (by kernel_rfl) (by kernel_rfl) (by kernel_rfl) tt
  ·
   have h4':=eq_false_i h4
   refine Tri.len 208 rfl (fun hl10 => ?_)
   refine Tri.len 64 rfl (fun hl11 => ?_)
   refine sr [(34,.b false)] none [0] [] (TT∧(TT∧(TT∧(TT∧(TT∧(TT∧(TT∧(TT∧(TT∧(TT∧(TT∧((((0:Int)≤0∧0 < ((32:Nat):Int))∧True)∧(((0 < 32)∧True)∧(TT∧(TT∧((True∧((((FT9_1 (part1 (List.replicate 32 0) 32 0 32)).getD 0 0:Int) == 59)=false))∧(TT∧(TT∧(TT∧(TT∧(TT∧(TT∧(TT∧(TT∧(TT∧(TT∧(TT∧(TT∧(TT∧(TT∧(TT∧True)))))))))))))))))))))))))))))))
     ([(0,.sc (.b false))],[])
     800 (⟨tt,⟨tt,⟨tt,⟨tt,⟨tt,⟨tt,⟨tt,⟨tt,⟨tt,⟨tt,⟨tt,⟨⟨(by omega),trivial⟩,⟨⟨(by omega),trivial⟩,⟨tt,⟨tt,⟨⟨trivial,(h4)⟩,⟨tt,⟨tt,⟨tt,⟨tt,⟨tt,⟨tt,⟨tt,⟨tt,⟨tt,⟨tt,⟨tt,⟨tt,⟨tt,⟨tt,⟨tt,trivial⟩⟩⟩⟩⟩⟩⟩⟩⟩⟩⟩⟩⟩⟩⟩⟩⟩⟩⟩⟩⟩⟩⟩⟩⟩⟩⟩⟩⟩⟩⟩) ?_
   refine Tri.ret ?_
   repeat (first | refine thenP_ret ?_ | refine blkP_ret ?_ | refine countP_ret ?_ | refine joinP_ret ?_)
   refine endP.conv (r':=⟨.sc (.b false),[]⟩) (by simp only [FT8,h4,sel_true,sel_false]) ?_
   exact endP.ret [] TT (by kernel_rfl) (by kernel_rfl) (by kernel_rfl) tt
end Go.Vm
set_option linter.unusedVariables false
set_option linter.unusedSimpArgs false
set_option maxRecDepth 100000
namespace Go.Vm
open Go Tabn
def z32:List Int:=List.replicate 32 0
theorem z32_dig:Dig 256 z32:=by unfold Dig z32; decide
theorem z32_len:z32.length=32:=rfl
theorem x_dig:Dig 256 [120]:=by unfold Dig; decide
theorem y_dig:Dig 256 [121]:=by unfold Dig; decide
def fH0:List Int:=[80,70,173,193,219,168,56,134,123,43,187,253,208,195,66,62,88,181,121,112,181,38,122,144,245,121,96,146,74,135,241,150,10,106,133,234,166,66,218,200,53,66,75,93,124,141,99,124,0,64,140,122,115,218,103,43,127,73,133,33,66,11,109,211]
def fM1:List Int:=[10,106,133,234,166,66,218,200,53,66,75,93,124,141,99,124,0,64,140,122,115,218,103,43,127,73,133,33,66,11,109,211,120]
def fH1:List Int:=[151,64,170,143,253,189,227,98,158,91,217,177,15,70,227,213,211,59,207,169,78,44,141,209,65,141,229,84,202,240,223,117,89,198,54,95,179,239,216,124,219,233,178,141,106,245,55,21,206,101,50,23,27,74,113,189,239,246,122,202,80,191,3,123]
def fR:List Int:=[247,244,149,243,4,33,124,74,253,75,81,100,34,217,101,111,166,16,62,142,249,56,56,94,192,74,155,147,187,50,194,83]
def fA:List Int:=[59,106,39,188,206,182,164,45,98,163,168,208,42,111,13,115,101,50,21,119,29,226,67,166,58,192,72,161,139,89,218,41]
def fM2:List Int:=[247,244,149,243,4,33,124,74,253,75,81,100,34,217,101,111,166,16,62,142,249,56,56,94,192,74,155,147,187,50,194,83,59,106,39,188,206,182,164,45,98,163,168,208,42,111,13,115,101,50,21,119,29,226,67,166,58,192,72,161,139,89,218,41,120]
def fM3:List Int:=[247,244,149,243,4,33,124,74,253,75,81,100,34,217,101,111,166,16,62,142,249,56,56,94,192,74,155,147,187,50,194,83,59,106,39,188,206,182,164,45,98,163,168,208,42,111,13,115,101,50,21,119,29,226,67,166,58,192,72,161,139,89,218,41,121]
def fH2:List Int:=[51,50,252,125,111,96,159,87,50,44,79,22,228,212,49,97,189,130,70,208,180,28,156,7,108,3,40,21,222,109,102,162,18,246,27,227,54,5,98,26,179,119,225,188,88,147,85,35,211,173,179,11,25,5,226,122,26,124,5,232,177,203,78,199]
def fH3:List Int:=[185,217,238,238,216,107,242,21,42,54,100,48,69,25,129,183,249,247,235,81,170,52,124,108,115,250,15,190,120,70,77,115,13,175,166,149,25,146,179,93,135,217,202,156,23,70,131,177,61,146,197,144,97,50,127,202,136,201,216,209,4,205,31,228]
theorem fE0:FD35 z32=fH0:=by kernel_rfl
theorem fE1:FD35 fM1=fH1:=by kernel_rfl
theorem fE2:FD35 fM2=fH2:=by kernel_rfl
theorem fE3:FD35 fM3=fH3:=by kernel_rfl
theorem fD1:Dig 256 fM1:=by unfold Dig fM1; decide
theorem fD2:Dig 256 fM2:=by unfold Dig fM2; decide
theorem fD3:Dig 256 fM3:=by unfold Dig fM3; decide
theorem fh0:hsh z32=fH0:=(hsh35 z32_dig (by decide)).symm.trans fE0
theorem fh1:hsh fM1=fH1:=(hsh35 fD1 (by decide)).symm.trans fE1
theorem fh2:hsh fM2=fH2:=(hsh35 fD2 (by decide)).symm.trans fE2
theorem fh3:hsh fM3=fH3:=(hsh35 fD3 (by decide)).symm.trans fE3
theorem fsec:secN z32=39325648866980652792715009169219496062012184734522019333892538943312776480336:=by
 unfold secN
 rw [fh0]
 kernel_rfl
theorem frn:nN fH1 % L=3423285543124770013568908192632531849612264324827488208644972477601015462713:=by kernel_rfl
theorem fk2n:nN fH2 % L=6167833058044944205309881121356327314085031707451672197184078648761593918629:=by kernel_rfl
theorem fk3n:nN fH3 % L=858118818752399398519318015336099810823902787890770336939035062962000484146:=by kernel_rfl
theorem fr:rN z32 [120]=3423285543124770013568908192632531849612264324827488208644972477601015462713:=by
 unfold rN
 rw [fh0]
 have e:(fH0.drop 32 ++ [120]:List Int)=fM1:=by kernel_rfl
 rw [e]
 unfold hN
 rw [fh1]
 exact frn
theorem fA32:tm 39325648866980652792715009169219496062012184734522019333892538943312776480336 32=(16131654361425289794537575663796756549060058761753528127487941791509648236004,28357951292213356563800637064410155012469389161615519649004059390285143865429,12683103947390476550668524112422240842701087056636314723096358013515320027215):=tm_step (k0:=0) (j:=32) (r:=(0,1,1)) rfl (by decide +kernel)
theorem fA64:tm 39325648866980652792715009169219496062012184734522019333892538943312776480336 64=(36246384768772567865857542040006089325665518853009011992196470566902617455788,2049314681509613904676325676257950523970123632835933513866134346510144672659,1741088478108522779106423237653237779735295921652659807937206648616683868369):=tm_step (k0:=32) (j:=32) (r:=(16131654361425289794537575663796756549060058761753528127487941791509648236004,28357951292213356563800637064410155012469389161615519649004059390285143865429,12683103947390476550668524112422240842701087056636314723096358013515320027215)) fA32 (by decide +kernel)
theorem fA96:tm 39325648866980652792715009169219496062012184734522019333892538943312776480336 96=(25653463729213024135855347293458296989835272320847723431606299223122469611064,16074056574211910107463560903487461443796145549097271430946357572449671302644,42021214278079027010777722968592885514995632892340735021380903062649921646468):=tm_step (k0:=64) (j:=32) (r:=(36246384768772567865857542040006089325665518853009011992196470566902617455788,2049314681509613904676325676257950523970123632835933513866134346510144672659,1741088478108522779106423237653237779735295921652659807937206648616683868369)) fA64 (by decide +kernel)
theorem fA128:tm 39325648866980652792715009169219496062012184734522019333892538943312776480336 128=(20335481639791096220606081666479165376133691008478079039378794605997966061218,52657524731928448996106976955250181454533551441079484579104832024467385150434,30538698185588649600036017901878832260662676788157285837528949135456138942268):=tm_step (k0:=96) (j:=32) (r:=(25653463729213024135855347293458296989835272320847723431606299223122469611064,16074056574211910107463560903487461443796145549097271430946357572449671302644,42021214278079027010777722968592885514995632892340735021380903062649921646468)) fA96 (by decide +kernel)
theorem fA160:tm 39325648866980652792715009169219496062012184734522019333892538943312776480336 160=(39535866183869243309007428675542351819157872423574851943440721405381507482525,23263654257581958724909250275377710544170035396648943746431129599635737693775,16358297005845645644555004983171612364687107893927681007902935460674214839270):=tm_step (k0:=128) (j:=32) (r:=(20335481639791096220606081666479165376133691008478079039378794605997966061218,52657524731928448996106976955250181454533551441079484579104832024467385150434,30538698185588649600036017901878832260662676788157285837528949135456138942268)) fA128 (by decide +kernel)
theorem fA192:tm 39325648866980652792715009169219496062012184734522019333892538943312776480336 192=(34995880826356191654813548730275322939993082881740038141987862644299751083260,21115653745287810096911462623530499730580481463927551547879025098043293213378,9906861276338426116713477853748031290926575020590575827549037024417867459298):=tm_step (k0:=160) (j:=32) (r:=(39535866183869243309007428675542351819157872423574851943440721405381507482525,23263654257581958724909250275377710544170035396648943746431129599635737693775,16358297005845645644555004983171612364687107893927681007902935460674214839270)) fA160 (by decide +kernel)
theorem fA224:tm 39325648866980652792715009169219496062012184734522019333892538943312776480336 224=(12048144128851741291873073801496347447356650179504057637644411258273371439695,27601893033028899973231734191402406531658694391975048731329330053905128659023,24785878446212223392486695909614542181532554797485406084672996628491668719770):=tm_step (k0:=192) (j:=32) (r:=(34995880826356191654813548730275322939993082881740038141987862644299751083260,21115653745287810096911462623530499730580481463927551547879025098043293213378,9906861276338426116713477853748031290926575020590575827549037024417867459298)) fA192 (by decide +kernel)
theorem fA256:tm 39325648866980652792715009169219496062012184734522019333892538943312776480336 256=(57858664897908083886616730048133495680846695993816524414160888176976220141864,19726323970308381861037264260459780811373847171889358821150822261828039361496,24471432733940390919967843837209335102995873066817353683885557581620014762187):=tm_step (k0:=224) (j:=32) (r:=(12048144128851741291873073801496347447356650179504057637644411258273371439695,27601893033028899973231734191402406531658694391975048731329330053905128659023,24785878446212223392486695909614542181532554797485406084672996628491668719770)) fA224 (by decide +kernel)
theorem fAt:(tm 39325648866980652792715009169219496062012184734522019333892538943312776480336 256).1=9639205628789703341510410801487549615560488670885798085067615194958049462616 * (tm 39325648866980652792715009169219496062012184734522019333892538943312776480336 256).2.2∧(tm 39325648866980652792715009169219496062012184734522019333892538943312776480336 256).2.1=18930617471878267742194159801949745215346600387277955685031939302387136031291 * (tm 39325648866980652792715009169219496062012184734522019333892538943312776480336 256).2.2:=by rw [fA256]; decide +kernel
theorem fR32:tm 3423285543124770013568908192632531849612264324827488208644972477601015462713 32=(39863107536727780437265937786798870148578223238569821169863341091796515869196,44149392484168948252146445936691820867266787248363943391098277716089799692787,4225222032459861099735318873975353341485337755805214624844738220071677922433):=tm_step (k0:=0) (j:=32) (r:=(0,1,1)) rfl (by decide +kernel)
theorem fR64:tm 3423285543124770013568908192632531849612264324827488208644972477601015462713 64=(12634327312137749320009746998646831954810595220051910616063100654767297015758,52188410145237577890229892609335341008919167949682615155055186534820557318821,6229880657534929158731833325502674049131918678293737465007366282074466400127):=tm_step (k0:=32) (j:=32) (r:=(39863107536727780437265937786798870148578223238569821169863341091796515869196,44149392484168948252146445936691820867266787248363943391098277716089799692787,4225222032459861099735318873975353341485337755805214624844738220071677922433)) fR32 (by decide +kernel)
theorem fR96:tm 3423285543124770013568908192632531849612264324827488208644972477601015462713 96=(21866306123345407542770631004688882554517999282722822212832267337911282038448,8776986581704159537619279499136737050697575778030123207904081049897886771684,21305696263588277771658885703969141352659581768705624913697313990642740607291):=tm_step (k0:=64) (j:=32) (r:=(12634327312137749320009746998646831954810595220051910616063100654767297015758,52188410145237577890229892609335341008919167949682615155055186534820557318821,6229880657534929158731833325502674049131918678293737465007366282074466400127)) fR64 (by decide +kernel)
theorem fR128:tm 3423285543124770013568908192632531849612264324827488208644972477601015462713 128=(24238776122283502951241834879551249909841147410392803150830305309157216686024,34644473384152769719652111352694677536064718630538424427903545279775951730362,18587118792766622525543804736279917547024521247495733587415802787032899940973):=tm_step (k0:=96) (j:=32) (r:=(21866306123345407542770631004688882554517999282722822212832267337911282038448,8776986581704159537619279499136737050697575778030123207904081049897886771684,21305696263588277771658885703969141352659581768705624913697313990642740607291)) fR96 (by decide +kernel)
theorem fR160:tm 3423285543124770013568908192632531849612264324827488208644972477601015462713 160=(27419180317250100820392206506964897085254612569882062230114470304884242592530,36026509128320332630539422620972951242960461371816024032292508878917602686200,27826341943574058921580410032125394648936462022484983067838480363510245143830):=tm_step (k0:=128) (j:=32) (r:=(24238776122283502951241834879551249909841147410392803150830305309157216686024,34644473384152769719652111352694677536064718630538424427903545279775951730362,18587118792766622525543804736279917547024521247495733587415802787032899940973)) fR128 (by decide +kernel)
theorem fR192:tm 3423285543124770013568908192632531849612264324827488208644972477601015462713 192=(8506502149287858963143203915569254958466102037917509038305877908876609032562,20278294337534636009175992754992874254678226912029436627082231878752101475365,13812459955899414006148570292616762630900056629759930834022353338925003506654):=tm_step (k0:=160) (j:=32) (r:=(27419180317250100820392206506964897085254612569882062230114470304884242592530,36026509128320332630539422620972951242960461371816024032292508878917602686200,27826341943574058921580410032125394648936462022484983067838480363510245143830)) fR160 (by decide +kernel)
theorem fR224:tm 3423285543124770013568908192632531849612264324827488208644972477601015462713 224=(189326638968551133117407262539205807959946592930872585597046200965681052313,17393026727316614017276416154423671791133239991741417263546153738021671367280,55619105671172473227029819709964544223598958525685935278087373019729032891974):=tm_step (k0:=192) (j:=32) (r:=(8506502149287858963143203915569254958466102037917509038305877908876609032562,20278294337534636009175992754992874254678226912029436627082231878752101475365,13812459955899414006148570292616762630900056629759930834022353338925003506654)) fR192 (by decide +kernel)
theorem fR256:tm 3423285543124770013568908192632531849612264324827488208644972477601015462713 256=(1102724424838952406322022462191667694686659822953095906891388827174206226098,33100687688984934545510135601442822145965948839381228891174158847881401136826,30035596254450801436603838367594340928146623645322224553569117937318480731381):=tm_step (k0:=224) (j:=32) (r:=(189326638968551133117407262539205807959946592930872585597046200965681052313,17393026727316614017276416154423671791133239991741417263546153738021671367280,55619105671172473227029819709964544223598958525685935278087373019729032891974)) fR224 (by decide +kernel)
theorem fRt:(tm 3423285543124770013568908192632531849612264324827488208644972477601015462713 256).1=41090549948006272311198374804453827104284152905970889882247217708485212105432 * (tm 3423285543124770013568908192632531849612264324827488208644972477601015462713 256).2.2∧(tm 3423285543124770013568908192632531849612264324827488208644972477601015462713 256).2.1=37885084907350273378087248234373914538591606833062350975385659914521377371383 * (tm 3423285543124770013568908192632531849612264324827488208644972477601015462713 256).2.2:=by rw [fR256]; decide +kernel
theorem fAn:(18930617471878267742194159801949745215346600387277955685031939302387136031291:Tabn.F).val + (9639205628789703341510410801487549615560488670885798085067615194958049462616:Tabn.F).val % 2 * 2 ^ 255=18930617471878267742194159801949745215346600387277955685031939302387136031291:=by decide +kernel
theorem fRn:(37885084907350273378087248234373914538591606833062350975385659914521377371383:Tabn.F).val + (41090549948006272311198374804453827104284152905970889882247217708485212105432:Tabn.F).val % 2 * 2 ^ 255=37885084907350273378087248234373914538591606833062350975385659914521377371383:=by decide +kernel
theorem fAd:digs 256 32 ((18930617471878267742194159801949745215346600387277955685031939302387136031291:Nat):Int)=fA:=by kernel_rfl
theorem fRd:digs 256 32 ((37885084907350273378087248234373914538591606833062350975385659914521377371383:Nat):Int)=fR:=by kernel_rfl
theorem fencA:encL (keyP z32)=fA:=encKey fsec (enc_lit (by decide) fAt fAn fAd)
theorem fencR:encL (rP z32 [120])=fR:=encR' fr (enc_lit (by decide) fRt fRn fRd)
theorem fk2:hN (fR ++ fA ++ [120])=6167833058044944205309881121356327314085031707451672197184078648761593918629:=by
 have e:(fR ++ fA ++ [120]:List Int)=fM2:=by kernel_rfl
 rw [e]
 unfold hN
 rw [fh2]
 exact fk2n
theorem fk3:hN (fR ++ fA ++ [121])=858118818752399398519318015336099810823902787890770336939035062962000484146:=by
 have e:(fR ++ fA ++ [121]:List Int)=fM3:=by kernel_rfl
 rw [e]
 unfold hN
 rw [fh3]
 exact fk3n
theorem fno:¬ L ∣ secN z32:=by
 rw [fsec]
 intro h
 have h1:=Nat.mod_eq_zero_of_dvd h
 rw [L_lit] at h1
 exact absurd h1 (by decide)
theorem fit8:FT8=true:=by
 have e0:part1 (List.replicate 32 (0:Int)) 32 0 32=z32:=part1_all (by simp)
 have e1:part1 ([120]:List Int) 1 0 1=[120]:=rfl
 have e2:part1 ([121]:List Int) 1 0 1=[121]:=rfl
 unfold FT8
 rw [e0,e1,e2,pub9 z32_dig z32_len,sig10 z32_dig z32_len x_dig (by decide),part1_all (encL_len _),part1_all (sigL_len _ _)]
 have t1:FT13 (encL (keyP z32)) [120] (sigL z32 [120])=true:=sig_taken x_dig (by decide)
 have t2:FT13 (encL (keyP z32)) [121] (sigL z32 [120])=false:=by
  refine sig_other y_dig (by decide) fno ?_
  unfold kN
  rw [fencR,fencA,fk2,fk3]
  decide
 rw [t1,t2,fencA]
 rfl
end Go.Vm
set_option maxRecDepth 100000
namespace Go.Vm
open Go Go.Proofs
noncomputable def lSteps : LaidI Tryd.prog := ⟨ "tabulary/digest.steps", 2, 77, 39, .u64, gSteps⟩
noncomputable def lStarts : LaidI Tryd.prog := ⟨ "tabulary/digest.starts", 1, 76, 39, .u64, gStarts⟩
noncomputable def lOrder : LaidI Tryd.prog := ⟨ "tabulary/twist.order", 0, 48, 39, .u64, gOrder⟩
noncomputable def laid2 : List (String × DataW Unit) := [("tabulary/digest.steps", YtnbpdjjcilhjoaaDoor.Rows.laid_tabulary_digest_steps), ("tabulary/digest.starts", YtnbpdjjcilhjoaaDoor.Rows.laid_tabulary_digest_starts), ("tabulary/twist.order", YtnbpdjjcilhjoaaDoor.Rows.laid_tabulary_twist_order)]
theorem lSteps_ok : lSteps.ok := ⟨by kernel_rfl, by kernel_rfl, by kernel_rfl, by kernel_rfl, by kernel_rfl, by kernel_rfl⟩
theorem lStarts_ok : lStarts.ok := ⟨by kernel_rfl, by kernel_rfl, by kernel_rfl, by kernel_rfl, by kernel_rfl, by kernel_rfl⟩
theorem lOrder_ok : lOrder.ok := ⟨by kernel_rfl, by kernel_rfl, by kernel_rfl, by kernel_rfl, by kernel_rfl, by kernel_rfl⟩
theorem door_met (os : Os) (args : Array Value) : laidMetH Tryd.prog laid2 ((World.doorLaid Tryd.prog 400 os).forCall (fun _ _ => 0) ⟨#[], args, []⟩).memory :=
 laidMetH_of_parts3 (fuel := 8) (laidMet_of_run' 8 (by kernel_rfl) (by kernel_rfl)) (by kernel_rfl) (by kernel_rfl)
theorem globs_met {W : World} (h : laidMetH Tryd.prog laid2 W) : GlobsOk (E0 Tryd.prog W) gD := by
 rw [MakeChecks.laidMetH_plain _ _ _ (by kernel_rfl)] at h
 obtain ⟨ps, hv, _, _⟩ := h
 have e : laid2 = [lSteps, lStarts, lOrder].map fun x => (x.name, x.datum) := by kernel_rfl
 rw [e] at hv
 have hc := laid_cells (fun x hx => by
  simp only [List.mem_cons, List.not_mem_nil, or_false] at hx
  rcases hx with rfl | rfl | rfl
  ·exact lSteps_ok
  ·exact lStarts_ok
  ·exact lOrder_ok) hv
 refine globs_ok (P := Tryd.prog) (l0 := [lOrder, lStarts, lSteps]) (fun x hx => hc x ?_) ?_
 ·simp only [List.mem_cons, List.not_mem_nil, or_false] at hx ⊢
  rcases hx with rfl | rfl | rfl
  ·exact .inr (.inr rfl)
  ·exact .inr (.inl rfl)
  ·exact .inl rfl
 ·intro x hx
  simp only [List.mem_cons, List.not_mem_nil, or_false] at hx
  rcases hx with rfl | rfl | rfl
  ·exact Nat.lt_of_lt_of_eq (by decide : 0 < 4) (by kernel_rfl)
  ·exact Nat.lt_of_lt_of_eq (by decide : 0 < 8) (by kernel_rfl)
  ·exact Nat.lt_of_lt_of_eq (by decide : 0 < 80) (by kernel_rfl)
end Go.Vm
