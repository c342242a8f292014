/- A part of a proof (pack3): the small machine that walks the program, the walks of its functions, and what they compute in plain. -/
import Derived.Test.YtlmojjnpbpcbcaaGreatDoorQrd
import Derived.Test.YtlmojjnpbpcbcaaGreatDoorChecked
set_option maxHeartbeats 2000000
set_option maxRecDepth 100000
set_option linter.unusedVariables false
set_option linter.unusedSimpArgs false
noncomputable section
namespace Tabn
def lK (a:F):Nat→F
 |0=>1
 |n+1=>lK a n*a
theorem Am (a:F) (n:Nat):(lK a n).val=a.val ^ n % P:=by
 induction n with
 |zero=>rfl
 |succ n ih =>
  show (lK a n*a).val=_
  rw [Fin.val_mul,ih,Nat.pow_succ,Nat.mod_mul_mod]
theorem Gm (a:F) (m n:Nat):lK a (m+n)=lK a m*lK a n:=by
 induction n with
 |zero=>show lK a m=lK a m*1;grind -lia -linarith
 |succ n ih=>show lK a (m+n)*a=lK a m*(lK a n*a);rw [ih];grind -lia -linarith
theorem IC (a b:F) (n:Nat):lK (a*b) n=lK a n*lK b n:=by
 induction n with
 |zero=>show (1:F)=1*1;grind -lia -linarith
 |succ n ih=>show lK (a*b) n*(a*b)=lK a n*a*(lK b n*b);rw [ih];grind -lia -linarith
attribute [irreducible] lK
def eH:Nat:=28948022309329048855892746252171976963317496166410141009864396001978282409974
def eR:Nat:=7237005577332262213973186563042994240829374041602535252466099000494570602494
theorem PW:eH+eH=P-1:=by decide
theorem RK:eH<2 ^ 256:=by decide
theorem Ov:vV P 256 236839902240 eH=P-1:=by decide +kernel
attribute [irreducible] eH eR
theorem HW {a:F} (h:a≠0):lK a (P-1)=1:=by
 apply Fin.ext
 rw [Am]
 show a.val ^ (P-1) % P=1 % P
 apply fermat_one prime_P
 intro hd
 apply h
 apply Fin.ext
 show a.val=0
 rcases Nat.eq_zero_or_pos a.val with h0|h0
 ·exact h0
 ·have:=Nat.le_of_dvd h0 hd
  have:=a.isLt
  omega
theorem AL:(-1:F).val=P-1:=by decide
theorem Fu {a:F} {n e:Nat} (hn:a.val=n) (he:e<2 ^ 256) (h:vV P 256 n e=P-1):lK a e = -1:=by
 apply Fin.ext
 rw [Am,AL,hn,← pmod_eq P 256 n e he,h]
theorem CD {a r:F} (ha:a≠0) (h:r*r=a):lK a eH=1:=by
 have hr:r≠0:=by intro h0;apply ha;rw [← h,h0];grind -lia -linarith
 rw [← h,IC,← Gm,PW,HW hr]
theorem Bo:(1:F)≠-1:=by decide
theorem IW (r:F):r*r≠236839902240:=by
 intro h
 have h1:=CD (a:=236839902240) (by decide) h
 have h2:lK 236839902240 eH = -1:=Fu (n:=236839902240) (by decide) RK Ov
 exact Bo (h1.symm.trans h2)
def Qw (X Z:F):F:=(X+Z)*(X+Z)*((X-Z)*(X-Z))
def Rj (X Z:F):F:=(X+Z)*(X+Z)-(X-Z)*(X-Z)
def Pq (X Z:F):F:=Rj X Z*((X-Z)*(X-Z)+121666*Rj X Z)
def RH (X1 Z1 X2 Z2:F):F:=(X1*X2-Z1*Z2)*(X1*X2-Z1*Z2)
def RY (u X1 Z1 X2 Z2:F):F:=u*((X1*Z2-Z1*X2)*(X1*Z2-Z1*X2))
end Tabn
namespace Tabn
def iR:F:=19681161376707505956807079304988542015446066515923890162744021073123829784752
theorem Hg:iR*iR = -1:=by decide +kernel
def wQ:F:=121665
def rD:F:=121666
theorem LE:rD≠0:=by decide
theorem Ot:16*wQ*rD=236839902240:=by decide
def dT:F:=0-wQ*finv rD
theorem Ma:dT*rD=0-wQ:=by
 have h:=jl LE
 unfold dT
 generalize finv rD=u at *
 generalize rD=v at *
 generalize wQ=w at *
 grind -lia -linarith
theorem OJ (s:F):s*s≠dT:=by
 intro h
 have h1:=Ma
 have h2:=Hg
 have h3:=Ot
 refine IW (4*(s*rD*iR)) ?_
 rw [← h3]
 rw [← h] at h1
 generalize rD=v at *
 generalize wQ=w at *
 generalize iR=i at *
 grind -lia -linarith
attribute [irreducible] iR wQ rD dT
def CT:Crv:=⟨-1,dT,iR,Hg,by decide,OJ⟩
structure Ex (p:Pt CT) (x y z t:F):Prop where
 z0:z≠0
 x:x=p.x*z
 y:y=p.y*z
 t:t=p.x*p.y*z
theorem LB:(2:F)≠0:=by decide
theorem NR {px py qx qy sx sy d z1 z2:F} (hx:sx*(1+d*px*qx*py*qy)=px*qy+qx*py) (hy:sy*(1-d*px*qx*py*qy)=py*qy - -1*px*qx) :
  (py*z1+px*z1)*(qy*z2+qx*z2)-(py*z1-px*z1)*(qy*z2-qx*z2)=2*(z1*z2)*(sx*(1+d*px*qx*py*qy)) ∧
  (py*z1+px*z1)*(qy*z2+qx*z2)+(py*z1-px*z1)*(qy*z2-qx*z2)=2*(z1*z2)*(sy*(1-d*px*qx*py*qy)) ∧
  z1*z2+z1*z2-px*py*z1*(qx*qy*z2)*(d+d)=2*(z1*z2)*(1-d*px*qx*py*qy) ∧
  z1*z2+z1*z2+px*py*z1*(qx*qy*z2)*(d+d)=2*(z1*z2)*(1+d*px*qx*py*qy):=by
 refine ⟨?_,?_,?_,?_⟩ <;> grind -lia -linarith
theorem Rs (w s u v:F):w*(s*u)*(w*v)=s*(w*v*(w*u)):=by grind -lia -linarith
theorem Rv (w s u v:F):w*u*(w*(s*v))=s*(w*v*(w*u)):=by grind -lia -linarith
theorem SS (w s r u v:F):w*(s*u)*(w*(r*v))=s*r*(w*v*(w*u)):=by grind -lia -linarith
theorem Nm {p q:Pt CT} {x1 y1 z1 t1 x2 y2 z2 t2:F} (h:Ex p x1 y1 z1 t1) (h':Ex q x2 y2 z2 t2) :
  Ex (p.add q) (((y1+x1)*(y2+x2)-(y1-x1)*(y2-x2))*(z1*z2+z1*z2-t1*t2*(dT+dT)))
   ((z1*z2+z1*z2+t1*t2*(dT+dT))*((y1+x1)*(y2+x2)+(y1-x1)*(y2-x2)))
   ((z1*z2+z1*z2-t1*t2*(dT+dT))*(z1*z2+z1*z2+t1*t2*(dT+dT)))
   (((y1+x1)*(y2+x2)-(y1-x1)*(y2-x2))*((y1+x1)*(y2+x2)+(y1-x1)*(y2-x2))):=by
 obtain ⟨a0,rfl,rfl,rfl⟩:=h
 obtain ⟨b0,rfl,rfl,rfl⟩:=h'
 have ax:=uF p q
 have ay:=vB p q
 have n1:=CT.dp p.on q.on
 have n2:=CT.dm p.on q.on
 have hd:CT.d=dT:=rfl
 have ha:CT.a = -1:=rfl
 rw [hd] at ax ay n1 n2
 rw [ha] at ay
 obtain ⟨e1,e2,e3,e4⟩:=NR (z1:=z1) (z2:=z2) ax ay
 rw [e1,e2,e3,e4]
 have hz:2*(z1*z2)≠0:=eC LB (eC a0 b0)
 refine ⟨eC (eC hz n2) (eC hz n1),?_,?_,?_⟩
 ·exact Rs _ _ _ _
 ·exact Rv _ _ _ _
 ·exact SS _ _ _ _ _
structure Pj (p:Pt CT) (x y z:F):Prop where
 z0:z≠0
 x:x=p.x*z
 y:y=p.y*z
theorem Ol {px py qx qy sx sy d z1 z2:F} (hx:sx*(1+d*px*qx*py*qy)=px*qy+qx*py) (hy:sy*(1-d*px*qx*py*qy)=py*qy - -1*px*qx) :
  px*z1*(qy*z2)+qx*z2*(py*z1)=(z1*z2)*(sx*(1+d*px*qx*py*qy)) ∧
  py*z1*(qy*z2)+px*z1*(qx*z2)=(z1*z2)*(sy*(1-d*px*qx*py*qy)) ∧
  z1*z2*(z1*z2)+d*(px*z1*(qx*z2)*(py*z1*(qy*z2)))=(z1*z2)*(z1*z2)*(1+d*px*qx*py*qy) ∧
  z1*z2*(z1*z2)-d*(px*z1*(qx*z2)*(py*z1*(qy*z2)))=(z1*z2)*(z1*z2)*(1-d*px*qx*py*qy):=by
 refine ⟨?_,?_,?_,?_⟩ <;> grind -lia -linarith
theorem SW (w s u v:F):w*(s*u)*w*(w*w*v)=s*(w*w*u*(w*w*v)):=by grind -lia -linarith
theorem Sd (w s u v:F):w*(s*v)*w*(w*w*u)=s*(w*w*u*(w*w*v)):=by grind -lia -linarith
theorem Gi {p q:Pt CT} {x1 y1 z1 x2 y2 z2:F} (h:Pj p x1 y1 z1) (h':Pj q x2 y2 z2) :
  Pj (p.add q) ((x1*y2+x2*y1)*(z1*z2)*(z1*z2*(z1*z2)-dT*(x1*x2*(y1*y2))))
   ((y1*y2+x1*x2)*(z1*z2)*(z1*z2*(z1*z2)+dT*(x1*x2*(y1*y2))))
   ((z1*z2*(z1*z2)+dT*(x1*x2*(y1*y2)))*(z1*z2*(z1*z2)-dT*(x1*x2*(y1*y2)))):=by
 obtain ⟨a0,rfl,rfl⟩:=h
 obtain ⟨b0,rfl,rfl⟩:=h'
 have ax:=uF p q
 have ay:=vB p q
 have n1:=CT.dp p.on q.on
 have n2:=CT.dm p.on q.on
 have hd:CT.d=dT:=rfl
 have ha:CT.a = -1:=rfl
 rw [hd] at ax ay n1 n2
 rw [ha] at ay
 obtain ⟨e1,e2,e3,e4⟩:=Ol (z1:=z1) (z2:=z2) ax ay
 rw [e1,e2,e3,e4]
 have hz:z1*z2≠0:=eC a0 b0
 refine ⟨eC (eC (eC hz hz) n1) (eC (eC hz hz) n2),?_,?_⟩
 ·exact SW _ _ _ _
 ·exact Sd _ _ _ _
theorem GF {a z:F} (hz:z≠0):a*z*finv z=a:=by
 have:=jl hz
 generalize finv z=u at *
 grind -lia -linarith
theorem Pf (z:F):z*0=0:=by grind -lia -linarith
theorem gF:(1:F)≠0:=by decide
theorem yx (y:F):dT*(y*y)+1≠0:=by
 intro h
 have h2:=Hg
 by_cases hy:y=0
 ·rw [hy] at h
  have e1:(0:F)*0=0:=by decide
  have e2:(0:F)+1=1:=by decide
  rw [e1,Pf,e2] at h
  exact absurd h gF
 ·refine BF CT hy (p:=iR) ?_
  show iR ^ 2=dT*y ^ 2
  generalize dT=d at *
  generalize iR=i at *
  grind -lia -linarith
theorem SR {x y:F}:On CT x y↔x*x=(y*y-1)*finv (dT*(y*y)+1):=by
 have hd:CT.d=dT:=rfl
 have ha:CT.a = -1:=rfl
 unfold On
 rw [hd,ha]
 have h:=jl (yx y)
 constructor
 ·intro h1
  refine yI (yx y) ?_
  generalize dT=d at *
  grind -lia -linarith
 ·intro h1
  have h2:=fdiv (yx y) h1
  generalize dT=d at *
  clear h h1
  grind -lia -linarith
theorem Db {x:F} (h:x≠0):(-x).val=P-x.val:=by
 have h0:x.val≠0:=fun e=>h (Fin.ext e)
 have:=x.isLt
 rw [Fin.val_neg']
 exact Nat.mod_eq_of_lt (by omega)
theorem Qg {x y:F} (h:x*x=y*y):x=y∨x = -y:=by
 have h1:(x-y)*(x+y)=0:=by grind -lia -linarith
 rcases kD h1 with h2|h2
 ·left;grind -lia -linarith
 ·right;grind -lia -linarith
theorem Mh:P % 2=1:=by decide
theorem OV {x y:F} (h:x*x=y*y) (hp:x.val % 2=y.val % 2):x=y:=by
 rcases Qg h with h1|h1
 ·exact h1
 ·by_cases hy:y=0
  ·rw [h1,hy];decide
  ·exfalso
   have h2:=Db hy
   rw [← h1] at h2
   have:=y.isLt
   have:=Mh
   omega
def nO (p:Pt CT):Nat:=p.y.val+p.x.val % 2*2 ^ 255
theorem IT {p q:Pt CT} (h:nO p=nO q):p=q:=by
 unfold nO at h
 have h1:=p.y.isLt
 have h2:=q.y.isLt
 have h3:P<2 ^ 255:=by decide
 have hy:p.y.val=q.y.val:=by omega
 have hp:p.x.val % 2=q.x.val % 2:=by omega
 have hy':p.y=q.y:=Fin.ext hy
 refine Pt.eq (OV ?_ hp) hy'
 rw [SR.1 p.on,SR.1 q.on,hy']
end Tabn
namespace Tabn
abbrev Nu:=F × F × F × F
def RV (u:F) (bit:Nat) (t:Nu):Nu :=
 if bit=0 then (Qw t.1 t.2.1,Pq t.1 t.2.1,RH t.1 t.2.1 t.2.2.1 t.2.2.2,RY u t.1 t.2.1 t.2.2.1 t.2.2.2)
 else (RH t.1 t.2.1 t.2.2.1 t.2.2.2,RY u t.1 t.2.1 t.2.2.1 t.2.2.2,Qw t.2.2.1 t.2.2.2,Pq t.2.2.1 t.2.2.2)
def lad (N:Nat) (u:F):Nat→Nu
 |0=>(1,0,u,1)
 |k+1=>RV u (N/2 ^ (254-k) % 2) (lad N u k)
def Um (N:Nat) (u:F):F:=(lad N u 255).1*finv (lad N u 255).2.1
end Tabn
namespace Tabn
def L:Nat:=7237005577332262213973186563042994240857116359379907606001950938285454250989
end Tabn
namespace Tabn
def dL:F:=37095705934669439343138083508754565189542113879843219016388785533085940283555
theorem Rc:dL*121666=0-121665:=by decide +kernel
theorem SY:wQ=121665∧rD=121666:=by unfold wQ rD;exact ⟨rfl,rfl⟩
theorem JY:dT=dL:=by
 have h1:=Ma
 have h2:=Rc
 rw [SY.1,SY.2] at h1
 refine qa (a:=121666) (by decide) ?_
 rw [← h2] at h1
 generalize dL=v at *
 generalize dT=u at *
 clear h2
 grind -lia -linarith
def xB:F:=15112221349535400772501151409588531511454012693041857206046113283949847762202
def yB:F:=46316835694926478169428394003475163141307993866256225615783033603165251855960
theorem Np:xB*xB*(dL*(yB*yB)+1)=yB*yB-1:=by decide +kernel
theorem SQ:On CT xB yB:=by
 refine SR.2 (yI (yx yB) ?_)
 rw [JY]
 exact Np
def BT:Pt CT:=⟨xB,yB,SQ⟩
abbrev BG:=F × F × F
def pjA (p q:BG):BG :=
 ((p.1*q.2.1+q.1*p.2.1)*(p.2.2*q.2.2)*(p.2.2*q.2.2*(p.2.2*q.2.2)-dL*(p.1*q.1*(p.2.1*q.2.1))),
  (p.2.1*q.2.1+p.1*q.1)*(p.2.2*q.2.2)*(p.2.2*q.2.2*(p.2.2*q.2.2)+dL*(p.1*q.1*(p.2.1*q.2.1))),
  (p.2.2*q.2.2*(p.2.2*q.2.2)+dL*(p.1*q.1*(p.2.1*q.2.1)))*(p.2.2*q.2.2*(p.2.2*q.2.2)-dL*(p.1*q.1*(p.2.1*q.2.1))))
def Gv (b:Nat) (r:BG):BG:=if b=0 then pjA r r else pjA (pjA r r) (xB,yB,1)
def tm (N:Nat):Nat→BG
 |0=>(0,1,1)
 |k+1=>Gv (N/2 ^ (255-k) % 2) (tm N k)
def PjT (p:Pt CT) (r:BG):Prop:=Pj p r.1 r.2.1 r.2.2
theorem Hd {p q:Pt CT} {r s:BG} (h:PjT p r) (h':PjT q s):PjT (p.add q) (pjA r s):=by
 have:=Gi h h'
 rw [JY] at this
 exact this
theorem oX (x:F):x=x*1:=by grind -lia -linarith
theorem GM (z:F):0=0*z:=by grind -lia -linarith
theorem Ke:PjT (Pt.zero CT) (0,1,1):=⟨gF,GM 1,oX 1⟩
theorem Rr:PjT BT (xB,yB,1):=⟨gF,oX _,oX _⟩
theorem GC (N k:Nat) (hk:k<256):N/2 ^ (256-(k+1))=2*(N/2 ^ (256-k))+N/2 ^ (255-k) % 2:=by
 have e:256-k=(255-k)+1:=by omega
 rw [show 256-(k+1)=255-k by omega,e,Nat.pow_succ,← Nat.div_div_eq_div_mul]
 omega
theorem QC (N:Nat) (hN:N<2 ^ 256):∀ k,k≤256→PjT (Pt.mul (N/2 ^ (256-k)) BT) (tm N k):=by
 intro k
 induction k with
 |zero =>
  intro _
  rw [Nat.sub_zero,Nat.div_eq_of_lt hN]
  exact Ke
 |succ k ih =>
  intro hk
  have ih:=ih (by omega)
  rw [GC N k (by omega),Nat.two_mul,Nat.add_assoc,Pt.add_mul]
  show PjT _ (Gv (N/2 ^ (255-k) % 2) (tm N k))
  generalize N/2 ^ (256-k)=m at *
  generalize tm N k=r at *
  unfold Gv
  rcases Nat.mod_two_eq_zero_or_one (N/2 ^ (255-k)) with h|h
  ·rw [h,if_pos rfl]
   exact Hd ih ih
  ·rw [h,if_neg (by decide),Pt.add_mul,Pt.mul_one,← Pt.add_assoc]
   exact Hd (Hd ih ih) Rr
theorem OU {N:Nat} (hN:N<2 ^ 256):PjT (Pt.mul N BT) (tm N 256):=by
 have:=QC N hN 256 (Nat.le_refl _)
 rwa [Nat.sub_self,Nat.pow_zero,Nat.div_one] at this
theorem ww {a b z:F} (hz:z≠0) (h:a*z=b*z):a=b:=by
 refine qa hz ?_
 clear hz
 grind -lia -linarith
theorem Om {N:Nat} (hN:N<2 ^ 256) {x y:F} (h:(tm N 256).1=x*(tm N 256).2.2∧(tm N 256).2.1=y*(tm N 256).2.2):(Pt.mul N BT).x=x∧(Pt.mul N BT).y=y:=by
 obtain ⟨z0,hx,hy⟩:=OU hN
 exact ⟨ww z0 (hx.symm.trans h.1),ww z0 (hy.symm.trans h.2)⟩
theorem tmL:(tm L 256).1=0*(tm L 256).2.2∧(tm L 256).2.1=1*(tm L 256).2.2:=by decide +kernel
theorem NE:L<2 ^ 256:=by decide
theorem Rl:Pt.mul L BT=Pt.zero CT:=by
 obtain ⟨h1,h2⟩:=Om NE tmL
 exact Pt.eq h1 h2
theorem mul_mod (N:Nat):Pt.mul (N % L) BT=Pt.mul N BT:=by
 have e:N=(N/L)*L+N % L:=by rw [Nat.mul_comm];exact (Nat.div_add_mod N L).symm
 have h:Pt.mul N BT=Pt.mul ((N/L)*L+N % L) BT:=congrArg (fun n=>Pt.mul n BT) e
 rw [h,Pt.add_mul,Pt.mul_mul,Rl,Pt.mul_zero,Pt.zero_add]
end Tabn
namespace Tabn
def tA (y:F):F:=(y*y-1)*finv (dT*(y*y)+1)
def xOf (r:F) (h:Nat):F:=if r.val % 2=h then r else 0-r
def GR (rt:F→F):Prop:=∀ s,rt (s*s)*rt (s*s)=s*s
def Ey (rt:F→F) (n:Nat):Prop :=
 n % 2 ^ 255<P∧rt (tA (Fin.ofNat P (n % 2 ^ 255)))*rt (tA (Fin.ofNat P (n % 2 ^ 255)))=tA (Fin.ofNat P (n % 2 ^ 255))∧¬ (rt (tA (Fin.ofNat P (n % 2 ^ 255)))=0∧n/2 ^ 255=1)
theorem GD (r:F):0-r = -r:=by grind -lia -linarith
theorem NO (r:F):(0-r)*(0-r)=r*r:=by grind -lia -linarith
theorem Na (r:F) (h:Nat):xOf r h*xOf r h=r*r:=by
 unfold xOf
 split
 ·rfl
 ·exact NO r
theorem KJ {r:F} {h:Nat} (hh:h<2) (h0:¬ (r=0∧h=1)):(xOf r h).val % 2=h:=by
 unfold xOf
 split
 ·rename_i e;exact e
 ·rename_i e
  by_cases hr:r=0
  ·exfalso
   rw [hr] at e
   have:(0:F).val % 2=0:=rfl
   apply h0
   exact ⟨hr,by omega⟩
  ·rw [GD,Db hr]
   have:=r.isLt
   have:=Mh
   omega
theorem mN:P<2 ^ 255:=by decide
theorem An {rt:F→F} {n:Nat} (hn:n<2 ^ 256) (h:Ey rt n):∃ p:Pt CT,nO p=n∧p.y=Fin.ofNat P (n % 2 ^ 255)∧p.x=xOf (rt (tA (Fin.ofNat P (n % 2 ^ 255)))) (n/2 ^ 255):=by
 obtain ⟨h1,h2,h3⟩:=h
 have hh:n/2 ^ 255<2:=by omega
 refine ⟨⟨xOf (rt (tA (Fin.ofNat P (n % 2 ^ 255)))) (n/2 ^ 255),Fin.ofNat P (n % 2 ^ 255),SR.2 ?_⟩,?_,rfl,rfl⟩
 ·rw [Na,h2]
  rfl
 ·unfold nO
  simp only
  rw [KJ hh h3]
  have:(Fin.ofNat P (n % 2 ^ 255)).val=n % 2 ^ 255:=Nat.mod_eq_of_lt h1
  rw [this]
  omega
theorem LD {rt:F→F} (hr:GR rt) (p:Pt CT):Ey rt (nO p):=by
 have h1:=p.y.isLt
 have h2:=mN
 have e1:nO p % 2 ^ 255=p.y.val:=by unfold nO;omega
 have e2:nO p/2 ^ 255=p.x.val % 2:=by unfold nO;omega
 have e3:Fin.ofNat P p.y.val=p.y:=Fin.ext (Nat.mod_eq_of_lt h1)
 have e4:tA p.y=p.x*p.x:=(SR.1 p.on).symm
 unfold Ey
 rw [e1,e2,e3,e4]
 refine ⟨h1,hr _,?_⟩
 rintro ⟨h3,h4⟩
 have h5:=hr p.x
 rw [h3] at h5
 have h6:p.x=0:=by
  rcases kD (h5.symm.trans (show (0:F)*0=0 by decide)) with h|h <;> exact h
 rw [h6] at h4
 exact absurd h4 (by decide)
theorem Kw (p:Pt CT):nO p<2 ^ 256:=by
 have h1:=p.y.isLt
 have h2:=mN
 unfold nO
 omega
theorem Jh:(4:F)*finv 5=yB:=by
 refine (yI (by decide) ?_).symm
 decide +kernel
theorem Ac:nO BT=yB.val:=by
 show yB.val+xB.val % 2*2 ^ 255=yB.val
 have:xB.val % 2=0:=by decide +kernel
 rw [this]
 omega
end Tabn
namespace Go.Vm
open Go
theorem FK (a:Int) (n:Nat):a ^ n % PF=(a % PF) ^ n % PF:=by
 induction n with
 |zero=>rw [Int.pow_zero,Int.pow_zero]
 |succ n ih=>rw [Int.pow_succ,Int.pow_succ,Int.mul_emod,ih,← Int.mul_emod,Int.mul_emod,Int.mul_emod ((a % PF) ^ n),Int.emod_emod_of_dvd _ ⟨1,(Int.mul_one _).symm⟩]
theorem lV:PF=((Tabn.P:Nat):Int):=by kernel_rfl
def toF (v:Int):Tabn.F:=⟨(v % PF).toNat,by have h:=mp v;have:=lV;omega⟩
theorem ea (v:Int):(((toF v).val:Nat):Int)=v % PF:=Int.toNat_of_nonneg (mp v).1
theorem jy {f g:Tabn.F} (h:((f.val:Nat):Int)=((g.val:Nat):Int)):f=g:=Fin.ext (Int.ofNat.inj h)
theorem Gu {v w:Int} (h:v % PF=w % PF):toF v=toF w:=jy (by rw [ea,ea,h])
theorem IU {v w:Int} (h:toF v=toF w):v % PF=w % PF:=by rw [← ea,← ea,h]
theorem yA (v w:Int):toF (v+w)=toF v+toF w:=by
 apply jy
 rw [ea,Fin.val_add,Int.natCast_emod,Int.natCast_add,ea,ea,← lV,← Int.add_emod]
theorem qX (v w:Int):toF (v*w)=toF v*toF w:=by
 apply jy
 rw [ea,Fin.val_mul,Int.natCast_emod,Int.natCast_mul,ea,ea,← lV,← Int.mul_emod]
theorem zR (a b:Tabn.F):a-b+b=a:=by grind -lia -linarith
theorem wI {a b c:Tabn.F} (h:a+c=b+c):a=b:=by grind -lia -linarith
theorem Ch (v w:Int):toF (v-w)=toF v-toF w:=by
 apply wI (c:=toF w)
 rw [← yA,Int.sub_add_cancel,zR]
theorem zu (v:Int) (e:Nat):((((toF v).val ^ e % Tabn.P:Nat)):Int)=v ^ e % PF:=by
 rw [Int.natCast_emod,Int.natCast_pow,ea,← lV,← FK]
theorem QV:Tabn.eI=tF:=Tabn.eI_lit
theorem Cn (v:Int):toF (v ^ tF)=Tabn.finv (toF v):=by
 apply jy
 rw [ea,Tabn.finv_val,QV,zu]
def EF (x:List Int) (f:Tabn.F):Prop:=∃ v,E x v∧toF v=f
def RF (x:List Int) (f:Tabn.F):Prop:=∃ v,R x v∧toF v=f
theorem EF.to {x:List Int} {f g:Tabn.F} (h:EF x f) (e:f=g):EF x g:=e ▸ h
theorem RF.to {x:List Int} {f g:Tabn.F} (h:RF x f) (e:f=g):RF x g:=e ▸ h
theorem om {x y:List Int} {f g:Tabn.F}:EF x f→EF y g→EF (F16 x y) (f+g):=fun ⟨v,h,e⟩ ⟨w,h',e'⟩=>⟨v+w,QD h h',by rw [yA,e,e']⟩
theorem pE {x y:List Int} {f g:Tabn.F}:EF x f→EF y g→EF (F18 x y) (f-g):=fun ⟨v,h,e⟩ ⟨w,h',e'⟩=>⟨v-w,Ri h h',by rw [Ch,e,e']⟩
theorem fu {x y:List Int} {f g:Tabn.F}:EF x f→EF y g→EF (F20 x y) (f*g):=fun ⟨v,h,e⟩ ⟨w,h',e'⟩=>⟨v*w,xA h h',by rw [qX,e,e']⟩
theorem wB {x:List Int} {f:Tabn.F}:EF x f→EF (F25 x) (Tabn.finv f):=fun ⟨v,h,e⟩=>⟨v ^ tF,Pr h,by rw [Cn,e]⟩
theorem yV {x y:List Int} {f g:Tabn.F}:RF x f→RF y g→RF (F17 x y) (f+g):=fun ⟨v,h,e⟩ ⟨w,h',e'⟩=>⟨v+w,Pa h h',by rw [yA,e,e']⟩
theorem vw {x y:List Int} {f g:Tabn.F}:RF x f→RF y g→RF (F19 x y) (f-g):=fun ⟨v,h,e⟩ ⟨w,h',e'⟩=>⟨v-w,RA h h',by rw [Ch,e,e']⟩
theorem fP {x y:List Int} {f g:Tabn.F}:RF x f→RF y g→RF (F21 x y) (f*g):=fun ⟨v,h,e⟩ ⟨w,h',e'⟩=>⟨v*w,sn h h',by rw [qX,e,e']⟩
theorem vA {x:List Int} {f:Tabn.F}:RF x f→RF (F28 x) (Tabn.finv f):=fun ⟨v,h,e⟩=>⟨v ^ tF,Ro h,by rw [Cn,e]⟩
theorem EF.bytes {x:List Int} {f:Tabn.F}:EF x f→F33 x=bg 256 32 (f.val:Int):=fun ⟨v,h,e⟩=>by rw [h.bytes,← e,ea]
theorem RF.bytes {x:List Int} {f:Tabn.F}:RF x f→F49 x=bg 256 32 (f.val:Int):=fun ⟨v,h,e⟩=>by rw [Ko h,← e,ea]
theorem RF.len {x:List Int} {f:Tabn.F}:RF x f→x.length=16:=fun ⟨v,h,e⟩=>h.len
theorem ud:EF (F30 1) 1:=⟨1,lQ (by decide),by decide⟩
theorem pm:EF (F30 0) 0:=⟨0,lQ (by decide),by decide⟩
theorem vz:RF (F31 1) 1:=⟨1,lT (by decide),by decide⟩
theorem pj:RF (F31 0) 0:=⟨0,lT (by decide),by decide⟩
def uOf (b:List Int):Tabn.F:=toF (num 256 b % 57896044618658097711785492504343953926634992332820282019728792003956564819968)
theorem MR {b:List Int} (hb:Dig 256 b) (hl:b.length=32):EF (F23 b) (uOf b):=⟨_,JQ hb hl,rfl⟩
theorem LK {b:List Int} (hb:Dig 256 b) (hl:b.length=32):RF (F24 b) (uOf b):=⟨_,Oa hb hl,rfl⟩
end Go.Vm
namespace Go.Vm
open Go
theorem ID:∀ a,a<256→a &&& 248=a-a % 8:=by decide +kernel
theorem JN:∀ a,a<256→(a &&& 127) ||| 64=a % 64+64:=by decide +kernel
theorem Fx:∀ a,a<256→a &&& 127<256:=by decide +kernel
theorem KE {x:Int} (h:0≤x∧x<256):aG .u8 x 248=x-x % 8:=by
 obtain ⟨a,rfl,ha⟩:=tQ (N:=256) h
 have:=eg wJ ha (b:=248) (by decide)
 rw [ID a ha] at this
 have e:((a-a % 8:Nat):Int)=(a:Int)-(a:Int) % 8:=by omega
 rw [← e];exact this
theorem RW {x:Int} (h:0≤x∧x<256):iOr .u8 (aG .u8 x 127) 64=x % 64+64:=by
 obtain ⟨a,rfl,ha⟩:=tQ (N:=256) h
 have h1:=eg wJ ha (b:=127) (by decide)
 have h2:=lX wJ (Fx a ha) (b:=64) (by decide)
 rw [JN a ha] at h2
 have e:((a % 64+64:Nat):Int)=(a:Int) % 64+64:=by omega
 rw [← e,← h2]
 show iOr .u8 (aG .u8 (a:Int) ((127:Nat):Int)) ((64:Nat):Int)=_
 rw [h1]
def lg (b:List Int):List Int:=(b.set 0 (b.getD 0 0-b.getD 0 0 % 8)).set 31 (b.getD 31 0 % 64+64)
theorem MH {b:List Int} (hb:Dig 256 b):F43 b=lg b:=by
 unfold F43 lg
 rw [bN (by decide),KE (bD (by decide) hb),RW (bD (by decide) hb)]
theorem DN {b:List Int} (hb:Dig 256 b):F44 b=lg b:=by
 unfold F44 lg
 have h0:=bD (i:=0) (by decide) hb
 have h31:=bD (i:=31) (by decide) hb
 have e1:bm (b.getD 0 0) 8=b.getD 0 0 % 8:=Int.tmod_eq_emod_of_nonneg h0.1
 have e2:bm (b.getD 31 0) 64=b.getD 31 0 % 64:=Int.tmod_eq_emod_of_nonneg h31.1
 have e3:aZ .u8 (b.getD 0 0) (b.getD 0 0 % 8)=b.getD 0 0-b.getD 0 0 % 8:=by unfold aZ;rw [dc];omega
 have e4:aE .u8 (b.getD 31 0 % 64) 64=b.getD 31 0 % 64+64:=by unfold aE;rw [dc];omega
 rw [bN (by decide),e1,e2,e3,e4]
theorem jk {b:List Int} (hb:Dig 256 b):Dig 256 (lg b):=by
 have h0:=bD (i:=0) (by decide) hb
 have h31:=bD (i:=31) (by decide) hb
 exact oA (oA hb (by omega)) (by omega)
theorem qO {b:List Int}:(lg b).length=b.length:=by unfold lg;rw [List.length_set,List.length_set]
theorem Jk {b:List Int} (hl:b.length=32):(lg b).getD 0 0=b.getD 0 0-b.getD 0 0 % 8:=by
 unfold lg;rw [bN (by decide),bz (by omega)]
theorem FY {b:List Int} (hl:b.length=32):(lg b).getD 31 0=b.getD 31 0 % 64+64:=by
 unfold lg;rw [bz (by rw [List.length_set];omega)]
def vn (b:List Int):Nat:=(num 256 (lg b)).toNat
theorem mD {b:List Int} (hb:Dig 256 b):num 256 (lg b)=(vn b:Int):=by
 have h:=jT (by decide) (jk hb)
 exact (Int.toNat_of_nonneg h.1).symm
theorem Iv {b:List Int} (hb:Dig 256 b) (hl:b.length=32):vn b % 8=0∧2 ^ 254≤vn b∧vn b<2 ^ 255:=by
 have h0:=bD (i:=0) (by decide) hb
 have h31:=bD (i:=31) (by decide) hb
 have g0:=kn (B:=256) (by decide) (i:=0) (jk hb)
 have g31:=kn (B:=256) (by decide) (i:=31) (jk hb)
 have hb':=jT (by decide) (jk hb)
 rw [qO,hl] at hb'
 rw [Jk hl,Int.pow_zero,Int.ediv_one] at g0
 rw [FY hl] at g31
 rw [mD hb] at g0 g31 hb'
 have e31:(256:Int) ^ 31=452312848583266388373324160190187140051835877600158453279131187530910662656:=rfl
 have e32:(256:Int) ^ 32=115792089237316195423570985008687907853269984665640564039457584007913129639936:=rfl
 rw [e31] at g31
 rw [e32] at hb'
 have e254:(2:Nat) ^ 254=28948022309329048855892746252171976963317496166410141009864396001978282409984:=rfl
 have e255:(2:Nat) ^ 255=57896044618658097711785492504343953926634992332820282019728792003956564819968:=rfl
 rw [e254,e255]
 generalize vn b=N at *
 omega
end Go.Vm
namespace Go.Vm
open Go
theorem vM (a:Int) (n:Nat):a ^ n % PF=(a % PF) ^ n % PF:=by
 induction n with
 |zero=>rw [Int.pow_zero,Int.pow_zero]
 |succ n ih=>rw [Int.pow_succ,Int.pow_succ,Int.mul_emod,ih,← Int.mul_emod,Int.mul_emod,Int.mul_emod ((a % PF) ^ n),Int.emod_emod_of_dvd _ ⟨1,(Int.mul_one _).symm⟩]
theorem IN:PF=((Tabn.P:Nat):Int):=by kernel_rfl
theorem MO (a:Int):∃ n:Nat,a % PF=(n:Int)∧n<Tabn.P:=by
 obtain ⟨n,hn⟩:=Int.eq_ofNat_of_zero_le (mp a).1
 refine ⟨n,hn,?_⟩
 have:=(mp a).2
 rw [hn,IN] at this
 exact Int.ofNat_lt.1 this
theorem Di (n k:Nat):(n:Int) ^ k % PF=((n ^ k % Tabn.P:Nat):Int):=by
 rw [IN,Int.natCast_emod,Int.natCast_pow]
theorem Ft:tF+1=Tabn.P-1:=by kernel_rfl
theorem Kp {a:Int} (h:a % PF≠0):(a ^ tF*a) % PF=1:=by
 rw [← Int.pow_succ]
 show a ^ (tF+1) % PF=1
 rw [Ft,vM]
 obtain ⟨n,hn,hlt⟩:=MO a
 rw [hn] at h ⊢
 rw [Di,Tabn.fermat_one Tabn.prime_P]
 ·rfl
 ·intro hd
  have:=Nat.le_of_dvd (by omega) hd
  omega
end Go.Vm
namespace Go.Vm
open Go
theorem Oc {a b:Int} (h:a % PF=b % PF):PF ∣ a-b:=Int.dvd_of_emod_eq_zero (by rw [Int.sub_emod,h,Int.sub_self];rfl)
theorem Mz {a b:Int} (h:PF ∣ a-b):a % PF=b % PF:=by
 obtain ⟨q,hq⟩:=h
 exact uN (q:=q) (by rw [Int.mul_comm q];omega)
theorem IR {a b:Int} (h:PF ∣ a*b):PF ∣ a∨PF ∣ b:=by
 have e:PF.natAbs=Tabn.P:=by kernel_rfl
 have h1:Tabn.P ∣ a.natAbs*b.natAbs:=by
  rw [← Int.natAbs_mul,← e];exact Int.natAbs_dvd_natAbs.2 h
 rcases Tabn.prime_P.dvd_mul h1 with h2|h2
 ·exact .inl (Int.natAbs_dvd_natAbs.1 (by rw [e];exact h2))
 ·exact .inr (Int.natAbs_dvd_natAbs.1 (by rw [e];exact h2))
theorem mul_mod {a b c d:Int} (h:a % PF=b % PF) (h':c % PF=d % PF):a*c % PF=b*d % PF:=by
 rw [Int.mul_emod,h,h',← Int.mul_emod]
theorem KO {a b:Int} (h:a*a % PF=b*b % PF):a % PF=b % PF∨a % PF=(0-b) % PF:=by
 have h1:=Oc h
 have e:a*a-b*b=(a-b)*(a+b):=by
  rw [Int.sub_mul,Int.mul_add,Int.mul_add,Int.mul_comm b a];omega
 rw [e] at h1
 rcases IR h1 with h2|h2
 ·exact .inl (Mz h2)
 ·refine .inr (Mz ?_)
  have e2:a-(0-b)=a+b:=by omega
  rw [e2];exact h2
def hO:Nat:=28948022309329048855892746252171976963317496166410141009864396001978282409974
theorem Hc {a:Int} (h:a % PF≠0):a ^ hO % PF=1∨a ^ hO % PF=(-1) % PF:=by
 have h1:a ^ hO*a ^ hO % PF=1*1 % PF:=by
  rw [← Int.pow_add]
  have e:hO+hO=tF+1:=by kernel_rfl
  rw [e,Int.pow_succ,Kp h]
  rfl
 rcases KO h1 with h2|h2
 ·exact .inl h2
 ·exact .inr h2
theorem HL:(2:Int) ^ hO % PF=(-1) % PF:=by
 have h:(2 ^ hO % Tabn.P:Nat)=Tabn.P-1:=by
  rw [← Tabn.pmod_eq Tabn.P 256 2 hO (of_decide_eq_true (by kernel_rfl))]
  kernel_rfl
 have e:((Tabn.P-1:Nat):Int)=(-1) % PF:=by kernel_rfl
 have h2:=Di 2 hO
 rw [h,e] at h2
 exact h2
def gv (v:Int):Int:=if v ^ eT*v ^ eT % PF=v % PF then v ^ eT else v ^ eT*2 ^ tE
theorem pow_mod {a b:Int} (h:a % PF=b % PF) (n:Nat):a ^ n % PF=b ^ n % PF:=by rw [vM,h,← vM]
theorem Le (v:Int):gv (v*v)*gv (v*v) % PF=v*v % PF:=by
 have e1:(v*v) ^ eT*(v*v) ^ eT=v*v*v ^ hO:=by
  have e:v*v*v ^ hO=v ^ (hO+1+1):=by rw [Int.pow_succ,Int.pow_succ,Int.mul_comm (v*v),Int.mul_assoc]
  have e':eT+eT+(eT+eT)=hO+1+1:=by kernel_rfl
  rw [e,Int.mul_pow,← Int.pow_add,← Int.pow_add,e']
 unfold gv
 by_cases h:(v*v) ^ eT*(v*v) ^ eT % PF=v*v % PF
 ·rw [if_pos h];exact h
 ·rw [if_neg h]
  have hv:v % PF≠0:=by
   intro h0
   apply h
   rw [e1]
   have h1:v*v % PF=0 % PF:=mul_mod (b:=0) (d:=0) (by rw [h0];rfl) (by rw [h0];rfl)
   rw [mul_mod h1 (rfl:v ^ hO % PF=v ^ hO % PF),h1,Int.zero_mul]
  have hh:v ^ hO % PF=(-1) % PF:=by
   rcases Hc hv with h1|h1
   ·exfalso
    apply h
    rw [e1,mul_mod (rfl:v*v % PF=v*v % PF) (show v ^ hO % PF=1 % PF from h1),Int.mul_one]
   ·exact h1
  have e2:(v*v) ^ eT*2 ^ tE*((v*v) ^ eT*2 ^ tE)=(v*v*v ^ hO)*2 ^ hO:=by
   have e3:((2:Int) ^ tE)*2 ^ tE=2 ^ hO:=by
    have e':tE+tE=hO:=by kernel_rfl
    rw [← Int.pow_add,e']
   rw [← e1,← e3]
   generalize (v*v) ^ eT=A
   generalize (2:Int) ^ tE=B
   grind -lia -linarith
  rw [e2,mul_mod (mul_mod (rfl:v*v % PF=v*v % PF) hh) HL]
  congr 1
  generalize v*v=w
  omega
theorem FG {x:List Int} {v:Int} (hx:E x v):E (F26 x (aC (F50 252 2) 32 0 32)) (v ^ eT):=by
 rw [CK,oC _ rfl]
 exact yZ hx (by unfold Dig;decide) (N:=eT) (by kernel_rfl)
theorem Qh:E (F26 (F30 2) (aC (F50 253 5) 32 0 32)) (2 ^ tE):=by
 rw [BK,oC _ rfl]
 exact yZ (lQ (by decide)) (by unfold Dig;decide) (N:=tE) (by kernel_rfl)
theorem wT {x:List Int} {v:Int} (hx:R x v):R (F27 x (aC (F51 252 2) 32 0 32)) (v ^ eT):=by
 rw [Fd,oC _ rfl]
 exact GO hx (by unfold Dig;decide) (N:=eT) (by kernel_rfl)
theorem Md:R (F27 (F31 2) (aC (F51 253 5) 32 0 32)) (2 ^ tE):=by
 rw [FB,oC _ rfl]
 exact GO (lT (by decide)) (by unfold Dig;decide) (N:=tE) (by kernel_rfl)
theorem OY {x:List Int} {v:Int} (hx:E x v):E (F34 x) (gv v)∧ut x=decide (gv v*gv v % PF=v % PF):=by
 have h1:E (F34 x) (gv v):=by
  unfold F34 gv
  have ht:=FG hx
  have h2:=Qh
  generalize F26 x (aC (F50 252 2) 32 0 32)=t at *
  generalize F26 (F30 2) (aC (F50 253 5) 32 0 32)=u at *
  rw [(xA ht ht).same hx]
  by_cases h:v ^ eT*v ^ eT % PF=v % PF
  ·rw [if_pos h,decide_eq_true h,Bool.not_true,aA];exact ht
  ·rw [if_neg h,decide_eq_false h,Bool.not_false,aB];exact xA ht h2
 exact ⟨h1,(xA h1 h1).same hx⟩
theorem PI {x:List Int} {v:Int} (hx:R x v):tr x=decide (gv v*gv v % PF=v % PF):=by
 have h1:R (F35 x) (gv v):=by
  unfold F35 gv
  have ht:=wT hx
  have h2:=Md
  generalize F27 x (aC (F51 252 2) 32 0 32)=t at *
  generalize F27 (F31 2) (aC (F51 253 5) 32 0 32)=u at *
  rw [(sn ht ht).beq hx]
  by_cases h:v ^ eT*v ^ eT % PF=v % PF
  ·rw [if_pos h,decide_eq_true h,Bool.not_true,aA];exact ht
  ·rw [if_neg h,decide_eq_false h,Bool.not_false,aB];exact sn ht h2
 exact (sn h1 h1).beq hx
end Go.Vm
namespace Go.Vm
open Go Tabn
theorem EF.len {x:List Int} {f:Tabn.F}:EF x f→x.length=5:=fun ⟨v,h,e⟩=>by
 obtain ⟨⟨a,b,c,d,g,rfl,_⟩,_⟩:=h
 rfl
theorem EF.val {x:List Int} {f:Tabn.F}:EF x f→E x (f.val:Int):=fun ⟨v,h,e⟩=>h.to (by rw [← e,ea,Int.emod_emod_of_dvd _ (Int.dvd_refl _)])
theorem RF.val {x:List Int} {f:Tabn.F}:RF x f→R x (f.val:Int):=fun ⟨v,h,e⟩=>h.to (by rw [← e,ea,Int.emod_emod_of_dvd _ (Int.dvd_refl _)])
theorem qR (f:Tabn.F):toF (f.val:Int)=f:=jy (by rw [ea,lV,← Int.natCast_emod,Nat.mod_eq_of_lt f.isLt])
theorem ki (f:Tabn.F):(f.val:Int) % PF=(f.val:Int):=by rw [lV,← Int.natCast_emod,Nat.mod_eq_of_lt f.isLt]
theorem EF.same {x y:List Int} {f g:Tabn.F} (h:EF x f) (h':EF y g):F29 x y=decide (f=g):=by
 rw [h.val.same h'.val,ki,ki]
 by_cases e:f=g
 ·rw [decide_eq_true e,e,decide_eq_true rfl]
 ·rw [decide_eq_false e,decide_eq_false (fun h=>e (jy h))]
theorem EF.odd {x:List Int} {f:Tabn.F} (h:EF x f):F32 x=decide (f.val % 2=1):=by
 rw [h.val.odd,ki]
 by_cases e:f.val % 2=1
 ·rw [decide_eq_true e,decide_eq_true (by omega)]
 ·rw [decide_eq_false e,decide_eq_false (by omega)]
def rtF (f:Tabn.F):Tabn.F:=toF (gv (f.val:Int))
theorem QY:GR rtF:=by
 intro s
 unfold rtF
 have h:=Le (s.val:Int)
 have e:(((s*s).val:Nat):Int) % PF=(s.val:Int)*(s.val:Int) % PF:=by
  rw [Fin.val_mul,Int.natCast_emod,Int.natCast_mul,← lV,Int.emod_emod_of_dvd _ (Int.dvd_refl _)]
 have e1:gv (((s*s).val:Nat):Int) % PF=gv ((s.val:Int)*(s.val:Int)) % PF:=by
  have hp:∀ n:Nat,(((s*s).val:Nat):Int) ^ n % PF=((s.val:Int)*(s.val:Int)) ^ n % PF:=fun n=>pow_mod e n
  unfold gv
  have hc:((((s*s).val:Nat):Int) ^ eT*(((s*s).val:Nat):Int) ^ eT % PF=(((s*s).val:Nat):Int) % PF)=(((s.val:Int)*(s.val:Int)) ^ eT*((s.val:Int)*(s.val:Int)) ^ eT % PF=(s.val:Int)*(s.val:Int) % PF):=by
   rw [mul_mod (hp eT) (hp eT),e]
  simp only [hc]
  split
  ·exact hp eT
  ·exact mul_mod (hp eT) rfl
 rw [← qX]
 apply jy
 rw [ea,mul_mod e1 e1,h,← e,ki]
theorem Kn {x:List Int} {f:Tabn.F} (h:EF x f):EF (F34 x) (rtF f)∧ut x=decide (rtF f*rtF f=f):=by
 obtain ⟨h1,h2⟩:=OY h.val
 have h3:EF (F34 x) (rtF f):=⟨_,h1,rfl⟩
 refine ⟨h3,?_⟩
 rw [h2]
 unfold rtF
 rw [← qX]
 by_cases e:toF (gv (f.val:Int)*gv (f.val:Int))=f
 ·rw [decide_eq_true e,decide_eq_true]
  have:=IU (e.trans (qR f).symm)
  exact this
 ·rw [decide_eq_false e,decide_eq_false]
  intro h4
  exact e ((Gu h4).trans (qR f))
theorem KK {x:List Int} {v:Int} (hx:R x v):R (F35 x) (gv v):=by
 unfold F35 gv
 have ht:=wT hx
 have h2:=Md
 generalize F27 x (aC (F51 252 2) 32 0 32)=t at *
 generalize F27 (F31 2) (aC (F51 253 5) 32 0 32)=u at *
 rw [(sn ht ht).beq hx]
 by_cases h:v ^ eT*v ^ eT % PF=v % PF
 ·rw [if_pos h,decide_eq_true h,Bool.not_true,aA];exact ht
 ·rw [if_neg h,decide_eq_false h,Bool.not_false,aB];exact sn ht h2
theorem Jy {x:List Int} {f:Tabn.F} (h:RF x f):RF (F35 x) (rtF f)∧tr x=decide (rtF f*rtF f=f):=by
 have h3:RF (F35 x) (rtF f):=⟨_,KK h.val,rfl⟩
 refine ⟨h3,?_⟩
 rw [PI h.val]
 unfold rtF
 rw [← qX]
 by_cases e:toF (gv (f.val:Int)*gv (f.val:Int))=f
 ·rw [decide_eq_true e,decide_eq_true]
  have:=IU (e.trans (qR f).symm)
  exact this
 ·rw [decide_eq_false e,decide_eq_false]
  intro h4
  exact e ((Gu h4).trans (qR f))
theorem RF.beq {x y:List Int} {f g:Tabn.F} (h:RF x f) (h':RF y g):(x==y)=decide (f=g):=by
 rw [h.val.beq h'.val,ki,ki]
 by_cases e:f=g
 ·rw [decide_eq_true e,e,decide_eq_true rfl]
 ·rw [decide_eq_false e,decide_eq_false (fun h=>e (jy h))]
def PE (p:Pt CT) (s:List Int):Prop:=∃ X Y Z T fx fy fz ft,s=X++(Y++(Z++T))∧EF X fx∧EF Y fy∧EF Z fz∧EF T ft∧Ex p fx fy fz ft
theorem Hn {X Y Z T:List Int} (hx:X.length=5) (hy:Y.length=5) (hz:Z.length=5) (ht:T.length=5) :
  ((X++(Y++(Z++T))).drop 0).take 5=X∧((X++(Y++(Z++T))).drop 5).take 5=Y∧((X++(Y++(Z++T))).drop 10).take 5=Z∧((X++(Y++(Z++T))).drop 15).take 5=T:=by
 obtain ⟨a,b,c,d,e,rfl⟩:=wP hx
 obtain ⟨a',b',c',d',e',rfl⟩:=wP hy
 obtain ⟨a2,b2,c2,d2,e2,rfl⟩:=wP hz
 obtain ⟨a3,b3,c3,d3,e3,rfl⟩:=wP ht
 exact ⟨rfl,rfl,rfl,rfl⟩
theorem Is {X Y Z T:List Int} (hx:X.length=5) (hy:Y.length=5) (hz:Z.length=5) (ht:T.length=5) :
  aT (aT (aT (aT [0,0,0,0,0,0,0,0,0,0,0,0,0,0,0,0,0,0,0,0] 0 X) 5 Y) 10 Z) 15 T=X++(Y++(Z++T)):=by
 obtain ⟨a,b,c,d,e,rfl⟩:=wP hx
 obtain ⟨a',b',c',d',e',rfl⟩:=wP hy
 obtain ⟨a2,b2,c2,d2,e2,rfl⟩:=wP hz
 obtain ⟨a3,b3,c3,d3,e3,rfl⟩:=wP ht
 rfl
theorem OP:EF (F30 121665) wQ:=by rw [SY.1];exact ⟨121665,lQ (by decide),by decide⟩
theorem Nr:EF (F30 121666) rD:=by rw [SY.2];exact ⟨121666,lQ (by decide),by decide⟩
theorem wD:EF cG dT:=by
 unfold cG vv
 refine (pE pm (fu OP (wB Nr))).to ?_
 unfold dT
 rfl
theorem Me {p q:Pt CT} {s t k:List Int} (hp:PE p s) (hq:PE q t) (hk:EF k (dT+dT)):PE (p.add q) (pF s t k):=by
 obtain ⟨X,Y,Z,T,fx,fy,fz,ft,rfl,hX,hY,hZ,hT,hE⟩:=hp
 obtain ⟨X',Y',Z',T',fx',fy',fz',ft',rfl,hX',hY',hZ',hT',hE'⟩:=hq
 obtain ⟨c1,c2,c3,c4⟩:=Hn hX.len hY.len hZ.len hT.len
 obtain ⟨d1,d2,d3,d4⟩:=Hn hX'.len hY'.len hZ'.len hT'.len
 unfold pF
 rw [c1,c2,c3,c4,d1,d2,d3,d4]
 have hc:=fu (fu hT hT') hk
 have hd:=om (fu hZ hZ') (fu hZ hZ')
 have hq':=fu (om hY hX) (om hY' hX')
 have hp':=fu (pE hY hX) (pE hY' hX')
 have he:=pE hq' hp'
 have hf:=pE hd hc
 have hg:=om hd hc
 have hh:=om hq' hp'
 have r1:=fu he hf
 have r2:=fu hg hh
 have r3:=fu hf hg
 have r4:=fu he hh
 rw [Is r1.len r2.len r3.len r4.len]
 exact ⟨_,_,_,_,_,_,_,_,rfl,r1,r2,r3,r4,Nm hE hE'⟩
theorem PE.zero:PE (Pt.zero CT) (aT (aT [0,0,0,0,0,0,0,0,0,0,0,0,0,0,0,0,0,0,0,0] 5 (F30 1)) 10 (F30 1)) :=
 ⟨F30 0,F30 1,F30 1,F30 0,0,1,1,0,rfl,pm,ud,ud,pm,⟨gF,GM 1,oX 1,(show (0:Tabn.F)=0*1*1 by decide)⟩⟩
theorem oQ (N m k:Nat) (hk:k<m):N/2 ^ (m-(k+1))=2*(N/2 ^ (m-k))+N/2 ^ (m-1-k) % 2:=by
 have e:m-k=(m-1-k)+1:=by omega
 rw [show m-(k+1)=m-1-k by omega,e,Nat.pow_succ,← Nat.div_div_eq_div_mul]
 omega
theorem yE {n:Nat} {x:Int} (h:x=((n % 2:Nat):Int)):((x:Int)==1)=decide (n % 2=1):=by
 subst h
 rcases Nat.mod_two_eq_zero_or_one n with h|h <;> rw [h] <;> rfl
theorem LF {p:Pt CT} {s n:List Int} (hp:PE p s) (hn:Dig 256 n) {N:Nat} (hN:num 256 n=(N:Int)):PE (Pt.mul N p) (Eu s n):=by
 have hk:EF (F16 cG cG) (dT+dT):=om wD wD
 have hlt:N<2 ^ (8*n.length):=by
  obtain ⟨M,h1,h2⟩:=mm hn
  rw [h1] at hN
  have:=Int.ofNat.inj hN
  omega
 have key:∀ k,k≤8*n.length→PE (Pt.mul (N/2 ^ (8*n.length-k)) p) (itr (sJ s n) k (aT (aT [0,0,0,0,0,0,0,0,0,0,0,0,0,0,0,0,0,0,0,0] 5 (F30 1)) 10 (F30 1))):=by
  intro k
  induction k with
  |zero =>
   intro _
   rw [aX,Nat.sub_zero,Nat.div_eq_of_lt hlt]
   exact PE.zero
  |succ k ih =>
   intro hk'
   have ih:=ih (by omega)
   rw [aQ,oQ N (8*n.length) k (by omega),Nat.two_mul,Nat.add_assoc,Pt.add_mul]
   generalize itr (sJ s n) k _=z at *
   generalize N/2 ^ (8*n.length-k)=M at *
   unfold sJ
   rw [yE (qQ hn hN (8*n.length-1-k))]
   have h2:=Me ih ih hk
   rcases Nat.mod_two_eq_zero_or_one (N/2 ^ (8*n.length-1-k)) with h|h
   ·rw [h,decide_eq_false (by decide),aA,Nat.add_zero]
    exact h2
   ·rw [h,decide_eq_true rfl,aB,Pt.add_mul,Pt.mul_one,← Pt.add_assoc]
    exact Me h2 hp hk
 have:=key (8*n.length) (Nat.le_refl _)
 rw [Nat.sub_self,Nat.pow_zero,Nat.div_one] at this
 exact this
def PR (p:Pt CT) (s:List Int):Prop:=∃ X Y Z fx fy fz,s=X++(Y++Z)∧RF X fx∧RF Y fy∧RF Z fz∧Pj p fx fy fz
theorem EL {X Y Z:List Int} (hx:X.length=16) (hy:Y.length=16) (hz:Z.length=16) :
  ((X++(Y++Z)).drop 0).take 16=X∧((X++(Y++Z)).drop 16).take 16=Y∧((X++(Y++Z)).drop 32).take 16=Z:=by
 refine ⟨?_,?_,?_⟩
 ·rw [List.drop_zero,List.take_append_of_le_length (by omega),List.take_of_length_le (by omega)]
 ·rw [← hx,List.drop_left,List.take_append_of_le_length (by omega),List.take_of_length_le (by omega)]
 ·rw [← List.append_assoc,show 32=(X++Y).length by rw [List.length_append];omega,List.drop_left,List.take_of_length_le (by omega)]
theorem qt {Z A B:List Int} {o:Nat} (ho:o=A.length):aT (A++Z) o B=A++(B++Z.drop B.length):=by
 subst ho
 unfold aT
 rw [List.take_left,List.drop_append,List.append_assoc]
 simp
theorem JI {X Y Z:List Int} (hx:X.length=16) (hy:Y.length=16) (hz:Z.length=16) :
  aT (aT (aT [0,0,0,0,0,0,0,0,0,0,0,0,0,0,0,0,0,0,0,0,0,0,0,0,0,0,0,0,0,0,0,0,0,0,0,0,0,0,0,0,0,0,0,0,0,0,0,0] 0 X) 16 Y) 32 Z=X++(Y++Z):=by
 rw [show aT [0,0,0,0,0,0,0,0,0,0,0,0,0,0,0,0,0,0,0,0,0,0,0,0,0,0,0,0,0,0,0,0,0,0,0,0,0,0,0,0,0,0,0,0,0,0,0,0] 0 X=X++(List.replicate 48 0).drop X.length from qt (A:=[]) rfl]
 rw [qt hx.symm,← List.append_assoc,qt (by rw [List.length_append];omega),List.append_assoc,hx,hy,hz]
 show X++(Y++(Z++[]))=_
 rw [List.append_nil]
theorem PM:RF (F31 121665) wQ:=by rw [SY.1];exact ⟨121665,lT (by decide),by decide⟩
theorem Nn:RF (F31 121666) rD:=by rw [SY.2];exact ⟨121666,lT (by decide),by decide⟩
theorem AD:RF de dT:=by
 unfold de cl aI au
 refine (vw pj (fP PM (vA Nn))).to ?_
 unfold dT
 rfl
theorem HY {p q:Pt CT} {s t:List Int} (hp:PR p s) (hq:PR q t):PR (p.add q) (tH s t de):=by
 obtain ⟨X,Y,Z,fx,fy,fz,rfl,hX,hY,hZ,hE⟩:=hp
 obtain ⟨X',Y',Z',fx',fy',fz',rfl,hX',hY',hZ',hE'⟩:=hq
 obtain ⟨c1,c2,c3⟩:=EL hX.len hY.len hZ.len
 obtain ⟨d1,d2,d3⟩:=EL hX'.len hY'.len hZ'.len
 unfold tH
 rw [c1,c2,c3,d1,d2,d3]
 have hk:=AD
 generalize de=k at *
 unfold aI dh cl
 have hxx:=fP hX hX'
 have hyy:=fP hY hY'
 have hzz:=fP hZ hZ'
 have hcr:=yV (fP hX hY') (fP hX' hY)
 have he:=fP hk (fP hxx hyy)
 have hz2:=fP hzz hzz
 have hf:=yV hz2 he
 have hg:=vw hz2 he
 have r1:=fP (fP hcr hzz) hg
 have r2:=fP (fP (yV hyy hxx) hzz) hf
 have r3:=fP hf hg
 rw [JI r1.len r2.len r3.len]
 exact ⟨_,_,_,_,_,_,rfl,r1,r2,r3,Gi hE hE'⟩
theorem PR.zero:PR (Pt.zero CT) (aT (aT [0,0,0,0,0,0,0,0,0,0,0,0,0,0,0,0,0,0,0,0,0,0,0,0,0,0,0,0,0,0,0,0,0,0,0,0,0,0,0,0,0,0,0,0,0,0,0,0] 16 (au 1)) 32 (au 1)):=by
 have h0:F31 0=[0,0,0,0,0,0,0,0,0,0,0,0,0,0,0,0]:=by kernel_rfl
 have h1:F31 1=[1,0,0,0,0,0,0,0,0,0,0,0,0,0,0,0]:=by kernel_rfl
 refine ⟨F31 0,F31 1,F31 1,0,1,1,?_,pj,vz,vz,⟨gF,GM 1,oX 1⟩⟩
 unfold au
 rw [h0,h1]
 rfl
theorem yH {p:Pt CT} {s n:List Int} (hp:PR p s) (hn:Dig 256 n) {N:Nat} (hN:num 256 n=(N:Int)):PR (Pt.mul N p) (tD n s):=by
 have hlt:N<2 ^ (8*n.length):=by
  obtain ⟨M,h1,h2⟩:=mm hn
  rw [h1] at hN
  have:=Int.ofNat.inj hN
  omega
 have key:∀ k,PR (Pt.mul (N % 2 ^ k) p) (itr (ot n) k (aT (aT [0,0,0,0,0,0,0,0,0,0,0,0,0,0,0,0,0,0,0,0,0,0,0,0,0,0,0,0,0,0,0,0,0,0,0,0,0,0,0,0,0,0,0,0,0,0,0,0] 16 (au 1)) 32 (au 1),s)).1 ∧
   PR (Pt.mul (2 ^ k) p) (itr (ot n) k (aT (aT [0,0,0,0,0,0,0,0,0,0,0,0,0,0,0,0,0,0,0,0,0,0,0,0,0,0,0,0,0,0,0,0,0,0,0,0,0,0,0,0,0,0,0,0,0,0,0,0] 16 (au 1)) 32 (au 1),s)).2:=by
  intro k
  induction k with
  |zero =>
   rw [aX,Nat.pow_zero,Nat.mod_one,Pt.mul_one]
   exact ⟨PR.zero,hp⟩
  |succ k ih =>
   rw [aQ]
   generalize itr (ot n) k _=z at *
   obtain ⟨i1,i2⟩:=ih
   have hb:=wn hn hN (k/8) (k % 8) (Nat.mod_lt _ (by decide))
   rw [Nat.div_add_mod] at hb
   unfold ot
   rw [yE hb]
   refine ⟨?_,?_⟩
   ·show PR _ (sel _ _ _)
    rw [sr N k]
    rcases Nat.mod_two_eq_zero_or_one (N/2 ^ k) with h|h
    ·rw [h,decide_eq_false (by decide),aA,Nat.zero_mul,Nat.add_zero]
     exact i1
    ·rw [h,decide_eq_true rfl,aB,Nat.one_mul,Pt.add_mul]
     exact HY i1 i2
   ·show PR _ (tH _ _ _)
    rw [Nat.pow_succ,Nat.mul_two,Pt.add_mul]
    exact HY i2 i2
 have:=(key (8*n.length)).1
 rw [Nat.mod_eq_of_lt hlt] at this
 exact this
end Go.Vm
namespace Go.Vm
open Go Tabn
def fk (p:Pt CT):List Int:=bg 256 32 (nO p:Int)
theorem dU (p:Pt CT):(fk p).length=32:=aw _ _ _
theorem lF (p:Pt CT):Dig 256 (fk p):=dd (by decide) _ _
theorem oI {v:Int} (h:0≤v) (h':v<2 ^ 256):num 256 (bg 256 32 v)=v:=by
 rw [gG (by decide)]
 exact Int.emod_eq_of_lt h h'
theorem pB {v w:Int} (h:0≤v) (h':v<2 ^ 256) (k:0≤w) (k':w<2 ^ 256) (e:bg 256 32 v=bg 256 32 w):v=w:=by
 rw [← oI h h',e,oI k k']
theorem oL (p:Pt CT):0≤(nO p:Int)∧(nO p:Int)<2 ^ 256:=⟨Int.natCast_nonneg _,by have:=Kw p;exact_mod_cast this⟩
theorem DB {n:Nat} (h:n<2 ^ 256):((n:Nat):Int)<2 ^ 256:=by exact_mod_cast h
theorem nnn (n:Nat):(0:Int)≤((n:Nat):Int):=Int.natCast_nonneg n
theorem pp {p q:Pt CT} (h:fk p=fk q):p=q :=
 IT (Int.ofNat.inj (pB (oL p).1 (oL p).2 (oL q).1 (oL q).2 h))
theorem Od {a b:List Int} (ha:Dig 256 a) (la:a.length=32) (hb:Dig 256 b) (lb:b.length=32) (h1:a.take 31=b.take 31) (h2:a.getD 31 0=b.getD 31 0):a=b:=by
 have e1:num 256 a=num 256 b:=by
  have p1:=dN (B:=256) (xs:=a) (i:=31)
  have p2:=dN (B:=256) (xs:=b) (i:=31)
  rw [List.take_of_length_le (by omega)] at p1 p2
  rw [p1,p2,h1,h2]
 rw [← qJ (by decide) ha,← qJ (by decide) hb,la,lb,e1]
theorem ny {v:Nat} (hv:v<2 ^ 255):(bg 256 32 (v:Int)).set 31 ((bg 256 32 (v:Int)).getD 31 0+128)=bg 256 32 ((v+2 ^ 255:Nat):Int)∧0≤(bg 256 32 (v:Int)).getD 31 0∧(bg 256 32 (v:Int)).getD 31 0<128:=by
 have hl:(bg 256 32 (v:Int)).length=32:=aw _ _ _
 have hd:=dd (B:=256) (by decide) 32 (v:Int)
 have hb:(2:Int) ^ 256=115792089237316195423570985008687907853269984665640564039457584007913129639936:=rfl
 have hc:(2:Nat) ^ 255=57896044618658097711785492504343953926634992332820282019728792003956564819968:=rfl
 have he:(256:Int) ^ 31=452312848583266388373324160190187140051835877600158453279131187530910662656:=rfl
 rw [hc] at hv
 have g:(bg 256 32 (v:Int)).getD 31 0=(v:Int)/256 ^ 31 % 256:=dg (by decide) 32 31 _ (by decide)
 rw [he] at g
 have g1:0≤(bg 256 32 (v:Int)).getD 31 0∧(bg 256 32 (v:Int)).getD 31 0<128:=by rw [g];omega
 refine ⟨?_,g1⟩
 refine lP (by decide) (oA hd (by omega)) (by rw [List.length_set,hl]) ?_
 rw [gn (by rw [hl];decide),oI (by omega) (by rw [hb];omega),he,hc]
 omega
theorem NV {v:Int} (h:0≤v∧v<128):iOr .u8 v 128=v+128:=by
 have:=xe wJ (u:=1) (v:=v) (n:=7) (by decide) h.1 h.2 (by show v+128<256;omega)
 exact this
theorem EB {v:Int} (h:0≤v∧v<128):aE .u8 v 128=v+128:=by
 unfold aE
 rw [dc]
 omega
theorem JX (p:Pt CT):fk p=sel (decide (p.x.val % 2=1)) ((bg 256 32 (p.y.val:Int)).set 31 ((bg 256 32 (p.y.val:Int)).getD 31 0+128)) (bg 256 32 (p.y.val:Int)):=by
 have hv:p.y.val<2 ^ 255:=Nat.lt_trans p.y.isLt mN
 unfold fk nO
 rcases Nat.mod_two_eq_zero_or_one p.x.val with h|h
 ·rw [h,decide_eq_false (by decide),aA,Nat.zero_mul,Nat.add_zero]
 ·rw [h,decide_eq_true rfl,aB,(ny hv).1,Nat.one_mul]
theorem Kt {p:Pt CT} {s:List Int} (h:PE p s):kx s=fk p:=by
 obtain ⟨X,Y,Z,T,fx,fy,fz,ft,rfl,hX,hY,hZ,hT,hE⟩:=h
 obtain ⟨c1,c2,c3,c4⟩:=Hn hX.len hY.len hZ.len hT.len
 unfold kx
 rw [c1,c2,c3,JX]
 have e1:EF (F20 X (F25 Z)) p.x:=(fu hX (wB hZ)).to (by rw [hE.x];exact GF hE.z0)
 have e2:EF (F20 Y (F25 Z)) p.y:=(fu hY (wB hZ)).to (by rw [hE.y];exact GF hE.z0)
 rw [e1.odd,e2.bytes,NV (ny (Nat.lt_trans p.y.isLt mN)).2]
theorem RF.low {x:List Int} {f:Tabn.F} (h:RF x f):(((bm (x.getD 0 0) 2):Int)==1)=decide (f.val % 2=1):=by
 have h1:=h.val
 unfold R at h1
 rw [h1,ki,dg (by decide) 16 0 _ (by decide),Int.pow_zero,Int.ediv_one]
 have e:bm ((f.val:Int) % 65536) 2=((f.val % 2:Nat):Int):=by
  unfold bm
  rw [Int.tmod_eq_emod_of_nonneg (by omega)]
  omega
 rw [e]
 rcases Nat.mod_two_eq_zero_or_one f.val with h|h <;> rw [h] <;> rfl
theorem DW {p:Pt CT} {s:List Int} (h:PR p s):np s=fk p:=by
 obtain ⟨X,Y,Z,fx,fy,fz,rfl,hX,hY,hZ,hE⟩:=h
 obtain ⟨c1,c2,c3⟩:=EL hX.len hY.len hZ.len
 unfold np aI
 rw [c1,c2,c3,JX]
 have e1:RF (F21 X (F28 Z)) p.x:=(fP hX (vA hZ)).to (by rw [hE.x];exact GF hE.z0)
 have e2:RF (F21 Y (F28 Z)) p.y:=(fP hY (vA hZ)).to (by rw [hE.y];exact GF hE.z0)
 rw [e1.low,e2.bytes,EB (ny (Nat.lt_trans p.y.isLt mN)).2]
structure Parts (b:List Int) (N:Nat):Prop where
 eq:b=bg 256 32 (N:Int)
 num:num 256 b=(N:Int)
 lt:N<2 ^ 256
 top:b.getD 31 0=((N/2 ^ 248:Nat):Int)
 odd:(decide ((b.getD 31 0:Int) ≥ 128))=decide (N/2 ^ 255=1)
theorem fO {b:List Int} (hb:Dig 256 b) (hl:b.length=32):∃ N,Parts b N:=by
 obtain ⟨N,h1,h2⟩:=mm hb
 rw [hl] at h2
 have e1:b=bg 256 32 (N:Int):=lP (by decide) hb hl h1
 have e2:b.getD 31 0=((N/2 ^ 248:Nat):Int):=by
  rw [e1,dg (by decide) 32 31 _ (by decide)]
  have he:(256:Int) ^ 31=452312848583266388373324160190187140051835877600158453279131187530910662656:=rfl
  have hc:(2:Nat) ^ 248=452312848583266388373324160190187140051835877600158453279131187530910662656:=rfl
  have hd:(2:Nat) ^ (8*32)=115792089237316195423570985008687907853269984665640564039457584007913129639936:=rfl
  rw [hd] at h2
  rw [he,hc]
  omega
 refine ⟨N,e1,h1,h2,e2,?_⟩
 rw [e2]
 have hc:(2:Nat) ^ 248=452312848583266388373324160190187140051835877600158453279131187530910662656:=rfl
 have hc2:(2:Nat) ^ 255=57896044618658097711785492504343953926634992332820282019728792003956564819968:=rfl
 have hd:(2:Nat) ^ (8*32)=115792089237316195423570985008687907853269984665640564039457584007913129639936:=rfl
 rw [hd] at h2
 rw [hc,hc2]
 by_cases h:N/57896044618658097711785492504343953926634992332820282019728792003956564819968=1
 ·rw [decide_eq_true h,decide_eq_true (by omega)]
 ·rw [decide_eq_false h,decide_eq_false (by omega)]
theorem qP {N:Nat} (h:N<2 ^ 256):N/2 ^ 255<2:=by
 have hc2:(2:Nat) ^ 255=57896044618658097711785492504343953926634992332820282019728792003956564819968:=rfl
 have hd:(2:Nat) ^ 256=115792089237316195423570985008687907853269984665640564039457584007913129639936:=rfl
 rw [hd] at h
 rw [hc2]
 omega
theorem Parts.y {b:List Int} {N:Nat} (h:Parts b N):uOf b=Fin.ofNat P (N % 2 ^ 255):=by
 apply jy
 unfold uOf
 rw [ea,h.num,lV]
 show ((N:Int) % 57896044618658097711785492504343953926634992332820282019728792003956564819968) % ((P:Nat):Int)=((N % 2 ^ 255 % P:Nat):Int)
 rw [Int.natCast_emod,Int.natCast_emod]
 rfl
def back (N:Nat):Nat:=(Fin.ofNat P (N % 2 ^ 255)).val+N/2 ^ 255*2 ^ 255
theorem Kl {N:Nat} (h:N<2 ^ 256):back N=N↔N % 2 ^ 255<P:=by
 have h1:(Fin.ofNat P (N % 2 ^ 255)).val=N % 2 ^ 255 % P:=rfl
 unfold back
 rw [h1]
 constructor
 ·intro e
  have h2:N % 2 ^ 255 % P<P:=Nat.mod_lt _ NA
  have:N % 2 ^ 255 % P=N % 2 ^ 255:=by omega
  omega
 ·intro e
  rw [Nat.mod_eq_of_lt e]
  omega
theorem Kh {N:Nat} (h:N<2 ^ 256):back N<2 ^ 256:=by
 have h1:=qP h
 have h2:=(Fin.ofNat P (N % 2 ^ 255)).isLt
 have h3:=mN
 unfold back
 omega
theorem ub {N:Nat} (h:N<2 ^ 256):bg 256 32 (back N:Int)=sel (decide (N/2 ^ 255=1)) ((bg 256 32 ((Fin.ofNat P (N % 2 ^ 255)).val:Int)).set 31 ((bg 256 32 ((Fin.ofNat P (N % 2 ^ 255)).val:Int)).getD 31 0+128)) (bg 256 32 ((Fin.ofNat P (N % 2 ^ 255)).val:Int)):=by
 have hv:(Fin.ofNat P (N % 2 ^ 255)).val<2 ^ 255:=Nat.lt_trans (Fin.ofNat P (N % 2 ^ 255)).isLt mN
 have h1:=qP h
 unfold back
 by_cases e:N/2 ^ 255=1
 ·rw [e,decide_eq_true rfl,aB,(ny hv).1,Nat.one_mul]
 ·have e0:N/2 ^ 255=0:=by omega
  rw [e0,decide_eq_false (by decide),aA,Nat.zero_mul,Nat.add_zero]
theorem xS {b:List Int} {N:Nat} (h:Parts b N):bg 256 32 (back N:Int)=b↔N % 2 ^ 255<P:=by
 rw [← Kl h.lt]
 have h1:=Kh h.lt
 have h2:=h.lt
 constructor
 ·intro e
  rw [h.eq] at e
  exact Int.ofNat.inj (pB (nnn _) (DB h1) (nnn _) (DB h2) e)
 ·intro e
  rw [e]
  exact h.eq.symm
theorem AO:∀ a,a<256→a &&& 128=a/128*128:=by decide +kernel
theorem MA {x:Int} (h:0≤x∧x<256):aG .u8 x 128=x/128*2 ^ 7:=by
 obtain ⟨a,rfl,ha⟩:=tQ (N:=256) h
 have:=eg wJ ha (b:=128) (by decide)
 rw [AO a ha] at this
 have e:((a/128*128:Nat):Int)=(a:Int)/128*2 ^ 7:=by omega
 rw [← e];exact this
theorem PG {b:List Int} {N:Nat} (h:Parts b N) (hb:Dig 256 b) (hl:b.length=32) :
  (((iOr .u8 ((bg 256 32 ((Fin.ofNat P (N % 2 ^ 255)).val:Int)).getD 31 0) (aG .u8 (b.getD 31 0) 128)):Int) != b.getD 31 0)=false ∧
   aR (bytesOf (((bg 256 32 ((Fin.ofNat P (N % 2 ^ 255)).val:Int)).drop 0).take 31)) (bytesOf ((b.drop 0).take 31))=true↔N % 2 ^ 255<P:=by
 rw [← xS h]
 have hv:(Fin.ofNat P (N % 2 ^ 255)).val<2 ^ 255:=Nat.lt_trans (Fin.ofNat P (N % 2 ^ 255)).isLt mN
 have hB:=ub h.lt
 have hh:=qP h.lt
 obtain ⟨t1,t2,t3⟩:=ny hv
 have hd:=dd (B:=256) (by decide) 32 (((Fin.ofNat P (N % 2 ^ 255)).val:Nat):Int)
 have hld:=aw 256 32 (((Fin.ofNat P (N % 2 ^ 255)).val:Nat):Int)
 generalize bg 256 32 (((Fin.ofNat P (N % 2 ^ 255)).val:Nat):Int)=C at *
 have b31:0≤b.getD 31 0∧b.getD 31 0<256:=bD (by decide) hb
 have b128:b.getD 31 0/128=((N/2 ^ 255:Nat):Int):=by
  rw [h.top]
  have hc:(2:Nat) ^ 248=452312848583266388373324160190187140051835877600158453279131187530910662656:=rfl
  have hc2:(2:Nat) ^ 255=57896044618658097711785492504343953926634992332820282019728792003956564819968:=rfl
  rw [hc,hc2]
  omega
 rw [MA b31,b128]
 have hor:iOr .u8 (C.getD 31 0) (((N/2 ^ 255:Nat):Int)*2 ^ 7)=C.getD 31 0+((N/2 ^ 255:Nat):Int)*2 ^ 7 :=
  xe wJ (Int.natCast_nonneg _) t2 t3 (by show C.getD 31 0+((N/2 ^ 255:Nat):Int)*128<256;generalize N/2 ^ 255=m at *;omega)
 rw [hor,List.drop_zero,List.drop_zero,ng (fun x hx=>hd x (List.mem_of_mem_take hx)) (fun x hx=>hb x (List.mem_of_mem_take hx))]
 have g1:(bg 256 32 (back N:Int)).take 31=C.take 31:=by
  rw [hB]
  cases decide (N/2 ^ 255=1)
  ·rfl
  ·rw [aB,nn]
 have g2:(bg 256 32 (back N:Int)).getD 31 0=C.getD 31 0+((N/2 ^ 255:Nat):Int)*2 ^ 7:=by
  rw [hB]
  by_cases e:N/2 ^ 255=1
  ·rw [e,decide_eq_true rfl,aB,bz (by omega)]
   rfl
  ·have e0:N/2 ^ 255=0:=by omega
   rw [e0,decide_eq_false (by decide),aA]
   show _=C.getD 31 0+0*128
   omega
 rw [← g1,← g2]
 constructor
 ·rintro ⟨h1,h2⟩
  refine Od (dd (by decide) _ _) (aw _ _ _) hb hl (of_decide_eq_true h2) ?_
  simpa using h1
 ·intro e
  rw [e]
  simp
theorem Oe {b:List Int} {N:Nat} (h:Parts b N) (hb:Dig 256 b) (hl:b.length=32) :
  aR (bytesOf (((sel (decide ((b.getD 31 0:Int) ≥ 128)) ((bg 256 32 ((Fin.ofNat P (N % 2 ^ 255)).val:Int)).set 31 (aE .u8 ((bg 256 32 ((Fin.ofNat P (N % 2 ^ 255)).val:Int)).getD 31 0) 128)) (bg 256 32 ((Fin.ofNat P (N % 2 ^ 255)).val:Int))).drop 0).take 32)) (bytesOf b)=true↔N % 2 ^ 255<P:=by
 rw [← xS h]
 have hv:(Fin.ofNat P (N % 2 ^ 255)).val<2 ^ 255:=Nat.lt_trans (Fin.ofNat P (N % 2 ^ 255)).isLt mN
 rw [EB (ny hv).2,h.odd,← ub h.lt,List.drop_zero,List.take_of_length_le (by rw [aw];exact Nat.le_refl _),ng (dd (by decide) _ _) hb]
 exact decide_eq_true_iff
theorem Mq {α:Type} {h:Nat} (hh:h<2) {c:Nat} (hc:c<2) (x y:α):sel (!((decide (c=1))==(decide (h=1)))) x y=if c=h then y else x:=by
 have h1:c=0∨c=1:=by omega
 have h2:h=0∨h=1:=by omega
 rcases h1 with rfl|rfl <;> rcases h2 with rfl|rfl <;> rfl
theorem SE {X:List Int} {r:Tabn.F} {h:Nat} (hX:EF X r) (hh:h<2):EF (sel (!((F32 X)==(decide (h=1)))) (F18 (F30 0) X) X) (xOf r h):=by
 rw [hX.odd,Mq hh (Nat.mod_lt _ (by decide))]
 unfold xOf
 split
 ·exact hX
 ·exact pE pm hX
theorem Se {X:List Int} {r:Tabn.F} {h:Nat} (hX:RF X r) (hh:h<2):RF (sel (!((((bm (X.getD 0 0) 2):Int)==1)==(decide (h=1)))) (F19 (F31 0) X) X) (xOf r h):=by
 rw [hX.low,Mq hh (Nat.mod_lt _ (by decide))]
 unfold xOf
 split
 ·exact hX
 ·exact vw pj hX
theorem BR (a b:Tabn.F):a*b=b*a:=by grind -lia -linarith
theorem RQ {Y:List Int} {y:Tabn.F} (h:EF Y y):EF (F20 (F18 (F20 Y Y) (F30 1)) (F25 (F16 (F20 (F20 Y Y) (cG)) (F30 1)))) (tA y):=by
 refine (fu (pE (fu h h) ud) (wB (om (fu (fu h h) wD) ud))).to ?_
 unfold tA
 rw [BR (y*y) dT]
theorem Pi {Y:List Int} {y:Tabn.F} (h:RF Y y):RF (aI (cl (aI Y Y) (au 1)) (F28 (dh (aI (de) (aI Y Y)) (au 1)))) (tA y):=by
 unfold aI cl dh au
 exact fP (vw (fP h h) vz) (vA (yV (fP AD (fP h h)) vz))
def Reads (ok:Bool) (b:List Int) (R:Pt CT→Prop):Prop:=(ok=true∧∃ p,b=fk p∧R p)∨(ok=false∧∀ p,b≠fk p)
theorem GW {b:List Int} {N:Nat} (h:Parts b N) (hn:¬ Ey rtF N):∀ p,b≠fk p:=by
 intro p e
 apply hn
 rw [h.eq] at e
 have h2:=h.lt
 have:=Int.ofNat.inj (pB (nnn _) (DB h2) (oL p).1 (oL p).2 e)
 rw [this]
 exact LD QY p
theorem Oj {b:List Int} (hb:Dig 256 b):Reads (lA b) b (fun p=>PE p (rh b)):=by
 by_cases hl:b.length=32
 ·obtain ⟨N,hN⟩:=fO hb hl
  have hlook:=PG hN hb hl
  have hY:EF (F23 b) (Fin.ofNat P (N % 2 ^ 255)):=(MR hb hl).to hN.y
  have hh:=qP hN.lt
  obtain ⟨hR,hok⟩:=Kn (RQ hY)
  have hX:=SE hR hh
  have hz:=hR.same pm
  have hpt:=An (rt:=rtF) hN.lt
  have hne:=GW hN
  unfold Ey at hpt hne
  unfold rh lA
  rw [Cw,decide_eq_true hl,Bool.not_true,aA,aA,hN.odd,hY.bytes,hok,hz]
  generalize F34 (F20 (F18 (F20 (F23 b) (F23 b)) (F30 1)) (F25 (F16 (F20 (F20 (F23 b) (F23 b)) (cG)) (F30 1))))=Rt at *
  generalize tA (Fin.ofNat P (N % 2 ^ 255))=xx at *
  by_cases c:N % 2 ^ 255<P
  ·obtain ⟨c1,c2⟩:=hlook.2 c
   rw [c1,c2,Bool.not_true,aA,aA,aA,aA]
   by_cases c3:rtF xx*rtF xx=xx
   ·rw [decide_eq_true c3,Bool.not_true,aA,aA]
    by_cases c4:rtF xx=0∧N/2 ^ 255=1
    ·refine .inr ⟨?_,hne (fun h=>h.2.2 c4)⟩
     rw [decide_eq_true c4.1,decide_eq_true c4.2]
     rfl
    ·obtain ⟨p,p1,p2,p3⟩:=hpt ⟨c,c3,c4⟩
     have e1:∀ {α:Type} (x y:α),sel (decide (rtF xx=0)) (sel (decide (N/2 ^ 255=1)) x y) y=y:=by
      intro α x y
      by_cases d1:rtF xx=0
      ·by_cases d2:N/2 ^ 255=1
       ·exact absurd ⟨d1,d2⟩ c4
       ·rw [decide_eq_false d2,aA];cases decide (rtF xx=0) <;> rfl
      ·rw [decide_eq_false d1,aA]
     rw [e1,e1]
     refine .inl ⟨rfl,p,?_,?_⟩
     ·rw [hN.eq,← p1];rfl
     ·have hT:=fu hX hY
      rw [Is hX.len hY.len ud.len hT.len]
      exact ⟨_,_,_,_,_,_,_,_,rfl,hX,hY,ud,hT,⟨gF,by rw [p3];exact oX _,by rw [p2];exact oX _,by rw [p3,p2];exact oX _⟩⟩
   ·refine .inr ⟨?_,hne (fun h=>c3 h.2.1)⟩
    rw [decide_eq_false c3]
    rfl
  ·refine .inr ⟨?_,hne (fun h=>c h.1)⟩
   have h3:¬ _:=fun h=>c (hlook.1 h)
   generalize (((iOr .u8 ((bg 256 32 ((Fin.ofNat P (N % 2 ^ 255)).val:Int)).getD 31 0) (aG .u8 (b.getD 31 0) 128)):Int) != b.getD 31 0)=x1 at *
   generalize aR (bytesOf (((bg 256 32 ((Fin.ofNat P (N % 2 ^ 255)).val:Int)).drop 0).take 31)) (bytesOf ((b.drop 0).take 31))=x2 at *
   cases x1
   ·cases x2
    ·rfl
    ·exact absurd ⟨rfl,rfl⟩ h3
   ·rfl
 ·refine .inr ⟨?_,fun p e=>hl (by rw [e];exact dU p)⟩
  unfold lA
  rw [Cw,decide_eq_false hl]
  rfl
theorem JS {b:List Int} (hb:Dig 256 b):Reads (iN b) b (fun p=>PR p (mV b)):=by
 by_cases hl:b.length=32
 ·obtain ⟨N,hN⟩:=fO hb hl
  have hlook:=Oe hN hb hl
  have hY:RF (F24 b) (Fin.ofNat P (N % 2 ^ 255)):=(LK hb hl).to hN.y
  have hh:=qP hN.lt
  obtain ⟨hR,hok⟩:=Jy (Pi hY)
  have hX:=Se hR hh
  have hz:=hR.beq pj
  have hpt:=An (rt:=rtF) hN.lt
  have hne:=GW hN
  have hlen:((((b.length:Nat):Int):Int) != 32)=false:=by rw [hl];rfl
  unfold Ey at hpt hne
  rw [hN.odd] at hlook
  unfold mV iN
  rw [hlen,aA,aA,hN.odd,hY.bytes,hok]
  have e43:au 0=F31 0:=rfl
  rw [e43,hz]
  generalize F35 (aI (cl (aI (F24 b) (F24 b)) (au 1)) (F28 (dh (aI (de) (aI (F24 b) (F24 b))) (au 1))))=Rt at *
  generalize tA (Fin.ofNat P (N % 2 ^ 255))=xx at *
  by_cases c:N % 2 ^ 255<P
  ·rw [hlook.2 c,Bool.not_true,aA,aA]
   by_cases c3:rtF xx*rtF xx=xx
   ·rw [decide_eq_true c3,Bool.not_true,aA,aA]
    by_cases c4:rtF xx=0∧N/2 ^ 255=1
    ·refine .inr ⟨?_,hne (fun h=>h.2.2 c4)⟩
     rw [decide_eq_true c4.1,decide_eq_true c4.2]
     rfl
    ·obtain ⟨p,p1,p2,p3⟩:=hpt ⟨c,c3,c4⟩
     have e1:∀ {α:Type} (x y:α),sel (decide (rtF xx=0)) (sel (decide (N/2 ^ 255=1)) x y) y=y:=by
      intro α x y
      by_cases d1:rtF xx=0
      ·by_cases d2:N/2 ^ 255=1
       ·exact absurd ⟨d1,d2⟩ c4
       ·rw [decide_eq_false d2,aA];cases decide (rtF xx=0) <;> rfl
      ·rw [decide_eq_false d1,aA]
     rw [e1,e1]
     refine .inl ⟨rfl,p,?_,?_⟩
     ·rw [hN.eq,← p1];rfl
     ·unfold cl au
      rw [JI hX.len hY.len vz.len]
      exact ⟨_,_,_,_,_,_,rfl,hX,hY,vz,⟨gF,by rw [p3];exact oX _,by rw [p2];exact oX _⟩⟩
   ·refine .inr ⟨?_,hne (fun h=>c3 h.2.1)⟩
    rw [decide_eq_false c3]
    rfl
  ·refine .inr ⟨?_,hne (fun h=>c h.1)⟩
   have h3:¬ _:=fun h=>c (hlook.1 h)
   rw [Bool.not_eq_true] at h3
   rw [h3]
   rfl
 ·refine .inr ⟨?_,fun p e=>hl (by rw [e];exact dU p)⟩
  have hlen:((((b.length:Nat):Int):Int) != 32)=true:=by simp;omega
  unfold iN
  rw [hlen]
  rfl
end Go.Vm
namespace Go.Vm
open Go Tabn
structure Sc4 (s:List Int) (V:Nat):Prop where
 ex:∃ a b c d:Int,s=[a,b,c,d]∧(0≤a∧a<18446744073709551616)∧(0≤b∧b<18446744073709551616)∧(0≤c∧c<18446744073709551616)∧(0≤d∧d<18446744073709551616) ∧
  a+18446744073709551616*b+340282366920938463463374607431768211456*c+6277101735386680763835789423207666416102355444464034512896*d=(V:Int)
theorem sp:L=7237005577332262213973186563042994240857116359379907606001950938285454250989:=rfl
theorem Sc4.zero:Sc4 [0,0,0,0] 0:=⟨0,0,0,0,rfl,by decide,by decide,by decide,by decide,by decide⟩
theorem Sc4.order:Sc4 ((Bb.drop 0).take 4) L:=⟨6346243789798364141,1503914060200516822,0,1152921504606846976,rfl,by decide,by decide,by decide,by decide,by rw [sp];decide⟩
theorem jn {x y c:Int} (hx:0≤x∧x<18446744073709551616) (hy:0≤y∧y<18446744073709551616) (hc:0≤c∧c≤1):hF x y c=x-y-c+18446744073709551616*dF x y c:=by
 unfold hF dF
 split <;> omega
theorem Kd {a b:List Int} {V W:Nat} (ha:Sc4 a V) (hb:Sc4 b W):AN a b=decide (V<W):=by
 obtain ⟨a0,a1,a2,a3,rfl,h0,h1,h2,h3,hV⟩:=ha
 obtain ⟨b0,b1,b2,b3,rfl,k0,k1,k2,k3,hW⟩:=hb
 have e:AN [a0,a1,a2,a3] [b0,b1,b2,b3]=((dF a3 b3 (dF a2 b2 (dF a1 b1 (dF a0 b0 0))):Int)==1):=by kernel_rfl
 rw [e]
 have r0:=gU a0 b0 0
 have s0:=gR a0 b0 0
 have q0:=jn h0 k0 (show (0:Int)≤0∧(0:Int)≤1 by decide)
 generalize dF a0 b0 0=c0 at *
 generalize hF a0 b0 0=d0 at *
 have r1:=gU a1 b1 c0
 have s1:=gR a1 b1 c0
 have q1:=jn h1 k1 r0
 generalize dF a1 b1 c0=c1 at *
 generalize hF a1 b1 c0=d1 at *
 have r2:=gU a2 b2 c1
 have s2:=gR a2 b2 c1
 have q2:=jn h2 k2 r1
 generalize dF a2 b2 c1=c2 at *
 generalize hF a2 b2 c1=d2 at *
 have r3:=gU a3 b3 c2
 have s3:=gR a3 b3 c2
 have q3:=jn h3 k3 r2
 generalize dF a3 b3 c2=c3 at *
 generalize hF a3 b3 c2=d3 at *
 by_cases h:V<W
 ·have:c3=1:=by omega
  rw [this,decide_eq_true h];rfl
 ·have:c3=0:=by omega
  rw [this,decide_eq_false h];rfl
theorem Lw {s c:Int} (hs:0≤s∧s<18446744073709551616) (hc:0≤c∧c≤1):iOr .u64 (cv .u64 s 1) c=s % 9223372036854775808*2+c:=by
 have e1:cv .u64 s 1=s % 9223372036854775808*2 ^ 1:=by
  have:=oK .u64 s 1 (by decide)
  rw [show ((1:Nat):Int)=1 from rfl] at this
  rw [this,gN]
  show s*2 % 18446744073709551616=s % 9223372036854775808*2
  omega
 rw [e1,Dh _ c 1 (by omega) hc.1 (by show c<2;omega) (by show s % 9223372036854775808*2+c<_;omega)]
 rfl
theorem HO {s:Int} (hs:0≤s∧s<18446744073709551616):aH .u64 s 63=s/9223372036854775808:=gZ .u64 s 63 (by decide)
theorem EG {s:List Int} {V b:Nat} (h:Sc4 s V) (hV:V<L) (hb:b<2):Sc4 (oT s (b:Int)) ((2*V+b) % L):=by
 obtain ⟨a0,a1,a2,a3,rfl,h0,h1,h2,h3,hN⟩:=h
 have e0:(itr (gW) 4 ((b:Int),[a0,a1,a2,a3])).2=[iOr .u64 (cv .u64 a0 1) (b:Int),iOr .u64 (cv .u64 a1 1) (aH .u64 a0 63),iOr .u64 (cv .u64 a2 1) (aH .u64 a1 63),iOr .u64 (cv .u64 a3 1) (aH .u64 a2 63)]:=by kernel_rfl
 unfold oT
 rw [e0,HO h0,HO h1,HO h2,Lw h0 (by omega),Lw h1 (by omega),Lw h2 (by omega),Lw h3 (by omega)]
 rw [sp] at hV
 have g0:0≤a0 % 9223372036854775808*2+(b:Int)∧a0 % 9223372036854775808*2+(b:Int)<18446744073709551616:=by omega
 have g1:0≤a1 % 9223372036854775808*2+a0/9223372036854775808∧a1 % 9223372036854775808*2+a0/9223372036854775808<18446744073709551616:=by omega
 have g2:0≤a2 % 9223372036854775808*2+a1/9223372036854775808∧a2 % 9223372036854775808*2+a1/9223372036854775808<18446744073709551616:=by omega
 have g3:0≤a3 % 9223372036854775808*2+a2/9223372036854775808∧a3 % 9223372036854775808*2+a2/9223372036854775808<18446744073709551616:=by omega
 have hT:(a0 % 9223372036854775808*2+(b:Int))+18446744073709551616*(a1 % 9223372036854775808*2+a0/9223372036854775808)+340282366920938463463374607431768211456*(a2 % 9223372036854775808*2+a1/9223372036854775808)+6277101735386680763835789423207666416102355444464034512896*(a3 % 9223372036854775808*2+a2/9223372036854775808)=((2*V+b:Nat):Int):=by omega
 generalize a0 % 9223372036854775808*2+(b:Int)=t0 at *
 generalize a1 % 9223372036854775808*2+a0/9223372036854775808=t1 at *
 generalize a2 % 9223372036854775808*2+a1/9223372036854775808=t2 at *
 generalize a3 % 9223372036854775808*2+a2/9223372036854775808=t3 at *
 have hS:Sc4 [t0,t1,t2,t3] (2*V+b):=⟨t0,t1,t2,t3,rfl,g0,g1,g2,g3,hT⟩
 rw [Kd hS Sc4.order]
 by_cases hlt:2*V+b<L
 ·rw [decide_eq_true hlt,Bool.not_true,aA,Nat.mod_eq_of_lt hlt]
  exact hS
 ·rw [decide_eq_false hlt,Bool.not_false,aB]
  have em:(2*V+b) % L=2*V+b-L:=by
   rw [Nat.mod_eq_sub_mod (by omega),Nat.mod_eq_of_lt]
   rw [sp] at *
   omega
  rw [em]
  rw [sp] at hlt ⊢
  have e1:(itr (pC) 4 (0,[t0,t1,t2,t3])).2=[hF t0 6346243789798364141 0,hF t1 1503914060200516822 (dF t0 6346243789798364141 0),hF t2 0 (dF t1 1503914060200516822 (dF t0 6346243789798364141 0)),hF t3 1152921504606846976 (dF t2 0 (dF t1 1503914060200516822 (dF t0 6346243789798364141 0)))]:=by kernel_rfl
  rw [e1]
  have r0:=gU t0 6346243789798364141 0
  have s0:=gR t0 6346243789798364141 0
  have q0:=jn g0 (show (0:Int)≤6346243789798364141∧(6346243789798364141:Int)<18446744073709551616 by decide) (show (0:Int)≤0∧(0:Int)≤1 by decide)
  generalize dF t0 6346243789798364141 0=c0 at *
  generalize hF t0 6346243789798364141 0=d0 at *
  have r1:=gU t1 1503914060200516822 c0
  have s1:=gR t1 1503914060200516822 c0
  have q1:=jn g1 (show (0:Int)≤1503914060200516822∧(1503914060200516822:Int)<18446744073709551616 by decide) r0
  generalize dF t1 1503914060200516822 c0=c1 at *
  generalize hF t1 1503914060200516822 c0=d1 at *
  have r2:=gU t2 0 c1
  have s2:=gR t2 0 c1
  have q2:=jn g2 (show (0:Int)≤0∧(0:Int)<18446744073709551616 by decide) r1
  generalize dF t2 0 c1=c2 at *
  generalize hF t2 0 c1=d2 at *
  have r3:=gU t3 1152921504606846976 c2
  have s3:=gR t3 1152921504606846976 c2
  have q3:=jn g3 (show (0:Int)≤1152921504606846976∧(1152921504606846976:Int)<18446744073709551616 by decide) r2
  generalize dF t3 1152921504606846976 c2=c3 at *
  generalize hF t3 1152921504606846976 c2=d3 at *
  exact ⟨d0,d1,d2,d3,rfl,s0,s1,s2,s3,by omega⟩
theorem vF:0<L:=by decide
theorem zb (M b:Nat):(2*(M % L)+b) % L=(2*M+b) % L:=by
 rw [Nat.add_mod,Nat.mul_mod,Nat.mod_mod,← Nat.mul_mod,← Nat.add_mod]
theorem vW {b:List Int} (hb:Dig 256 b) {N:Nat} (hN:num 256 b=(N:Int)):Sc4 (qg b) (N % L):=by
 have hlt:N<2 ^ (8*b.length):=by
  obtain ⟨M,h1,h2⟩:=mm hb
  rw [h1] at hN
  have:=Int.ofNat.inj hN
  omega
 have key:∀ k,k≤8*b.length→Sc4 (itr (ow b) k [0,0,0,0]) ((N/2 ^ (8*b.length-k)) % L):=by
  intro k
  induction k with
  |zero =>
   intro _
   rw [aX,Nat.sub_zero,Nat.div_eq_of_lt hlt]
   exact Sc4.zero
  |succ k ih =>
   intro hk'
   have ih:=ih (by omega)
   rw [aQ,oQ N (8*b.length) k (by omega),← zb]
   generalize itr (ow b) k _=z at *
   unfold ow
   rw [qQ hb hN (8*b.length-1-k)]
   have hw:IntKind.wrap .u64 ((N/2 ^ (8*b.length-1-k) % 2:Nat):Int)=((N/2 ^ (8*b.length-1-k) % 2:Nat):Int):=by
    rw [gN];omega
   rw [hw]
   exact EG ih (Nat.mod_lt _ vF) (Nat.mod_lt _ (by decide))
 have:=key (8*b.length) (Nat.le_refl _)
 rw [Nat.sub_self,Nat.pow_zero,Nat.div_one] at this
 exact this
theorem kZ (B:Int):∀ (xs ys:List Int),num B (xs++ys)=num B xs+B ^ xs.length*num B ys
 |[],ys=>by show num B ys=0+B ^ 0*num B ys;rw [Int.pow_zero];omega
 |x :: xs,ys=>by
  show x+B*num B (xs++ys)=x+B*num B xs+B ^ (xs.length+1)*num B ys
  rw [kZ B xs ys,Int.mul_add,Int.pow_succ,Int.mul_comm (B ^ xs.length) B,Int.mul_assoc,Int.add_assoc]
theorem Kq {a:Int} (ha:0≤a∧a<18446744073709551616) {k:Nat} (hk:k<8):IntKind.wrap .u8 (aH .u64 a ((8*k:Nat):Int))=a/256 ^ k % 256:=by
 rw [gZ .u64 a (8*k) (by show 8*k≤64;omega),dc,Int.pow_mul]
 rfl
theorem mY {p0:List Int} {j:Nat} (h:0≤p0.getD j 0∧p0.getD j 0<18446744073709551616) (z:Nat × List Int):∀ k,k≤8→(itr (iC p0 j) k z).2=z.2++bg 256 k (p0.getD j 0):=by
 intro k
 induction k with
 |zero=>intro _;rw [aX];exact (List.append_nil _).symm
 |succ k ih =>
  intro hk
  rw [aQ]
  show (itr (iC p0 j) k z).2++[_]=_
  rw [ih (by omega),lY (by decide) k 1,List.append_assoc,Kq h (by omega)]
  rfl
theorem xu {s:List Int} {V:Nat} (h:Sc4 s V):rQ s=bg 256 32 (V:Int):=by
 obtain ⟨a,b,c,d,rfl,h0,h1,h2,h3,hV⟩:=h
 have w:∀ j,0≤[a,b,c,d].getD j 0∧[a,b,c,d].getD j 0<18446744073709551616:=by
  intro j
  match j with
  |0=>exact h0
  |1=>exact h1
  |2=>exact h2
  |3=>exact h3
  |j+4=>exact ⟨Int.le_refl 0,(show (0:Int)<18446744073709551616 by decide)⟩
 have e:rQ [a,b,c,d]=bg 256 8 a++(bg 256 8 b++(bg 256 8 c++bg 256 8 d)):=by
  unfold rQ
  rw [aQ,aQ,aQ,aQ,aX]
  show (itr (iC _ 3) 8 _).2=_
  rw [mY (w 3) _ 8 (by decide)]
  show (itr (iC _ 2) 8 _).2++_=_
  rw [mY (w 2) _ 8 (by decide)]
  show (itr (iC _ 1) 8 _).2++_++_=_
  rw [mY (w 1) _ 8 (by decide)]
  show (itr (iC _ 0) 8 _).2++_++_++_=_
  rw [mY (w 0) _ 8 (by decide)]
  show []++bg 256 8 a++bg 256 8 b++bg 256 8 c++bg 256 8 d=_
  rw [List.nil_append,List.append_assoc,List.append_assoc]
 rw [e]
 have n8:∀ x:Int,(0≤x∧x<18446744073709551616)→num 256 (bg 256 8 x)=x:=fun x hx=>by
  rw [gG (by decide)];exact Int.emod_eq_of_lt hx.1 hx.2
 refine lP (by decide) ?_ ?_ ?_
 ·intro x hx
  simp only [List.mem_append] at hx
  rcases hx with hx|hx|hx|hx <;> exact dd (by decide) _ _ x hx
 ·simp only [List.length_append,aw]
 ·have p:(256:Int) ^ 8=18446744073709551616:=rfl
  rw [kZ,kZ,kZ,n8 a h0,n8 b h1,n8 c h2,n8 d h3,aw,aw,aw,p]
  omega
theorem qm {x y c:Int} (hx:0≤x∧x<18446744073709551616) (hy:0≤y∧y<18446744073709551616) (hc:0≤c∧c≤1):dJ x y c=x+y+c-18446744073709551616*cT x y c:=by
 unfold dJ cT
 omega
theorem Mg {V:Nat} (hV:V<2 ^ 256):num 256 (bg 256 32 (V:Int))=(V:Int):=oI (nnn V) (DB hV)
theorem Ie {s t:List Int} {V W:Nat} (hs:Sc4 s V) (ht:Sc4 t W) (hV:V<L) (hW:W<L):Sc4 (uv s t) ((V+W) % L):=by
 obtain ⟨a0,a1,a2,a3,rfl,h0,h1,h2,h3,hN⟩:=hs
 obtain ⟨b0,b1,b2,b3,rfl,k0,k1,k2,k3,hM⟩:=ht
 have e0:(itr (rI [b0,b1,b2,b3]) 4 (0,[a0,a1,a2,a3])).2=[dJ a0 b0 0,dJ a1 b1 (cT a0 b0 0),dJ a2 b2 (cT a1 b1 (cT a0 b0 0)),dJ a3 b3 (cT a2 b2 (cT a1 b1 (cT a0 b0 0)))]:=by kernel_rfl
 have hS:Sc4 (itr (rI [b0,b1,b2,b3]) 4 (0,[a0,a1,a2,a3])).2 (V+W):=by
  rw [e0]
  rw [sp] at hV hW
  have r0:=lu h0 k0 (show (0:Int)≤0∧(0:Int)≤1 by decide)
  have s0:=jQ a0 b0 0
  have q0:=qm h0 k0 (show (0:Int)≤0∧(0:Int)≤1 by decide)
  generalize cT a0 b0 0=c0 at *
  generalize dJ a0 b0 0=d0 at *
  have r1:=lu h1 k1 r0
  have s1:=jQ a1 b1 c0
  have q1:=qm h1 k1 r0
  generalize cT a1 b1 c0=c1 at *
  generalize dJ a1 b1 c0=d1 at *
  have r2:=lu h2 k2 r1
  have s2:=jQ a2 b2 c1
  have q2:=qm h2 k2 r1
  generalize cT a2 b2 c1=c2 at *
  generalize dJ a2 b2 c1=d2 at *
  have r3:=lu h3 k3 r2
  have s3:=jQ a3 b3 c2
  have q3:=qm h3 k3 r2
  generalize cT a3 b3 c2=c3 at *
  generalize dJ a3 b3 c2=d3 at *
  exact ⟨d0,d1,d2,d3,rfl,s0,s1,s2,s3,by omega⟩
 have hlt:V+W<2 ^ 256:=by
  have h256:(2:Nat) ^ 256=115792089237316195423570985008687907853269984665640564039457584007913129639936:=rfl
  rw [sp] at hV hW
  rw [h256];omega
 unfold uv
 rw [xu hS,ah (aw _ _ _)]
 exact vW (dd (by decide) _ _) (Mg hlt)
theorem Sc4.dig {s:List Int} {V:Nat} (h:Sc4 s V):Dig (2 ^ 64) s∧num (2 ^ 64) s=(V:Int)∧V<2 ^ 256:=by
 obtain ⟨a,b,c,d,rfl,h0,h1,h2,h3,hV⟩:=h
 have p:(2:Int) ^ 64=18446744073709551616:=rfl
 have h256:(2:Nat) ^ 256=115792089237316195423570985008687907853269984665640564039457584007913129639936:=rfl
 rw [p,h256]
 refine ⟨?_,?_,by omega⟩
 ·intro x hx
  simp only [List.mem_cons,List.not_mem_nil,or_false] at hx
  rcases hx with rfl|rfl|rfl|rfl
  ·exact h0
  ·exact h1
  ·exact h2
  ·exact h3
 ·show a+18446744073709551616*(b+18446744073709551616*(c+18446744073709551616*(d+18446744073709551616*0)))=(V:Int)
  omega
theorem Jl {s:List Int} {V:Nat} (h:Sc4 s V) (k:Nat):aG .u64 (aH .u64 (s.getD (k/64) 0) ((k % 64:Nat):Int)) 1=((V/2 ^ k % 2:Nat):Int):=by
 obtain ⟨h1,h2,h3⟩:=h.dig
 have hd:=bD (B:=2 ^ 64) (by decide) h1 (i:=k/64)
 rw [uZ fA (by decide) (show k % 64≤64 by omega) hd,kW (m:=64) (by decide) h1 k,h2]
 rw [Int.natCast_emod,Int.natCast_ediv,Int.natCast_pow]
 rfl
theorem RC {s t:List Int} {V W:Nat} (hs:Sc4 s V) (ht:Sc4 t W) (hV:V<L):Sc4 (Ih s t) ((W*V) % L):=by
 have hlt:=ht.dig.2.2
 have key:∀ k,k≤256→Sc4 (itr (pM s t) k [0,0,0,0]) ((W/2 ^ (256-k)*V) % L):=by
  intro k
  induction k with
  |zero =>
   intro _
   rw [aX,Nat.sub_zero,Nat.div_eq_of_lt hlt,Nat.zero_mul]
   exact Sc4.zero
  |succ k ih =>
   intro hk'
   have ih:=ih (by omega)
   rw [aQ,oQ W 256 k (by omega)]
   generalize itr (pM s t) k _=z at *
   unfold pM
   rw [yE (Jl ht (256-1-k))]
   have h2:=EG ih (Nat.mod_lt _ vF) (show 0<2 by decide)
   rw [Nat.add_zero] at h2
   have e2:2*(W/2 ^ (256-k)*V % L) % L=2*(W/2 ^ (256-k)*V) % L:=by rw [Nat.mul_mod,Nat.mod_mod,← Nat.mul_mod]
   rw [e2] at h2
   rcases Nat.mod_two_eq_zero_or_one (W/2 ^ (256-1-k)) with h|h
   ·rw [h,decide_eq_false (by decide),aA,Nat.add_zero,Nat.mul_assoc]
    exact h2
   ·rw [h,decide_eq_true rfl,aB,Nat.add_mul,Nat.one_mul,Nat.mul_assoc]
    have h3:=Ie h2 hs (Nat.mod_lt _ vF) hV
    rw [Nat.mod_add_mod] at h3
    exact h3
 have:=key 256 (Nat.le_refl _)
 rw [Nat.sub_self,Nat.pow_zero,Nat.div_one] at this
 exact this
end Go.Vm
namespace Go.Vm
open Go Tabn
theorem Og {f:Nat→Int × List Int→Int × List Int} {W:Nat→Int} {sg:Int} {p:List Int} {n:Nat} {C:Int→Prop} (hn:p.length=n)
  (hf:∀ k c d,k<n→d.length=n→d.getD k 0=p.getD k 0→C c→∃ c' r,f k (c,d)=(c',d.set k r)∧(0≤r∧r<256)∧C c'∧r+256*(sg*c')=W k+sg*c) {c0:Int} (h0:C c0) :
  ∀ j,j≤n→∃ c d,itr f j (c0,p)=(c,d)∧d.length=n∧C c∧(∀ i,i<j→0≤d.getD i 0∧d.getD i 0<256)∧(∀ i,j≤i→d.getD i 0=p.getD i 0)∧num 256 (d.take j)+256 ^ j*(sg*c)=su 256 W j+sg*c0:=by
 intro j
 induction j with
 |zero =>
  intro _
  rw [aX]
  refine ⟨c0,p,rfl,hn,h0,fun i hi=>absurd hi (by omega),fun _ _=>rfl,?_⟩
  rw [List.take_zero,Int.pow_zero]
  show 0+1*(sg*c0)=0+sg*c0
  omega
 |succ j ih =>
  intro hj
  obtain ⟨c,d,e,hl,hc,hd,hp,hv⟩:=ih (by omega)
  rw [aQ,e]
  obtain ⟨c',r,e1,hr,hc',hw⟩:=hf j c d (by omega) hl (hp j (Nat.le_refl _)) hc
  refine ⟨c',d.set j r,e1,by rw [List.length_set,hl],hc',?_,?_,?_⟩
  ·intro i hi
   by_cases hij:i=j
   ·subst hij;rw [bz (by omega)];exact hr
   ·rw [bN (by omega)];exact hd i (by omega)
  ·intro i hi
   rw [bN (by omega)];exact hp i (by omega)
  ·rw [dN,nn,bz (by omega),jA,Int.pow_succ]
   generalize (256:Int) ^ j=X at *
   generalize num 256 (d.take j)=a at *
   generalize su 256 W j=b at *
   generalize sg*c'=y at *
   generalize sg*c=x at *
   generalize sg*c0=x0 at *
   generalize W j=w at *
   have e2:a=b+x0-X*x:=by omega
   have e3:w=r+256*y-x:=by omega
   rw [e2,e3]
   grind -lia -linarith
theorem sB {f:Nat→Int × List Int→Int × List Int} {W:Nat→Int} {sg:Int} {p:List Int} {n:Nat} {C:Int→Prop} (hn:p.length=n)
  (hf:∀ k c d,k<n→d.length=n→d.getD k 0=p.getD k 0→C c→∃ c' r,f k (c,d)=(c',d.set k r)∧(0≤r∧r<256)∧C c'∧r+256*(sg*c')=W k+sg*c) {c0:Int} (h0:C c0) :
  ∃ c d,itr f n (c0,p)=(c,d)∧d.length=n∧C c∧Dig 256 d∧num 256 d+256 ^ n*(sg*c)=su 256 W n+sg*c0:=by
 obtain ⟨c,d,e,hl,hc,hd,_,hv⟩:=Og (sg:=sg) hn hf h0 n (Nat.le_refl _)
 refine ⟨c,d,e,hl,hc,nC (fun i hi=>hd i (by omega)),?_⟩
 rw [List.take_of_length_le (by omega)] at hv
 exact hv
theorem NF:(256:Int) ^ 33=29642774844752946028434172162224104410437116074403984394101141506025761187823616:=rfl
theorem QO {r:List Int} {V b:Nat} (hd:Dig 256 r) (hl:r.length=33) (hV:num 256 r=(V:Int)) (hlt:V<L) (hb:b<2) :
  ∃ d,itr cN 33 ((b:Int),r)=(0,d)∧d.length=33∧Dig 256 d∧num 256 d=((2*V+b:Nat):Int):=by
 obtain ⟨c,d,e,h1,h2,h3,h4⟩:=sB (f:=cN) (W:=fun k=>2*r.getD k 0) (sg:=1) (p:=r) (n:=33) (C:=fun c=>0≤c∧c≤1) hl (by
  intro k c d hk hld hg hc
  refine ⟨ic .i64 (aE .i64 (bE .i64 2 (d.getD k 0)) c) 256,bm (aE .i64 (bE .i64 2 (d.getD k 0)) c) 256,rfl,?_⟩
  rw [hg]
  have hr:0≤r.getD k 0∧r.getD k 0<256:=bD (by decide) hd
  generalize r.getD k 0=x at *
  have e1:bE .i64 2 x=2*x:=by unfold bE;exact bh (by omega) (by omega)
  have e2:aE .i64 (2*x) c=2*x+c:=cK (by omega) (by omega)
  have e3:ic .i64 (2*x+c) 256=(2*x+c)/256:=by
   unfold ic
   rw [Int.tdiv_eq_ediv_of_nonneg (by omega),bh (by omega) (by omega)]
  have e4:bm (2*x+c) 256=(2*x+c) % 256:=by
   unfold bm
   rw [Int.tmod_eq_emod_of_nonneg (by omega)]
  rw [e1,e2,e3,e4]
  omega) (c0:=(b:Int)) (by omega)
 have e5:su 256 (fun k=>2*r.getD k 0) 33=2*(V:Int):=by rw [sD,jp hl,hV]
 rw [e5,NF] at h4
 rw [sp] at hlt
 have hb1:=jT (B:=256) (by decide) h3
 have hc:c=0:=by omega
 subst hc
 exact ⟨d,e,h1,h3,by omega⟩
def ry:List Int:=[237,211,245,92,26,99,18,88,214,156,247,162,222,249,222,20,0,0,0,0,0,0,0,0,0,0,0,0,0,0,0,16]
theorem za:num 256 ry=(L:Int):=by kernel_rfl
theorem uo:Dig 256 ry:=by unfold Dig ry;decide
theorem Ah:ry.length=32:=rfl
def ti (r:List Int) (k3:Nat) (z3:Int × List Int):Int × List Int :=
 ((sel (decide (((sel (decide ((((k3:Nat):Int):Int)<32)) (aZ .i64 (aZ .i64 (r.getD k3 0) z3.1) (IntKind.wrap .i64 (ry.getD k3 0))) (aZ .i64 (r.getD k3 0) z3.1)):Int)<0)) 1 0),z3.2.set k3 (sel (decide (((sel (decide ((((k3:Nat):Int):Int)<32)) (aZ .i64 (aZ .i64 (r.getD k3 0) z3.1) (IntKind.wrap .i64 (ry.getD k3 0))) (aZ .i64 (r.getD k3 0) z3.1)):Int)<0)) (aE .i64 (sel (decide ((((k3:Nat):Int):Int)<32)) (aZ .i64 (aZ .i64 (r.getD k3 0) z3.1) (IntKind.wrap .i64 (ry.getD k3 0))) (aZ .i64 (r.getD k3 0) z3.1)) 256) (sel (decide ((((k3:Nat):Int):Int)<32)) (aZ .i64 (aZ .i64 (r.getD k3 0) z3.1) (IntKind.wrap .i64 (ry.getD k3 0))) (aZ .i64 (r.getD k3 0) z3.1))))
theorem OT {r:List Int} {T:Nat} (hd:Dig 256 r) (hl:r.length=33) (hT:num 256 r=(T:Int)) :
  ∃ c d,itr (ti r) 33 (0,List.replicate 33 0)=(c,d)∧d.length=33∧(c=0∨c=1)∧Dig 256 d∧num 256 d-256 ^ 33*c=(T:Int)-(L:Int):=by
 obtain ⟨c,d,e,h1,h2,h3,h4⟩:=sB (f:=ti r) (W:=fun k=>r.getD k 0 + -1*(ry++[0]).getD k 0) (sg:=-1) (p:=List.replicate 33 0) (n:=33) (C:=fun c=>0≤c∧c≤1) (by simp) (by
  intro k c d hk hld hg hc
  have hr:0≤r.getD k 0∧r.getD k 0<256:=bD (by decide) hd
  have hx:(sel (decide ((((k:Nat):Int):Int)<32)) (aZ .i64 (aZ .i64 (r.getD k 0) c) (IntKind.wrap .i64 (ry.getD k 0))) (aZ .i64 (r.getD k 0) c))=r.getD k 0-c-(ry++[0]).getD k 0∧0≤(ry++[0]).getD k 0∧(ry++[0]).getD k 0<256:=by
   have e1:aZ .i64 (r.getD k 0) c=r.getD k 0-c:=fI (by omega) (by omega)
   rw [e1]
   by_cases h:k<32
   ·have ho:0≤ry.getD k 0∧ry.getD k 0<256:=bD (by decide) uo
    have eo:(ry++[0]).getD k 0=ry.getD k 0:=by
     rw [List.getD_eq_getElem?_getD,List.getElem?_append_left (by rw [Ah];exact h),← List.getD_eq_getElem?_getD]
    rw [decide_eq_true (by omega),aB,eo,gh ho]
    exact ⟨fI (by omega) (by omega),ho⟩
   ·have hk2:k=32:=by omega
    subst hk2
    rw [decide_eq_false (by decide),aA]
    have eo:(ry++[0]).getD 32 0=0:=rfl
    rw [eo]
    omega
  unfold ti
  simp only
  rw [hx.1]
  obtain ⟨_,ho⟩:=hx
  generalize (ry++[0]).getD k 0=o at *
  generalize r.getD k 0=x at *
  by_cases hn:x-c-o<0
  ·rw [decide_eq_true hn,aB,aB]
   have e2:aE .i64 (x-c-o) 256=x-c-o+256:=cK (by omega) (by omega)
   rw [e2]
   exact ⟨1,_,rfl,by omega,by omega,by omega⟩
  ·rw [decide_eq_false hn,aA,aA]
   exact ⟨0,_,rfl,by omega,by omega,by omega⟩) (c0:=0) (by decide)
 have e5:su 256 (fun k=>r.getD k 0 + -1*(ry++[0]).getD k 0) 33=(T:Int)-(L:Int):=by
  rw [rY,sD,jp hl,jp (xs:=ry++[0]) (n:=33) rfl,hT,kZ,za]
  show (T:Int) + -1*((L:Int)+_*(0+256*0))=_
  omega
 rw [e5] at h4
 refine ⟨c,d,e,h1,by omega,h3,?_⟩
 generalize (256:Int) ^ 33=X at *
 have:X*(-1*c) = -(X*c):=by rw [Int.neg_mul,Int.one_mul,Int.mul_neg]
 omega
theorem OK {b:List Int} (hb:Dig 256 b) {N:Nat} (hN:num 256 b=(N:Int)) {i k1:Nat} (hk:k1<8) :
  bm (aH .i64 (IntKind.wrap .i64 (b.getD i 0)) (((8:Nat):Int)-1-((k1:Nat):Int))) 2=((N/2 ^ (8*i+(7-k1)) % 2:Nat):Int):=by
 have hd:=bD (B:=256) (by decide) hb (i:=i)
 have e1:((8:Nat):Int)-1-((k1:Nat):Int)=((7-k1:Nat):Int):=by omega
 rw [gh hd,e1,gZ .i64 _ (7-k1) (by show 7-k1≤64;omega)]
 have h2:=kW (m:=8) (by decide) hb (8*i+(7-k1))
 rw [show (8*i+(7-k1))/8=i by omega,show (8*i+(7-k1)) % 8=7-k1 by omega] at h2
 unfold bm
 have hp:=mZ (7-k1)
 rw [Int.tmod_eq_emod_of_nonneg (Int.ediv_nonneg hd.1 (Int.le_of_lt hp)),h2]
 show num 256 b/2 ^ (8*i+(7-k1)) % 2=_
 rw [hN,Int.natCast_emod,Int.natCast_ediv,Int.natCast_pow]
 rfl
def Bf (z:Nat × List Int) (V:Nat):Prop:=z.1=33∧z.2.length=33∧Dig 256 z.2∧num 256 z.2=(V:Int)∧V<L
theorem RU {b:List Int} (hb:Dig 256 b) {N:Nat} (hN:num 256 b=(N:Int)) {k0 k1:Nat} (hk:k1<8) {z:Nat × List Int} {V:Nat} (hz:Bf z V) :
  Bf (kq b k0 k1 z) ((2*V+N/2 ^ (8*(b.length-1-k0)+(7-k1)) % 2) % L):=by
 obtain ⟨z1,z2,z3,z4,z5⟩:=hz
 have hb2:N/2 ^ (8*(b.length-1-k0)+(7-k1)) % 2<2:=Nat.mod_lt _ (by decide)
 obtain ⟨d,e,d1,d2,d3⟩:=QO z3 z2 z4 z5 hb2
 have hS:pO b k0 k1 z=ti (itr cN 33 ((bm (aH .i64 (IntKind.wrap .i64 (b.getD (b.length-1-k0) 0)) (((8:Nat):Int)-1-((k1:Nat):Int))) 2),z.2)).2:=rfl
 unfold kq
 rw [hS,OK hb hN hk,e]
 generalize N/2 ^ (8*(b.length-1-k0)+(7-k1)) % 2=bt at *
 obtain ⟨c,d',e',l1,l2,l3,l4⟩:=OT d2 d1 d3
 show Bf (sel ((itr (ti d) 33 (0,List.replicate 33 0)).1==0) 33 z.1,sel ((itr (ti d) 33 (0,List.replicate 33 0)).1==0) (itr (ti d) 33 (0,List.replicate 33 0)).2 d) _
 rw [e',z1]
 have hb1:=jT (B:=256) (by decide) l3
 have hb3:=jT (B:=256) (by decide) d2
 rw [l1] at hb1
 rw [d1] at hb3
 rw [NF] at l4 hb1 hb3
 have hL:=sp
 have hmod:(2*V+bt) % L=if 2*V+bt<L then 2*V+bt else 2*V+bt-L:=by
  split
  ·rename_i h;exact Nat.mod_eq_of_lt h
  ·rename_i h
   rw [Nat.mod_eq_sub_mod (by omega),Nat.mod_eq_of_lt (by omega)]
 rw [hmod]
 rcases l2 with rfl|rfl
 ·have h1:¬ 2*V+bt<L:=by omega
  rw [if_neg h1]
  refine ⟨rfl,l1,l3,?_,by omega⟩
  show num 256 d'=_
  omega
 ·have h1:2*V+bt<L:=by omega
  rw [if_pos h1]
  exact ⟨rfl,d1,d2,d3,h1⟩
theorem Mv {b:List Int} (hb:Dig 256 b) {N:Nat} (hN:num 256 b=(N:Int)):AY b=bg 256 32 ((N % L:Nat):Int):=by
 have hlt:N<2 ^ (8*b.length):=by
  obtain ⟨M,h1,h2⟩:=mm hb
  rw [h1] at hN
  have:=Int.ofNat.inj hN
  omega
 have hz0:Bf (33,List.replicate 33 0) 0:=⟨rfl,by simp,Dig.zeros (by decide) _,by show num 256 (List.replicate 33 0)=((0:Nat):Int);rw [kS];rfl,vF⟩
 have inner:∀ (k0:Nat) (z:Nat × List Int),k0<b.length→Bf z ((N/2 ^ (8*b.length-8*k0)) % L)→∀ k1,k1≤8→Bf (itr (kq b k0) k1 (z.1,z.2)) ((N/2 ^ (8*b.length-(8*k0+k1))) % L):=by
  intro k0 z hk0 hz k1
  induction k1 with
  |zero=>intro _;rw [aX];exact hz
  |succ k1 ih =>
   intro hk1
   have:=RU hb hN (k0:=k0) (show k1<8 by omega) (ih (by omega))
   rw [aQ,show 8*k0+(k1+1)=8*k0+k1+1 by omega,oQ N (8*b.length) (8*k0+k1) (by omega),← zb]
   rw [show 8*(b.length-1-k0)+(7-k1)=8*b.length-1-(8*k0+k1) by omega] at this
   exact this
 have outer:∀ k0,k0≤b.length→Bf (itr (nK b) k0 (33,List.replicate 33 0)) ((N/2 ^ (8*b.length-8*k0)) % L):=by
  intro k0
  induction k0 with
  |zero =>
   intro _
   rw [aX,Nat.mul_zero,Nat.sub_zero,Nat.div_eq_of_lt hlt]
   exact hz0
  |succ k0 ih =>
   intro hk
   rw [aQ]
   have:=inner k0 _ (by omega) (ih (by omega)) 8 (Nat.le_refl _)
   rw [show 8*(k0+1)=8*k0+8 by omega]
   exact this
 have h:=outer b.length (Nat.le_refl _)
 rw [Nat.sub_self,Nat.pow_zero,Nat.div_one] at h
 obtain ⟨_,h2,h3,h4,h5⟩:=h
 unfold AY
 have hl4:∀ k z,rU b k z=z.set k (IntKind.wrap .u8 (((itr (nK b) b.length (33,List.replicate 33 0)).2).getD k 0)):=fun _ _=>rfl
 generalize (itr (nK b) b.length (33,List.replicate 33 0)).2=rr at *
 obtain ⟨g1,g2,_,_⟩:=rl (B:=256) (f:=rU b) (g:=fun k=>IntKind.wrap .u8 (rr.getD k 0)) (p:=List.replicate 32 0) (n:=32) (o:=0) (by simp) (fun k z _ _ _=>hl4 k z) 32 (Nat.le_refl _)
 rw [List.length_replicate] at g1
 have e33:rr=bg 256 33 ((N % L:Nat):Int):=lP (by decide) h3 h2 h4
 have hgd:∀ i,i<32→(itr (rU b) 32 (List.replicate 32 0)).getD i 0=(bg 256 32 ((N % L:Nat):Int)).getD i 0:=by
  intro i hi
  have:=g2 i hi
  rw [Nat.add_zero] at this
  rw [this,e33,dg (by decide) 33 i _ (by omega),dg (by decide) 32 i _ hi,dc]
  exact Int.emod_emod_of_dvd _ (Int.dvd_refl _)
 apply List.ext_getElem?
 intro i
 by_cases hi:i<32
 ·have:=hgd i hi
  rw [List.getD_eq_getElem?_getD,List.getD_eq_getElem?_getD,List.getElem?_eq_getElem (by omega),List.getElem?_eq_getElem (by rw [aw];exact hi)] at this
  rw [List.getElem?_eq_getElem (by omega),List.getElem?_eq_getElem (by rw [aw];exact hi)]
  exact congrArg some this
 ·rw [List.getElem?_eq_none (by omega),List.getElem?_eq_none (by rw [aw];omega)]
end Go.Vm
namespace Go.Vm
open Go
theorem ii:Uns .u64 (2 ^ 64):=fA
theorem AE {n s:Nat} (hw:n+s=64) (h0:0<n) (h1:0<s) {x:Int} (hx:Wd 64 x):eE x (n:Int)=cI x (s:Int)∧Wd 64 (cI x (s:Int)):=by
 obtain ⟨a,rfl,ha⟩:=hx
 have c1:aG .u64 (IntKind.wrap .u64 (s:Int)) 63=(s:Int):=by
  have h:∀ s:Fin 64,aG .u64 (IntKind.wrap .u64 ((s.val:Nat):Int)) 63=((s.val:Nat):Int):=by decide
  exact h ⟨s,by omega⟩
 have c2:aZ .u64 64 (s:Int)=(n:Int):=by rw [vL];omega
 have c3:aZ .i64 64 (n:Int)=(s:Int):=by rw [fI (by omega) (by omega)];omega
 have e1:cI (a:Int) (s:Int)=(((a/2 ^ n+a*2 ^ s) % 2 ^ 64:Nat):Int):=by
  unfold cI
  rw [c1,c2]
  exact Ib ii rfl hw ha
 refine ⟨?_,_,e1,Nat.mod_lt _ (Nat.pow_pos (by decide))⟩
 rw [e1]
 unfold eE
 rw [c3,oR .u64 (show n≤64 by omega),qN fA (show s≤64 by omega),tM fA]
 congr 1
 rw [show (2:Nat) ^ 64=18446744073709551616 from rfl]
 generalize a/2 ^ n=u
 generalize a*2 ^ s=v
 omega
theorem Hh {n1 s1 n2 s2 n3:Nat} (h1:n1+s1=64) (h2:n2+s2=64) (h1':0<n1∧0<s1) (h2':0<n2∧0<s2) (h3:n3<64) {x:Int} (hx:Wd 64 x) :
  cd x [(n1:Int),(n2:Int),(n3:Int)] true=aS .u64 (aS .u64 (cI x (s1:Int)) (cI x (s2:Int))) (aH .u64 x (n3:Int))∧Wd 64 (aS .u64 (aS .u64 (cI x (s1:Int)) (cI x (s2:Int))) (aH .u64 x (n3:Int))):=by
 obtain ⟨a1,a2⟩:=AE h1 h1'.1 h1'.2 hx
 obtain ⟨b1,b2⟩:=AE h2 h2'.1 h2'.2 hx
 have b3:=JH (n:=n3) .u64 (show n3≤64 by omega) hx
 refine ⟨?_,(a2.xor ii b2).xor ii b3⟩
 unfold cd
 rw [aB]
 show aS .u64 (aS .u64 (eE x (n1:Int)) (eE x (n2:Int))) (aH .u64 x (n3:Int))=_
 rw [a1,b1,jj (v:=64) ii fA (by decide) a2 b2,pr .u64 .u64 (show n3≤64 by omega) (show n3≤64 by omega) hx,jj (v:=64) ii fA (by decide) (a2.xor ii b2) b3]
theorem HE {n1 s1 n2 s2 n3 s3:Nat} (h1:n1+s1=64) (h2:n2+s2=64) (h3:n3+s3=64) (h1':0<n1∧0<s1) (h2':0<n2∧0<s2) (h3':0<n3∧0<s3) {x:Int} (hx:Wd 64 x) :
  cd x [(n1:Int),(n2:Int),(n3:Int)] false=aS .u64 (aS .u64 (cI x (s1:Int)) (cI x (s2:Int))) (cI x (s3:Int))∧Wd 64 (aS .u64 (aS .u64 (cI x (s1:Int)) (cI x (s2:Int))) (cI x (s3:Int))):=by
 obtain ⟨a1,a2⟩:=AE h1 h1'.1 h1'.2 hx
 obtain ⟨b1,b2⟩:=AE h2 h2'.1 h2'.2 hx
 obtain ⟨c1,c2⟩:=AE h3 h3'.1 h3'.2 hx
 refine ⟨?_,(a2.xor ii b2).xor ii c2⟩
 unfold cd
 rw [aA]
 show aS .u64 (aS .u64 (eE x (n1:Int)) (eE x (n2:Int))) (eE x (n3:Int))=_
 rw [a1,b1,c1,jj (v:=64) ii fA (by decide) a2 b2,jj (v:=64) ii fA (by decide) (a2.xor ii b2) c2]
theorem Hl {x:Int} (hx:Wd 64 x):cd x [1,8,7] true=(aS .u64 (aS .u64 (cI x 63) (cI x 56)) (aH .u64 x 7)):=(Hh (n1:=1) (s1:=63) (n2:=8) (s2:=56) (n3:=7) rfl rfl (by decide) (by decide) (by decide) hx).1
theorem IS {x:Int} (hx:Wd 64 x):cd x [19,61,6] true=(aS .u64 (aS .u64 (cI x 45) (cI x 3)) (aH .u64 x 6)):=(Hh (n1:=19) (s1:=45) (n2:=61) (s2:=3) (n3:=6) rfl rfl (by decide) (by decide) (by decide) hx).1
theorem IV {x:Int} (hx:Wd 64 x):cd x [28,34,39] false=(aS .u64 (aS .u64 (cI x 36) (cI x 30)) (cI x 25)):=(HE (n1:=28) (s1:=36) (n2:=34) (s2:=30) (n3:=39) (s3:=25) rfl rfl rfl (by decide) (by decide) (by decide) hx).1
theorem JD {x:Int} (hx:Wd 64 x):cd x [14,18,41] false=(aS .u64 (aS .u64 (cI x 50) (cI x 46)) (cI x 23)):=(HE (n1:=14) (s1:=50) (n2:=18) (s2:=46) (n3:=41) (s3:=23) rfl rfl rfl (by decide) (by decide) (by decide) hx).1
theorem lU (x y:Int):aE .u64 x y=(x+y) % 18446744073709551616:=(ii).wrap _
theorem tY (x:Int):aG .u64 x 18446744073709551615=x % 18446744073709551616:=kP x 64 (by decide)
theorem tb (x:Int):Wd 64 (x % 18446744073709551616):=Wd.mod x
theorem pi (x:Int):x % 18446744073709551616 % 18446744073709551616=x % 18446744073709551616:=Int.emod_emod_of_dvd x (by decide)
def Ks (st x l k g f:Int):Int:=aE .u64 (aE .u64 (aE .u64 (aE .u64 l (aS .u64 (aS .u64 (cI f 50) (cI f 46)) (cI f 23))) (aS .u64 (aG .u64 f g) (aG .u64 (nJ .u64 f) k))) st) x
def PB (a c d:Int):Int:=aE .u64 (aS .u64 (aS .u64 (cI a 36) (cI a 30)) (cI a 25)) (aS .u64 (aS .u64 (aG .u64 a c) (aG .u64 a d)) (aG .u64 c d))
def MT (st x l k g f:Int):Int:=aG .u64 (aE .u64 (aE .u64 (aE .u64 (aE .u64 l (cd f [14,18,41] false)) (iOr .u64 (aG .u64 f g) (aG .u64 (aS .u64 18446744073709551615 f) k))) st) x) 18446744073709551615
def Oh (a c d:Int):Int:=aE .u64 (cd a [28,34,39] false) (iOr .u64 (iOr .u64 (aG .u64 a c) (aG .u64 c d)) (aG .u64 a d))
def MN (p0:List Int) (k1:Nat):List Int:=itr (ov) 64 (itr (lD p0 k1) 128 [0,0,0,0,0,0,0,0,0,0,0,0,0,0,0,0,0,0,0,0,0,0,0,0,0,0,0,0,0,0,0,0,0,0,0,0,0,0,0,0,0,0,0,0,0,0,0,0,0,0,0,0,0,0,0,0,0,0,0,0,0,0,0,0,0,0,0,0,0,0,0,0,0,0,0,0,0,0,0,0])
def MU (p0:List Int) (k1:Nat):List Int:=itr (jP) 64 (itr (gP p0 k1) 128 [0,0,0,0,0,0,0,0,0,0,0,0,0,0,0,0,0,0,0,0,0,0,0,0,0,0,0,0,0,0,0,0,0,0,0,0,0,0,0,0,0,0,0,0,0,0,0,0,0,0,0,0,0,0,0,0,0,0,0,0,0,0,0,0,0,0,0,0,0,0,0,0,0,0,0,0,0,0,0,0])
theorem T64 {st x l k g f:Int} (hl:Wd 64 l) (hk:Wd 64 k) (hg:Wd 64 g) (hf:Wd 64 f):MT st x l k g f=Ks st x l k g f:=by
 unfold MT Ks
 rw [JD hf,tY]
 simp only [lU,dG]
 have hc:iOr .u64 (aG .u64 f g) (aG .u64 (aS .u64 18446744073709551615 f) k)=aS .u64 (aG .u64 f g) (aG .u64 (nJ .u64 f) k):=Dv (v:=64) ii fA (by decide) hf hg hk
 rw [hc]
 generalize aS .u64 (aG .u64 f g) (aG .u64 (nJ .u64 f) k)=A
 generalize (aS .u64 (aS .u64 (cI f 50) (cI f 46)) (cI f 23))=B
 simp only [Int.emod_add_emod,pi]
theorem U64 {a c d:Int} (ha:Wd 64 a) (hc:Wd 64 c) (hd:Wd 64 d) (t:Int):aG .u64 (aE .u64 t (Oh a c d)) 18446744073709551615=aE .u64 t (PB a c d):=by
 unfold Oh PB
 rw [IV ha,tY]
 simp only [lU,dG]
 have hm:iOr .u64 (iOr .u64 (aG .u64 a c) (aG .u64 c d)) (aG .u64 a d)=aS .u64 (aS .u64 (aG .u64 a c) (aG .u64 a d)) (aG .u64 c d):=zO (v:=64) ii fA (by decide) ha hc hd
 rw [hm]
 generalize aS .u64 (aS .u64 (aG .u64 a c) (aG .u64 a d)) (aG .u64 c d)=A
 generalize (aS .u64 (aS .u64 (cI a 36) (cI a 30)) (cI a 25))=B
 simp only [Int.add_emod_emod,pi]
theorem V64 (e t:Int):aG .u64 (aE .u64 e t) 18446744073709551615=aE .u64 e t:=by
 rw [tY]
 simp only [lU,dG,pi]
def AF (z:Int × Int × Int × Int × Int × Int × Int × Int) (y:List Int):Prop :=
 ∃ l k g f e d c a,z=(l,k,g,f,e,d,c,a)∧y=[a,c,d,e,f,g,k,l]∧Wd 64 l∧Wd 64 k∧Wd 64 g∧Wd 64 f∧Wd 64 e∧Wd 64 d∧Wd 64 c∧Wd 64 a
theorem Nw (p0:List Int) (k1 j:Nat) (l k g f e d c a:Int):cg p0 k1 j (l,k,g,f,e,d,c,a) =
  (k,g,f,aE .u64 e (Ks (JA.getD (0+j) 0) ((MN p0 k1).getD j 0) l k g f),d,c,a,aE .u64 (Ks (JA.getD (0+j) 0) ((MN p0 k1).getD j 0) l k g f) (PB a c d)):=rfl
theorem OS (p0:List Int) (k1 j:Nat) (l k g f e d c a:Int):kJ p0 k1 j [a,c,d,e,f,g,k,l] =
  [aG .u64 (aE .u64 (MT (aH .u64 (JA.getD j 0) 0) ((MU p0 k1).getD j 0) l k g f) (Oh a c d)) 18446744073709551615,a,c,d,aG .u64 (aE .u64 e (MT (aH .u64 (JA.getD j 0) 0) ((MU p0 k1).getD j 0) l k g f)) 18446744073709551615,f,g,k]:=rfl
theorem Hs (j:Nat) (hj:j<80):aH .u64 (JA.getD j 0) 0=(JA.getD (0+j) 0):=by
 have h:∀ j:Fin 80,aH .u64 (JA.getD j.val 0) 0=(JA.getD (0+j.val) 0):=by decide +kernel
 exact h ⟨j,hj⟩
theorem KB {p0:List Int} {k1 j:Nat} (hj:j<80) (hW:(MU p0 k1).getD j 0=(MN p0 k1).getD j 0) {z:Int × Int × Int × Int × Int × Int × Int × Int} {y:List Int} (h:AF z y) :
  AF (cg p0 k1 j z) (kJ p0 k1 j y):=by
 obtain ⟨l,k,g,f,e,d,c,a,rfl,rfl,hl,hk,hg,hf,he,hd,hc,ha⟩:=h
 rw [Nw,OS,hW,Hs j hj,T64 hl hk hg hf,U64 ha hc hd,V64]
 refine ⟨_,_,_,_,_,_,_,_,rfl,rfl,hk,hg,hf,?_,hd,hc,ha,?_⟩
 ·rw [lU];exact tb _
 ·rw [lU];exact tb _
theorem Kr {a b n:Nat} (hb:b<256) (hn:n<8) (ha:a<256 ^ n) :
  iOr .u64 (cv .u64 (a:Int) 8) (IntKind.wrap .u64 (b:Int))=((a*256+b:Nat):Int)∧aE .u64 (bE .u64 (a:Int) 256) (IntKind.wrap .u64 (b:Int))=((a*256+b:Nat):Int)∧a*256+b<256 ^ (n+1):=by
 have h1:a*256+b<256 ^ (n+1):=by
  have:(a+1)*256≤256 ^ n*256:=Nat.mul_le_mul_right _ ha
  rw [Nat.pow_succ]
  omega
 have h2:256 ^ (n+1)≤18446744073709551616:=by
  have:(256:Nat) ^ (n+1)≤256 ^ 8:=Nat.pow_le_pow_right (by decide) hn
  exact this
 have h3:18446744073709551616≤18446744073709551616:=by decide
 refine ⟨?_,?_,h1⟩
 ·rw [show (8:Int)=((8:Nat):Int) from rfl,qN fA (show 8≤64 by decide),pf fA,Nat.mod_eq_of_lt (show b<18446744073709551616 by omega),Nat.mod_eq_of_lt (show a*2 ^ 8<18446744073709551616 by omega),lX fA (by omega) (by omega)]
  congr 1
  rw [Nat.mul_comm a (2 ^ 8),← Nat.two_pow_add_eq_or_of_lt (i:=8) (show b<2 ^ 8 by omega) a]
 ·rw [show (256:Int)=((256:Nat):Int) from rfl,ER fA,pf fA,tM fA]
  congr 1
  omega
def Cz (k:Nat) (c r:List Int):Prop:=c.length=80∧r.length=80∧∀ j,j<80→∃ a:Nat,c.getD j 0=(a:Int)∧r.getD j 0=(a:Int)∧a<256 ^ (min (k-8*j) 8)
theorem SV (j:Nat):([0,0,0,0,0,0,0,0,0,0,0,0,0,0,0,0,0,0,0,0,0,0,0,0,0,0,0,0,0,0,0,0,0,0,0,0,0,0,0,0,0,0,0,0,0,0,0,0,0,0,0,0,0,0,0,0,0,0,0,0,0,0,0,0,0,0,0,0,0,0,0,0,0,0,0,0,0,0,0,0]:List Int).getD j 0=0:=by
 show (List.replicate 80 (0:Int)).getD j 0=0
 rw [List.getD_eq_getElem?_getD,List.getElem?_replicate]
 split <;> rfl
theorem Sa (j:Nat):([0,0,0,0,0,0,0,0,0,0,0,0,0,0,0,0,0,0,0,0,0,0,0,0,0,0,0,0,0,0,0,0,0,0,0,0,0,0,0,0,0,0,0,0,0,0,0,0,0,0,0,0,0,0,0,0,0,0,0,0,0,0,0,0,0,0,0,0,0,0,0,0,0,0,0,0,0,0,0,0]:List Int).getD j 0=0:=by
 show (List.replicate 80 (0:Int)).getD j 0=0
 rw [List.getD_eq_getElem?_getD,List.getElem?_replicate]
 split <;> rfl
def Fz (p0:List Int):List Int:=itr (kU p0) 8 (((itr (bL) ((239-p0.length % 128) % 128) (p0.length+1,p0++[128])).2)++(List.replicate 16 0))
theorem NP {p0:List Int} {k1:Nat} (hT:Fz p0=dv p0) (hB:∀ j,zy ((dv p0).getD j 0)) :
  Cz 128 (itr (lD p0 k1) 128 [0,0,0,0,0,0,0,0,0,0,0,0,0,0,0,0,0,0,0,0,0,0,0,0,0,0,0,0,0,0,0,0,0,0,0,0,0,0,0,0,0,0,0,0,0,0,0,0,0,0,0,0,0,0,0,0,0,0,0,0,0,0,0,0,0,0,0,0,0,0,0,0,0,0,0,0,0,0,0,0]) (itr (gP p0 k1) 128 [0,0,0,0,0,0,0,0,0,0,0,0,0,0,0,0,0,0,0,0,0,0,0,0,0,0,0,0,0,0,0,0,0,0,0,0,0,0,0,0,0,0,0,0,0,0,0,0,0,0,0,0,0,0,0,0,0,0,0,0,0,0,0,0,0,0,0,0,0,0,0,0,0,0,0,0,0,0,0,0]):=by
 refine eZ Cz ⟨rfl,rfl,fun j hj=>⟨0,SV j,Sa j,Nat.pow_pos (by decide)⟩⟩ ?_
 rintro k hk c r ⟨h1,h2,h3⟩
 have e1:lD p0 k1 k c=c.set (k/8) (iOr .u64 (cv .u64 (c.getD (k/8) 0) 8) (IntKind.wrap .u64 ((dv p0).getD (128*k1+k) 0))):=by
  unfold lD
  rw [HC,Nat.zero_add]
 have e2:gP p0 k1 k r=r.set (k/8) (aE .u64 (bE .u64 (r.getD (k/8) 0) 256) (IntKind.wrap .u64 ((dv p0).getD (128*k1+k) 0))):=by
  show r.set (8*k/64) (aE .u64 (bE .u64 (r.getD (8*k/64) 0) 256) (IntKind.wrap .u64 ((Fz p0).getD (128*k1+k) 0)))=_
  rw [hT,show 8*k/64=k/8 by omega]
 rw [e1,e2]
 obtain ⟨b,hb,hb'⟩:=hB (128*k1+k)
 obtain ⟨a,ha1,ha2,ha3⟩:=h3 (k/8) (by omega)
 rw [show min (k-8*(k/8)) 8=k % 8 by omega] at ha3
 obtain ⟨q1,q2,q3⟩:=Kr hb' (show k % 8<8 from Nat.mod_lt _ (by decide)) ha3
 rw [ha1,ha2,hb,q1,q2]
 refine ⟨by rw [List.length_set,h1],by rw [List.length_set,h2],fun j hj=>?_⟩
 by_cases hjk:k/8=j
 ·subst hjk
  exact ⟨_,bz (by omega),bz (by omega),by rw [show min (k+1-8*(k/8)) 8=k % 8+1 by omega];exact q3⟩
 ·obtain ⟨x,x1,x2,x3⟩:=h3 j hj
  refine ⟨x,by rw [bN hjk,x1],by rw [bN hjk,x2],Nat.lt_of_lt_of_le x3 (Nat.pow_le_pow_right (by decide) (by omega))⟩
def Bc (k:Nat) (c r:List Int):Prop:=c.length=80∧r.length=80∧∀ j,j<k+16→Wd 64 (c.getD j 0)∧r.getD j 0=c.getD j 0
theorem MQ {p0:List Int} {k1:Nat} (hT:Fz p0=dv p0) (hB:∀ j,zy ((dv p0).getD j 0)):Bc 64 (MN p0 k1) (MU p0 k1):=by
 obtain ⟨h1,h2,h3⟩:=NP (k1:=k1) hT hB
 refine eZ Bc ⟨h1,h2,fun j hj=>?_⟩ ?_
 ·obtain ⟨a,a1,a2,a3⟩:=h3 j (by omega)
  refine ⟨⟨a,a1,Nat.lt_of_lt_of_le a3 ?_⟩,by rw [a1,a2]⟩
  have:(256:Nat) ^ (min (128-8*j) 8)≤256 ^ 8:=Nat.pow_le_pow_right (by decide) (Nat.min_le_right _ _)
  exact this
 ·rintro k hk c r ⟨g1,g2,g3⟩
  obtain ⟨x1,y1⟩:=g3 (k+16-16) (by omega)
  obtain ⟨x2,y2⟩:=g3 (k+16-7) (by omega)
  obtain ⟨x3,y3⟩:=g3 (k+16-15) (by omega)
  obtain ⟨x4,y4⟩:=g3 (k+16-2) (by omega)
  have e:aG .u64 (aE .u64 (aE .u64 (aE .u64 (r.getD (k+16-16) 0) (r.getD (k+16-7) 0)) (cd (r.getD (k+16-15) 0) [1,8,7] true)) (cd (r.getD (k+16-2) 0) [19,61,6] true)) 18446744073709551615 =
    aE .u64 (aE .u64 (aE .u64 (c.getD (k+16-16) 0) (c.getD (k+16-7) 0)) (aS .u64 (aS .u64 (cI (c.getD (k+16-15) 0) 63) (cI (c.getD (k+16-15) 0) 56)) (aH .u64 (c.getD (k+16-15) 0) 7))) (aS .u64 (aS .u64 (cI (c.getD (k+16-2) 0) 45) (cI (c.getD (k+16-2) 0) 3)) (aH .u64 (c.getD (k+16-2) 0) 6)):=by
   rw [y1,y2,y3,y4,Hl x3,IS x4,tY]
   simp only [lU,dG]
   generalize (aS .u64 (aS .u64 (cI (c.getD (k+16-15) 0) 63) (cI (c.getD (k+16-15) 0) 56)) (aH .u64 (c.getD (k+16-15) 0) 7))=A
   generalize (aS .u64 (aS .u64 (cI (c.getD (k+16-2) 0) 45) (cI (c.getD (k+16-2) 0) 3)) (aH .u64 (c.getD (k+16-2) 0) 6))=B
   simp only [Int.emod_add_emod,pi]
  have hw:Wd 64 (aE .u64 (aE .u64 (aE .u64 (c.getD (k+16-16) 0) (c.getD (k+16-7) 0)) (aS .u64 (aS .u64 (cI (c.getD (k+16-15) 0) 63) (cI (c.getD (k+16-15) 0) 56)) (aH .u64 (c.getD (k+16-15) 0) 7))) (aS .u64 (aS .u64 (cI (c.getD (k+16-2) 0) 45) (cI (c.getD (k+16-2) 0) 3)) (aH .u64 (c.getD (k+16-2) 0) 6))):=by
   rw [lU];exact tb _
  show Bc (k+1) (c.set (k+16) (aE .u64 (aE .u64 (aE .u64 (c.getD (k+16-16) 0) (c.getD (k+16-7) 0)) (aS .u64 (aS .u64 (cI (c.getD (k+16-15) 0) 63) (cI (c.getD (k+16-15) 0) 56)) (aH .u64 (c.getD (k+16-15) 0) 7))) (aS .u64 (aS .u64 (cI (c.getD (k+16-2) 0) 45) (cI (c.getD (k+16-2) 0) 3)) (aH .u64 (c.getD (k+16-2) 0) 6)))) (r.set (k+16) (aG .u64 (aE .u64 (aE .u64 (aE .u64 (r.getD (k+16-16) 0) (r.getD (k+16-7) 0)) (cd (r.getD (k+16-15) 0) [1,8,7] true)) (cd (r.getD (k+16-2) 0) [19,61,6] true)) 18446744073709551615))
  rw [e]
  refine ⟨by rw [List.length_set,g1],by rw [List.length_set,g2],fun j hj=>?_⟩
  by_cases hjk:k+16=j
  ·subst hjk
   rw [bz (by omega),bz (by omega)]
   exact ⟨hw,rfl⟩
  ·rw [bN hjk,bN hjk]
   exact g3 j (by omega)
def nE (z:List Int):Prop:=z.length=8∧∀ j,j<8→Wd 64 (z.getD j 0)
theorem MB {z:List Int} (h:nE z):AF (z.getD 7 0,z.getD 6 0,z.getD 5 0,z.getD 4 0,z.getD 3 0,z.getD 2 0,z.getD 1 0,z.getD 0 0) z:=by
 obtain ⟨h1,h2⟩:=h
 refine ⟨_,_,_,_,_,_,_,_,rfl,?_,h2 7 (by decide),h2 6 (by decide),h2 5 (by decide),h2 4 (by decide),h2 3 (by decide),h2 2 (by decide),h2 1 (by decide),h2 0 (by decide)⟩
 match z,h1 with
 |[_,_,_,_,_,_,_,_],_=>rfl
theorem MD {p0:List Int} {k1:Nat} (hT:Fz p0=dv p0) (hB:∀ j,zy ((dv p0).getD j 0)) {z:List Int} (hz:nE z):mP p0 k1 z=kG p0 k1 z∧nE (mP p0 k1 z):=by
 obtain ⟨w1,w2,w3⟩:=MQ (k1:=k1) hT hB
 have hr:AF (itr (cg p0 k1) 80 (z.getD 7 0,z.getD 6 0,z.getD 5 0,z.getD 4 0,z.getD 3 0,z.getD 2 0,z.getD 1 0,z.getD 0 0)) (itr (kJ p0 k1) 80 z) :=
  eZ (fun _=>AF) (MB hz) fun j hj a b hab=>KB hj (w3 j (by omega)).2 hab
 obtain ⟨l,k,g,f,e,d,c,a,e1,e2,hl,hk,hg,hf,he,hd,hc,ha⟩:=hr
 have key:(fun (k:Nat) (x y:List Int)=>x=y∧nE x) 8 (itr (vN p0 k1 z) 8 z) (itr (ln p0 k1 z) 8 z):=by
  refine eZ (fun (k:Nat) (x y:List Int)=>x=y∧nE x) ⟨rfl,hz⟩ ?_
  rintro j hj x y ⟨rfl,hx1,hx2⟩
  have q1:vN p0 k1 z j x=x.set j (aE .u64 (x.getD j 0) ([a,c,d,e,f,g,k,l].getD j 0)):=by
   unfold vN
   rw [e1]
  have q2:ln p0 k1 z j x=x.set j (aG .u64 (aE .u64 (x.getD j 0) ([a,c,d,e,f,g,k,l].getD j 0)) 18446744073709551615):=by
   unfold ln
   rw [e2]
  rw [q1,q2,V64]
  refine ⟨rfl,by rw [List.length_set,hx1],fun i hi=>?_⟩
  by_cases hij:j=i
  ·subst hij
   rw [bz (by omega),lU]
   exact tb _
  ·rw [bN hij]
   exact hx2 i hi
 exact key
theorem Ld:((Dm.drop 0).take 8)=itr (jH) 8 [7640891576956012808,13503953896175478587,4354685564936845355,11912009170470909681,5840696475078001361,11170449401992604703,2270897969802886507,6620516959819538809]:=by kernel_rfl
theorem Fn:nE ((Dm.drop 0).take 8):=by
 have h:(List.length ((Dm.drop 0).take 8)==8 && (List.range 8).all fun j=>decide (0≤(((Dm.drop 0).take 8):List Int).getD j 0) && decide ((((Dm.drop 0).take 8):List Int).getD j 0<((2 ^ 64:Nat):Int)))=true:=by kernel_rfl
 rw [Bool.and_eq_true] at h
 refine ⟨eq_of_beq h.1,fun j hj=>?_⟩
 have h2:=List.all_eq_true.1 h.2 j (List.mem_range.2 hj)
 rw [Bool.and_eq_true] at h2
 exact Wd.of (of_decide_eq_true h2.1) (of_decide_eq_true h2.2)
def mt (p0:List Int):Nat × List Int:=itr (bL) ((239-p0.length % 128) % 128) (p0.length+1,p0++[128])
theorem SB (p0:List Int):(mt p0).2.length=(mt p0).1∧(mt p0).1<p0.length+1+128:=by
 have key:(fun (k:Nat) (a b:Nat × List Int)=>a.2.length=a.1∧a.1=p0.length+1+k) ((239-p0.length % 128) % 128) (mt p0) (itr (fun _ y=>y) ((239-p0.length % 128) % 128) (mt p0)):=by
  refine eZ (fun (k:Nat) (a b:Nat × List Int)=>a.2.length=a.1∧a.1=p0.length+1+k) (g:=fun _ y=>y) (y:=mt p0) ⟨by simp,rfl⟩ ?_
  rintro k hk a b ⟨h1,h2⟩
  show (a.2++[0]).length=a.1+1∧a.1+1=_
  exact ⟨by rw [List.length_append,h1];rfl,by omega⟩
 have h:=key.2
 have hm:((239-p0.length % 128) % 128)<128:=Nat.mod_lt _ (by decide)
 exact ⟨key.1,by omega⟩
theorem Qv {p0:List Int} (hp:Dig 256 p0):Dig 256 (mt p0).2:=by
 refine eZ (fun (k:Nat) (a b:Nat × List Int)=>Dig 256 a.2) (n:=((239-p0.length % 128) % 128)) (y:=(mt p0)) (g:=fun _ y=>y) ?_ ?_
 ·intro x hx
  rcases List.mem_append.1 hx with h|h
  ·exact hp x h
  ·rw [List.mem_singleton.1 h];decide
 ·rintro k hk a b h x hx
  rcases List.mem_append.1 hx with h'|h'
  ·exact h x h'
  ·rw [List.mem_singleton.1 h'];decide
def fT (n k:Nat):Int:=IntKind.wrap .u8 (aH .u64 (bE .u64 (IntKind.wrap .u64 ((n:Nat):Int)) 8) ((8*k:Nat):Int))
theorem AQ (B:List Int) (n:Nat) (hn:B.length=n) (t:List Int) (j:Nat) (x:Int):(B++t).set (n+j) x=B++t.set j x:=by
 subst hn
 rw [List.set_append_right _ _ (by omega)]
 congr 2
 omega
theorem Bh {α:Type} (f:Nat→α→α) (x:α):itr f 8 x=f 7 (f 6 (f 5 (f 4 (f 3 (f 2 (f 1 (f 0 x))))))):=by
 simp only [aQ,aX]
theorem PT {p0:List Int} (hl:p0.length≤100000000):Fz p0=(mt p0).2++(List.replicate 8 0++[fT p0.length 7,fT p0.length 6,fT p0.length 5,fT p0.length 4,fT p0.length 3,fT p0.length 2,fT p0.length 1,fT p0.length 0]):=by
 obtain ⟨h1,h2⟩:=SB p0
 have hs:∀ (k:Nat) (z:List Int),k<8→kU p0 k z=z.set ((mt p0).1+(15-k)) (fT p0.length k):=by
  intro k z hk
  show z.set (aZ .i64 ((((mt p0).1+16:Nat):Int)-1-((0:Nat):Int)) (k:Int)).toNat _=_
  rw [fI (by omega) (by omega)]
  have:(((((mt p0).1+16:Nat):Int)-1-((0:Nat):Int))-(k:Int)).toNat=(mt p0).1+(15-k):=by omega
  rw [this]
  rfl
 show itr (kU p0) 8 ((mt p0).2++List.replicate 16 0)=_
 rw [Bh,hs 0 _ (by decide),hs 1 _ (by decide),hs 2 _ (by decide),hs 3 _ (by decide),hs 4 _ (by decide),hs 5 _ (by decide),hs 6 _ (by decide),hs 7 _ (by decide)]
 simp only [AQ _ _ h1]
 rfl
theorem Cm (p0:List Int):dv p0=(mt p0).2++(List.replicate 8 0++[fT p0.length 7,fT p0.length 6,fT p0.length 5,fT p0.length 4,fT p0.length 3,fT p0.length 2,fT p0.length 1,fT p0.length 0]):=by
 unfold dv
 rw [Bh]
 show (((((((((mt p0).2++List.replicate 8 0)++[fT p0.length 7])++[fT p0.length 6])++[fT p0.length 5])++[fT p0.length 4])++[fT p0.length 3])++[fT p0.length 2])++[fT p0.length 1])++[fT p0.length 0]=_
 simp only [List.append_assoc,List.cons_append,List.nil_append]
theorem OG (n k:Nat):0≤fT n k∧fT n k<256:=by
 unfold fT
 rw [dc]
 omega
theorem KY {p0:List Int} (hp:Dig 256 p0):Dig 256 (dv p0):=by
 rw [Cm]
 intro x hx
 rcases List.mem_append.1 hx with h|h
 ·exact Qv hp x h
 ·rcases List.mem_append.1 h with h|h
  ·rw [List.eq_of_mem_replicate h];decide
  ·simp only [List.mem_cons,List.not_mem_nil,or_false] at h
   rcases h with rfl|rfl|rfl|rfl|rfl|rfl|rfl|rfl <;> exact OG _ _
theorem CH {p0:List Int} (hp:Dig 256 p0) (j:Nat):zy ((dv p0).getD j 0):=by
 obtain ⟨h1,h2⟩:=bD (i:=j) (by decide) (KY hp)
 obtain ⟨a,ha⟩:=Int.eq_ofNat_of_zero_le h1
 exact ⟨a,ha,by rw [ha] at h2;omega⟩
theorem LX (p0:List Int):bY p0=(itr (bL) ((239-p0.length % 128) % 128) (p0.length+1,p0++[128])).1+16:=by
 unfold bY
 rw [Bh]
 show (mt p0).1+8+1+1+1+1+1+1+1+1=(mt p0).1+16
 omega
theorem RB {p0:List Int} (hp:Dig 256 p0) (hl:p0.length≤100000000):iE p0=bc p0:=by
 have hT:Fz p0=dv p0:=(PT hl).trans (Cm p0).symm
 have hB:=fun j=>CH hp j
 have hH:(fun (k:Nat) (x y:List Int)=>x=y∧nE x) ((bY p0)/128) (itr (mP p0) ((bY p0)/128) ((Dm.drop 0).take 8)) (itr (kG p0) ((bY p0)/128) (itr (jH) 8 [7640891576956012808,13503953896175478587,4354685564936845355,11912009170470909681,5840696475078001361,11170449401992604703,2270897969802886507,6620516959819538809])):=by
  refine eZ (fun (k:Nat) (x y:List Int)=>x=y∧nE x) ⟨Ld,Fn⟩ ?_
  rintro k hk x y ⟨rfl,hx⟩
  exact MD hT hB hx
 obtain ⟨h1,h2,h3⟩:=hH
 have key:(fun (k:Nat) (x:List Int) (y:Nat × List Int)=>x=y.2++List.replicate (64-k) 0∧y.2.length=k) 64 (iE p0) (itr (dW p0) 64 (0,[])):=by
  refine eZ (fun (k:Nat) (x:List Int) (y:Nat × List Int)=>x=y.2++List.replicate (64-k) 0∧y.2.length=k) ⟨rfl,rfl⟩ ?_
  rintro k hk x y ⟨rfl,hy⟩
  have hw:=h3 (k/8) (by omega)
  have q1:yc p0 k (y.2++List.replicate (64-k) 0)=(y.2++List.replicate (64-k) 0).set k (IntKind.wrap .u8 (aH .u64 ((itr (mP p0) ((bY p0)/128) ((Dm.drop 0).take 8)).getD (k/8) 0) ((56-(8*(k % 8)):Nat):Int))):=rfl
  have q2:(dW p0 k y).2=y.2++[IntKind.wrap .u8 (aH .u64 ((itr (mP p0) ((bY p0)/128) ((Dm.drop 0).take 8)).getD (k/8) 0) ((56-(8*(k % 8)):Nat):Int))]:=by
   show y.2++[IntKind.wrap .u8 (aH .u64 ((itr (kG p0) (((itr (bL) ((239-p0.length % 128) % 128) (p0.length+1,p0++[128])).1+16)/128) (itr (jH) 8 [7640891576956012808,13503953896175478587,4354685564936845355,11912009170470909681,5840696475078001361,11170449401992604703,2270897969802886507,6620516959819538809])).getD ((8*k)/64) 0) ((56-((8*k) % 64):Nat):Int))]=_
   rw [← LX,← h1,show (8*k)/64=k/8 by omega,show 56-((8*k) % 64)=56-(8*(k % 8)) by omega,pr .u64 .u64 (show 56-(8*(k % 8))≤64 by omega) (show 56-(8*(k % 8))≤64 by omega) hw]
  refine ⟨?_,by rw [q2,List.length_append,hy];rfl⟩
  rw [q1,q2,show (64-k)=(64-(k+1))+1 by omega,List.replicate_succ]
  have:=AQ y.2 k hy (0 :: List.replicate (64-(k+1)) 0) 0 (IntKind.wrap .u8 (aH .u64 ((itr (mP p0) ((bY p0)/128) ((Dm.drop 0).take 8)).getD (k/8) 0) ((56-(8*(k % 8)):Nat):Int)))
  rw [show k+0=k from rfl] at this
  rw [this,List.set_cons_zero,List.append_assoc]
  rfl
 have k1:=key.1
 rw [Nat.sub_self,List.replicate_zero,List.append_nil] at k1
 exact k1
end Go.Vm
namespace Go.Vm
open Go Tabn
theorem Pw (p:List Int):Dig 256 (bc p):=by
 have:∀ k,Dig 256 (itr (dW p) k (0,[])).2:=by
  intro k
  induction k with
  |zero=>rw [aX];exact Dig.nil
  |succ k ih =>
   rw [aQ]
   intro z hz
   rcases List.mem_append.1 hz with h|h
   ·exact ih z h
   ·rw [List.mem_singleton.1 h,dc];omega
 exact this _
theorem tV {x y:List Int} (hx:Dig 256 x) (hy:Dig 256 y):Dig 256 (x++y):=fun z hz=>(List.mem_append.1 hz).elim (hx z) (hy z)
theorem ep {x:List Int} (h:Dig 256 x) (n:Nat):Dig 256 (x.take n):=fun z hz=>h z (List.mem_of_mem_take hz)
theorem qK {x:List Int} (h:Dig 256 x) (n:Nat):Dig 256 (x.drop n):=fun z hz=>h z (List.mem_of_mem_drop hz)
def nN (b:List Int):Nat:=(num 256 b).toNat
theorem sA {b:List Int} (h:Dig 256 b):num 256 b=(nN b:Int):=(Int.toNat_of_nonneg (jT (by decide) h).1).symm
def hsh (p:List Int):List Int:=bc p
theorem qY (p:List Int):(hsh p).length=64:=kV p
theorem fF (p:List Int):Dig 256 (hsh p):=Pw p
theorem Hr {p:List Int} (hp:Dig 256 p) (hl:p.length≤100000000):iE p=hsh p:=RB hp hl
def hN (p:List Int):Nat:=nN (hsh p) % L
theorem PV (a b:List Int):aC (vZ [a,b]) (cP [a,b] [a,b].length) 0 (cP [a,b] [a,b].length)=a++b:=by
 rw [ah (BS _)]
 unfold vZ
 show (itr (jM [a,b]) 2 (0,[])).2=a++b
 rw [aQ,aQ,aX]
 show ([]++a)++b=a++b
 rfl
theorem Ob (a b c:List Int):aC (vZ [a,b,c]) (cP [a,b,c] [a,b,c].length) 0 (cP [a,b,c] [a,b,c].length)=a++b++c:=by
 rw [ah (BS _)]
 unfold vZ
 show (itr (jM [a,b,c]) 3 (0,[])).2=a++b++c
 rw [aQ,aQ,aQ,aX]
 show (([]++a)++b)++c=a++b++c
 rfl
theorem Ku:PE BT BM:=by
 have hy:EF (vv 4 5) yB:=by
  unfold vv
  refine (fu (f:=4) (g:=finv 5) ⟨4,lQ (by decide),by decide⟩ (wB (f:=5) ⟨5,lQ (by decide),by decide⟩)).to Jh
 unfold BM
 have hb:F33 (vv 4 5)=fk BT:=by rw [hy.bytes];unfold fk;rw [Ac]
 rw [hb,ah (dU BT)]
 rcases Oj (lF BT) with ⟨_,p,h1,h2⟩|⟨_,h⟩
 ·rw [pp h1]
  rw [← pp h1] at h2 ⊢
  exact h2
 ·exact absurd rfl (h BT)
theorem DF:PR BT uj:=by
 have hy:RF (aI (au 4) (F28 (au 5))) yB:=by
  unfold aI au
  refine (fP (f:=4) (g:=finv 5) ⟨4,lT (by decide),by decide⟩ (vA (f:=5) ⟨5,lT (by decide),by decide⟩)).to Jh
 unfold uj
 have hb:F49 (aI (au 4) (F28 (au 5)))=fk BT:=by rw [hy.bytes];unfold fk;rw [Ac]
 rw [hb,ah (dU BT)]
 rcases JS (lF BT) with ⟨_,p,h1,h2⟩|⟨_,h⟩
 ·rw [← pp h1] at h2
  exact h2
 ·exact absurd rfl (h BT)
def yo (seed:List Int):Nat:=vn ((hsh seed).take 32)
def rN (seed msg:List Int):Nat:=hN ((hsh seed).drop 32++msg)
def rg (seed:List Int):Pt CT:=Pt.mul (yo seed) BT
def rP (seed msg:List Int):Pt CT:=Pt.mul (rN seed msg) BT
def kN (seed msg:List Int):Nat:=hN (fk (rP seed msg)++fk (rg seed)++msg)
def sN (seed msg:List Int):Nat:=(kN seed msg*yo seed+rN seed msg) % L
def ia (seed msg:List Int):List Int:=fk (rP seed msg)++bg 256 32 (sN seed msg:Int)
theorem wc (p:List Int):((hsh p).drop 0).take 32=(hsh p).take 32:=by rw [List.drop_zero]
theorem qS (p:List Int):((hsh p).take 32).length=32:=by rw [List.length_take,qY];rfl
theorem wa (p:List Int):((hsh p).drop 32).length=32:=by rw [List.length_drop,qY]
theorem xP (p:List Int):aC (F43 ((hsh p).take 32)) 32 0 32=lg ((hsh p).take 32):=by
 rw [MH (ep (fF p) 32),ah (by rw [qO,qS])]
theorem Cp {n:List Int} {N:Nat} (hn:Dig 256 n) (h:num 256 n=(N:Int)):kx (Eu BM n)=fk (Pt.mul N BT):=Kt (LF Ku hn h)
theorem zn {n:List Int} {N:Nat} (hn:Dig 256 n) (h:num 256 n=(N:Int)):np (tD n uj)=fk (Pt.mul N BT):=DW (yH DF hn h)
theorem Rz {p0:List Int} (h0:Dig 256 p0) (hl:p0.length=32):iY p0=fk (rg p0):=by
 have e:((((p0.length:Nat):Int):Int) != 32)=false:=by rw [hl];rfl
 unfold iY
 rw [e,aA,Hr h0 (by omega),wc,xP]
 exact Cp (jk (ep (fF p0) 32)) (mD (ep (fF p0) 32))
theorem BH (p:List Int):aC (F44 (aC (bc p) 64 0 32)) 32 0 32=lg ((hsh p).take 32):=by
 have e1:aC (bc p) 64 0 32=(hsh p).take 32:=by rw [iF (kV p),List.drop_zero];rfl
 rw [e1,DN (ep (fF p) 32),ah (by rw [qO,qS])]
theorem MZ {p0:List Int}:wS p0=fk (rg p0):=by
 unfold wS
 have e2:(aC (bc p0) 64 0 32).length=32:=nP p0 0 (by decide)
 rw [e2,BH]
 exact zn (jk (ep (fF p0) 32)) (mD (ep (fF p0) 32))
theorem zM {x:List Int} (hx:Dig 256 x) (hl:x.length≤100000000):Sc4 (qg (aC (iE x) 64 0 64)) (hN x):=by
 rw [Hr hx hl,ah (qY x)]
 exact vW (fF x) (sA (fF x))
theorem xb (x:List Int):hN x<L:=Nat.mod_lt _ vF
theorem Qj:L<2 ^ 256:=NE
theorem kL {V:Nat} (h:V<L):num 256 (bg 256 32 (V:Int))=(V:Int):=Mg (Nat.lt_trans h Qj)
theorem xY (V:Nat):Dig 256 (bg 256 32 (V:Int)):=dd (by decide) _ _
theorem sU (p:List Int):aC (hsh p) 64 32 32=(hsh p).drop 32:=by
 rw [iF (qY p),List.take_of_length_le (by rw [wa];exact Nat.le_refl _)]
theorem Qo {p0 p1:List Int} (h0:Dig 256 p0) (hl:p0.length=32) (h1:Dig 256 p1) (hl1:p1.length≤10000):rV p0 p1=ia p0 p1:=by
 have e9:(((FT9 p0):Int) != 0)=false:=by rw [(CZ hl).1];rfl
 unfold rV Bk BL BX vc Bz gY CC pQ
 rw [e9,aA,PV,Ob,Rz h0 hl,(CZ hl).2,ah (dU _),Hr h0 (by omega),sU,wc,xP]
 have dpre:Dig 256 ((hsh p0).drop 32++p1):=tV (qK (fF p0) 32) h1
 have lpre:((hsh p0).drop 32++p1).length≤100000000:=by rw [List.length_append,wa];omega
 have hr:=zM dpre lpre
 rw [xu hr,ah (aw _ _ _),Cp (xY _) (kL (xb _))]
 have dk:Dig 256 (aC (fk (rP p0 p1)) 32 0 32++fk (rg p0)++p1):=by
  rw [ah (dU _)]
  exact tV (tV (lF _) (lF _)) h1
 have lk:(aC (fk (rP p0 p1)) 32 0 32++fk (rg p0)++p1).length≤100000000:=by
  rw [ah (dU _),List.length_append,List.length_append,dU,dU];omega
 have hk:=zM dk lk
 rw [ah (dU _)] at hk
 have hs:=vW (jk (ep (fF p0) 32)) (mD (ep (fF p0) 32))
 have hm:=RC hk hs (xb _)
 have hp:=Ie hm hr (Nat.mod_lt _ vF) (xb _)
 show fk (rP p0 p1)++rQ (uv (Ih (qg (aC (iE (aC (fk (rP p0 p1)) 32 0 32++fk (rg p0)++p1)) 64 0 64)) _) _)=_
 rw [ah (dU (rP p0 p1))]
 rw [xu hp]
 unfold ia
 congr 2
 unfold sN
 congr 1
 show (vn ((hsh p0).take 32) % L*hN (fk (rP p0 p1)++fk (rg p0)++p1) % L+hN ((hsh p0).drop 32++p1)) % L=(kN p0 p1*yo p0+rN p0 p1) % L
 rw [Nat.mod_add_mod,Nat.add_mod,Nat.mul_mod,Nat.mod_mod,← Nat.mul_mod,← Nat.add_mod,Nat.mul_comm]
 rfl
end Go.Vm
namespace Go.Vm
open Go Tabn
theorem Bw {a b c:List Int}:rM a b c=bg 256 32 (hN (a++b++c):Int):=by
 unfold rM
 rw [ah (xs:=a++b++c) (by rw [List.length_append,List.length_append])]
 show AY (aC (hsh (a++b++c)) 64 0 64)=_
 rw [ah (qY _)]
 exact Mv (fF _) (sA (fF _))
def sf (K S:List Int) (i j:Nat) (z:List Int):List Int :=
 z.set (i+j) (aE .i64 (z.getD (i+j) 0) (bE .i64 (IntKind.wrap .i64 (K.getD i 0)) (IntKind.wrap .i64 (S.getD j 0))))
def pb (K S R:List Int) (i:Nat) (z:List Int):List Int :=
 itr (sf K S i) 32 (z.set i (aE .i64 (z.getD i 0) (IntKind.wrap .i64 (R.getD i 0))))
theorem HG {a b:Int} (ha:0≤a∧a<256) (hb:0≤b∧b<256):0≤a*b∧a*b≤65025:=by
 refine ⟨Int.mul_nonneg ha.1 hb.1,?_⟩
 have:=Int.mul_le_mul (show a≤255 by omega) (show b≤255 by omega) hb.1 (by decide)
 omega
def Wb (M:Int) (z:List Int):Prop:=∀ t,0≤z.getD t 0∧z.getD t 0≤M
theorem Wb.set {M M':Int} {z:List Int} {i:Nat} {v:Int} (h:Wb M z) (hm:M≤M') (hv:0≤v∧v≤M'):Wb M' (z.set i v):=by
 intro t
 by_cases hi:i<z.length
 ·by_cases e:t=i
  ·subst e;rw [bz hi];exact hv
  ·rw [bN (by omega)];have:=h t;omega
 ·rw [List.set_eq_of_length_le (by omega)];have:=h t;omega
theorem Be {K S:List Int} (hK:Dig 256 K) (hS:Dig 256 S) {i:Nat} (hi:i<32) {z:List Int} {M:Int} (hM:0≤M∧M≤1000000000) (hz:Wb M z) (hl:z.length=66) :
  ∀ j,j≤32→(itr (sf K S i) j z).length=66∧Wb (M+j*65025) (itr (sf K S i) j z)∧num 256 (itr (sf K S i) j z)=num 256 z+K.getD i 0*256 ^ i*num 256 (S.take j):=by
 intro j
 induction j with
 |zero =>
  intro _
  rw [aX]
  refine ⟨hl,fun t=>?_,?_⟩
  ·have:=hz t;omega
  ·show _=num 256 z+K.getD i 0*256 ^ i*0
   rw [Int.mul_zero,Int.add_zero]
 |succ j ih =>
  intro hj
  obtain ⟨h1,h2,h3⟩:=ih (by omega)
  rw [aQ]
  generalize itr (sf K S i) j z=y at *
  unfold sf
  have hk:0≤K.getD i 0∧K.getD i 0<256:=bD (by decide) hK
  have hs:0≤S.getD j 0∧S.getD j 0<256:=bD (by decide) hS
  have hy:=h2 (i+j)
  have hm:=HG hk hs
  rw [gh hk,gh hs]
  have e1:bE .i64 (K.getD i 0) (S.getD j 0)=K.getD i 0*S.getD j 0:=by unfold bE;exact bh (by omega) (by omega)
  have e2:aE .i64 (y.getD (i+j) 0) (K.getD i 0*S.getD j 0)=y.getD (i+j) 0+K.getD i 0*S.getD j 0:=cK (by omega) (by omega)
  rw [e1,e2]
  refine ⟨by rw [List.length_set,h1],h2.set (by omega) (by omega),?_⟩
  rw [gn (by omega),h3,dN,Int.pow_add]
  generalize (256:Int) ^ i=X
  generalize (256:Int) ^ j=Y
  generalize K.getD i 0=k
  generalize S.getD j 0=s
  generalize num 256 (S.take j)=n
  generalize y.getD (i+j) 0=o
  generalize num 256 z=m
  grind -lia -linarith
theorem Ax {K S R:List Int} (hK:Dig 256 K) (hS:Dig 256 S) (hR:Dig 256 R) (lS:S.length=32) :
  ∀ i,i≤32→(itr (pb K S R) i (List.replicate 66 0)).length=66∧Wb (i*3000000) (itr (pb K S R) i (List.replicate 66 0))∧num 256 (itr (pb K S R) i (List.replicate 66 0))=num 256 (R.take i)+num 256 (K.take i)*num 256 S:=by
 intro i
 induction i with
 |zero =>
  intro _
  rw [aX]
  refine ⟨by simp,fun t=>?_,?_⟩
  ·rw [By];omega
  ·rw [kS]
   show 0=0+0*num 256 S
   rw [Int.zero_mul];rfl
 |succ i ih =>
  intro hi
  obtain ⟨h1,h2,h3⟩:=ih (by omega)
  rw [aQ]
  generalize itr (pb K S R) i (List.replicate 66 0)=y at *
  unfold pb
  have hr:0≤R.getD i 0∧R.getD i 0<256:=bD (by decide) hR
  have hy:=h2 i
  rw [gh hr]
  have e2:aE .i64 (y.getD i 0) (R.getD i 0)=y.getD i 0+R.getD i 0:=cK (by omega) (by omega)
  rw [e2]
  have hw:Wb (i*3000000+255) (y.set i (y.getD i 0+R.getD i 0)):=h2.set (by omega) (by omega)
  obtain ⟨g1,g2,g3⟩:=Be hK hS (show i<32 by omega) (by omega) hw (by rw [List.length_set,h1]) 32 (Nat.le_refl _)
  refine ⟨g1,fun t=>?_,?_⟩
  ·have:=g2 t;omega
  ·rw [g3,gn (by omega),h3,List.take_of_length_le (by omega:S.length≤32),dN,dN]
   generalize (256:Int) ^ i=X
   generalize K.getD i 0=k
   generalize R.getD i 0=r
   generalize num 256 S=s
   generalize num 256 (K.take i)=n
   generalize num 256 (R.take i)=m
   generalize y.getD i 0=o
   grind -lia -linarith
def pV (w:List Int) (k2:Nat) (z2:Int × List Int):Int × List Int :=
 ((ic .i64 (aE .i64 z2.1 (w.getD k2 0)) 256),z2.2.set k2 (IntKind.wrap .u8 (bm (aE .i64 z2.1 (w.getD k2 0)) 256)))
theorem Eo {w:List Int} (hl:w.length=66) (hw:Wb 96000000 w) {T:Nat} (hT:num 256 w=(T:Int)) (hX:(T:Int)<256 ^ 66) :
  ((itr (pV w) 66 (0,List.replicate 66 0)).2).length=66∧Dig 256 (itr (pV w) 66 (0,List.replicate 66 0)).2∧num 256 (itr (pV w) 66 (0,List.replicate 66 0)).2=(T:Int):=by
 obtain ⟨c,d,e,h1,h2,h3,h4⟩:=sB (f:=pV w) (W:=fun k=>w.getD k 0) (sg:=1) (p:=List.replicate 66 0) (n:=66) (C:=fun c=>0≤c∧c≤96000000) (by simp) (by
  intro k c d hk hld hg hc
  have hx:=hw k
  unfold pV
  simp only
  generalize w.getD k 0=x at *
  have e2:aE .i64 c x=c+x:=cK (by omega) (by omega)
  have e3:ic .i64 (c+x) 256=(c+x)/256:=by
   unfold ic
   rw [Int.tdiv_eq_ediv_of_nonneg (by omega),bh (by omega) (by omega)]
  have e4:IntKind.wrap .u8 (bm (c+x) 256)=(c+x) % 256:=by
   unfold bm
   rw [Int.tmod_eq_emod_of_nonneg (by omega),dc]
   exact Int.emod_emod_of_dvd _ (Int.dvd_refl _)
  rw [e2,e3,e4]
  exact ⟨(c+x)/256,(c+x) % 256,rfl,by omega,by omega,by omega⟩) (c0:=0) (by decide)
 rw [jp hl,hT] at h4
 have hb1:=(jT (B:=256) (by decide) h3).1
 generalize (256:Int) ^ 66=X at *
 have hc0:c=0:=by
  by_cases h:c=0
  ·exact h
  ·exfalso
   have:X*1≤X*c:=Int.mul_le_mul_of_nonneg_left (by omega) (by omega)
   rw [Int.one_mul] at h4
   omega
 subst hc0
 rw [e]
 exact ⟨h1,h3,by simpa using h4⟩
theorem sS (v:Int):(bg 256 32 v).take 32=bg 256 32 v:=List.take_of_length_le (by rw [aw];exact Nat.le_refl _)
theorem IY (a b:List Int):rN a b<L:=xb _
theorem Mw (a b:List Int):kN a b<L:=xb _
theorem Mr (a b:List Int):sN a b<L:=Nat.mod_lt _ vF
theorem LQ (x y:List Int):x++y++[]=x++y:=List.append_nil _
theorem Qq {p0 p1:List Int} (h1:Dig 256 p1):LY p0 p1=ia p0 p1:=by
 have eR:rM (aC (bc p0) 64 32 32) p1 ([]:List Int)=bg 256 32 (rN p0 p1:Int):=by
  rw [Bw]
  show bg 256 32 (hN (aC (hsh p0) 64 32 32++p1++[]):Int)=_
  rw [sU,LQ]
  rfl
 have eO:np (tD (aC (rM (aC (bc p0) 64 32 32) p1 ([]:List Int)) 32 0 32) uj)=fk (rP p0 p1):=by
  rw [eR,ah (aw _ _ _)]
  exact zn (xY _) (kL (IY p0 p1))
 have eK:rM (aC (np (tD (aC (rM (aC (bc p0) 64 32 32) p1 ([]:List Int)) 32 0 32) uj)) 32 0 32) (aC (wS p0) 32 0 32) p1=bg 256 32 (kN p0 p1:Int):=by
  rw [eO,ah (dU _),MZ,ah (dU _),Bw]
  rfl
 have eS:F44 (aC (bc p0) 64 0 32)=lg ((hsh p0).take 32):=by
  have e1:aC (bc p0) 64 0 32=(hsh p0).take 32:=by rw [iF (kV p0),List.drop_zero];rfl
  rw [e1,DN (ep (fF p0) 32)]
 have dS:=jk (ep (fF p0) 32)
 have lS:(lg ((hsh p0).take 32)).length=32:=by rw [qO,qS]
 have h0:zC p0 p1=pb (bg 256 32 (kN p0 p1:Int)) (lg ((hsh p0).take 32)) (bg 256 32 (rN p0 p1:Int)):=by
  funext i z
  unfold zC CL mW pb
  have e1:yY p0 p1 i=sf (bg 256 32 (kN p0 p1:Int)) (lg ((hsh p0).take 32)) i:=by
   funext j y
   unfold yY ya oq mW sf
   rw [eK,eS]
  rw [e1,eR]
 obtain ⟨w1,w2,w3⟩:=Ax (xY (kN p0 p1)) dS (xY (rN p0 p1)) lS 32 (Nat.le_refl _)
 rw [sS,sS,kL (IY p0 p1),kL (Mw p0 p1),mD (ep (fF p0) 32)] at w3
 have hT:num 256 (itr (pb (bg 256 32 (kN p0 p1:Int)) (lg ((hsh p0).take 32)) (bg 256 32 (rN p0 p1:Int))) 32 (List.replicate 66 0))=((rN p0 p1+kN p0 p1*yo p0:Nat):Int):=by
  rw [w3,Int.natCast_add,Int.natCast_mul]
  rfl
 have hlt:((rN p0 p1+kN p0 p1*yo p0:Nat):Int)<256 ^ 66:=by
  have a1:kN p0 p1<256 ^ 32:=Nat.lt_trans (Mw p0 p1) (by decide)
  have a2:yo p0<256 ^ 32:=Nat.lt_trans (Iv (ep (fF p0) 32) (qS p0)).2.2 (by decide)
  have a3:rN p0 p1<256 ^ 32:=Nat.lt_trans (IY p0 p1) (by decide)
  have a4:kN p0 p1*yo p0≤256 ^ 32*256 ^ 32:=Nat.mul_le_mul (Nat.le_of_lt a1) (Nat.le_of_lt a2)
  have a5:(256:Nat) ^ 66=256 ^ 32*256 ^ 32*65536:=by rw [← Nat.pow_add,show 65536=256 ^ 2 from rfl,← Nat.pow_add]
  have a6:0<(256:Nat) ^ 32:=Nat.pow_pos (by decide)
  have a7:(256:Nat) ^ 32*1≤256 ^ 32*256 ^ 32:=Nat.mul_le_mul (Nat.le_refl _) a6
  have a8:rN p0 p1+kN p0 p1*yo p0<256 ^ 66:=by
   rw [a5]
   generalize (256:Nat) ^ 32*256 ^ 32=X at *
   generalize (256:Nat) ^ 32=Y at *
   generalize kN p0 p1*yo p0=m at *
   omega
  have a9:(((256:Nat) ^ 66:Nat):Int)=256 ^ 66:=Int.natCast_pow 256 66
  rw [← a9]
  exact Int.ofNat_lt.2 a8
 have hc:yl p0 p1=pV (itr (pb (bg 256 32 (kN p0 p1:Int)) (lg ((hsh p0).take 32)) (bg 256 32 (rN p0 p1:Int))) 32 (List.replicate 66 0)):=by
  funext k z
  unfold yl oz pV
  rw [h0]
 obtain ⟨c1,c2,c3⟩:=Eo w1 (fun t=>by have:=w2 t;omega) hT hlt
 unfold LY BD yT oq mW
 rw [eO,hc,ah c1,Mv c2 c3]
 unfold ia sN
 rw [Nat.add_comm]
end Go.Vm
namespace Go.Vm
open Go Tabn
theorem lC {S:Nat→Bool}:∀ (n:Nat) {k:Nat},k<ar S n→S k=false
 |0,k,h=>absurd h (by unfold ar;omega)
 |n+1,k,h=>by
  rw [ar] at h
  cases hb:Nat.blt (ar S n) n
  ·rw [hb,cond_false] at h
   have hn:ar S n=n:=by
    have:=yv S n
    have hh:¬ ar S n<n:=fun hlt=>by rw [eP hlt] at hb;cases hb
    omega
   cases hs:S n
   ·rw [hs,cond_false] at h
    by_cases e:k=n
    ·rw [e];exact hs
    ·exact lC n (by omega)
   ·rw [hs,cond_true] at h
    exact lC n (by omega)
  ·rw [hb,cond_true] at h
   exact lC n h
theorem DV {S:Nat→Bool}:∀ (n:Nat),ar S n<n→S (ar S n)=true
 |0,h=>absurd h (by omega)
 |n+1,h=>by
  cases hb:Nat.blt (ar S n) n
  ·cases hs:S n
   ·rw [ar,hb,cond_false,hs,cond_false] at h
    omega
   ·rw [ar,hb,cond_false,hs,cond_true]
    exact hs
  ·rw [ar,hb,cond_true]
   exact DV n (by rw [Nat.blt_eq] at hb;exact hb)
theorem vY {a b:List Int} {i m:Nat} (h:∀ j,i<j→j<m→a.getD j 0=b.getD j 0):∀ n,i+1+n≤m→num 256 (a.take (i+1+n))-num 256 (b.take (i+1+n))=num 256 (a.take (i+1))-num 256 (b.take (i+1)):=by
 intro n
 induction n with
 |zero=>intro _;rfl
 |succ n ih =>
  intro hn
  have h1:=ih (by omega)
  have h2:=h (i+1+n) (by omega) (by omega)
  rw [show i+1+(n+1)=(i+1+n)+1 by omega,dN,dN,h2]
  omega
theorem wY {a b:List Int} (ha:Dig 256 a) (hb:Dig 256 b) {i:Nat} (hi:i<a.length) (hi':i<b.length) (h:a.getD i 0<b.getD i 0):num 256 (a.take (i+1))<num 256 (b.take (i+1)):=by
 rw [dN,dN]
 have h1:=jT (B:=256) (by decide) (ep ha i)
 have h2:=jT (B:=256) (by decide) (ep hb i)
 rw [List.length_take,Nat.min_eq_left (by omega)] at h1 h2
 have h3:(a.getD i 0+1)*256 ^ i≤b.getD i 0*256 ^ i:=Int.mul_le_mul_of_nonneg_right (by omega) (by omega)
 rw [Int.add_mul,Int.one_mul] at h3
 omega
theorem KX {a b:List Int} (ha:Dig 256 a) (hb:Dig 256 b) (la:a.length=32) (lb:b.length=32):zv a b=decide (nN a<nN b):=by
 have na:=sA ha
 have nb:=sA hb
 have tl:∀ x:List Int,x.length=32→x.take 32=x:=fun x hx=>List.take_of_length_le (by omega)
 unfold zv
 cases hf:Nat.blt (ar (cq a b) 32) 32
 ·have hn:ar (cq a b) 32=32:=by
   have h1:=yv (cq a b) 32
   have hh:¬ ar (cq a b) 32<32:=fun hlt=>by rw [eP hlt] at hf;cases hf
   omega
  have hs:∀ k,k<32→cq a b k=false:=fun k hk=>lC 32 (by rw [hn];exact hk)
  have hall:∀ j,j<32→a.getD j 0=b.getD j 0:=by
   intro j hj
   have:=hs (31-j) (by omega)
   unfold cq at this
   rw [show 32-1-(31-j)=j by omega] at this
   cases hx:((a.getD j 0:Int) != b.getD j 0)
   ·simpa using hx
   ·rw [hx] at this;cases this
  have he:num 256 a=num 256 b:=by
   have h1:=vY (a:=a) (b:=b) (i:=0) (m:=32) (fun j _ hj=>hall j hj) 31 (by omega)
   rw [show 0+1+31=32 from rfl,tl a la,tl b lb,show (0:Nat)+1=0+1 from rfl,dN,dN,hall 0 (by decide)] at h1
   have e0:num 256 (a.take 0)=0:=rfl
   have e1:num 256 (b.take 0)=0:=rfl
   rw [e0,e1] at h1
   omega
  rw [aA,decide_eq_false]
  omega
 ·rw [aB]
  have hlt:ar (cq a b) 32<32:=by
   rw [Nat.blt_eq] at hf;exact hf
  have hsame:∀ j,31-ar (cq a b) 32<j→j<32→a.getD j 0=b.getD j 0:=by
   intro j h1 h2
   have:=lC (S:=cq a b) 32 (k:=31-j) (by omega)
   unfold cq at this
   rw [show 32-1-(31-j)=j by omega] at this
   cases hx:((a.getD j 0:Int) != b.getD j 0)
   ·simpa using hx
   ·rw [hx] at this;cases this
  have hdiff:a.getD (31-ar (cq a b) 32) 0≠b.getD (31-ar (cq a b) 32) 0:=by
   have hh:=DV (S:=cq a b) 32 hlt
   have h31:cq a b (ar (cq a b) 32)=sel (a.getD (32-1-ar (cq a b) 32) 0 != b.getD (32-1-ar (cq a b) 32) 0) true false:=rfl
   rw [h31,show 32-1-ar (cq a b) 32=31-ar (cq a b) 32 by omega] at hh
   intro e
   rw [e] at hh
   rw [show (b.getD (31-ar (cq a b) 32) 0 != b.getD (31-ar (cq a b) 32) 0)=false by simp,aA] at hh
   cases hh
  rw [show 32-1-ar (cq a b) 32=31-ar (cq a b) 32 by omega]
  generalize 31-ar (cq a b) 32=i at *
  have hi:i<32:=by
   by_cases h:i<32
   ·exact h
   ·exfalso
    apply hdiff
    rw [List.getD_eq_getElem?_getD,List.getD_eq_getElem?_getD,List.getElem?_eq_none (by omega),List.getElem?_eq_none (by omega)]
  have hup:=vY (a:=a) (b:=b) (i:=i) (m:=32) hsame (31-i) (by omega)
  rw [show i+1+(31-i)=32 by omega,tl a la,tl b lb] at hup
  by_cases hc:a.getD i 0<b.getD i 0
  ·have:=wY ha hb (i:=i) (by omega) (by omega) hc
   rw [decide_eq_true hc,decide_eq_true]
   omega
  ·have:=wY hb ha (i:=i) (by omega) (by omega) (by omega)
   rw [decide_eq_false hc,decide_eq_false]
   omega
theorem GZ (a z:Tabn.F):0-a*z = -a*z:=by grind -lia -linarith
theorem Pz {p:Pt CT} {s:List Int} (h:PR p s):PR p.neg (aT s 0 (cl (au 0) ((s.drop 0).take 16))):=by
 obtain ⟨X,Y,Z,fx,fy,fz,rfl,hX,hY,hZ,hE⟩:=h
 obtain ⟨c1,c2,c3⟩:=EL hX.len hY.len hZ.len
 rw [c1]
 have n1:RF (cl (au 0) X) (0-fx):=vw pj hX
 have e:aT (X++(Y++Z)) 0 (cl (au 0) X)=cl (au 0) X++(Y++Z):=by
  unfold aT
  rw [List.take_zero,List.nil_append,n1.len,Nat.zero_add,← hX.len,List.drop_left]
 rw [e]
 refine ⟨_,_,_,_,_,_,rfl,n1,hY,hZ,⟨hE.z0,?_,hE.y⟩⟩
 rw [hE.x];exact GZ _ _
def Fg (A:Pt CT) (pub msg sig:List Int):Pt CT:=(Pt.mul (nN (sig.drop 32)) BT).add (Pt.mul (hN (sig.take 32++pub++msg)) A.neg)
theorem RN {p0 p1 p2:List Int} {A:Pt CT} (h1:Dig 256 p1) (h2:Dig 256 p2) (hA:p0=fk A) (hl:p2.length=64) :
  re p0 p1 p2=(decide (nN (p2.drop 32)<L) && decide (fk (Fg A p0 p1 p2)=p2.take 32)):=by
 have h0:Dig 256 p0:=by rw [hA];exact lF A
 have e64:((((p2.length:Nat):Int):Int) != 64)=false:=by rw [hl];rfl
 have hd:(p2.drop 32).take (p2.length-32)=p2.drop 32:=List.take_of_length_le (by rw [List.length_drop];omega)
 have ld:(p2.drop 32).length=32:=by rw [List.length_drop];omega
 have hL:nN ry=L:=by
  have:=sA uo
  rw [za] at this
  exact (Int.ofNat.inj this).symm
 unfold re
 rw [e64,aA,hd]
 have e41:zv (p2.drop 32) (aC [237,211,245,92,26,99,18,88,214,156,247,162,222,249,222,20,0,0,0,0,0,0,0,0,0,0,0,0,0,0,0,16] 32 0 32)=decide (nN (p2.drop 32)<L):=by
  rw [ah (n:=32) rfl]
  have:=KX (qK h2 32) uo ld Ah
  rw [hL] at this
  exact this
 rw [e41]
 rcases JS h0 with ⟨r1,p,r2,r3⟩|⟨_,hno⟩
 ·have hp:p=A:=pp (r2.symm.trans hA)
  subst hp
  rw [r1,Bool.not_true,aA]
  by_cases hc:nN (p2.drop 32)<L
  ·have d0:p2.drop 0=p2:=List.drop_zero
   rw [decide_eq_true hc,Bool.not_true,aA,Bool.true_and,Bw,ah (aw _ _ _),d0]
   have t1:=yH DF (qK h2 32) (sA (qK h2 32))
   have t2:=yH (Pz r3) (xY _) (kL (xb (p2.take 32++p0++p1)))
   have t3:=HY t1 t2
   rw [DW t3,List.drop_zero,List.take_of_length_le (by rw [dU];exact Nat.le_refl _),ng (lF _) (ep h2 32)]
   rfl
  ·rw [decide_eq_false hc];rfl
 ·exact absurd hA (hno A)
end Go.Vm
namespace Tabn
theorem Pt.mul_add {C:Crv} (k:Nat) (p q:Pt C):Pt.mul k (p.add q)=(Pt.mul k p).add (Pt.mul k q):=by
 induction k with
 |zero =>
  show Pt.zero C=(Pt.zero C).add (Pt.zero C)
  rw [Pt.zero_add]
 |succ k ih =>
  show (Pt.mul k (p.add q)).add (p.add q)=((Pt.mul k p).add p).add ((Pt.mul k q).add q)
  rw [ih,Pt.add_assoc,Pt.add_assoc,← Pt.add_assoc (Pt.mul k q) p q,Pt.add_comm (Pt.mul k q) p,Pt.add_assoc p]
theorem Pt.mul_neg_add {C:Crv} (k:Nat) (p:Pt C):(Pt.mul k p.neg).add (Pt.mul k p)=Pt.zero C:=by
 rw [← Pt.mul_add,Pt.neg_add,Pt.mul_zero]
end Tabn
namespace Go.Vm
open Go Tabn
theorem lv (a b:List Int):(ia a b).length=64:=by unfold ia;rw [List.length_append,dU,aw]
theorem tx (a b:List Int):Dig 256 (ia a b):=tV (lF _) (xY _)
theorem wg (a b:List Int):(ia a b).take 32=fk (rP a b):=by
 unfold ia
 rw [List.take_append_of_le_length (by rw [dU];exact Nat.le_refl _),List.take_of_length_le (by rw [dU];exact Nat.le_refl _)]
theorem FH (a b:List Int):(ia a b).drop 32=bg 256 32 (sN a b:Int):=by
 unfold ia
 rw [← dU (rP a b),List.drop_left]
theorem QN {b:List Int} {V:Nat} (h:num 256 b=(V:Int)):nN b=V:=by unfold nN;rw [h];rfl
theorem Ao (a b:List Int):nN ((ia a b).drop 32)=sN a b:=by rw [FH];exact QN (kL (Mr a b))
theorem Ew (a b:List Int):Pt.mul (sN a b) BT=(Pt.mul (kN a b) (rg a)).add (rP a b):=by
 unfold sN
 rw [Tabn.mul_mod,Pt.add_mul,Pt.mul_mul]
 rfl
theorem BY {k:Nat} {A R:Pt CT}:((((Pt.mul k A).add R)).add (Pt.mul k A.neg))=R:=by
 rw [Pt.add_comm (Pt.mul k A) R,Pt.add_assoc,Pt.add_comm (Pt.mul k A),Pt.mul_neg_add,Pt.add_zero]
theorem GJ {a b:List Int} (hb:Dig 256 b) (lb:b.length≤10000):re (fk (rg a)) b (ia a b)=true:=by
 rw [RN hb (tx a b) rfl (lv a b),Ao,decide_eq_true (Mr a b),Bool.true_and,wg]
 apply decide_eq_true
 congr 1
 unfold Fg
 rw [Ao,wg,Ew]
 exact BY
end Go.Vm
namespace Go.Vm
open Go Tabn
def dI (host share:ByteArray) (s:ByteArray):List Int:=[31]++be4 host.size++aD host++be4 share.size++aD share++be4 s.size++aD s
theorem oE (n:Nat):(be4 n).length=4:=rfl
theorem mA {s:List Int} (h:s.length=64):(eV s).size≤83:=by
 have:=JF s (by omega)
 omega
theorem zS {a b:ByteArray} {c d:List Int} {e f g:ByteArray} {h:List Int} {p1:ByteArray} (ht:fb a b c d e f g h) (hd:Dg h) (hs:p1.size=32) :
  iL a b c d e f g h p1=0∧aP a b c d e f g h p1=dI e g (eV (ia (aD p1) (bv a b c d e f g h)))∧aF a b c d e f g h p1=(dI e g (eV (ia (aD p1) (bv a b c d e f g h)))).length:=by
 have hl:(aD p1).length=32:=by rw [aU];exact hs
 have e1:aC (aD p1) p1.size 0 p1.size=aD p1:=jK
 have e2:aC (fc a b c d e f g h) 32 0 32=bv a b c d e f g h:=by rw [wb ht hd];exact ah (kX a b c d e f g h)
 have e3:pL (aD p1) (bv a b c d e f g h)=0:=(Dk hl).1
 have e4:sel (((FT9 (aD p1)):Int) != 0) 0 64=64:=(Dk (p1:=[]) hl).2
 have hz:sel (((0:Int)) != 0) (0:Int) 0=0:=rfl
 have v0:kK a b c d e f g h p1=ia (aD p1) (bv a b c d e f g h):=by
  unfold kK
  rw [e1,e2]
  exact Qo (eb p1) hl tp (by rw [kX];decide)
 have v1:iZ a b c d e f g h p1=eV (ia (aD p1) (bv a b c d e f g h)):=by
  unfold iZ
  rw [v0,e1,e4,ah (lv _ _)]
 have s83:=mA (lv (aD p1) (bv a b c d e f g h))
 obtain ⟨q1,q2,q3,q4,q5,q6,q7,q8⟩:=ht
 have v2:oG a b c d e f g h p1=dI e g (eV (ia (aD p1) (bv a b c d e f g h))):=by
  unfold oG
  rw [v1,fm _ _ _ (by omega),fm _ _ _ (by omega),fm _ _ _ (by omega)]
  rfl
 have hz2:(((0:Int)) != 0)=false:=rfl
 refine ⟨?_,?_,?_⟩
 ·unfold iL
  rw [e1,e2,e3,hz2,aA]
 ·unfold aP
  rw [e1,e2,e3,hz2,aA,v2]
 ·unfold aF
  rw [e1,e2,e3,hz2,aA,v1]
  unfold dI
  simp only [List.length_append,aU,List.length_cons,List.length_nil,oE]
theorem nk {a b:ByteArray} {c d:List Int} {e f g:ByteArray} {h:List Int} {p1:ByteArray} (ht:fb a b c d e f g h) (hd:Dg h) (hs:p1.size=32):(aC (aP a b c d e f g h p1) (aF a b c d e f g h p1) 0 (aF a b c d e f g h p1)).length≤20000:=by
 have s83:=mA (lv (aD p1) (bv a b c d e f g h))
 obtain ⟨r1,r2,r3⟩:=zS ht hd hs
 obtain ⟨q1,q2,q3,q4,q5,q6,q7,q8⟩:=ht
 rw [r2,r3,ah rfl]
 unfold dI
 simp only [List.length_append,aU,List.length_cons,List.length_nil,oE]
 omega
theorem NY (s:ByteArray) (h:s.size≤2000):lm s=[30]++be4 s.size++aD s:=by
 unfold lm
 rw [fm _ _ _ (by omega)]
end Go.Vm
namespace Go.Vm
open Go
end Go.Vm
namespace Go.Vm
open Go
theorem xR (s:ByteArray) (h:s.size≤1000):rf s=il s:=by
 unfold rf pe uX il rv
 rw [qh _ (by decide),fm _ _ _ (by omega),jc _ (by decide),jc _ (by omega),oP (by rw [List.length_append,aU];rfl),List.append_assoc,Nat.add_assoc]
theorem zj (s:ByteArray) (h:s.size≤1000):eV (aC (aD s) s.size 0 s.size)=il s:=by
 rw [ah (aU s),← xR s h]
 unfold eV yL Cs
 rw [fa]
 rfl
theorem Jj (x:ByteArray) (h:x.size≤1000000000):fS (some (aD x)):=mS (eb x) (by rw [aU];exact h)
def zY (x:ByteArray):Bool:=textN (textN (some (aD x)))==some []
theorem ph (x:ByteArray):aC (aD x) x.size 0 x.size=aD x:=ah (aU x)
theorem zH (x:ByteArray) (h:x.size≤1000000000):cy x=sel (!(zY x)) (⟨#[]⟩:ByteArray) (sel (!(aR (bytesOf (textV (some (aD x)))) (⟨#[115,115,104,45,101,100,50,53,53,49,57]⟩:ByteArray))) (⟨#[]⟩:ByteArray) (sel (((((bytesOf (textV (textN (some (aD x))))).size:Nat):Int):Int) != 32) (⟨#[]⟩:ByteArray) (bytesOf (textV (textN (some (aD x))))))):=by
 have h0:=Jj x h
 have t1:=jZ h0
 have t2:=jZ h0.textN
 have e1:aV (aD x) false=bytesOf (textV (some (aD x))):=t1.1
 have e2:bJ (aD x) false=rb (textN (some (aD x))):=t1.2.1
 have e3:bI (aD x) false=eY (textN (some (aD x))):=t1.2.2
 unfold cy gq ju jt bS
 rw [ph,e1,e2,e3,t2.1,t2.2.1,t2.2.2,nu]
 rfl
theorem rE (x:ByteArray) (n:Int) (h:x.size≤1000000000):cp x n=sel (!(zY x)) (⟨#[]⟩:ByteArray) (sel (!(aR (bytesOf (textV (some (aD x)))) (⟨#[115,115,104,45,101,100,50,53,53,49,57]⟩:ByteArray))) (⟨#[]⟩:ByteArray) (sel (((((bytesOf (textV (textN (some (aD x))))).size:Nat):Int):Int) != n) (⟨#[]⟩:ByteArray) (bytesOf (textV (textN (some (aD x))))))):=by
 have hd:=eb x
 have hl:(aD x).length≤1000000000:=by rw [aU];exact h
 have c0:js (aD x) 0:=⟨hl,by omega,by omega⟩
 have t1:=mI false hd c0
 have c1:js (aD x) (af (aD x) 0 false):=⟨hl,ke false c0⟩
 have t2:=mI (bU (aD x) 0 false) hd c1
 have c2:js (aD x) (af (aD x) (af (aD x) 0 false) (bU (aD x) 0 false)):=⟨hl,ke _ c1⟩
 have s0:cst (aD x) 0 false=some (aD x):=rfl
 unfold cp pN jI pS
 rw [ph,t1.1,t2.1,xz _ c2,t2.2,t1.2,s0]
 rfl
end Go.Vm
namespace Go.Vm
open Go
def rpH (x:List Int):List Int:=textV (nxO (some x) 1)
def rpS (x:List Int):List Int:=textV (textN (nxO (some x) 1))
def rpG (x:List Int):List Int:=textV (textN (textN (nxO (some x) 1)))
def rpE (x:List Int):Bool:=textN (textN (textN (nxO (some x) 1)))==some []
theorem pD {x:List Int} (hd:Dg x) (hl:x.length≤1000000000):db x false=mH (some x)∧aV (aq x false) (ao x false)=bytesOf (rpH x)∧cW x=bytesOf (rpS x)∧aV (bC x) (bB x)=bytesOf (rpG x)∧dj x=rpE x:=by
 have h0:fS (some x):=mS hd hl
 have b:=nW (some x)
 have b1:db x false=mH (some x):=b.1
 have b2:aq x false=rb (nxO (some x) 1):=b.2.1
 have b3:ao x false=eY (nxO (some x) 1):=b.2.2
 have t1:=jZ (h0.nx 1)
 have t2:=jZ (h0.nx 1).textN
 have t3:=jZ (h0.nx 1).textN.textN
 have e1:bC x=rb (textN (textN (nxO (some x) 1))):=by unfold bC;rw [b2,b3,t1.2.1,t1.2.2,t2.2.1]
 have e2:bB x=eY (textN (textN (nxO (some x) 1))):=by unfold bB;rw [b2,b3,t1.2.1,t1.2.2,t2.2.2]
 refine ⟨b1,by rw [b2,b3,t1.1];rfl,by unfold cW;rw [b2,b3,t1.2.1,t1.2.2,t2.1];rfl,by rw [e1,e2,t3.1];rfl,?_⟩
 unfold dj
 rw [e1,e2,t3.2.1,t3.2.2,nu]
 rfl
theorem nd {x:List Int} (hd:Dg x) (hl:x.length≤1000000000):dH x 0 false=mH (some x)∧cB x (aK x 0 false) (aO x 0 false)=bytesOf (rpH x)∧cm x=bytesOf (rpS x)∧cM x=bytesOf (rpG x)∧dy x=rpE x:=by
 have c0:js x 0:=⟨hl,by omega,by omega⟩
 have b:=zU false hd c0
 have s0:cst x 0 false=some x:=rfl
 have c1:js x (aK x 0 false):=⟨hl,uG false c0⟩
 have t1:=mI (aO x 0 false) hd c1
 have c2:js x (af x (aK x 0 false) (aO x 0 false)):=⟨hl,ke _ c1⟩
 have t2:=mI (bU x (aK x 0 false) (aO x 0 false)) hd c2
 have c3:js x (af x (af x (aK x 0 false) (aO x 0 false)) (bU x (aK x 0 false) (aO x 0 false))):=⟨hl,ke _ c2⟩
 have t3:=mI (dO x) hd c3
 have c4:=ke (dO x) c3
 have e1:cst x (af x (af x (aK x 0 false) (aO x 0 false)) (bU x (aK x 0 false) (aO x 0 false))) (dO x)=textN (textN (nxO (some x) 1)):=by
  unfold dO
  rw [t2.2,t1.2,b.2,s0]
 refine ⟨by rw [b.1,s0],by rw [t1.1,b.2,s0];rfl,by unfold cm;rw [t2.1,t1.2,b.2,s0];rfl,by unfold cM;rw [t3.1,e1];rfl,?_⟩
 unfold dy lE
 rw [xz _ ⟨hl,c4⟩,t3.2,e1]
 rfl
theorem Hw (t:ByteArray) (h:t.size≤1000000000):je t=aR (cp t 64) (⟨#[]⟩:ByteArray)∧(je t=false→bytesOf (iW t)=cp t 64):=by
 have h0:=Jj t h
 have t1:=jZ h0
 have t2:=jZ h0.textN
 have e1:aV (aD t) false=bytesOf (textV (some (aD t))):=t1.1
 have e2:bJ (aD t) false=rb (textN (some (aD t))):=t1.2.1
 have e3:bI (aD t) false=eY (textN (some (aD t))):=t1.2.2
 have v0:fo t=bytesOf (textV (textN (some (aD t)))):=by unfold fo bS;rw [ph,e2,e3,t2.1]
 have vE:gw (iS t) (iQ t)=zY t:=by unfold iS iQ bS;rw [ph,e2,e3,t2.2.1,t2.2.2,nu];rfl
 have vK:aV (bS t.size (aD t)) false=bytesOf (textV (some (aD t))):=by unfold bS;rw [ph,e1]
 have vo:bf t=fo t:=rfl
 rw [rE t 64 h]
 unfold je iW
 rw [vo,vE,vK,v0]
 generalize zY t=a
 generalize aR (bytesOf (textV (some (aD t)))) (⟨#[115,115,104,45,101,100,50,53,53,49,57]⟩:ByteArray)=b
 generalize bytesOf (textV (textN (some (aD t))))=s
 cases a
 ·simp only [Bool.not_false,aB];exact ⟨(gA _).symm,fun h=>by cases h⟩
 ·cases b
  ·simp only [Bool.not_false,Bool.not_true,aB,aA];exact ⟨(gA _).symm,fun h=>by cases h⟩
  ·simp only [Bool.not_true,aA]
   cases hq:((((s.size:Nat):Int):Int) != 64)
   ·rw [aA]
    refine ⟨?_,fun _=>fa s⟩
    have hs:=ak hq
    cases hz:aR s (⟨#[]⟩:ByteArray)
    ·rfl
    ·have:=nc hz
     subst this
     exact absurd hs (by decide)
   ·rw [aB];exact ⟨(gA _).symm,fun h=>by cases h⟩
theorem wo (l:List Int) (h:l.length≤16384):(bytesOf l).size≤1000000000:=by rw [ae];omega
theorem AI (t:ByteArray) (h:t.size≤1000000000):cy t=cp t 32:=by rw [zH t h,rE t 32 h]
theorem mU {x:List Int} (hd:Dg x) (hl:x.length≤1000000000):cD x=cQ x∧bH x=bW x∧bp x=bA x∧bytesOf (((ag x).drop 0).take (aJ x))=bF x∧(ag x).length=aJ x:=by
 obtain ⟨a1,a2,a3,a4,a5⟩:=pD hd hl
 obtain ⟨b1,b2,b3,b4,b5⟩:=nd hd hl
 have h0:fS (some x):=mS hd hl
 have k1:(bytesOf (rpH x)).size≤1000000000:=wo _ (h0.nx 1).textV.2
 have k3:(bytesOf (rpG x)).size≤1000000000:=wo _ (h0.nx 1).textN.textN.textV.2
 obtain ⟨s1,s2⟩:=Hw (bytesOf (rpG x)) k3
 have bl:=AI (bytesOf (rpH x)) k1
 unfold cD bH bp ag aJ cQ bW bF bA el
 rw [a1,a2,a3,a4,a5,b1,b2,b3,b4,b5,bl]
 have so:(iW (bytesOf (rpG x))).length=(bf (bytesOf (rpG x))).size:=aU _
 rw [← s1]
 generalize hsg:je (bytesOf (rpG x))=sg at s2 ⊢
 generalize (mH (some x) != 31)=c1
 generalize rpE x=c2
 generalize aR (cp (bytesOf (rpH x)) 32) (⟨#[]⟩:ByteArray)=c3
 generalize (((((bytesOf (rpS x)).size:Nat):Int):Int) != 32)=c4
 have s3:=fun h=>s2 h
 cases sg <;> cases c1 <;> cases c2 <;> cases c3 <;> cases c4 <;> simp only [Bool.not_true,Bool.not_false,aB,aA,and_self,true_and] <;> first|exact ⟨rfl,rfl⟩|(refine ⟨?_,so⟩;rw [mK so.symm];exact s2 rfl)|skip
end Go.Vm
namespace Go.Vm
open Go Tabn
theorem Hz (p:List (List Int)):kY p=p.flatten.length:=congrArg List.length (As p)
theorem FF {a b:ByteArray} {c d:List Int} {e f g:ByteArray} {h:List Int} {p1:ByteArray} (hs:((((p1.size:Nat):Int):Int) != 32)=true):iL a b c d e f g h p1=2∧aF a b c d e f g h p1=0:=by
 have e1:aC (aD p1) p1.size 0 p1.size=aD p1:=jK
 have e9:FT9 (aD p1)=2:=by unfold FT9;rw [aU,hs,aB]
 have e10:∀ x,pL (aD p1) x=2:=fun x=>by unfold pL;rw [e9];rfl
 have h2:(((2:Int)) != 0)=true:=rfl
 constructor
 ·unfold iL
  rw [e1,e10,h2,aB]
 ·unfold aF
  rw [e1,e10,h2,aB]
theorem FP {a b:ByteArray} {c d:List Int} {e f g:ByteArray} {h:List Int} {p1:ByteArray} (ht:fb a b c d e f g h) :
  lr a b c d e f g h p1=dI e g (eV (ia (aD p1) (bv a b c d e f g h)))∧ge a b c d e f g h p1=(dI e g (eV (ia (aD p1) (bv a b c d e f g h)))).length:=by
 have e1:aC (aD p1) p1.size 0 p1.size=aD p1:=jK
 have e2:aC (bv a b c d e f g h) 32 0 32=bv a b c d e f g h:=ah (kX a b c d e f g h)
 have sl:=lv (aD p1) (bv a b c d e f g h)
 have v0:lI a b c d e f g h p1=ia (aD p1) (bv a b c d e f g h):=by
  unfold lI
  rw [e1,e2]
  exact Qq tp
 have s64:(bytesOf (ia (aD p1) (bv a b c d e f g h))).size=64:=by rw [ae,sl]
 have ss:=zj (bytesOf (ia (aD p1) (bv a b c d e f g h))) (by omega)
 rw [s64,ei (tx _ _),ah sl] at ss
 have v1:bT a b c d e f g h p1=eV (ia (aD p1) (bv a b c d e f g h)):=by
  unfold bT
  rw [v0,mK sl.symm,ss]
 have s83:=mA sl
 obtain ⟨q1,q2,q3,q4,q5,q6,q7,q8⟩:=ht
 have fl:([aC [31] 1 0 1,aC (bG e) (4+e.size) 0 (4+e.size),aC (bG g) (4+g.size) 0 (4+g.size),aC (bG (bT a b c d e f g h p1)) (4+(bT a b c d e f g h p1).size) 0 (4+(bT a b c d e f g h p1).size)]:List (List Int)).flatten=dI e g (eV (ia (aD p1) (bv a b c d e f g h))):=by
  have p:∀ s:ByteArray,aC (bG s) (4+s.size) 0 (4+s.size)=bG s:=fun s=>ah (fN s)
  rw [p,p,p,v1,jc _ (by omega),jc _ (by omega),jc _ (by omega)]
  unfold dI
  simp only [List.flatten_cons,List.flatten_nil,List.append_nil,List.append_assoc]
  rfl
 constructor
 ·unfold lr pJ
  rw [As,fl]
 ·unfold ge
  rw [Hz,fl]
end Go.Vm
namespace Go.Vm
open Go Tabn
def tO:ByteArray:=⟨#[115,115,104,45,101,100,50,53,53,49,57]⟩
theorem GA (S:List Int) (h:S.length=64):aD (il (bytesOf S))=be4 (aD tO).length++aD tO++(be4 (aD (bytesOf S)).length++aD (bytesOf S)):=by
 have hs:(bytesOf S).size=64:=by rw [ae,h]
 rw [← xR (bytesOf S) (by omega)]
 unfold rf pe uX
 rw [qh _ (by decide),fm _ _ _ (by omega),aU,aU,mK (by rw [List.length_append,List.length_append,aU];rfl),ei]
 ·simp only [List.append_assoc];rfl
 ·refine fv (fv (fv (mT _) (eb _)) (mT _)) (eb _)
theorem Gw (S:List Int) (hd:Dg S) (h:S.length=64):cp (il (bytesOf S)) 64=bytesOf S:=by
 have hs:(bytesOf S).size=64:=by rw [ae,h]
 have hb:=GA S h
 have hz:(il (bytesOf S)).size≤1000000000:=Nat.le_trans (AM _ (by omega)) (by omega)
 have t1:=kH (aD tO) (be4 (aD (bytesOf S)).length++aD (bytesOf S)) (by decide)
 have t2:=kH (aD (bytesOf S)) [] (by rw [aU];omega)
 rw [List.append_nil] at t2
 rw [rE _ _ hz,hb]
 unfold zY
 rw [hb,t1.1,t1.2,t2.1,t2.2,fa,fa,hs,show (⟨#[115,115,104,45,101,100,50,53,53,49,57]⟩:ByteArray)=tO from rfl,gA]
 rfl
end Go.Vm
namespace Go.Vm
open Go Tabn
theorem xM {x y:List Int} (hx:Dg x) (hy:Dg y) (h:bytesOf x=bytesOf y):x=y:=by rw [← ei hx,← ei hy,h]
theorem CJ (v:Int) (X:List Int):nxO (some (v :: X)) 1=some X:=rfl
theorem QL (e g s:ByteArray) (he:e.size≤16384) (hg:g.size≤16384) (hs:s.size≤16384):rpG (dI e g s)=aD s:=by
 have h1:=kH (aD e) (be4 (aD g).length++aD g++(be4 (aD s).length++aD s)) (by rw [aU];exact he)
 have h2:=kH (aD g) (be4 (aD s).length++aD s) (by rw [aU];exact hg)
 have h3:=kH (aD s) [] (by rw [aU];exact hs)
 rw [List.append_nil] at h3
 have hR:dI e g s=31 :: (be4 (aD e).length++aD e++(be4 (aD g).length++aD g++(be4 (aD s).length++aD s))):=by
  unfold dI
  simp only [aU,List.append_assoc]
  rfl
 unfold rpG
 rw [hR,CJ,h1.2,h2.2,h3.1]
theorem zo (e g s:ByteArray):Dg (dI e g s):=by
 unfold dI
 refine fv (fv (fv (fv (fv (fv ?_ (mT _)) (eb _)) (mT _)) (eb _)) (mT _)) (eb _)
 intro x hx
 simp only [List.mem_singleton] at hx
 omega
theorem Jd (x:List Int):Dg (ag x):=by
 have h0:Dg []:=fun y hy=>by cases hy
 have hsel:∀ (b:Bool) (l m:List Int),Dg l→Dg m→Dg (sel b l m):=fun b l m h h'=>by cases b;exact h';exact h
 unfold ag
 exact hsel _ _ _ h0 (hsel _ _ _ h0 (hsel _ _ _ h0 (hsel _ _ _ h0 (hsel _ _ _ h0 (eb _)))))
theorem Oo (S:List Int) (hd:Dg S) (hS:S.length=64):eV S=il (bytesOf S):=by
 have s64:(bytesOf S).size=64:=by rw [ae,hS]
 have ss:=zj (bytesOf S) (by omega)
 rw [s64,ei hd,ah hS] at ss
 exact ss
theorem Kc {e g:ByteArray} {S:List Int} (he:e.size≤2000) (hg:g.size≤2000) (hd:Dg S) (hS:S.length=64) (his:bA (dI e g (eV S))=true) :
  aC (ag (dI e g (eV S))) (aJ (dI e g (eV S))) 0 (aJ (dI e g (eV S)))=S:=by
 have s83:=mA hS
 have hdr:=zo e g (eV S)
 have hl:(dI e g (eV S)).length≤1000000000:=by
  unfold dI
  simp only [List.length_append,aU,List.length_cons,List.length_nil,oE]
  omega
 obtain ⟨_,_,_,r4,r5⟩:=mU hdr hl
 obtain ⟨b1,b2,b3,b4,b5⟩:=nd hdr hl
 rw [ah r5]
 rw [mK r5.symm] at r4
 refine xM (Jd _) hd (r4.trans ?_)
 have hG:=QL e g (eV S) (by omega) (by omega) (by omega)
 have hU:cp (cM (dI e g (eV S))) 64=bytesOf S:=by
  rw [b4,hG,fa,Oo S hd hS]
  exact Gw S hd hS
 rw [← hU]
 revert his
 unfold bA bF
 generalize ((dH (dI e g (eV S)) 0 false:Int) != 31)=c1
 generalize dy (dI e g (eV S))=c2
 generalize aR (el (dI e g (eV S))) (⟨#[]⟩:ByteArray)=c3
 generalize (((((cm (dI e g (eV S))).size:Nat):Int):Int) != 32)=c4
 generalize aR (cp (cM (dI e g (eV S))) 64) (⟨#[]⟩:ByteArray)=c5
 intro his
 cases c1
 ·rw [aA] at his ⊢
  cases c2
  ·rw [Bool.not_false,aB] at his;cases his
  ·rw [Bool.not_true,aA] at his ⊢
   cases c3
   ·rw [aA] at his ⊢
    cases c4
    ·rw [aA] at his ⊢
     cases c5
     ·rw [aA]
     ·rw [aB] at his;cases his
    ·rw [aB] at his;cases his
   ·rw [aB] at his;cases his
 ·rw [aB] at his;cases his
end Go.Vm
namespace Go.Vm
open Go Tabn
theorem zm {x:List Int} (hd:Dg x) (hl:x.length≤1000000000):ec x=sel (sel (((dH x 0 false):Int) != 30) true (sel (!(lH x (af x (aK x 0 false) (aO x 0 false)) (bU x (aK x 0 false) (aO x 0 false)))) true (((((cB x (aK x 0 false) (aO x 0 false)).size:Nat):Int):Int) != 32))) (⟨#[]⟩:ByteArray) (cB x (aK x 0 false) (aO x 0 false)):=by
 obtain ⟨a1,a2,_,_,_⟩:=pD hd hl
 obtain ⟨b1,b2,_,_,_⟩:=nd hd hl
 have h0:fS (some x):=mS hd hl
 have b:=nW (some x)
 have e2:aq x false=rb (nxO (some x) 1):=b.2.1
 have e3:ao x false=eY (nxO (some x) 1):=b.2.2
 have t1:=jZ (h0.nx 1)
 have c0:js x 0:=⟨hl,by omega,by omega⟩
 have cb:=zU false hd c0
 have s0:cst x 0 false=some x:=rfl
 have c1:js x (aK x 0 false):=⟨hl,uG false c0⟩
 have ct:=mI (aO x 0 false) hd c1
 have c2:=ke (aO x 0 false) c1
 have ev:iU x=(textN (nxO (some x) 1)==some []):=by
  unfold iU
  rw [e2,e3,t1.2.1,t1.2.2,nu]
 have ew:lH x (af x (aK x 0 false) (aO x 0 false)) (bU x (aK x 0 false) (aO x 0 false))=(textN (nxO (some x) 1)==some []):=by
  rw [xz _ ⟨hl,c2⟩,ct.2,cb.2,s0]
 unfold ec
 rw [a1,a2,b1,b2,ev,ew]
 generalize (mH (some x) != 30)=k1
 generalize (textN (nxO (some x) 1)==some [])=k2
 generalize (((((bytesOf (rpH x)).size:Nat):Int):Int) != 32)=k3
 cases k1
 ·rw [aA,aA]
  cases k2
  ·rw [Bool.not_false,aB,aB,aB]
  ·rw [Bool.not_true,aA,aA]
 ·rw [aB,aB,aB]
theorem vq (t:List Int):(⟨#[30]⟩:ByteArray)++bytesOf t=bytesOf (30 :: t):=by
 apply ByteArray.ext
 rw [ByteArray.data_append]
 apply Array.toList_inj.1
 rw [Array.toList_append]
 rfl
theorem Hj (s:ByteArray) (h:s.size≤2000):lm s=30 :: (be4 (aD s).length++aD s):=by
 rw [NY s h,aU,List.append_assoc]
 rfl
theorem Jg (s:ByteArray) (h:s.size≤2000):ec (30 :: (be4 (aD s).length++aD s))=sel ((((s.size:Nat):Int):Int) != 32) (⟨#[]⟩:ByteArray) s:=by
 have t1:=kH (aD s) [] (by rw [aU];omega)
 rw [List.append_nil] at t1
 have hd:Dg (30 :: (be4 (aD s).length++aD s)):=by
  intro x hx
  rcases List.mem_cons.1 hx with rfl|hx
  ·omega
  ·exact fv (mT _) (eb _) x hx
 have hl:(30 :: (be4 (aD s).length++aD s)).length≤1000000000:=by
  simp only [List.length_cons,List.length_append,aU,oE]
  omega
 obtain ⟨a1,a2,_,_,_⟩:=pD hd hl
 have b:=nW (some (30 :: (be4 (aD s).length++aD s)))
 have h0:fS (some (30 :: (be4 (aD s).length++aD s))):=mS hd hl
 have e2:aq (30 :: (be4 (aD s).length++aD s)) false=rb (nxO (some (30 :: (be4 (aD s).length++aD s))) 1):=b.2.1
 have e3:ao (30 :: (be4 (aD s).length++aD s)) false=eY (nxO (some (30 :: (be4 (aD s).length++aD s))) 1):=b.2.2
 have t2:=jZ (h0.nx 1)
 have ev:iU (30 :: (be4 (aD s).length++aD s))=true:=by
  unfold iU
  rw [e2,e3,t2.2.1,t2.2.2,nu,CJ,t1.2]
  rfl
 have eh:rpH (30 :: (be4 (aD s).length++aD s))=aD s:=by unfold rpH;rw [CJ,t1.1]
 have ek:mH (some (30 :: (be4 (aD s).length++aD s)))=30:=rfl
 unfold ec
 rw [a1,a2,ev,eh,ek,fa,show (((30:Int)) != 30)=false from rfl,aA,Bool.not_true,aA]
end Go.Vm
namespace Go.Vm
open Go Go.Proofs
theorem uS {n:Nat} {x:List Int} (h:n≤2000):(⟨#[30]⟩:ByteArray).size+(bytesOf ((x.drop 0).take (4+n))).size≤9223372036854775807:=by
 have s1:(⟨#[30]⟩:ByteArray).size=1:=rfl
 rw [ae,List.length_take,s1]
 omega
def fh (p10:ByteArray) (p11:ByteArray) (p12:List Int) (p13:List Int) (p14:ByteArray) (p15:ByteArray) (p16:ByteArray) (p17:List Int) (p1:ByteArray):ByteArray :=
 (cD (aC (aP p10 p11 p12 p13 p14 p15 p16 p17 p1) (aF p10 p11 p12 p13 p14 p15 p16 p17 p1) 0 (aF p10 p11 p12 p13 p14 p15 p16 p17 p1)))
def dw (p10:ByteArray) (p11:ByteArray) (p12:List Int) (p13:List Int) (p14:ByteArray) (p15:ByteArray) (p16:ByteArray) (p17:List Int) (p1:ByteArray):ByteArray :=
 (bH (aC (aP p10 p11 p12 p13 p14 p15 p16 p17 p1) (aF p10 p11 p12 p13 p14 p15 p16 p17 p1) 0 (aF p10 p11 p12 p13 p14 p15 p16 p17 p1)))
def ig (p10:ByteArray) (p11:ByteArray) (p12:List Int) (p13:List Int) (p14:ByteArray) (p15:ByteArray) (p16:ByteArray) (p17:List Int) (p1:ByteArray):Bool :=
 (bp (aC (aP p10 p11 p12 p13 p14 p15 p16 p17 p1) (aF p10 p11 p12 p13 p14 p15 p16 p17 p1) 0 (aF p10 p11 p12 p13 p14 p15 p16 p17 p1)))
def cC (p10:ByteArray) (p11:ByteArray) (p12:List Int) (p13:List Int) (p14:ByteArray) (p15:ByteArray) (p16:ByteArray) (p17:List Int) (p1:ByteArray):List Int :=
 (ag (aC (aP p10 p11 p12 p13 p14 p15 p16 p17 p1) (aF p10 p11 p12 p13 p14 p15 p16 p17 p1) 0 (aF p10 p11 p12 p13 p14 p15 p16 p17 p1)))
def fj (p10:ByteArray) (p11:ByteArray) (p12:List Int) (p13:List Int) (p14:ByteArray) (p15:ByteArray) (p16:ByteArray) (p17:List Int) (p1:ByteArray):ByteArray :=
 (cQ (aC (aP p10 p11 p12 p13 p14 p15 p16 p17 p1) (aF p10 p11 p12 p13 p14 p15 p16 p17 p1) 0 (aF p10 p11 p12 p13 p14 p15 p16 p17 p1)))
def dx (p10:ByteArray) (p11:ByteArray) (p12:List Int) (p13:List Int) (p14:ByteArray) (p15:ByteArray) (p16:ByteArray) (p17:List Int) (p1:ByteArray):ByteArray :=
 (bW (aC (aP p10 p11 p12 p13 p14 p15 p16 p17 p1) (aF p10 p11 p12 p13 p14 p15 p16 p17 p1) 0 (aF p10 p11 p12 p13 p14 p15 p16 p17 p1)))
def dC (p10:ByteArray) (p11:ByteArray) (p12:List Int) (p13:List Int) (p14:ByteArray) (p15:ByteArray) (p16:ByteArray) (p17:List Int) (p1:ByteArray):ByteArray :=
 (bF (aC (aP p10 p11 p12 p13 p14 p15 p16 p17 p1) (aF p10 p11 p12 p13 p14 p15 p16 p17 p1) 0 (aF p10 p11 p12 p13 p14 p15 p16 p17 p1)))
def fi (p10:ByteArray) (p11:ByteArray) (p12:List Int) (p13:List Int) (p14:ByteArray) (p15:ByteArray) (p16:ByteArray) (p17:List Int) (p1:ByteArray):Bool :=
 (bA (aC (aP p10 p11 p12 p13 p14 p15 p16 p17 p1) (aF p10 p11 p12 p13 p14 p15 p16 p17 p1) 0 (aF p10 p11 p12 p13 p14 p15 p16 p17 p1)))
def et (p10:ByteArray) (p11:ByteArray) (p12:List Int) (p13:List Int) (p14:ByteArray) (p15:ByteArray) (p16:ByteArray) (p17:List Int) (p1:ByteArray):Bool :=
 (re (aC (wS (aC (aD p1) p1.size 0 p1.size)) 32 0 32) (aC (fc p10 p11 p12 p13 p14 p15 p16 p17) 32 0 32) (aC (cC p10 p11 p12 p13 p14 p15 p16 p17 p1) (aJ (aC (aP p10 p11 p12 p13 p14 p15 p16 p17 p1) (aF p10 p11 p12 p13 p14 p15 p16 p17 p1) 0 (aF p10 p11 p12 p13 p14 p15 p16 p17 p1))) 0 (aJ (aC (aP p10 p11 p12 p13 p14 p15 p16 p17 p1) (aF p10 p11 p12 p13 p14 p15 p16 p17 p1) 0 (aF p10 p11 p12 p13 p14 p15 p16 p17 p1)))))
def dR (p10:ByteArray) (p11:ByteArray) (p12:List Int) (p13:List Int) (p14:ByteArray) (p15:ByteArray) (p16:ByteArray) (p17:List Int) (p1:ByteArray):List Int :=
 (aC (aP p10 p11 p12 p13 p14 p15 p16 p17 p1) (aF p10 p11 p12 p13 p14 p15 p16 p17 p1) 0 (aF p10 p11 p12 p13 p14 p15 p16 p17 p1))
def gM (p10:ByteArray) (p11:ByteArray) (p12:List Int) (p13:List Int) (p14:ByteArray) (p15:ByteArray) (p16:ByteArray) (p17:List Int) (p1:ByteArray):Bool :=
 (aO (aC (aP p10 p11 p12 p13 p14 p15 p16 p17 p1) (aF p10 p11 p12 p13 p14 p15 p16 p17 p1) 0 (aF p10 p11 p12 p13 p14 p15 p16 p17 p1)) 0 false)
def bu (p10:ByteArray) (p11:ByteArray) (p12:List Int) (p13:List Int) (p14:ByteArray) (p15:ByteArray) (p16:ByteArray) (p17:List Int) (p1:ByteArray):ByteArray :=
 (cB (dR p10 p11 p12 p13 p14 p15 p16 p17 p1) (aK (aC (aP p10 p11 p12 p13 p14 p15 p16 p17 p1) (aF p10 p11 p12 p13 p14 p15 p16 p17 p1) 0 (aF p10 p11 p12 p13 p14 p15 p16 p17 p1)) 0 false) (gM p10 p11 p12 p13 p14 p15 p16 p17 p1))
def jo (p10:ByteArray) (p11:ByteArray) (p12:List Int) (p13:List Int) (p14:ByteArray) (p15:ByteArray) (p16:ByteArray) (p17:List Int) (p1:ByteArray):Bool :=
 (bU (dR p10 p11 p12 p13 p14 p15 p16 p17 p1) (aK (aC (aP p10 p11 p12 p13 p14 p15 p16 p17 p1) (aF p10 p11 p12 p13 p14 p15 p16 p17 p1) 0 (aF p10 p11 p12 p13 p14 p15 p16 p17 p1)) 0 false) (gM p10 p11 p12 p13 p14 p15 p16 p17 p1))
def eM (p10:ByteArray) (p11:ByteArray) (p12:List Int) (p13:List Int) (p14:ByteArray) (p15:ByteArray) (p16:ByteArray) (p17:List Int) (p1:ByteArray):Bool :=
 (lH (dR p10 p11 p12 p13 p14 p15 p16 p17 p1) (af (dR p10 p11 p12 p13 p14 p15 p16 p17 p1) (aK (aC (aP p10 p11 p12 p13 p14 p15 p16 p17 p1) (aF p10 p11 p12 p13 p14 p15 p16 p17 p1) 0 (aF p10 p11 p12 p13 p14 p15 p16 p17 p1)) 0 false) (gM p10 p11 p12 p13 p14 p15 p16 p17 p1)) (jo p10 p11 p12 p13 p14 p15 p16 p17 p1))
def jq (p10:ByteArray) (p11:ByteArray) (p12:List Int) (p13:List Int) (p14:ByteArray) (p15:ByteArray) (p16:ByteArray) (p17:List Int) (p1:ByteArray):ByteArray :=
 (ec (aC (aP p10 p11 p12 p13 p14 p15 p16 p17 p1) (aF p10 p11 p12 p13 p14 p15 p16 p17 p1) 0 (aF p10 p11 p12 p13 p14 p15 p16 p17 p1)))
def eG (p10:ByteArray) (p11:ByteArray) (p12:List Int) (p13:List Int) (p14:ByteArray) (p15:ByteArray) (p16:ByteArray) (p17:List Int) (p1:ByteArray) (p2:List Int):Bool :=
 (re (aC (wS (aC (aD p1) p1.size 0 p1.size)) 32 0 32) (aC (fc p10 p11 p12 p13 p14 p15 p16 p17) 32 0 32) (aC (ag p2) (aJ p2) 0 (aJ p2)))
def eJ (p2:List Int):Bool :=
 (lH p2 (af p2 (aK p2 0 false) (aO p2 0 false)) (bU p2 (aK p2 0 false) (aO p2 0 false)))
def gH (p15:ByteArray):ByteArray :=
 (ec (aC (lm p15) ((1+4)+p15.size) 0 ((1+4)+p15.size)))
def bx (p10:ByteArray) (p11:ByteArray) (p12:List Int) (p13:List Int) (p14:ByteArray) (p15:ByteArray) (p16:ByteArray) (p17:List Int) (p1:ByteArray) (p2:List Int):Bool :=
 (sel (!(se)) false (sel (!(oD p10 p11 p12 p13 p14 p15 p16 p17)) true (sel (decide ((((p1.size:Nat):Int):Int)>100)) true (sel (decide ((((p2.length:Nat):Int):Int)>2000)) true (sel ((((p1.size:Nat):Int):Int) != 32) (sel (((iL p10 p11 p12 p13 p14 p15 p16 p17 p1):Int)==2) (((((aF p10 p11 p12 p13 p14 p15 p16 p17 p1):Nat):Int):Int)==0) false) (sel (((iL p10 p11 p12 p13 p14 p15 p16 p17 p1):Int) != 0) false (sel (!(aR (bytesOf (((aP p10 p11 p12 p13 p14 p15 p16 p17 p1).drop 0).take (aF p10 p11 p12 p13 p14 p15 p16 p17 p1))) (bytesOf (((lr p10 p11 p12 p13 p14 p15 p16 p17 p1).drop 0).take (ge p10 p11 p12 p13 p14 p15 p16 p17 p1))))) false (sel (sel (!((ig p10 p11 p12 p13 p14 p15 p16 p17 p1)==(fi p10 p11 p12 p13 p14 p15 p16 p17 p1))) true (sel (!(aR (fh p10 p11 p12 p13 p14 p15 p16 p17 p1) (fj p10 p11 p12 p13 p14 p15 p16 p17 p1))) true (sel (!(aR (dw p10 p11 p12 p13 p14 p15 p16 p17 p1) (dx p10 p11 p12 p13 p14 p15 p16 p17 p1))) true (!(aR (bytesOf (((cC p10 p11 p12 p13 p14 p15 p16 p17 p1).drop 0).take (aJ (aC (aP p10 p11 p12 p13 p14 p15 p16 p17 p1) (aF p10 p11 p12 p13 p14 p15 p16 p17 p1) 0 (aF p10 p11 p12 p13 p14 p15 p16 p17 p1))))) (dC p10 p11 p12 p13 p14 p15 p16 p17 p1)))))) false (sel (sel (fi p10 p11 p12 p13 p14 p15 p16 p17 p1) (sel (aR (bytesOf (aC (aP p10 p11 p12 p13 p14 p15 p16 p17 p1) (aF p10 p11 p12 p13 p14 p15 p16 p17 p1) 0 (aF p10 p11 p12 p13 p14 p15 p16 p17 p1))) (bytesOf (aC (aP p10 p11 p12 p13 p14 p15 p16 p17 p1) (aF p10 p11 p12 p13 p14 p15 p16 p17 p1) 0 (aF p10 p11 p12 p13 p14 p15 p16 p17 p1)))) (!(et p10 p11 p12 p13 p14 p15 p16 p17 p1)) false) false) false (sel (!(aR (jq p10 p11 p12 p13 p14 p15 p16 p17 p1) (sel (sel (((dH (aC (aP p10 p11 p12 p13 p14 p15 p16 p17 p1) (aF p10 p11 p12 p13 p14 p15 p16 p17 p1) 0 (aF p10 p11 p12 p13 p14 p15 p16 p17 p1)) 0 false):Int) != 30) true (sel (!(eM p10 p11 p12 p13 p14 p15 p16 p17 p1)) true (((((bu p10 p11 p12 p13 p14 p15 p16 p17 p1).size:Nat):Int):Int) != 32))) (⟨#[]⟩:ByteArray) (bu p10 p11 p12 p13 p14 p15 p16 p17 p1)))) false (sel (sel (!((bp p2)==(bA p2))) true (sel (!(aR (cD p2) (cQ p2))) true (sel (!(aR (bH p2) (bW p2))) true (!(aR (bytesOf (((ag p2).drop 0).take (aJ p2))) (bF p2)))))) false (sel (sel (bA p2) (sel (aR (bytesOf p2) (bytesOf (aC (aP p10 p11 p12 p13 p14 p15 p16 p17 p1) (aF p10 p11 p12 p13 p14 p15 p16 p17 p1) 0 (aF p10 p11 p12 p13 p14 p15 p16 p17 p1)))) (!(eG p10 p11 p12 p13 p14 p15 p16 p17 p1 p2)) false) false) false (sel (!(aR (ec p2) (sel (sel (((dH p2 0 false):Int) != 30) true (sel (!(eJ p2)) true (((((cB p2 (aK p2 0 false) (aO p2 0 false)).size:Nat):Int):Int) != 32))) (⟨#[]⟩:ByteArray) (cB p2 (aK p2 0 false) (aO p2 0 false))))) false (sel (aR (bytesOf (((lm p15).drop 0).take ((1+4)+p15.size))) ((⟨#[30]⟩:ByteArray)++(bytesOf (((bG p15).drop 0).take (4+p15.size))))) (sel (aR (gH p15) (sel ((((p15.size:Nat):Int):Int) != 32) (⟨#[]⟩:ByteArray) p15)) true false) false))))))))))))))
def qW:List AV→List Blk→Option (Prop × Ret)
 |[.agg [.s p10,.s p11,.ro .u8 p12,.ro .u8 p13,.s p14,.s p15,.s p16,.ro .u8 p17],.sc (.s p1),.sc (.ro .u8 p2)],[]=>some ((tX p10 p11 p12 p13 p14 p15 p16 p17∧Dg p17),⟨.sc (.b (bx p10 p11 p12 p13 p14 p15 p16 p17 p1 p2)),[]⟩)
 |_,_=>none
def xt:KL Tryz.prog gD:=Zv Ph 48 0 <|Zc Kx 96 [.io] [] [] <|Zc KV 320 [.io,.val] [] [] <|Zc IB 576 [.io,.val] [] [] <|Zc sm 800 [.ro .u8] [] [] <|Zc sm 2272 [.ro .u8] [] [] <|Zc pZ 976 [.ro .u8] [] [] <|Zc pZ 2448 [.ro .u8] [] [] <|Zc QG 1680 [.ro .u8,.ro .u8,.ro .u8] [1616,1648,800] [] <|Zc QG 3152 [.ro .u8,.ro .u8,.ro .u8] [3088,3120,2272] [] <|Zc PX 1616 [.ro .u8] [1600] [] <|Zc PX 3088 [.ro .u8] [3072] [] <|Zc CA 1648 [.io] [] [] <|Zc CA 3120 [.io] [] [] <|Zc yS 1808 [.io] [] [1760] <|Zc yS 3280 [.io] [] [3232] <|Zc ma 1840 [.io] [] [1760] <|Zc ma 3312 [.io] [] [3232] <|Zc yy 1952 [.io] [] [1760] <|Zc yy 3424 [.io] [] [3232] <|Zc ru 2112 [.ro .u8] [] [] <|Zc ru 3584 [.ro .u8] [] [] <|Zc ru 4064 [.ro .u8] [3728] [] <|Zv Qz 3728 1 <|Zv kA 3968 1 <|Zv Rw 4144 2 <|Zn
theorem KkKexReplies:Known Tryz.prog gD 3 ⟨0,0,qW⟩:=by
 refine Xw Tryz.f3 179 xt mixed <|fun E args ks C r h hC hlen=>?_
 simp only at h
 unfold qW at h
 split at h
 rotate_left
 cases h
 rename_i p10 p11 p12 p13 p14 p15 p16 p17 p1 p2
 cases h
 simp only [am] at hlen
 refine ⟨rfl,?_⟩
 refine Xt [Ep 3 16] [0] [Mc 16 [.s p10,.s p11,.ro .u8 p12,.ro .u8 p13,.s p14,.s p15,.s p16,.ro .u8 p17]] [] 48 (v2 pT) <|Tri.seq <|Xs [Eb 25 (!(se))] [] 80 (pu pz (v1 pT)) <|Xa (fun h1=>?_) (fun h1=>?_)
 exact Xt [Eb 6 false] [25,3,1,2] [] [16] 96 (v1 pT) <|Xy [] pz (by simp only [bx,h1,aB,aA] <;> rfl)
 refine Tri.skip <|Tri.seq <|Tri.split (!(oD p10 p11 p12 p13 p14 p15 p16 p17)) (fun h2=>?_) (fun h2=>?_)
 exact Xu [Eb 29 true] none [Eb 38 true] [25] [] [] 288 (pu (Yw 8) (pu (pa pT (pl hC.1)) (v1 (pg h2 (v9 pT))))) <|Tri.cond_true (by kernel_rfl) <|Xt [Eb 6 true] [38,3,1,2] [] [16] 304 (v1 pT) <|Xy [] pz (by simp only [bx,h1,h2,aB,aA] <;> rfl)
 have ht:=tg hC.1 (nf h2)
 obtain ⟨q1,q2,q3,q4,q5,q6,q7,q8⟩:=tg hC.1 (nf h2)
 refine Tri.split (decide ((((p1.size:Nat):Int):Int)>100)) (fun h3=>?_) (fun h3=>?_)
 have h3':=of_decide_eq_true h3
 exact Xu [Eb 29 false,Eb 34 true] none [Eb 38 true] [25] [] [] 288 (pu (Yw 8) (pu (pa pT (pl hC.1)) (v1 (pg h2 (v4 (pg h3 (v4 pT))))))) <|Tri.cond_true (by kernel_rfl) <|Xt [Eb 6 true] [38,3,1,2] [] [16] 304 (v1 pT) <|Xy [] pz (by simp only [bx,h1,h2,h3,aB,aA] <;> rfl)
 have h3':=of_decide_eq_false h3
 refine Xu [Eb 29 false,Eb 34 false] none [Eb 38 (decide ((((p2.length:Nat):Int):Int)>2000))] [25] [] [] 288 (pu (Yw 8) (pu (pa pT (pl hC.1)) (v1 (pg h2 (v4 (pg h3 (v4 pT))))))) <|Xb (fun h4 h4'=>?_) (fun h4 h4'=>?_)
 exact Xt [Eb 6 true] [38,3,1,2] [] [16] 304 (v1 pT) <|Xy [] pz (by simp only [bx,h1,h2,h3,h4,aB,aA] <;> rfl)
 refine Tri.skip <|Xt [Ei 8 (iL p10 p11 p12 p13 p14 p15 p16 p17 p1),El 7 320 (aF p10 p11 p12 p13 p14 p15 p16 p17 p1)] [38] [Mi 320 (aF p10 p11 p12 p13 p14 p15 p16 p17 p1) (aP p10 p11 p12 p13 p14 p15 p16 p17 p1)] [] 416 (pu (Yw 8) (v1 (pu (pa pT (pl (show fb p10 p11 p12 p13 p14 p15 p16 p17∧p1.size≤1000 from ⟨ht,by omega⟩))) (v5 pT)))) <|Tri.seq <|Xs [Eb 47 ((((p1.size:Nat):Int):Int) != 32)] [] 464 (v3 pT) <|Xa (fun h5=>?_) (fun h5=>?_)
 have h5':=bO h5
 refine Tri.split (((iL p10 p11 p12 p13 p14 p15 p16 p17 p1):Int)==2) (fun h6=>?_) (fun h6=>?_)
 have h6':=fC h6
 exact Xu [Eb 50 true] none [Eb 6 (((((aF p10 p11 p12 p13 p14 p15 p16 p17 p1):Nat):Int):Int)==0)] [47,8,7,3,1,2] [] [320,16] 592 (v2 (pg h6 (v5 pT))) <|Xy [] pz (by simp only [bx,h1,h2,h3,h4,h5,h6,aB,aA] <;> rfl)
 have h6':=eL h6
 exact Xu [Eb 50 false] none [Eb 6 false] [47,8,7,3,1,2] [] [320,16] 592 (v2 (pg h6 (v5 pT))) <|Xy [] pz (by simp only [bx,h1,h2,h3,h4,h5,h6,aB,aA] <;> rfl)
 have h5':=ak h5
 refine Tri.skip <|Tri.seq <|Tri.split (((iL p10 p11 p12 p13 p14 p15 p16 p17 p1):Int) != 0) (fun h7=>?_) (fun h7=>?_)
 have h7':=bO h7
 exact Xu [Eb 57 true] (some [0,1,3,7,15,7,7,103,231,511,1023]) [Eb 65 true] [47,8] [] [] 640 (v2 (pg h7 (v8 pT))) <|Tri.cond_true (by kernel_rfl) <|Xt [Eb 6 false] [65,7,3,1,2] [] [320,16] 656 (v1 pT) <|Xy [] pz (by simp only [bx,h1,h2,h3,h4,h5,h7,aB,aA] <;> rfl)
 have h7':=ak h7
 refine Xu [Eb 57 false] (some [0,1,3,7,15,7,7,103,231,511,1023]) [Eb 65 (!(aR (bytesOf (((aP p10 p11 p12 p13 p14 p15 p16 p17 p1).drop 0).take (aF p10 p11 p12 p13 p14 p15 p16 p17 p1))) (bytesOf (((lr p10 p11 p12 p13 p14 p15 p16 p17 p1).drop 0).take (ge p10 p11 p12 p13 p14 p15 p16 p17 p1)))))] [47,8] [] [] 640 (v2 (pg h7 (v1 (pu (Yw (aF p10 p11 p12 p13 p14 p15 p16 p17 p1)) (pu (Yw 8) (v1 (pu (pa pT (pl (show fb p10 p11 p12 p13 p14 p15 p16 p17∧p1.size=32 from ⟨ht,by omega⟩))) (pu (Yw (ge p10 p11 p12 p13 p14 p15 p16 p17 p1)) (v2 pT))))))))) <|Xa (fun h8=>?_) (fun h8=>?_)
 exact Xt [Eb 6 false] [65,7,3,1,2] [] [320,16] 656 (v1 pT) <|Xy [] pz (by simp only [bx,h1,h2,h3,h4,h5,h7,h8,aB,aA] <;> rfl)
 refine Tri.skip <|Tri.seq <|Xt [Ei 70 0,Ei 69 2,El 68 672 2] [65,2] [Mc 672 [.sl 320 0 (aF p10 p11 p12 p13 p14 p15 p16 p17 p1) 1 none,.ro .u8 p2]] [] 720 (v2 (pu (Yf 2) (v2 pT))) <|Tri.block <|Tri.sub (Xf 320 (.ints .u8 (aF p10 p11 p12 p13 p14 p15 p16 p17 p1) (aP p10 p11 p12 p13 p14 p15 p16 p17 p1)) ⟨(show 0+(aF p10 p11 p12 p13 p14 p15 p16 p17 p1)≤(aF p10 p11 p12 p13 p14 p15 p16 p17 p1) from by first|omega|(rw [co];omega)|exact cU _ _|exact cV _ _|exact aL (by omega) (by first|omega|(simp only [List.length_append];omega))|decide),(show 0+(aF p10 p11 p12 p13 p14 p15 p16 p17 p1)≤(aF p10 p11 p12 p13 p14 p15 p16 p17 p1) from by first|omega|(rw [co];omega)|exact cU _ _|exact cV _ _|exact aL (by omega) (by first|omega|(simp only [List.length_append];omega))|decide)⟩) ?_
 refine Tri.rounds 2 <|Xs [Eb 71 true] [] 736 (v1 pT) <|Tri.seq <|Tri.cond_true (by kernel_rfl) <|Tri.skip <|Tri.seq <|Tri.block <|Xs [Er 10 (aC (aP p10 p11 p12 p13 p14 p15 p16 p17 p1) (aF p10 p11 p12 p13 p14 p15 p16 p17 p1) 0 (aF p10 p11 p12 p13 p14 p15 p16 p17 p1))] [71] 784 (pu (Yi 0 2) (pu (Yl 0 2) (v1 pT))) <|Xt [Eb 14 (ig p10 p11 p12 p13 p14 p15 p16 p17 p1),El 13 800 (aJ (aC (aP p10 p11 p12 p13 p14 p15 p16 p17 p1) (aF p10 p11 p12 p13 p14 p15 p16 p17 p1) 0 (aF p10 p11 p12 p13 p14 p15 p16 p17 p1))),Es 12 (dw p10 p11 p12 p13 p14 p15 p16 p17 p1),Es 11 (fh p10 p11 p12 p13 p14 p15 p16 p17 p1)] [] [Mi 800 (aJ (aC (aP p10 p11 p12 p13 p14 p15 p16 p17 p1) (aF p10 p11 p12 p13 p14 p15 p16 p17 p1) 0 (aF p10 p11 p12 p13 p14 p15 p16 p17 p1))) (cC p10 p11 p12 p13 p14 p15 p16 p17 p1)] [] 960 (v1 (pu (pa pz (pl (show (aC (aP p10 p11 p12 p13 p14 p15 p16 p17 p1) (aF p10 p11 p12 p13 p14 p15 p16 p17 p1) 0 (aF p10 p11 p12 p13 p14 p15 p16 p17 p1)).length≤1000000000 from Nat.le_trans (nk ht hC.2 (by omega)) (by decide)))) (v9 pT))) <|Tri.len 800 rfl <|fun hl9=>Xs [Eb 18 (fi p10 p11 p12 p13 p14 p15 p16 p17 p1),Es 17 (dC p10 p11 p12 p13 p14 p15 p16 p17 p1),Es 16 (dx p10 p11 p12 p13 p14 p15 p16 p17 p1),Es 15 (fj p10 p11 p12 p13 p14 p15 p16 p17 p1)] [] 1136 (v1 (pu (pa pz (pl (show (aC (aP p10 p11 p12 p13 p14 p15 p16 p17 p1) (aF p10 p11 p12 p13 p14 p15 p16 p17 p1) 0 (aF p10 p11 p12 p13 p14 p15 p16 p17 p1)).length≤1000000000 from Nat.le_trans (nk ht hC.2 (by omega)) (by decide)))) (v9 pT))) <|Tri.seq <|Tri.seq <|Xk (!((ig p10 p11 p12 p13 p14 p15 p16 p17 p1)==(fi p10 p11 p12 p13 p14 p15 p16 p17 p1))) (fun bb=>[Eb 106 (sel bb true (sel (!(aR (fh p10 p11 p12 p13 p14 p15 p16 p17 p1) (fj p10 p11 p12 p13 p14 p15 p16 p17 p1))) true (sel (!(aR (dw p10 p11 p12 p13 p14 p15 p16 p17 p1) (dx p10 p11 p12 p13 p14 p15 p16 p17 p1))) true (!(aR (bytesOf (((cC p10 p11 p12 p13 p14 p15 p16 p17 p1).drop 0).take (aJ (aC (aP p10 p11 p12 p13 p14 p15 p16 p17 p1) (aF p10 p11 p12 p13 p14 p15 p16 p17 p1) 0 (aF p10 p11 p12 p13 p14 p15 p16 p17 p1))))) (dC p10 p11 p12 p13 p14 p15 p16 p17 p1))))))]) [17,16,15,14,12,11] (fun bb=>[]) [] 1440 (fun h10=>?_) (fun h10=>?_) ?_
 exact Wu [Eb 91 true] none [Eb 106 true] [17,16,15,14,12,11] [] [] 1440 (v3 (pg h10 (v6 (v9 pT)))) <|Xe [Eb 106 true] []
 refine Xk (!(aR (fh p10 p11 p12 p13 p14 p15 p16 p17 p1) (fj p10 p11 p12 p13 p14 p15 p16 p17 p1))) (fun bb=>[Eb 106 (sel bb true (sel (!(aR (dw p10 p11 p12 p13 p14 p15 p16 p17 p1) (dx p10 p11 p12 p13 p14 p15 p16 p17 p1))) true (!(aR (bytesOf (((cC p10 p11 p12 p13 p14 p15 p16 p17 p1).drop 0).take (aJ (aC (aP p10 p11 p12 p13 p14 p15 p16 p17 p1) (aF p10 p11 p12 p13 p14 p15 p16 p17 p1) 0 (aF p10 p11 p12 p13 p14 p15 p16 p17 p1))))) (dC p10 p11 p12 p13 p14 p15 p16 p17 p1)))))]) [17,16,15,14,12,11] (fun bb=>[]) [] 1440 (fun h11=>?_) (fun h11=>?_) ?_
 exact Wu [Eb 91 false,Eb 96 true] none [Eb 106 true] [17,16,15,14,12,11] [] [] 1440 (v3 (pg h10 (v4 (pg h11 (v1 (v9 pT)))))) <|Xe [Eb 106 true] []
 refine Xk (!(aR (dw p10 p11 p12 p13 p14 p15 p16 p17 p1) (dx p10 p11 p12 p13 p14 p15 p16 p17 p1))) (fun bb=>[Eb 106 (sel bb true (!(aR (bytesOf (((cC p10 p11 p12 p13 p14 p15 p16 p17 p1).drop 0).take (aJ (aC (aP p10 p11 p12 p13 p14 p15 p16 p17 p1) (aF p10 p11 p12 p13 p14 p15 p16 p17 p1) 0 (aF p10 p11 p12 p13 p14 p15 p16 p17 p1))))) (dC p10 p11 p12 p13 p14 p15 p16 p17 p1))))]) [17,16,15,14,12,11] (fun bb=>[]) [] 1440 (fun h12=>?_) (fun h12=>?_) ?_
 exact Wu [Eb 91 false,Eb 96 false,Eb 101 true] none [Eb 106 true] [17,16,15,14,12,11] [] [] 1440 (v3 (pg h10 (v4 (pg h11 (v4 (pg h12 (v5 pT))))))) <|Xe [Eb 106 true] []
 exact Tri.len 800 rfl <|fun hl13=>Wu [Eb 91 false,Eb 96 false,Eb 101 false] none [Eb 106 (!(aR (bytesOf (((cC p10 p11 p12 p13 p14 p15 p16 p17 p1).drop 0).take (aJ (aC (aP p10 p11 p12 p13 p14 p15 p16 p17 p1) (aF p10 p11 p12 p13 p14 p15 p16 p17 p1) 0 (aF p10 p11 p12 p13 p14 p15 p16 p17 p1))))) (dC p10 p11 p12 p13 p14 p15 p16 p17 p1)))] [17,16,15,14,12,11] [] [] 1440 (v3 (pg h10 (v4 (pg h11 (v4 (pg h12 (v1 (pu (Yw (aJ (aC (aP p10 p11 p12 p13 p14 p15 p16 p17 p1) (aF p10 p11 p12 p13 p14 p15 p16 p17 p1) 0 (aF p10 p11 p12 p13 p14 p15 p16 p17 p1)))) (v3 pT))))))))) <|Xe [Eb 106 (!(aR (bytesOf (((cC p10 p11 p12 p13 p14 p15 p16 p17 p1).drop 0).take (aJ (aC (aP p10 p11 p12 p13 p14 p15 p16 p17 p1) (aF p10 p11 p12 p13 p14 p15 p16 p17 p1) 0 (aF p10 p11 p12 p13 p14 p15 p16 p17 p1))))) (dC p10 p11 p12 p13 p14 p15 p16 p17 p1)))] []
 exact Xe [Eb 106 (sel (!(aR (dw p10 p11 p12 p13 p14 p15 p16 p17 p1) (dx p10 p11 p12 p13 p14 p15 p16 p17 p1))) true (!(aR (bytesOf (((cC p10 p11 p12 p13 p14 p15 p16 p17 p1).drop 0).take (aJ (aC (aP p10 p11 p12 p13 p14 p15 p16 p17 p1) (aF p10 p11 p12 p13 p14 p15 p16 p17 p1) 0 (aF p10 p11 p12 p13 p14 p15 p16 p17 p1))))) (dC p10 p11 p12 p13 p14 p15 p16 p17 p1))))] []
 exact Xe [Eb 106 (sel (!(aR (fh p10 p11 p12 p13 p14 p15 p16 p17 p1) (fj p10 p11 p12 p13 p14 p15 p16 p17 p1))) true (sel (!(aR (dw p10 p11 p12 p13 p14 p15 p16 p17 p1) (dx p10 p11 p12 p13 p14 p15 p16 p17 p1))) true (!(aR (bytesOf (((cC p10 p11 p12 p13 p14 p15 p16 p17 p1).drop 0).take (aJ (aC (aP p10 p11 p12 p13 p14 p15 p16 p17 p1) (aF p10 p11 p12 p13 p14 p15 p16 p17 p1) 0 (aF p10 p11 p12 p13 p14 p15 p16 p17 p1))))) (dC p10 p11 p12 p13 p14 p15 p16 p17 p1)))))] []
 refine Xa (fun h14=>?_) (fun h14=>?_)
 exact Xt [Eb 6 false] [106,18,13,10,70,69,68,7,3,1] [] [800,672,16] 1456 (v1 pT) <|Xy [] pz (by simp only [bx,h1,h2,h3,h4,h5,h7,h8,h14,aB,aA] <;> rfl)
 refine Tri.skip <|Tri.seq <|Tri.seq <|Xk (fi p10 p11 p12 p13 p14 p15 p16 p17 p1) (fun bb=>[Eb 124 (sel bb (sel (aR (bytesOf (aC (aP p10 p11 p12 p13 p14 p15 p16 p17 p1) (aF p10 p11 p12 p13 p14 p15 p16 p17 p1) 0 (aF p10 p11 p12 p13 p14 p15 p16 p17 p1))) (bytesOf (aC (aP p10 p11 p12 p13 p14 p15 p16 p17 p1) (aF p10 p11 p12 p13 p14 p15 p16 p17 p1) 0 (aF p10 p11 p12 p13 p14 p15 p16 p17 p1)))) (!(et p10 p11 p12 p13 p14 p15 p16 p17 p1)) false) false)]) [106,18,13] (fun bb=>[]) [800] 1728 (fun h15=>?_) (fun h15=>?_) ?_
 refine Xk (aR (bytesOf (aC (aP p10 p11 p12 p13 p14 p15 p16 p17 p1) (aF p10 p11 p12 p13 p14 p15 p16 p17 p1) 0 (aF p10 p11 p12 p13 p14 p15 p16 p17 p1))) (bytesOf (aC (aP p10 p11 p12 p13 p14 p15 p16 p17 p1) (aF p10 p11 p12 p13 p14 p15 p16 p17 p1) 0 (aF p10 p11 p12 p13 p14 p15 p16 p17 p1)))) (fun bb=>[Eb 124 (sel bb (!(et p10 p11 p12 p13 p14 p15 p16 p17 p1)) false)]) [106,18,13] (fun bb=>[]) [800] 1728 (fun h16=>?_) (fun h16=>?_) ?_
 refine Tri.len 800 rfl <|fun hl17=>Wu [Eb 108 true,Eb 115 true] (some [0,1,3,7,3,19,63,127,255,511,1023,2047,511,8191,511,32767,65535,131071]) [Eb 124 (!(et p10 p11 p12 p13 p14 p15 p16 p17 p1))] [106,18,13] [] [800] 1728 (v1 (pg h15 (v6 (pg h16 (v2 (pu (pa (pa (Yw p1.size) pT) (pl (show (aC (aD p1) p1.size 0 p1.size).length=32 from by (rw [jK,aU];omega)))) (pu (Yw 8) (pu (pa pT (lo (fb p10 p11 p12 p13 p14 p15 p16 p17))) (v1 (pu (pa (pa (Yw 32) (pa (Yw 32) (pa (Yw (aJ (aC (aP p10 p11 p12 p13 p14 p15 p16 p17 p1) (aF p10 p11 p12 p13 p14 p15 p16 p17 p1) 0 (aF p10 p11 p12 p13 p14 p15 p16 p17 p1)))) pT))) (pl (show (aC (fc p10 p11 p12 p13 p14 p15 p16 p17) 32 0 32).length≤10000 from aL (by decide) (by rw [tv];decide)))) (v2 pT))))))))))) ?_
 exact Xe [Eb 124 (!(et p10 p11 p12 p13 p14 p15 p16 p17 p1))] []
 exact Wu [Eb 108 true,Eb 115 false] (some [0,1,3,7,3,19,63,127,255,511,1023,2047,511,8191,511,32767,65535,131071]) [Eb 124 false] [106,18,13] [] [800] 1728 (v1 (pg h15 (v6 (pg h16 (v9 pT))))) <|Xe [Eb 124 false] []
 exact Xe [Eb 124 (sel (aR (bytesOf (aC (aP p10 p11 p12 p13 p14 p15 p16 p17 p1) (aF p10 p11 p12 p13 p14 p15 p16 p17 p1) 0 (aF p10 p11 p12 p13 p14 p15 p16 p17 p1))) (bytesOf (aC (aP p10 p11 p12 p13 p14 p15 p16 p17 p1) (aF p10 p11 p12 p13 p14 p15 p16 p17 p1) 0 (aF p10 p11 p12 p13 p14 p15 p16 p17 p1)))) (!(et p10 p11 p12 p13 p14 p15 p16 p17 p1)) false)] []
 exact Wu [Eb 108 false] (some [0,1,3,7,3,19,63,127,255,511,1023,2047,511,8191,511,32767,65535,131071]) [Eb 124 false] [106,18,13] [] [800] 1728 (v1 (pg h15 (v7 (v9 pT)))) <|Xe [Eb 124 false] []
 refine Xa (fun h18=>?_) (fun h18=>?_)
 exact Xt [Eb 6 false] [124,10,70,69,68,7,3,1] [] [672,16] 1744 (v1 pT) <|Xy [] pz (by simp only [bx,h1,h2,h3,h4,h5,h7,h8,h14,h18,aB,aA] <;> rfl)
 refine Tri.skip <|Xt [Ep 19 1760] [124] [Mc 1760 [.ro .u8 (aC (aP p10 p11 p12 p13 p14 p15 p16 p17 p1) (aF p10 p11 p12 p13 p14 p15 p16 p17 p1) 0 (aF p10 p11 p12 p13 p14 p15 p16 p17 p1)),.i .i64 0,.b false]] [] 1792 (v1 (pu (pa (Ys 0 3) pT) (v2 pT))) <|Xt [Es 21 (bu p10 p11 p12 p13 p14 p15 p16 p17 p1),Ei 20 (dH (aC (aP p10 p11 p12 p13 p14 p15 p16 p17 p1) (aF p10 p11 p12 p13 p14 p15 p16 p17 p1) 0 (aF p10 p11 p12 p13 p14 p15 p16 p17 p1)) 0 false)] [] [Mc 1760 [.ro .u8 (dR p10 p11 p12 p13 p14 p15 p16 p17 p1),.i .i64 (af (dR p10 p11 p12 p13 p14 p15 p16 p17 p1) (aK (aC (aP p10 p11 p12 p13 p14 p15 p16 p17 p1) (aF p10 p11 p12 p13 p14 p15 p16 p17 p1) 0 (aF p10 p11 p12 p13 p14 p15 p16 p17 p1)) 0 false) (gM p10 p11 p12 p13 p14 p15 p16 p17 p1)),.b (jo p10 p11 p12 p13 p14 p15 p16 p17 p1)]] [1760] 1888 (v1 (pu (pa pT (pl (show (aC (aP p10 p11 p12 p13 p14 p15 p16 p17 p1) (aF p10 p11 p12 p13 p14 p15 p16 p17 p1) 0 (aF p10 p11 p12 p13 p14 p15 p16 p17 p1)).length≤1000000000∧(0:Int)≤0∧0≤((aC (aP p10 p11 p12 p13 p14 p15 p16 p17 p1) (aF p10 p11 p12 p13 p14 p15 p16 p17 p1) 0 (aF p10 p11 p12 p13 p14 p15 p16 p17 p1)).length:Int) from Hb (Nat.le_trans (nk ht hC.2 (by omega)) (by decide))))) (v1 (pu (pa pT (pl (show (dR p10 p11 p12 p13 p14 p15 p16 p17 p1).length≤1000000000∧(0:Int)≤(aK (aC (aP p10 p11 p12 p13 p14 p15 p16 p17 p1) (aF p10 p11 p12 p13 p14 p15 p16 p17 p1) 0 (aF p10 p11 p12 p13 p14 p15 p16 p17 p1)) 0 false)∧(aK (aC (aP p10 p11 p12 p13 p14 p15 p16 p17 p1) (aF p10 p11 p12 p13 p14 p15 p16 p17 p1) 0 (aF p10 p11 p12 p13 p14 p15 p16 p17 p1)) 0 false)≤((dR p10 p11 p12 p13 p14 p15 p16 p17 p1).length:Int) from iu (Hb (Nat.le_trans (nk ht hC.2 (by omega)) (by decide)))))) (v2 pT))))) <|Tri.seq <|Tri.seq <|Xk (((dH (aC (aP p10 p11 p12 p13 p14 p15 p16 p17 p1) (aF p10 p11 p12 p13 p14 p15 p16 p17 p1) 0 (aF p10 p11 p12 p13 p14 p15 p16 p17 p1)) 0 false):Int) != 30) (fun bb=>[Eb 143 (sel bb true (sel (!(eM p10 p11 p12 p13 p14 p15 p16 p17 p1)) true (((((bu p10 p11 p12 p13 p14 p15 p16 p17 p1).size:Nat):Int):Int) != 32)))]) [20,19] (fun bb=>[]) [1760] 2080 (fun h19=>?_) (fun h19=>?_) ?_
 have h19':=bO h19
 exact Wu [Eb 134 true] none [Eb 143 true] [20,19] [] [1760] 2080 (v2 (pg h19 (v9 pT))) <|Xe [Eb 143 true] []
 have h19':=ak h19
 refine Xk (!(eM p10 p11 p12 p13 p14 p15 p16 p17 p1)) (fun bb=>[Eb 143 (sel bb true (((((bu p10 p11 p12 p13 p14 p15 p16 p17 p1).size:Nat):Int):Int) != 32))]) [20,19] (fun bb=>[]) [1760] 2080 (fun h20=>?_) (fun h20=>?_) ?_
 exact Wu [Eb 134 false,Eb 139 true] none [Eb 143 true] [20,19] [] [1760] 2080 (v2 (pg h19 (v1 (pu pz (v2 (pg h20 (v4 pT))))))) <|Xe [Eb 143 true] []
 exact Wu [Eb 134 false,Eb 139 false] none [Eb 143 (((((bu p10 p11 p12 p13 p14 p15 p16 p17 p1).size:Nat):Int):Int) != 32)] [20,19] [] [1760] 2080 (v2 (pg h19 (v1 (pu pz (v2 (pg h20 (v4 pT))))))) <|Xe [Eb 143 (((((bu p10 p11 p12 p13 p14 p15 p16 p17 p1).size:Nat):Int):Int) != 32)] []
 exact Xe [Eb 143 (sel (!(eM p10 p11 p12 p13 p14 p15 p16 p17 p1)) true (((((bu p10 p11 p12 p13 p14 p15 p16 p17 p1).size:Nat):Int):Int) != 32))] []
 refine Xj (x:=(sel (((dH (aC (aP p10 p11 p12 p13 p14 p15 p16 p17 p1) (aF p10 p11 p12 p13 p14 p15 p16 p17 p1) 0 (aF p10 p11 p12 p13 p14 p15 p16 p17 p1)) 0 false):Int) != 30) true (sel (!(eM p10 p11 p12 p13 p14 p15 p16 p17 p1)) true (((((bu p10 p11 p12 p13 p14 p15 p16 p17 p1).size:Nat):Int):Int) != 32)))) (fun bb=>[Es 21 (sel bb (⟨#[]⟩:ByteArray) (bu p10 p11 p12 p13 p14 p15 p16 p17 p1))]) [143,21] (fun bb=>[]) [] 2096 (fun h21=>?_) (fun h21=>?_) ?_
 exact Ws [Es 21 (⟨#[]⟩:ByteArray)] [143,21] 2096 (v1 pT) <|Xe [Es 21 (⟨#[]⟩:ByteArray)] []
 exact Tri.skip <|Xe [Es 21 (bu p10 p11 p12 p13 p14 p15 p16 p17 p1)] []
 refine Xs [Eb 147 (!(aR (jq p10 p11 p12 p13 p14 p15 p16 p17 p1) (sel (sel (((dH (aC (aP p10 p11 p12 p13 p14 p15 p16 p17 p1) (aF p10 p11 p12 p13 p14 p15 p16 p17 p1) 0 (aF p10 p11 p12 p13 p14 p15 p16 p17 p1)) 0 false):Int) != 30) true (sel (!(eM p10 p11 p12 p13 p14 p15 p16 p17 p1)) true (((((bu p10 p11 p12 p13 p14 p15 p16 p17 p1).size:Nat):Int):Int) != 32))) (⟨#[]⟩:ByteArray) (bu p10 p11 p12 p13 p14 p15 p16 p17 p1))))] [21,10] 2160 (v1 (pu (pa pz (pl (show (aC (aP p10 p11 p12 p13 p14 p15 p16 p17 p1) (aF p10 p11 p12 p13 p14 p15 p16 p17 p1) 0 (aF p10 p11 p12 p13 p14 p15 p16 p17 p1)).length≤1000000000 from Nat.le_trans (nk ht hC.2 (by omega)) (by decide)))) (v2 pT))) <|Xa (fun h22=>?_) (fun h22=>?_)
 exact Xt [Eb 6 false] [147,70,69,68,7,3,1] [] [672,16] 2176 (v1 pT) <|Xy [] pz (by simp only [bx,h1,h2,h3,h4,h5,h7,h8,h14,h18,h22,aB,aA] <;> rfl)
 refine Tri.skip <|Ws [Ei 70 1] [147,70] 2192 (v2 pT) <|Xs [Eb 71 true] [] 2208 (v1 pT) <|Tri.seq <|Tri.cond_true (by kernel_rfl) <|Tri.skip <|Tri.seq <|Tri.block <|Xs [Er 10 p2] [71] 2256 (pu (Yi 1 2) (pu (Yl 1 2) (v1 pT))) <|Xt [Eb 14 (bp p2),El 13 2272 (aJ p2),Es 12 (bH p2),Es 11 (cD p2)] [] [Mi 2272 (aJ p2) (ag p2)] [] 2432 (v1 (pu (pa pz (Ye p2.length 1000000000)) (v9 pT))) <|Xs [Eb 18 (bA p2),Es 17 (bF p2),Es 16 (bW p2),Es 15 (cQ p2)] [] 2608 (v1 (pu (pa pz (Ye p2.length 1000000000)) (v9 pT))) <|Tri.seq <|Tri.seq <|Xk (!((bp p2)==(bA p2))) (fun bb=>[Eb 106 (sel bb true (sel (!(aR (cD p2) (cQ p2))) true (sel (!(aR (bH p2) (bW p2))) true (!(aR (bytesOf (((ag p2).drop 0).take (aJ p2))) (bF p2))))))]) [17,16,15,14,12,11] (fun bb=>[]) [] 2912 (fun h23=>?_) (fun h23=>?_) ?_
 exact Wu [Eb 91 true] none [Eb 106 true] [17,16,15,14,12,11] [] [] 2912 (v3 (pg h23 (v6 (v9 pT)))) <|Xe [Eb 106 true] []
 refine Xk (!(aR (cD p2) (cQ p2))) (fun bb=>[Eb 106 (sel bb true (sel (!(aR (bH p2) (bW p2))) true (!(aR (bytesOf (((ag p2).drop 0).take (aJ p2))) (bF p2)))))]) [17,16,15,14,12,11] (fun bb=>[]) [] 2912 (fun h24=>?_) (fun h24=>?_) ?_
 exact Wu [Eb 91 false,Eb 96 true] none [Eb 106 true] [17,16,15,14,12,11] [] [] 2912 (v3 (pg h23 (v4 (pg h24 (v1 (v9 pT)))))) <|Xe [Eb 106 true] []
 refine Xk (!(aR (bH p2) (bW p2))) (fun bb=>[Eb 106 (sel bb true (!(aR (bytesOf (((ag p2).drop 0).take (aJ p2))) (bF p2))))]) [17,16,15,14,12,11] (fun bb=>[]) [] 2912 (fun h25=>?_) (fun h25=>?_) ?_
 exact Wu [Eb 91 false,Eb 96 false,Eb 101 true] none [Eb 106 true] [17,16,15,14,12,11] [] [] 2912 (v3 (pg h23 (v4 (pg h24 (v4 (pg h25 (v5 pT))))))) <|Xe [Eb 106 true] []
 exact Wu [Eb 91 false,Eb 96 false,Eb 101 false] none [Eb 106 (!(aR (bytesOf (((ag p2).drop 0).take (aJ p2))) (bF p2)))] [17,16,15,14,12,11] [] [] 2912 (v3 (pg h23 (v4 (pg h24 (v4 (pg h25 (v1 (pu (Yw (aJ p2)) (v3 pT))))))))) <|Xe [Eb 106 (!(aR (bytesOf (((ag p2).drop 0).take (aJ p2))) (bF p2)))] []
 exact Xe [Eb 106 (sel (!(aR (bH p2) (bW p2))) true (!(aR (bytesOf (((ag p2).drop 0).take (aJ p2))) (bF p2))))] []
 exact Xe [Eb 106 (sel (!(aR (cD p2) (cQ p2))) true (sel (!(aR (bH p2) (bW p2))) true (!(aR (bytesOf (((ag p2).drop 0).take (aJ p2))) (bF p2)))))] []
 refine Xa (fun h26=>?_) (fun h26=>?_)
 exact Xt [Eb 6 false] [106,18,13,10,70,69,68,7,3,1] [] [2272,672,16] 2928 (v1 pT) <|Xy [] pz (by simp only [bx,h1,h2,h3,h4,h5,h7,h8,h14,h18,h22,h26,aB,aA] <;> rfl)
 refine Tri.skip <|Tri.seq <|Tri.seq <|Xk (bA p2) (fun bb=>[Eb 124 (sel bb (sel (aR (bytesOf p2) (bytesOf (aC (aP p10 p11 p12 p13 p14 p15 p16 p17 p1) (aF p10 p11 p12 p13 p14 p15 p16 p17 p1) 0 (aF p10 p11 p12 p13 p14 p15 p16 p17 p1)))) (!(eG p10 p11 p12 p13 p14 p15 p16 p17 p1 p2)) false) false)]) [106,18,13] (fun bb=>[]) [2272] 3200 (fun h27=>?_) (fun h27=>?_) ?_
 refine Xk (aR (bytesOf p2) (bytesOf (aC (aP p10 p11 p12 p13 p14 p15 p16 p17 p1) (aF p10 p11 p12 p13 p14 p15 p16 p17 p1) 0 (aF p10 p11 p12 p13 p14 p15 p16 p17 p1)))) (fun bb=>[Eb 124 (sel bb (!(eG p10 p11 p12 p13 p14 p15 p16 p17 p1 p2)) false)]) [106,18,13] (fun bb=>[]) [2272] 3200 (fun h28=>?_) (fun h28=>?_) ?_
 refine Tri.len 2272 rfl <|fun hl29=>Wu [Eb 108 true,Eb 115 true] (some [0,1,3,7,3,19,63,127,255,511,1023,2047,511,8191,511,32767,65535,131071]) [Eb 124 (!(eG p10 p11 p12 p13 p14 p15 p16 p17 p1 p2))] [106,18,13] [] [2272] 3200 (v1 (pg h27 (v6 (pg h28 (v2 (pu (pa (pa (Yw p1.size) pT) (pl (show (aC (aD p1) p1.size 0 p1.size).length=32 from by (rw [jK,aU];omega)))) (pu (Yw 8) (pu (pa pT (lo (fb p10 p11 p12 p13 p14 p15 p16 p17))) (v1 (pu (pa (pa (Yw 32) (pa (Yw 32) (pa (Yw (aJ p2)) pT))) (pl (show (aC (fc p10 p11 p12 p13 p14 p15 p16 p17) 32 0 32).length≤10000 from aL (by decide) (by rw [tv];decide)))) (v2 pT))))))))))) ?_
 exact Xe [Eb 124 (!(eG p10 p11 p12 p13 p14 p15 p16 p17 p1 p2))] []
 exact Wu [Eb 108 true,Eb 115 false] (some [0,1,3,7,3,19,63,127,255,511,1023,2047,511,8191,511,32767,65535,131071]) [Eb 124 false] [106,18,13] [] [2272] 3200 (v1 (pg h27 (v6 (pg h28 (v9 pT))))) <|Xe [Eb 124 false] []
 exact Xe [Eb 124 (sel (aR (bytesOf p2) (bytesOf (aC (aP p10 p11 p12 p13 p14 p15 p16 p17 p1) (aF p10 p11 p12 p13 p14 p15 p16 p17 p1) 0 (aF p10 p11 p12 p13 p14 p15 p16 p17 p1)))) (!(eG p10 p11 p12 p13 p14 p15 p16 p17 p1 p2)) false)] []
 exact Wu [Eb 108 false] (some [0,1,3,7,3,19,63,127,255,511,1023,2047,511,8191,511,32767,65535,131071]) [Eb 124 false] [106,18,13] [] [2272] 3200 (v1 (pg h27 (v7 (v9 pT)))) <|Xe [Eb 124 false] []
 refine Xa (fun h30=>?_) (fun h30=>?_)
 exact Xt [Eb 6 false] [124,10,70,69,68,7,3,1] [] [672,16] 3216 (v1 pT) <|Xy [] pz (by simp only [bx,h1,h2,h3,h4,h5,h7,h8,h14,h18,h22,h26,h30,aB,aA] <;> rfl)
 refine Tri.skip <|Xt [Ep 19 3232] [124] [Mc 3232 [.ro .u8 p2,.i .i64 0,.b false]] [] 3264 (v1 (pu (pa (Ys 0 3) pT) (v2 pT))) <|Xt [Es 21 (cB p2 (aK p2 0 false) (aO p2 0 false)),Ei 20 (dH p2 0 false)] [] [Mc 3232 [.ro .u8 p2,.i .i64 (af p2 (aK p2 0 false) (aO p2 0 false)),.b (bU p2 (aK p2 0 false) (aO p2 0 false))]] [3232] 3360 (v1 (pu (pa pT (lo (p2.length≤1000000000∧(0:Int)≤0∧0≤(p2.length:Int)))) (v1 (pu (pa pT (pl (show p2.length≤1000000000∧(0:Int)≤(aK p2 0 false)∧(aK p2 0 false)≤(p2.length:Int) from iu (Hb (by omega))))) (v2 pT))))) <|Tri.seq <|Tri.seq <|Xk (((dH p2 0 false):Int) != 30) (fun bb=>[Eb 143 (sel bb true (sel (!(eJ p2)) true (((((cB p2 (aK p2 0 false) (aO p2 0 false)).size:Nat):Int):Int) != 32)))]) [20,19] (fun bb=>[]) [3232] 3552 (fun h31=>?_) (fun h31=>?_) ?_
 have h31':=bO h31
 exact Wu [Eb 134 true] none [Eb 143 true] [20,19] [] [3232] 3552 (v2 (pg h31 (v9 pT))) <|Xe [Eb 143 true] []
 have h31':=ak h31
 refine Xk (!(eJ p2)) (fun bb=>[Eb 143 (sel bb true (((((cB p2 (aK p2 0 false) (aO p2 0 false)).size:Nat):Int):Int) != 32))]) [20,19] (fun bb=>[]) [3232] 3552 (fun h32=>?_) (fun h32=>?_) ?_
 exact Wu [Eb 134 false,Eb 139 true] none [Eb 143 true] [20,19] [] [3232] 3552 (v2 (pg h31 (v1 (pu pz (v2 (pg h32 (v4 pT))))))) <|Xe [Eb 143 true] []
 exact Wu [Eb 134 false,Eb 139 false] none [Eb 143 (((((cB p2 (aK p2 0 false) (aO p2 0 false)).size:Nat):Int):Int) != 32)] [20,19] [] [3232] 3552 (v2 (pg h31 (v1 (pu pz (v2 (pg h32 (v4 pT))))))) <|Xe [Eb 143 (((((cB p2 (aK p2 0 false) (aO p2 0 false)).size:Nat):Int):Int) != 32)] []
 exact Xe [Eb 143 (sel (!(eJ p2)) true (((((cB p2 (aK p2 0 false) (aO p2 0 false)).size:Nat):Int):Int) != 32))] []
 refine Xj (x:=(sel (((dH p2 0 false):Int) != 30) true (sel (!(eJ p2)) true (((((cB p2 (aK p2 0 false) (aO p2 0 false)).size:Nat):Int):Int) != 32)))) (fun bb=>[Es 21 (sel bb (⟨#[]⟩:ByteArray) (cB p2 (aK p2 0 false) (aO p2 0 false)))]) [143,21] (fun bb=>[]) [] 3568 (fun h33=>?_) (fun h33=>?_) ?_
 exact Ws [Es 21 (⟨#[]⟩:ByteArray)] [143,21] 3568 (v1 pT) <|Xe [Es 21 (⟨#[]⟩:ByteArray)] []
 exact Tri.skip <|Xe [Es 21 (cB p2 (aK p2 0 false) (aO p2 0 false))] []
 refine Xs [Eb 147 (!(aR (ec p2) (sel (sel (((dH p2 0 false):Int) != 30) true (sel (!(eJ p2)) true (((((cB p2 (aK p2 0 false) (aO p2 0 false)).size:Nat):Int):Int) != 32))) (⟨#[]⟩:ByteArray) (cB p2 (aK p2 0 false) (aO p2 0 false)))))] [21,10] 3632 (v1 (pu (pa pz (Ye p2.length 1000000000)) (v2 pT))) <|Xa (fun h34=>?_) (fun h34=>?_)
 exact Xt [Eb 6 false] [147,70,69,68,7,3,1] [] [672,16] 3648 (v1 pT) <|Xy [] pz (by simp only [bx,h1,h2,h3,h4,h5,h7,h8,h14,h18,h22,h26,h30,h34,aB,aA] <;> rfl)
 refine Tri.skip <|Ws [Ei 70 2] [147,70] 3664 (v2 pT) <|Xs [Eb 71 false] [] 3680 (v1 pT) <|Tri.seq <|Tri.cond_false (by kernel_rfl) <|Tri.exit <|Xt [El 22 3728 ((1+4)+p15.size)] [71,70,69,68,7,1] [Mi 3728 ((1+4)+p15.size) (lm p15)] [672] 3760 (v1 (pu (Yi 0 2) (pu (Yl 5 8) (pu (pa pT (Ye p15.size 1000000000)) (v1 pT))))) <|Xs [Es 23 p15] [] 3824 (v1 (pu (Yi 0 2) (pu (Yl 5 8) (v1 pT)))) <|Tri.seq <|Xs [Eb 158 ((((p15.size:Nat):Int):Int) != 32)] [] 3872 (v3 pT) <|Xj (x:=((((p15.size:Nat):Int):Int) != 32)) (fun bb=>[Es 23 (sel bb (⟨#[]⟩:ByteArray) p15)]) [158,23] (fun bb=>[]) [] 3888 (fun h35=>?_) (fun h35=>?_) ?_
 have h35':=bO h35
 exact Ws [Es 23 (⟨#[]⟩:ByteArray)] [158,23] 3888 (v1 pT) <|Xe [Es 23 (⟨#[]⟩:ByteArray)] []
 have h35':=ak h35
 exact Tri.skip <|Xe [Es 23 p15] []
 refine Tri.seq <|Xk (aR (bytesOf (((lm p15).drop 0).take ((1+4)+p15.size))) ((⟨#[30]⟩:ByteArray)++(bytesOf (((bG p15).drop 0).take (4+p15.size))))) (fun bb=>[Eb 6 (sel bb (sel (aR (gH p15) (sel ((((p15.size:Nat):Int):Int) != 32) (⟨#[]⟩:ByteArray) p15)) true false) false)]) [23,22,3] (fun bb=>[]) [3728,16] 4224 (fun h36=>?_) (fun h36=>?_) ?_
 refine Xk (aR (gH p15) (sel ((((p15.size:Nat):Int):Int) != 32) (⟨#[]⟩:ByteArray) p15)) (fun bb=>[Eb 6 (sel bb true false)]) [23,22,3] (fun bb=>[]) [3728,16] 4224 (fun h37=>?_) (fun h37=>?_) ?_
 exact Tri.len 3728 rfl <|fun hl38=>Wu [Eb 168 true,Eb 174 true] (some [0,1,0,4,12,28,60,124,255,511,1023,2047,1023,8191,16383,32767,65535,131071,262143,524287,1048575]) [Eb 6 true] [23,22,3] [] [3728,16] 4224 (v1 (pu (Yw ((1+4)+p15.size)) (v1 (pu (Yi 0 2) (pu (Yl 5 8) (pu (pa pT (Ye p15.size 1000000000)) (pu (Yw (4+p15.size)) (pu (pl (show (⟨#[30]⟩:ByteArray).size+(bytesOf (((bG p15).drop 0).take (4+p15.size))).size≤9223372036854775807 from uS (by omega))) (v1 (pg h36 (v1 (pu (pa (pa (Yw ((1+4)+p15.size)) pT) (Ye ((aC (lm p15) ((1+4)+p15.size) 0 ((1+4)+p15.size)).length) 1000000000)) (v3 (pg h37 (pu (pa pT (Ye ((⟨#[]⟩:ByteArray).size) 100000)) (v4 pT)))))))))))))))) <|Xe [Eb 6 true] []
 exact Tri.len 3728 rfl <|fun hl39=>Wu [Eb 168 true,Eb 174 false] (some [0,1,0,4,12,28,60,124,255,511,1023,2047,1023,8191,16383,32767,65535,131071,262143,524287,1048575]) [Eb 6 false] [23,22,3] [] [3728,16] 4224 (v1 (pu (Yw ((1+4)+p15.size)) (v1 (pu (Yi 0 2) (pu (Yl 5 8) (pu (pa pT (Ye p15.size 1000000000)) (pu (Yw (4+p15.size)) (pu (pl (show (⟨#[30]⟩:ByteArray).size+(bytesOf (((bG p15).drop 0).take (4+p15.size))).size≤9223372036854775807 from uS (by omega))) (v1 (pg h36 (v1 (pu (pa (pa (Yw ((1+4)+p15.size)) pT) (Ye ((aC (lm p15) ((1+4)+p15.size) 0 ((1+4)+p15.size)).length) 1000000000)) (v3 (pg h37 (v5 pT))))))))))))))) <|Xe [Eb 6 false] []
 exact Xe [Eb 6 (sel (aR (gH p15) (sel ((((p15.size:Nat):Int):Int) != 32) (⟨#[]⟩:ByteArray) p15)) true false)] []
 exact Wu [Eb 168 false] (some [0,1,0,4,12,28,60,124,255,511,1023,2047,1023,8191,16383,32767,65535,131071,262143,524287,1048575]) [Eb 6 false] [23,22,3] [] [3728,16] 4224 (v1 (pu (Yw ((1+4)+p15.size)) (v1 (pu (Yi 0 2) (pu (Yl 5 8) (pu (pa pT (Ye p15.size 1000000000)) (pu (Yw (4+p15.size)) (pu (pl (show (⟨#[30]⟩:ByteArray).size+(bytesOf (((bG p15).drop 0).take (4+p15.size))).size≤9223372036854775807 from uS (by omega))) (v1 (pg h36 (v2 (v9 pT)))))))))))) <|Xe [Eb 6 false] []
 exact Xy [] pz (by simp only [bx,h1,h2,h3,h4,h5,h7,h8,h14,h18,h22,h26,h30,h34,aB,aA] <;> rfl)
end Go.Vm
namespace Go.Vm
open Go Tabn
theorem replies_true {p10 p11:ByteArray} {p12 p13:List Int} {p14 p15 p16:ByteArray} {p17:List Int} {p1:ByteArray} {p2:List Int} (hb:tX p10 p11 p12 p13 p14 p15 p16 p17) (hd:Dg p17) (hd2:Dg p2):bx p10 p11 p12 p13 p14 p15 p16 p17 p1 p2=true:=by
 unfold bx
 rw [Gg,Bool.not_true,aA]
 cases hsh:oD p10 p11 p12 p13 p14 p15 p16 p17
 case false=>rw [Bool.not_false,aB]
 rw [Bool.not_true,aA]
 have ht:=tg hb hsh
 cases h1:decide ((((p1.size:Nat):Int):Int)>100)
 case true=>rw [aB]
 rw [aA]
 cases h2:decide ((((p2.length:Nat):Int):Int)>2000)
 case true=>rw [aB]
 rw [aA]
 have l2:p2.length≤2000:=by have:=of_decide_eq_false h2;omega
 cases hs:((((p1.size:Nat):Int):Int) != 32)
 case true =>
  obtain ⟨r1,r2⟩:=FF (a:=p10) (b:=p11) (c:=p12) (d:=p13) (e:=p14) (f:=p15) (g:=p16) (h:=p17) hs
  rw [aB,r1,r2]
  rfl
 rw [aA]
 have hs32:p1.size=32:=by have:=ak hs;omega
 obtain ⟨r1,r2,r3⟩:=zS ht hd hs32
 obtain ⟨q1,q2⟩:=FP (p1:=p1) ht
 have hsl:=lv (aD p1) (bv p10 p11 p12 p13 p14 p15 p16 p17)
 have hsd:Dg (ia (aD p1) (bv p10 p11 p12 p13 p14 p15 p16 p17)):=tx _ _
 have s83:=mA hsl
 have hrd:=zo p14 p16 (eV (ia (aD p1) (bv p10 p11 p12 p13 p14 p15 p16 p17)))
 have hown:=Kc (e:=p14) (g:=p16) ht.2.2.2.2.1 ht.2.2.2.2.2.2.1 hsd hsl
 have hrl:(dI p14 p16 (eV (ia (aD p1) (bv p10 p11 p12 p13 p14 p15 p16 p17)))).length≤1000000000:=by
  have t5:=ht.2.2.2.2.1
  have t7:=ht.2.2.2.2.2.2.1
  unfold dI
  simp only [List.length_append,aU,List.length_cons,List.length_nil,oE]
  omega
 have hp:aC (aP p10 p11 p12 p13 p14 p15 p16 p17 p1) (aF p10 p11 p12 p13 p14 p15 p16 p17 p1) 0 (aF p10 p11 p12 p13 p14 p15 p16 p17 p1)=dI p14 p16 (eV (ia (aD p1) (bv p10 p11 p12 p13 p14 p15 p16 p17))):=by
  rw [r2,r3,ah rfl]
 have hq:bytesOf (((aP p10 p11 p12 p13 p14 p15 p16 p17 p1).drop 0).take (aF p10 p11 p12 p13 p14 p15 p16 p17 p1))=bytesOf (((lr p10 p11 p12 p13 p14 p15 p16 p17 p1).drop 0).take (ge p10 p11 p12 p13 p14 p15 p16 p17 p1)):=by
  rw [r2,r3,q1,q2]
 rw [r1,hq,gA,show (((0:Int)) != 0)=false from rfl,aA,Bool.not_true,aA]
 unfold eM jo bu gM jq fh dw ig cC fj dx dC fi et dR eG eJ gH
 rw [hp]
 have p1r:(aC (fc p10 p11 p12 p13 p14 p15 p16 p17) 32 0 32)=bv p10 p11 p12 p13 p14 p15 p16 p17:=by rw [wb ht hd];exact ah (kX p10 p11 p12 p13 p14 p15 p16 p17)
 have pk:aC (wS (aC (aD p1) p1.size 0 p1.size)) 32 0 32=fk (rg (aD p1)):=by rw [jK,MZ];exact ah (dU _)
 rw [p1r,pk]
 generalize hR:dI p14 p16 (eV (ia (aD p1) (bv p10 p11 p12 p13 p14 p15 p16 p17)))=R at *
 obtain ⟨s1,s2,s3,s4,s5⟩:=mU hrd hrl
 obtain ⟨u1,u2,u3,u4,u5⟩:=mU hd2 (show p2.length≤1000000000 by omega)
 rw [s1,s2,s3,s4,u1,u2,u3,u4,zm hrd hrl,zm hd2 (show p2.length≤1000000000 by omega)]
 simp only [gA,beq_self_eq_true,Bool.not_true,aA]
 have hv:bA R=true→re (fk (rg (aD p1))) (bv p10 p11 p12 p13 p14 p15 p16 p17) (aC (ag R) (aJ R) 0 (aJ R))=true:=by
  intro his
  rw [hown his]
  exact GJ tp (by rw [kX];decide)
 have ew:cC p10 p11 p12 p13 p14 p15 p16 p17 p1=ag R:=by unfold cC;rw [hp]
 have g1:sel (bA R) (sel true (!re (fk (rg (aD p1))) (bv p10 p11 p12 p13 p14 p15 p16 p17) (aC (cC p10 p11 p12 p13 p14 p15 p16 p17 p1) (aJ R) 0 (aJ R))) false) false=false:=by
  rw [ew]
  cases hi:bA R
  ·rw [aA]
  ·rw [aB,aB,hv hi];rfl
 have g2:sel (bA p2) (sel (aR (bytesOf p2) (bytesOf R)) (!re (fk (rg (aD p1))) (bv p10 p11 p12 p13 p14 p15 p16 p17) (aC (ag p2) (aJ p2) 0 (aJ p2))) false) false=false:=by
  cases hi:bA p2
  ·rw [aA]
  ·rw [aB]
   cases he:aR (bytesOf p2) (bytesOf R)
   ·rw [aA]
   ·have e:=xM hd2 hrd (nc he)
    rw [e] at hi ⊢
    rw [aB,hv hi]
    rfl
 rw [g1,g2,aA,aA]
 have t6:p15.size≤2000:=ht.2.2.2.2.2.1
 have al:=Hj p15 t6
 have ll:(lm p15).length=1+4+p15.size:=by rw [al];simp only [List.length_cons,List.length_append,aU,oE];omega
 have ap:aC (lm p15) (1+4+p15.size) 0 (1+4+p15.size)=30 :: (be4 (aD p15).length++aD p15):=by rw [ah ll,al]
 have tk1:((lm p15).drop 0).take (1+4+p15.size)=30 :: (be4 (aD p15).length++aD p15):=by rw [mK ll.symm,al]
 have tk2:((bG p15).drop 0).take (4+p15.size)=be4 (aD p15).length++aD p15:=by rw [mK (fN p15).symm,jc p15 (by omega),aU]
 rw [ap,tk1,tk2,vq,gA,aB,Jg p15 t6,gA,aB]
end Go.Vm
namespace Go.Vm
open Go
section
variable {H:Type} {enc:TypeId × Value→H} {P:Program} {w:World} {base:Nat} {held:Bool}
end
end Go.Vm
namespace Go.Vm
open Go
section
variable {H:Type} {enc:TypeId × Value→H} {P:Program} {w:World} {base:Nat} {held:Bool}
theorem JM:reachBytes=140737488351232:=by decide
theorem mw {t:TypeId} {m:Nat} {cs:List Value} {x:DataW H × List MemPlace} (ht:P.underlying t=some .string) (h:DataW.trod enc P w base (fun _=>true) held m t cs=some x) (hq:∀ n∈x.1.weights P t,n≤reachBytes):∃ s:ByteArray,cs=[.string s]∧s.size≤140737488351232:=by
 obtain ⟨s,e1,e2,_⟩:=DataW.trod_string ht h
 subst e2
 have h1:=hq s.size (by simp only [DataW.weights,List.mem_singleton,Array.length_toList];rfl)
 rw [JM] at h1
 exact ⟨s,e1,h1⟩
theorem tz {t e:TypeId} {m:Nat} {cs:List Value} {x:DataW H × List MemPlace} (ht:P.underlying t=some (.slice e)) (he:P.underlying e=some (.int .u8)) (hc:P.cellsOf e=1) (hb:0<P.bytesOf e)
  (h:DataW.trod enc P w base (fun _=>true) held m t cs=some x) (hq:∀ n∈x.1.weights P t,n≤reachBytes):∃ a len cap z,cs=[.slice a len cap]∧RowI .u8 w a len cap z∧z.length≤140737488351232:=by
 rcases Go.ChangeShapes.open_ints ht he hc h with ⟨e1,_⟩|⟨a,len,cap,zs,e1,_,hl,hm,hz,hx,hcell,hw⟩
 ·exact ⟨none,0,0,[],e1,.inl ⟨rfl,rfl,rfl,rfl⟩,Nat.zero_le _⟩
 ·exact ⟨some a,len,cap,zs,e1,.inr ⟨a,rfl,hl,hm,by simpa using hz,hcell,hw⟩,sized_ints (d:=x.1) (p:=x.2) ht hb hx hq⟩
theorem vX {t e:TypeId} {m:Nat} {c0 c1:Value} {x:DataW H × List MemPlace} (ht:P.underlying t=some (.array 2 e)) (hc:P.cellsOf e=1) (h:DataW.trod enc P w base (fun _=>true) held m t [c0,c1]=some x) (hq:∀ n∈x.1.weights P t,n≤reachBytes) :
  ∃ k y0 y1,DataW.trod enc P w base (fun _=>true) held k e [c0]=some y0∧DataW.trod enc P w base (fun _=>true) held k e [c1]=some y1∧(∀ n∈y0.1.weights P e,n≤reachBytes)∧∀ n∈y1.1.weights P e,n≤reachBytes:=by
 obtain ⟨xs,k,_,hx,_,hlen,hp⟩:=DataW.trod_array ht h
 have h0:=hp 0 (by decide)
 have h1:=hp 1 (by decide)
 rw [hc] at h0 h1
 match xs,hlen with
 |[y0,y1],_ =>
  subst hx
  refine ⟨k,y0,y1,h0,h1,fun n hn=>hq n ?_,fun n hn=>hq n ?_⟩
  ·simp only [DataW.weights,ht,DataW.weightsAll,List.map_cons,List.mem_append];exact .inl hn
  ·simp only [DataW.weights,ht,DataW.weightsAll,List.map_cons,List.map_nil,List.mem_append];exact .inr (.inl hn)
def RowT (w:World) (V:Value) (a b:ByteArray) (c d:List Int) (e f g:ByteArray) (h:List Int):Prop :=
 ∃ a2 l2 c2 z2 a3 l3 c3 z3 a7 l7 c7 z7,V=.agg #[.string a,.string b,.slice a2 l2 c2,.slice a3 l3 c3,.string e,.string f,.string g,.slice a7 l7 c7] ∧
  (RowI .u8 w a2 l2 c2 z2∧c=z2.take l2)∧(RowI .u8 w a3 l3 c3 z3∧d=z3.take l3)∧(RowI .u8 w a7 l7 c7 z7∧h=z7.take l7)
def BigT (a b:ByteArray) (c d:List Int) (e f g:ByteArray) (h:List Int):Prop :=
 a.size≤140737488351232∧b.size≤140737488351232∧c.length≤140737488351232∧d.length≤140737488351232∧e.size≤140737488351232∧f.size≤140737488351232∧g.size≤140737488351232∧h.length≤140737488351232
theorem talk_row {σ:Sig} {V:Value} {a b:ByteArray} {c d:List Int} {e f g:ByteArray} {h:List Int} (q:RowT w V a b c d e f g h):AVR (E0 P w) σ (.agg [.s a,.s b,.ro .u8 c,.ro .u8 d,.s e,.s f,.s g,.ro .u8 h]) V:=by
 obtain ⟨a2,l2,c2,z2,a3,l3,c3,z3,a7,l7,c7,z7,rfl,⟨r2,rfl⟩,⟨r3,rfl⟩,⟨r7,rfl⟩⟩:=q
 exact ⟨_,rfl,rfl,rfl,ro_row (σ:=σ) r2,ro_row (σ:=σ) r3,rfl,rfl,rfl,ro_row (σ:=σ) r7,trivial⟩
theorem talk_fits {V:Value} {a b:ByteArray} {c d:List Int} {e f g:ByteArray} {h:List Int} (q:RowT w V a b c d e f g h):∀ x∈h,IntKind.min .u8≤x∧x≤IntKind.max .u8:=by
 obtain ⟨a2,l2,c2,z2,a3,l3,c3,z3,a7,l7,c7,z7,_,_,_,⟨r7,rfl⟩⟩:=q
 exact r7.fits l7
theorem okWide_struct {t:TypeId} {fs:Array Field} {r:Reach} {v:Value} (ht:P.underlying t=some (.struct fs)) (h:Value.okWide P w r base t v):∃ cs,v=.agg cs∧cs.size=P.cellsOf t:=by
 unfold Value.okWide at h
 rw [ht] at h
 obtain ⟨cs,h1,h2,_⟩:=h
 exact ⟨cs,h1,h2⟩
theorem open_talk {t tL tI tS tB tu:TypeId} {fs:Array Field} {v:Value} {d:DataW H} {ps:List MemPlace} (ht:P.underlying t=some (.struct fs))
  (hfs:fs.toList.map (fun x=>(x.type,x.offset))=[(tL,0),(tI,2),(tS,4),(tL,5),(tB,7)])
  (hL:P.underlying tL=some (.array 2 tS)) (hI:P.underlying tI=some (.array 2 tB)) (hS:P.underlying tS=some .string) (hB:P.underlying tB=some (.slice tu)) (hu:P.underlying tu=some (.int .u8))
  (k1:P.cellsOf tS=1) (k2:P.cellsOf tB=1) (k3:P.cellsOf tu=1) (k4:P.cellsOf tL=2) (k5:P.cellsOf tI=2) (hb:0<P.bytesOf tu)
  (hok:∃ cs,v=.agg cs∧cs.size=8) (h:DataW.Trod enc P w base (fun _=>true) held t v d ps) (hq:∀ n∈d.weights P t,n≤reachBytes) :
  ∃ a b c d e f g h,RowT w v a b c d e f g h∧BigT a b c d e f g h:=by
 obtain ⟨cs,rfl,hn⟩:=hok
 obtain ⟨fuel,hf⟩:=h
 have hc:(Value.agg cs).cells.toList=cs.toList:=rfl
 rw [hc] at hf
 obtain ⟨l⟩:=cs
 simp only at hf hn
 match l,hn with
 |[c0,c1,c2,c3,c4,c5,c6,c7],_ =>
  obtain ⟨xs,m,_,hx,_,hlen,hp⟩:=DataW.trod_struct ht hf
  obtain ⟨fl⟩:=fs
  simp only at hfs
  have hl5:fl.length=5:=by have:=congrArg List.length hfs;simpa using this
  match fl,hl5 with
  |[F0,F1,F2,F3,F4],_ =>
   simp only [List.map_cons,List.map_nil,List.cons.injEq,Prod.mk.injEq,and_true] at hfs
   obtain ⟨⟨u0,o0⟩,⟨u1,o1⟩,⟨u2,o2⟩,⟨u3,o3⟩,u4,o4⟩:=hfs
   have f0:=hp 0 F0 rfl
   have f1:=hp 1 F1 rfl
   have f2:=hp 2 F2 rfl
   have f3:=hp 3 F3 rfl
   have f4:=hp 4 F4 rfl
   rw [u0,o0,k4] at f0
   rw [u1,o1,k5] at f1
   rw [u2,o2,k1] at f2
   rw [u3,o3,k4] at f3
   rw [u4,o4,k2] at f4
   match xs,hlen with
   |[y0,y1,y2,y3,y4],_ =>
    obtain rfl:d=.agg [y0.1,y1.1,y2.1,y3.1,y4.1]:=congrArg Prod.fst hx
    have hw:∀ n,n∈y0.1.weights P tL∨n∈y1.1.weights P tI∨n∈y2.1.weights P tS∨n∈y3.1.weights P tL∨n∈y4.1.weights P tB→n≤reachBytes:=by
     intro n hn
     refine hq n ?_
     simp only [DataW.weights,ht,List.map_cons,List.map_nil,u0,u1,u2,u3,u4,DataW.weightsEach,List.mem_append,List.not_mem_nil,or_false]
     exact hn
    obtain ⟨_,a0,a1,p0,p1,w0,w1⟩:=vX hL k1 f0 fun n hn=>hw n (.inl hn)
    obtain ⟨_,b0,b1,p2,p3,w2,w3⟩:=vX hI k2 f1 fun n hn=>hw n (.inr (.inl hn))
    obtain ⟨_,d0,d1,p5,p6,w5,w6⟩:=vX hL k1 f3 fun n hn=>hw n (.inr (.inr (.inr (.inl hn))))
    obtain ⟨s0,e0,g0⟩:=mw hS p0 w0
    obtain ⟨s1,e1,g1⟩:=mw hS p1 w1
    obtain ⟨r2,l2,q2,z2,e2,i2,g2⟩:=tz hB hu k3 hb p2 w2
    obtain ⟨r3,l3,q3,z3,e3,i3,g3⟩:=tz hB hu k3 hb p3 w3
    obtain ⟨s4,e4,g4⟩:=mw hS f2 fun n hn=>hw n (.inr (.inr (.inl hn)))
    obtain ⟨s5,e5,g5⟩:=mw hS p5 w5
    obtain ⟨s6,e6,g6⟩:=mw hS p6 w6
    obtain ⟨r7,l7,q7,z7,e7,i7,g7⟩:=tz hB hu k3 hb f4 fun n hn=>hw n (.inr (.inr (.inr (.inr hn))))
    simp only [List.drop_succ_cons,List.drop_zero,List.take_succ_cons,List.take_zero,List.cons.injEq,and_true] at e0 e1 e2 e3 e4 e5 e6 e7
    subst e0 e1 e2 e3 e4 e5 e6 e7
    exact ⟨s0,s1,z2.take l2,z3.take l3,s4,s5,s6,z7.take l7,⟨r2,l2,q2,z2,r3,l3,q3,z3,r7,l7,q7,z7,rfl,⟨i2,rfl⟩,⟨i3,rfl⟩,i7,rfl⟩,
     g0,g1,Nat.le_trans (List.length_take_le' _ _) g2,Nat.le_trans (List.length_take_le' _ _) g3,g4,g5,g6,Nat.le_trans (List.length_take_le' _ _) g7⟩
end
end Go.Vm
end
