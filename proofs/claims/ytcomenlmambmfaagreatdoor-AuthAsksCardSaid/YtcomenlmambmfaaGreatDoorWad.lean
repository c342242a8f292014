/- A part of a proof (pack3): the small machine that walks the program, the walks of its functions, and what they compute in plain. -/
import Derived.Test.YtcomenlmambmfaaGreatDoorWac
set_option maxRecDepth 100000
set_option linter.unusedVariables false
set_option linter.unusedSimpArgs false
noncomputable section
namespace Go.Vm
open Go
def Dg (xs:List Int):Prop:=∀ x∈xs,0≤x∧x<256
theorem tW {xs:List Int} (n:Nat) (h:Dg xs):Dg (xs.drop n):=fun x hx=>h x (List.mem_of_mem_drop hx)
theorem td {xs:List Int} (n:Nat) (h:Dg xs):Dg (xs.take n):=fun x hx=>h x (List.mem_of_mem_take hx)
theorem mw {xs ys:List Int} (h:Dg xs) (h':Dg ys):Dg (xs++ys):=fun x hx=>(List.mem_append.1 hx).elim (h x) (h' x)
theorem kA:∀ {xs:List Int},Dg xs→aQ (aC xs)=xs:=by
 intro xs h
 unfold aQ aC
 simp only [List.map_map]
 conv=>rhs;rw [← List.map_id xs]
 refine List.map_congr_left fun x hx=>?_
 have:=h x hx
 show ((UInt8.ofNat x.toNat).toNat:Int)=x
 rw [UInt8.toNat_ofNat']
 omega
theorem bt (s:ByteArray):aC (aQ s)=s:=by
 unfold aQ aC
 obtain ⟨⟨l⟩⟩:=s
 have e:((fun n:Int=>UInt8.ofNat n.toNat) ∘ fun c:UInt8=>(c.toNat:Int))=id:=by
  funext c
  show UInt8.ofNat ((c.toNat:Int).toNat)=c
  rw [Int.toNat_natCast,UInt8.ofNat_toNat]
 simp only [List.map_map,e,List.map_id]
theorem jD (s:ByteArray):Dg (aQ s):=by
 intro x hx
 unfold aQ at hx
 obtain ⟨c,_,rfl⟩:=List.mem_map.1 hx
 have:=c.toNat_lt
 omega
theorem br (s:ByteArray):aP s s=true:=by simp [aP]
def be4 (n:Nat):List Int:=[((n/16777216 % 256:Nat):Int),((n/65536 % 256:Nat):Int),((n/256 % 256:Nat):Int),((n % 256:Nat):Int)]
theorem sd (n:Nat):Dg (be4 n):=by
 intro x hx
 simp only [be4,List.mem_cons,List.not_mem_nil,or_false] at hx
 omega
theorem rr (n:Nat) (h:n<4294967296):[(IntKind.wrap .u8 (ag .u32 (IntKind.wrap .u32 (n:Int)) 24)),(IntKind.wrap .u8 (ag .u32 (IntKind.wrap .u32 (n:Int)) 16)),(IntKind.wrap .u8 (ag .u32 (IntKind.wrap .u32 (n:Int)) 8)),(IntKind.wrap .u8 (IntKind.wrap .u32 (n:Int)))]=be4 n:=by
 have e1:=jv .u32 (IntKind.wrap .u32 (n:Int)) 24 (by decide)
 have e2:=jv .u32 (IntKind.wrap .u32 (n:Int)) 16 (by decide)
 have e3:=jv .u32 (IntKind.wrap .u32 (n:Int)) 8 (by decide)
 have w:IntKind.wrap .u32 (n:Int)=(n:Int):=by rw [gf];omega
 rw [w] at e1 e2 e3 ⊢
 rw [show (24:Int)=((24:Nat):Int) from rfl,show (16:Int)=((16:Nat):Int) from rfl,show (8:Int)=((8:Nat):Int) from rfl,e1,e2,e3]
 have p1:(2:Int) ^ 24=16777216:=rfl
 have p2:(2:Int) ^ 16=65536:=rfl
 have p3:(2:Int) ^ 8=256:=rfl
 rw [p1,p2,p3,jy,jy,jy,jy]
 have q1:(n:Int)/16777216 % 256=((n/16777216 % 256:Nat):Int):=by omega
 have q2:(n:Int)/65536 % 256=((n/65536 % 256:Nat):Int):=by omega
 have q3:(n:Int)/256 % 256=((n/256 % 256:Nat):Int):=by omega
 have q4:(n:Int) % 256=((n % 256:Nat):Int):=by omega
 rw [q1,q2,q3,q4]
 rfl
theorem or8 (z c:Nat) (hz:z<16777216) (hc:c<256):iOr .u32 (dE .u32 (z:Int) 8) (IntKind.wrap .u32 (c:Int))=((z*256+c:Nat):Int):=by
 have e1:dE .u32 (z:Int) 8=((z*256:Nat):Int):=by
  have:=tj .u32 (z:Int) 8 (by decide)
  rw [show (8:Int)=((8:Nat):Int) from rfl,this,gf,show (2:Int) ^ 8=256 from rfl]
  omega
 rw [e1,gf]
 have e2:((c:Int) % 4294967296)=(c:Int):=by omega
 rw [e2]
 unfold iOr
 rw [gf]
 have e3:(BitVec.ofInt (IntKind.bits .u32) ((z*256:Nat):Int) ||| BitVec.ofInt (IntKind.bits .u32) ((c:Nat):Int)).toNat=z*256+c:=by
  rw [BitVec.toNat_or,BitVec.ofInt_natCast,BitVec.ofInt_natCast,BitVec.toNat_ofNat,BitVec.toNat_ofNat]
  show (z*256 % 4294967296 ||| c % 4294967296)=z*256+c
  rw [Nat.mod_eq_of_lt (by omega),Nat.mod_eq_of_lt (by omega)]
  have:=Nat.two_pow_add_eq_or_of_lt (i:=8) (b:=c) (by omega) z
  rw [show 2 ^ 8*z=z*256 from by omega] at this
  exact this.symm
 rw [e3]
 omega
def lz:List Int→Nat
 |[]=>0
 |x :: r=>if x=0 then lz r+1 else 0
def tm (p:List Int):List Int:=p.drop (lz p)
def pad (t:List Int):List Int:=sel (decide (t.getD 0 0 ≥ 128)) (0 :: t) t
def enc (p:List Int):List Int:=be4 (pad (tm p)).length++pad (tm p)
theorem tY (n:Nat) (h:n<4294967296):iL (IntKind.wrap .u32 ((n:Nat):Int))=be4 n:=rr n h
theorem tK (k:Nat) (xs:List Int) (n:Nat) (h:n<4294967296):ki k xs (IntKind.wrap .u32 ((n:Nat):Int))=xs++be4 n:=congrArg (xs++·) (rr n h)
theorem oI (k:Nat) (xs:List Int) (s:ByteArray) (h:s.size<4294967296):cN k xs s=xs++be4 s.size++aQ s:=by
 unfold cN
 rw [tK _ _ _ h]
theorem nI (s:ByteArray) (h:s.size<4294967296):eT s=be4 s.size++aQ s:=by
 unfold eT
 rw [tY _ h]
abbrev Rd:=Option (List Int)
def tkO:Rd→Nat→List Int
 |some s,n=>if n≤s.length then s.take n else []
 |none,_=>[]
def nxO:Rd→Nat→Rd
 |some s,n=>if n≤s.length then some (s.drop n) else none
 |none,_=>none
theorem fq (s:List Int) (n:Nat):tkO (some s) n=if n≤s.length then s.take n else []:=rfl
theorem fu (s:List Int) (n:Nat):nxO (some s) n=if n≤s.length then some (s.drop n) else none:=rfl
def rb:Rd→List Int
 |some s=>s
 |none=>[]
def dM:Rd→Bool
 |some _=>false
 |none=>true
def eM (st:Rd):Prop:=∀ s,st=some s→Dg s∧s.length≤1000000000
theorem eM.nx {st:Rd} (h:eM st) (n:Nat):eM (nxO st n):=by
 intro s hs
 cases st with
 |none=>cases hs
 |some t =>
  rw [fu] at hs
  split at hs
  ·cases hs
   exact ⟨tW _ (h t rfl).1,by rw [List.length_drop];have:=(h t rfl).2;omega⟩
  ·cases hs
theorem eM.tk {st:Rd} (h:eM st) (n:Nat):Dg (tkO st n):=by
 cases st with
 |none=>intro x hx;cases hx
 |some t =>
  rw [fq]
  split
  ·exact td _ (h t rfl).1
  ·intro x hx;cases hx
theorem rG (st:Rd) (n:Nat):(tkO st n).length=n∨tkO st n=[]:=by
 cases st with
 |none=>exact .inr rfl
 |some t =>
  rw [fq]
  split
  ·rw [List.length_take];exact .inl (by omega)
  ·exact .inr rfl
theorem uu (st:Rd) (n:Nat):(tkO st n).length≤n:=by
 rcases rG st n with h|h
 ·omega
 ·rw [h];exact Nat.zero_le _
theorem tV {st:Rd} (h:eM st) {n:Nat} (hn:1000000000<n):nxO st n=none:=by
 cases st with
 |none=>rfl
 |some s =>
  have:=(h s rfl).2
  rw [fu,if_neg (by omega)]
def tI:List Int→Nat
 |[a,b,c,d]=>a.toNat*16777216+b.toNat*65536+c.toNat*256+d.toNat
 |_=>0
def iG (st:Rd):Nat:=tI (tkO st 4)
def jl (st:Rd):Int:=(tkO st 1).getD 0 0
def textV (st:Rd):List Int:=if iG st>16384 then [] else tkO (nxO st 4) (iG st)
def textN (st:Rd):Rd:=if iG st>16384 then none else nxO (nxO st 4) (iG st)
theorem tg {x:List Int} (h:Dg x):tI x<4294967296:=by
 unfold tI
 split
 ·rename_i a b c d
  have ha:=h a (by simp)
  have hb:=h b (by simp)
  have hc:=h c (by simp)
  have hd:=h d (by simp)
  omega
 ·decide
theorem tA {st:Rd} (h:eM st):iG st<4294967296:=tg (h.tk 4)
theorem eM.textV {st:Rd} (h:eM st):Dg (textV st)∧(textV st).length≤16384:=by
 unfold Vm.textV
 split
 ·exact ⟨fun x hx=>(by cases hx),Nat.zero_le _⟩
 ·exact ⟨(h.nx 4).tk _,Nat.le_trans (uu _ _) (by omega)⟩
theorem eM.textN {st:Rd} (h:eM st):eM (textN st):=by
 unfold Vm.textN
 split
 ·intro s hs;cases hs
 ·exact (h.nx 4).nx _
theorem mS (st:Rd) (n:Int) (h:0≤n):cC (rb st) (dM st) n=tkO st n.toNat∧cY (rb st) (dM st) n=rb (nxO st n.toNat)∧cw (rb st) (dM st) n=dM (nxO st n.toNat):=by
 unfold cC cY cw
 cases st with
 |none=>exact ⟨rfl,rfl,rfl⟩
 |some s =>
  rw [fq,fu]
  show sel false _ _=_∧sel false _ _=_∧sel false _ _=_
  rw [aD,aD,aD]
  show sel (decide (n>(s.length:Int))) _ _=_∧sel (decide (n>(s.length:Int))) _ _=_∧sel (decide (n>(s.length:Int))) _ _=_
  by_cases hn:n.toNat≤s.length
  ·rw [decide_eq_false (show ¬ n>(s.length:Int) by omega),aD,aD,aD,if_pos hn,if_pos hn]
   refine ⟨rfl,?_,rfl⟩
   show (s.drop n.toNat).take (s.length-n.toNat)=_
   rw [List.take_of_length_le (by rw [List.length_drop];exact Nat.le_refl _)]
   rfl
  ·rw [decide_eq_true (show n>(s.length:Int) by omega),aF,aF,aF,if_neg hn,if_neg hn]
   exact ⟨rfl,rfl,rfl⟩
theorem lb (s:List Int) (b:Bool) (n:Int):dK s b n=s.take n.toNat∧eL s b n=s.drop n.toNat:=by
 unfold dK eL
 refine ⟨rfl,?_⟩
 rw [List.take_of_length_le (by rw [List.length_drop];exact Nat.le_refl _)]
theorem nR (st:Rd):cS (rb st) (dM st)=jl st∧aq (rb st) (dM st)=rb (nxO st 1)∧au (rb st) (dM st)=dM (nxO st 1):=by
 unfold cS aq au jl
 cases st with
 |none=>exact ⟨rfl,rfl,rfl⟩
 |some s =>
  rw [fq,fu]
  show sel false _ _=_∧sel false _ _=_∧sel false _ _=_
  rw [aD,aD,aD]
  show sel (decide ((1:Int)>(s.length:Int))) _ _=_∧sel (decide ((1:Int)>(s.length:Int))) _ _=_∧sel (decide ((1:Int)>(s.length:Int))) _ _=_
  by_cases hn:1≤s.length
  ·rw [decide_eq_false (show ¬ (1:Int)>(s.length:Int) by omega),aD,aD,aD,if_pos hn,if_pos hn]
   exact ⟨by show (dK s false 1).getD 0 0=_;rw [(lb s false 1).1];rfl,(lb s false 1).2,rfl⟩
  ·rw [decide_eq_true (show (1:Int)>(s.length:Int) by omega),aF,aF,aF,if_neg hn,if_neg hn]
   exact ⟨rfl,rfl,rfl⟩
theorem tT (st:Rd):dk (rb st) (dM st)=(jl st != 0)∧ax (rb st) (dM st)=rb (nxO st 1)∧bF (rb st) (dM st)=dM (nxO st 1):=by
 obtain ⟨h1,h2,h3⟩:=nR st
 exact ⟨by unfold dk;rw [h1],h2,h3⟩
theorem sw (z:Nat) {x:Int} (hz:z<16777216) (hx:0≤x∧x<256):iOr .u32 (dE .u32 (z:Int) 8) (IntKind.wrap .u32 x)=((z*256+x.toNat:Nat):Int):=by
 have:=or8 z x.toNat hz (by omega)
 rw [show ((x.toNat:Nat):Int)=x by omega] at this
 exact this
theorem ud {st:Rd} (h:eM st):dv (rb st) (dM st)=(iG st:Int)∧cz (rb st) (dM st)=rb (nxO st 4)∧dV (rb st) (dM st)=dM (nxO st 4):=by
 obtain ⟨h1,h2,h3⟩:=mS st 4 (by decide)
 refine ⟨?_,h2,h3⟩
 have hd:=h.tk 4
 have h1':cC (rb st) (dM st) 4=tkO st 4:=h1
 have f0:∀ k z,fY (rb st) (dM st) k z=iOr .u32 (dE .u32 z 8) (IntKind.wrap .u32 ((tkO st 4).getD k 0)):=fun k z=>by unfold fY;rw [h1']
 unfold dv iG
 rw [h1']
 rcases rG st 4 with hl|hl
 ·generalize tkO st 4=x at *
  match x,hl with
  |[a,b,c,d],_ =>
   have ha:=hd a (by simp)
   have hb:=hd b (by simp)
   have hc:=hd c (by simp)
   have hd':=hd d (by simp)
   show itr _ 4 0=_
   rw [bf,bf,bf,bf,bq,f0,f0,f0,f0]
   show iOr .u32 (dE .u32 (iOr .u32 (dE .u32 (iOr .u32 (dE .u32 (iOr .u32 (dE .u32 ((0:Nat):Int) 8) (IntKind.wrap .u32 a)) 8) (IntKind.wrap .u32 b)) 8) (IntKind.wrap .u32 c)) 8) (IntKind.wrap .u32 d)=_
   rw [sw _ (by omega) ha,sw _ (by omega) hb,sw _ (by omega) hc,sw _ (by omega) hd']
   show _=((a.toNat*16777216+b.toNat*65536+c.toNat*256+d.toNat:Nat):Int)
   omega
 ·rw [hl]
  show itr _ 0 0=_
  rw [bq]
  rfl
theorem fW {st:Rd} (h:eM st):aR (rb st) (dM st)=aC (textV st)∧aa (rb st) (dM st)=rb (textN st)∧af (rb st) (dM st)=dM (textN st):=by
 obtain ⟨h1,h2,h3⟩:=ud h
 have hlt:=tA h
 unfold aR aa af textV textN
 rw [h1,h2,h3]
 by_cases hu:iG st>16384
 ·rw [decide_eq_true (show ((iG st:Nat):Int)>16384 by omega),aF,aF,aF,if_pos hu,if_pos hu]
  obtain ⟨_,t2,t3⟩:=mS (nxO st 4) 1073741824 (by decide)
  have:=tV (h.nx 4) (n:=(1073741824:Int).toNat) (by decide)
  rw [this] at t2 t3
  exact ⟨rfl,t2,t3⟩
 ·rw [decide_eq_false (show ¬ ((iG st:Nat):Int)>16384 by omega),aD,aD,aD,if_neg hu,if_neg hu]
  have w:IntKind.wrap .i64 ((iG st:Nat):Int)=((iG st:Nat):Int):=cO (by omega) (by omega)
  rw [w]
  obtain ⟨t1,t2,t3⟩:=mS (nxO st 4) ((iG st:Nat):Int) (by omega)
  rw [Int.toNat_natCast] at t1 t2 t3
  exact ⟨by rw [t1],t2,t3⟩
theorem iT (st:Rd):dg (rb st) (dM st)=(st==some []):=by
 unfold dg
 cases st with
 |none=>rfl
 |some s=>cases s <;> rfl
theorem sj {n:Nat} (h:n<4294967296):tI (be4 n)=n:=by
 show (((n/16777216 % 256:Nat):Int)).toNat*16777216+(((n/65536 % 256:Nat):Int)).toNat*65536+(((n/256 % 256:Nat):Int)).toNat*256+(((n % 256:Nat):Int)).toNat=n
 rw [Int.toNat_natCast,Int.toNat_natCast,Int.toNat_natCast,Int.toNat_natCast]
 omega
theorem rH (n:Nat) (h:n<4294967296) (r:List Int):iG (some (be4 n++r))=n∧nxO (some (be4 n++r)) 4=some r:=by
 have hl:4≤(be4 n++r).length:=by rw [List.length_append];show 4≤4+_;omega
 unfold iG
 have e1:(be4 n++r).take 4=be4 n:=List.take_left' rfl
 have e2:(be4 n++r).drop 4=r:=List.drop_left' rfl
 rw [fq,fu,if_pos hl,if_pos hl,e1,e2]
 exact ⟨sj h,rfl⟩
theorem qR (s r:List Int) (h:s.length≤16384):textV (some (be4 s.length++s++r))=s∧textN (some (be4 s.length++s++r))=some r:=by
 obtain ⟨h1,h2⟩:=rH s.length (by omega) (s++r)
 rw [List.append_assoc]
 unfold textV textN
 have hl:s.length≤(s++r).length:=by rw [List.length_append];omega
 rw [h1,h2,if_neg (by omega),if_neg (by omega),fq,fu,if_pos hl,if_pos hl,List.take_left' rfl,List.drop_left' rfl]
 exact ⟨rfl,rfl⟩
theorem rN {a:List Int} {n:Nat} (h:n=a.length):(a.drop 0).take n=a:=by rw [List.drop_zero,h,List.take_length]
end Go.Vm
namespace Go.Vm
open Go
theorem kD (x y:ByteArray):aP x y=true↔x=y:=⟨fun h=>fp h,fun h=>by rw [h];exact br _⟩
theorem pc {p:List Int} (hd:Dg p) (hl:p.length≤1000000000):eM (some p):=fun s hs=>by cases hs;exact ⟨hd,hl⟩
theorem kl (x y:ByteArray):aP x y=aP y x:=by
 cases h:aP y x
 ·cases h2:aP x y
  ·rfl
  ·rw [kD] at h2;rw [h2,br] at h;cases h
 ·rw [kD] at h;rw [h];exact br _
theorem tU (n:Nat):(be4 n).length=4:=rfl
theorem uP (x:ByteArray) (h:x.size≤1000000000):eM (some (aQ x)):=pc (jD x) (by rw [bL];exact h)
def uD (x:ByteArray):Bool:=textN (textN (some (aQ x)))==some []
theorem tM (x:ByteArray):aA (aQ x) x.size 0 x.size=aQ x:=cy (bL x)
theorem nl (x:ByteArray) (h:x.size≤1000000000):bI x=sel (!(uD x)) (⟨#[]⟩:ByteArray) (sel (!(aP (aC (textV (some (aQ x)))) (⟨#[115,115,104,45,101,100,50,53,53,49,57]⟩:ByteArray))) (⟨#[]⟩:ByteArray) (sel (((((aC (textV (textN (some (aQ x))))).size:Nat):Int):Int) != 32) (⟨#[]⟩:ByteArray) (aC (textV (textN (some (aQ x))))))):=by
 have h0:=uP x h
 have t1:=fW h0
 have t2:=fW h0.textN
 have e1:aR (aQ x) false=aC (textV (some (aQ x))):=t1.1
 have e2:aa (aQ x) false=rb (textN (some (aQ x))):=t1.2.1
 have e3:af (aQ x) false=dM (textN (some (aQ x))):=t1.2.2
 unfold bI dp fA fC bH
 rw [tM,e1,e2,e3,t2.1,t2.2.1,t2.2.2,iT]
 rfl
end Go.Vm
namespace Go.Vm
open Go
abbrev iU:ByteArray:=⟨#[115,115,104,45,99,111,110,110,101,99,116,105,111,110]⟩
abbrev sEd:ByteArray:=⟨#[115,115,104,45,101,100,50,53,53,49,57]⟩
abbrev sPk:ByteArray:=⟨#[112,117,98,108,105,99,107,101,121]⟩
abbrev sPw:ByteArray:=⟨#[112,97,115,115,119,111,114,100]⟩
abbrev sNo:ByteArray:=⟨#[110,111,110,101]⟩
abbrev eQ:ByteArray:=⟨#[]⟩
def rq1 (p:List Int):Rd:=nxO (some p) 1
def rq2 (p:List Int):Rd:=textN (rq1 p)
def rq3 (p:List Int):Rd:=textN (rq2 p)
def rq4 (p:List Int):Rd:=textN (rq3 p)
theorem sk {p:List Int} (hd:Dg p) (hl:p.length≤1000000000):eM (some p):=pc hd hl
theorem uC {p:List Int} (hd:Dg p) (hl:p.length≤1000000000):eM (rq1 p)∧eM (rq2 p)∧eM (rq3 p)∧eM (rq4 p):=by
 have h1:eM (rq1 p):=(sk hd hl).nx 1
 exact ⟨h1,h1.textN,h1.textN.textN,h1.textN.textN.textN⟩
theorem ry {p:List Int} (hd:Dg p) (hl:p.length≤1000000000):cS p false=jl (some p)∧aR (aq p false) (au p false)=aC (textV (rq1 p))∧fO p=(rq2 p==some [])∧eA p=aC (textV (rq2 p))∧aR (bX p) (bh p)=aC (textV (rq3 p))∧aa (bX p) (bh p)=rb (rq4 p)∧af (bX p) (bh p)=dM (rq4 p):=by
 obtain ⟨o1,o2,o3,o4⟩:=uC hd hl
 have b:=nR (some p)
 have b0:cS p false=jl (some p):=b.1
 have b1:aq p false=rb (rq1 p):=b.2.1
 have b2:au p false=dM (rq1 p):=b.2.2
 have t1:=fW o1
 have t2:=fW o2
 have t3:=fW o3
 have e3:bX p=rb (rq3 p):=by unfold bX;rw [b1,b2,t1.2.1,t1.2.2];exact t2.2.1
 have e4:bh p=dM (rq3 p):=by unfold bh;rw [b1,b2,t1.2.1,t1.2.2];exact t2.2.2
 refine ⟨b0,?_,?_,?_,?_,?_,?_⟩
 ·rw [b1,b2];exact t1.1
 ·unfold fO;rw [b1,b2,t1.2.1,t1.2.2];exact iT _
 ·unfold eA;rw [b1,b2,t1.2.1,t1.2.2];exact t2.1
 ·rw [e3,e4];exact t3.1
 ·rw [e3,e4];exact t3.2.1
 ·rw [e3,e4];exact t3.2.2
theorem vu {st:Rd} (h:eM st):dk (rb st) (dM st)=(jl st != 0)∧aR (ax (rb st) (dM st)) (bF (rb st) (dM st))=aC (textV (nxO st 1))∧iY (rb st) (dM st)=(textN (nxO st 1)==some [])∧bN (rb st) (dM st)=aC (textV (textN (nxO st 1)))∧aR (am (rb st) (dM st)) (an (rb st) (dM st))=aC (textV (textN (textN (nxO st 1))))∧dg (am (rb st) (dM st)) (an (rb st) (dM st))=(textN (textN (nxO st 1))==some [])∧eR (rb st) (dM st)=(textN (textN (textN (nxO st 1)))==some []):=by
 have f:=tT st
 have t1:=fW (h.nx 1)
 have t2:=fW (h.nx 1).textN
 have t3:=fW (h.nx 1).textN.textN
 have e3:am (rb st) (dM st)=rb (textN (textN (nxO st 1))):=by unfold am;rw [f.2.1,f.2.2,t1.2.1,t1.2.2];exact t2.2.1
 have e4:an (rb st) (dM st)=dM (textN (textN (nxO st 1))):=by unfold an;rw [f.2.1,f.2.2,t1.2.1,t1.2.2];exact t2.2.2
 refine ⟨f.1,?_,?_,?_,?_,?_,?_⟩
 ·rw [f.2.1,f.2.2];exact t1.1
 ·unfold iY;rw [f.2.1,f.2.2,t1.2.1,t1.2.2];exact iT _
 ·unfold bN;rw [f.2.1,f.2.2,t1.2.1,t1.2.2];exact t2.1
 ·rw [e3,e4];exact t3.1
 ·rw [e3,e4];exact iT _
 ·unfold eR;rw [e3,e4,t3.2.1,t3.2.2];exact iT _
def tx (s:ByteArray) (r:List Int):List Int:=be4 (aQ s).length++aQ s++r
theorem gB (s:ByteArray) (r:List Int) (h:s.size≤16384):textV (some (tx s r))=aQ s∧textN (some (tx s r))=some r:=qR (aQ s) r (by rw [bL];exact h)
theorem rm (s:ByteArray) (r q:List Int):tx s r++q=tx s (r++q):=by unfold tx;rw [List.append_assoc]
theorem le {s:ByteArray} {r:List Int} (h:Dg r):Dg (tx s r):=mw (mw (sd _) (jD _)) h
theorem rO {a:Int} {r:List Int} (ha:0≤a∧a<256) (h:Dg r):Dg (a :: r):=fun x hx=>by
 rcases List.mem_cons.1 hx with e|e
 ·rw [e];exact ha
 ·exact h x e
theorem sQ:Dg []:=fun x hx=>by cases hx
theorem pb (s:ByteArray) (r:List Int):(tx s r).length=4+s.size+r.length:=by unfold tx;rw [List.length_append,List.length_append,bL];rfl
theorem wt (k:Nat) (xs:List Int) (s:ByteArray) (h:s.size<4294967296):cN k xs s=xs++tx s []:=by rw [oI k xs s h];unfold tx;rw [bL,List.append_nil,List.append_assoc]
theorem wf (k:Nat) (xs:List Int) (b:Bool):ei k xs b=xs++[if b then 1 else 0]:=by cases b <;> rfl
theorem ta (u m:ByteArray) (hu:u.size≤100000) (hm:m.size≤100000):gc u m=50 :: tx u (tx iU (tx m [])):=by
 unfold gc iO lL
 rw [wt _ _ _ (by omega),wt _ _ _ (by decide),wt _ _ _ (by omega)]
 simp only [rm,List.append_assoc,List.cons_append,List.nil_append]
theorem uc (u b:ByteArray) (hu:u.size≤100000) (hb:b.size≤1000):fM u b=50 :: tx u (tx iU (tx sPk (0 :: tx sEd (tx (cQ b) [])))):=by
 have hz:=gt b
 unfold fM iM lG kR kg
 rw [wt _ _ _ (by omega),wt _ _ _ (by decide),wf,ta _ _ hu (by decide)]
 simp only [rm,List.append_assoc,List.cons_append,List.nil_append]
 rfl
theorem mJ (b:ByteArray) (hb:b.size≤1000):aQ (cQ b)=tx sEd (tx b []):=by
 unfold cQ kt oN
 rw [wt _ _ _ (by omega),nI _ (by decide),rN (by simp only [List.length_append,bL,pb,tU,List.length_nil];omega),kA]
 ·unfold tx;simp only [List.append_assoc,bL]
 ·exact mw (mw (sd _) (jD _)) (le sQ)
theorem ly (b:ByteArray) (hb:b.size=32):bI (cQ b)=b:=by
 have hz:(cQ b).size≤1000000000:=Nat.le_trans (gt b) (by omega)
 have t1:=gB sEd (tx b []) (by decide)
 have t2:=gB b [] (by omega)
 rw [nl _ hz]
 unfold uD
 rw [mJ _ (by omega),t1.1,t1.2,t2.1,t2.2,bt,bt,hb,br]
 rfl
end Go.Vm
namespace Go.Vm
open Go
theorem vO:jV=true:=by kernel_rfl
theorem mV (u b:ByteArray) (hu:u.size≤100000) (hb:b.size≤1000):aA (fM u b) (aE u b) 0 (aE u b)=50 :: tx u (tx iU (tx sPk (0 :: tx sEd (tx (cQ b) [])))):=by
 rw [cy (qM u b),uc u b hu hb]
def ej (u b:ByteArray):Bool:=aP b (cG u)
def ce (u b:ByteArray):List Int:=50 :: tx u (tx iU (tx sPk (0 :: tx sEd (tx (cQ b) []))))
theorem qF {u b:ByteArray} (hu:u.size≤100) (hb:b.size=32):Dg (ce u b)∧(ce u b).length≤1000000000:=by
 have hz:=gt b
 refine ⟨rO (by decide) (le (le (le (rO (by decide) (le (le sQ)))))),?_⟩
 unfold ce
 simp only [List.length_cons,pb,List.length_nil]
 have e1:iU.size=14:=rfl
 have e2:sPk.size=9:=rfl
 have e3:sEd.size=11:=rfl
 omega
theorem qK {u b:ByteArray} (hu:u.size≤100):textV (rq1 (ce u b))=aQ u∧textV (rq2 (ce u b))=aQ iU∧textV (rq3 (ce u b))=aQ sPk∧rq4 (ce u b)=some (0 :: tx sEd (tx (cQ b) [])):=by
 have h1:=gB u (tx iU (tx sPk (0 :: tx sEd (tx (cQ b) [])))) (by omega)
 have h2:=gB iU (tx sPk (0 :: tx sEd (tx (cQ b) []))) (by decide)
 have h3:=gB sPk (0 :: tx sEd (tx (cQ b) [])) (by decide)
 have e1:rq1 (ce u b)=some (tx u (tx iU (tx sPk (0 :: tx sEd (tx (cQ b) []))))):=rfl
 have e2:rq2 (ce u b)=some (tx iU (tx sPk (0 :: tx sEd (tx (cQ b) [])))):=by unfold rq2;rw [e1,h1.2]
 have e3:rq3 (ce u b)=some (tx sPk (0 :: tx sEd (tx (cQ b) []))):=by unfold rq3;rw [e2,h2.2]
 exact ⟨by rw [e1,h1.1],by rw [e2,h2.1],by rw [e3,h3.1],by unfold rq4;rw [e3,h3.2]⟩
theorem rR {u b:ByteArray} (hu:u.size≤100) (hb:b.size=32):eI (ce u b)=true∧cT (ce u b)=sel (ej u b) (cQ b) eQ∧∀ n s,eG n s (ce u b)=false:=by
 obtain ⟨hd,hl⟩:=qF hu hb
 obtain ⟨r1,r2,r3,r4⟩:=qK (b:=b) hu
 obtain ⟨v1,v2,v3,v4,v5,v6,v7⟩:=ry hd hl
 have hz:=gt b
 have ho:eM (rq4 (ce u b)):=(uC hd hl).2.2.2
 obtain ⟨w1,w2,w3,w4,w5,w6,w7⟩:=vu ho
 have t1:=gB sEd (tx (cQ b) []) (by decide)
 have t2:=gB (cQ b) [] (by omega)
 have n1:nxO (rq4 (ce u b)) 1=some (tx sEd (tx (cQ b) [])):=by rw [r4];rfl
 have f0:jl (rq4 (ce u b))=0:=by rw [r4];rfl
 rw [n1,t1.1,bt] at w2
 rw [n1,t1.2,t2.1,bt] at w4
 rw [n1,t1.2,t2.2] at w6
 rw [f0] at w1
 have nb:aP b eQ=false:=by
  cases h:aP b eQ
  ·rfl
  ·have:=fp h;subst this;exact absurd hb (by decide)
 have m1:aP sPk sNo=false:=by kernel_rfl
 have m2:aP sPk sPw=false:=by kernel_rfl
 refine ⟨?_,?_,fun n s=>?_⟩
 ·unfold eI cW
  rw [v5,v6,v7,r3,bt,w1,w6,m1,m2,br]
  rfl
 ·unfold cT cR
  rw [v2,v5,v6,v7,r1,r3,bt,bt,w1,w2,w4,m1,m2,br,br,ly b hb,nb]
  rfl
 ·unfold eG eN
  rw [v2,v5,v6,v7,r1,r3,bt,bt,w1,w2,w4,m1,m2,br,br,ly b hb,nb]
  rfl
theorem kX {u b:ByteArray} (hu:u.size≤100) (hb:b.size=32) (n:Nat) (s:List Int) (T:Int) (N:ByteArray):bQ n s T true false (ce u b)=sel (ej u b) 0 (sel (((bS .i64 (gK T 1) 1):Int)==0) 9 0)∧aK n s T true false (ce u b)=sel (ej u b) T (bS .i64 (gK T 1) 1)∧bg true false (ce u b)=true∧bW n s true N false (ce u b)=N∧bV n s true false (ce u b)=false∧((((bS .i64 (gK T 1) 1):Int)==0)=false→(bd n s T true false (ce u b)).getD 0 0=sel (ej u b) 60 51):=by
 obtain ⟨hd,hl⟩:=qF hu hb
 obtain ⟨r1,r2,r3,r4⟩:=qK (b:=b) hu
 obtain ⟨v1,v2,v3,v4,v5,v6,v7⟩:=ry hd hl
 obtain ⟨t7,t6,t5⟩:=rR hu hb
 have hk:jl (some (ce u b))=50:=rfl
 rw [hk] at v1
 rw [r2,bt] at v4
 rw [r3,bt] at v5
 have nz:aP (cQ b) eQ=false:=by
  cases h:aP (cQ b) eQ
  ·rfl
  ·have h1:=mJ b (by omega)
   rw [fp h] at h1
   exact absurd (congrArg List.length h1) (by rw [pb];show ¬ 0=4+_+_;omega)
 have m1:aP sPk sNo=false:=by kernel_rfl
 have c5:((50:Int)==5)=false:=rfl
 have c50:((50:Int) != 50)=false:=rfl
 have hf:ec.getD 0 0=51:=by kernel_rfl
 have h11:(gh (ce u b)).getD 0 0=60:=rfl
 refine ⟨?_,?_,?_,?_,?_,?_⟩
 ·unfold bQ;rw [v1,c5,c50,t7,v4,v5,t5,t6,br,m1]
  cases ej u b
  ·simp only [aF,aD,Bool.not_true,Bool.not_false,br]
  ·simp only [aF,aD,Bool.not_true,Bool.not_false,nz]
 ·unfold aK;rw [v1,c5,c50,t7,v4,v5,t5,t6,br,m1]
  cases ej u b
  ·simp only [aF,aD,Bool.not_true,Bool.not_false,br]
  ·simp only [aF,aD,Bool.not_true,Bool.not_false,nz]
 ·unfold bg;rw [v1,c5];rfl
 ·unfold bW;rw [v1,c5,c50,t7,v4,t5,br];rfl
 ·unfold bV;rw [v1,c5,c50,t7,v4,t5,br];rfl
 ·intro hq;unfold bd;rw [v1,c5,c50,t7,v4,v5,t5,t6,br,m1,hq]
  cases ej u b
  ·simp only [aF,aD,Bool.not_true,Bool.not_false,br];exact hf
  ·simp only [aF,aD,Bool.not_true,Bool.not_false,nz];exact h11
theorem mG {u b:ByteArray} (hu:u.size≤100) (hb:b.size=32) {n:Nat} {s:List Int} {T:Int} {N:ByteArray} (hT:2≤T∧T≤100) :
  bQ n s T true false (ce u b)=0∧(aK n s T true false (ce u b)=T∨aK n s T true false (ce u b)=T-1)∧0<aO n s T true false (ce u b)∧(bd n s T true false (ce u b)).getD 0 0=sel (ej u b) 60 51:=by
 obtain ⟨e0,e1,e2,e3,e4,e5⟩:=kX hu hb n s T N
 have d:bS .i64 (gK T 1) 1=T-1:=by
  have e:gK T 1=T:=by unfold gK;split <;> omega
  rw [e,rP (by omega) (by omega)]
 have dz:(((bS .i64 (gK T 1) 1):Int)==0)=false:=by rw [d,beq_eq_false_iff_ne];omega
 have z:bQ n s T true false (ce u b)=0:=by rw [e0,dz,aD];cases ej u b <;> rfl
 refine ⟨z,?_,qr z,e5 dz⟩
 rw [e1,d]
 cases ej u b
 ·exact .inr rfl
 ·exact .inl rfl
theorem gC {u b:ByteArray} (hu:u.size≤100) (hb:b.size=32) {n:Nat} {s:List Int} (N:ByteArray) {L:Nat→Int × Bool × ByteArray × Bool→Int × Bool × ByteArray × Bool}
  (hL:∀ k z,L k z=(aK n s z.1 z.2.1 z.2.2.2 (ce u b),bg z.2.1 z.2.2.2 (ce u b),bW n s z.2.1 z.2.2.1 z.2.2.2 (ce u b),bV n s z.2.1 z.2.2.2 (ce u b))) :
  ∀ k:Nat,k≤20→∃ T:Int,100-(k:Int)≤T∧T≤100∧itr L k (100,true,N,false)=(T,true,N,false):=by
 intro k
 induction k with
 |zero=>intro _;exact ⟨100,by omega,by omega,bq ..⟩
 |succ k ih =>
  intro hk
  obtain ⟨T,h1,h2,h3⟩:=ih (by omega)
  obtain ⟨e0,e1,e2,e3,e4,e5⟩:=kX hu hb n s T N
  obtain ⟨_,q,_⟩:=mG (n:=n) (s:=s) (N:=N) hu hb (T:=T) ⟨by omega,by omega⟩
  rw [bf,h3,hL]
  show ∃ T':Int,_∧_∧(aK n s T true false (ce u b),bg true false (ce u b),bW n s true N false (ce u b),bV n s true false (ce u b))=_
  rw [e2,e3,e4]
  rcases q with q|q
  ·exact ⟨T,by omega,by omega,by rw [q]⟩
  ·exact ⟨T-1,by omega,by omega,by rw [q]⟩
theorem fh {u b:ByteArray} (hu:u.size≤100) (hb:b.size=32) {n:Nat} {s:List Int} {T:Int} (hT:2≤T∧T≤100) {w:Int} (hw:w=sel (ej u b) 60 51) :
  (sel (((bQ n s T true false (ce u b)):Int) != 0) true (sel (((((aO n s T true false (ce u b)):Nat):Int):Int)==0) true (sel (((bd n s T true false (ce u b)).getD 0 0:Int) != w) true (sel (!(aP (dT (bW n s true eQ false (ce u b)) (bV n s true false (ce u b))) eQ)) true false))))=false:=by
 obtain ⟨e0,e1,e2,e3,e4,e5⟩:=kX hu hb n s T eQ
 obtain ⟨q0,q1,q2,q3⟩:=mG (n:=n) (s:=s) (N:=eQ) hu hb hT
 have n0:((((aO n s T true false (ce u b)):Nat):Int)==0)=false:=by rw [beq_eq_false_iff_ne];omega
 have hx:(((bd n s T true false (ce u b)).getD 0 0:Int) != w)=false:=by rw [q3,hw,bne_self_eq_false]
 have hU:aP (dT eQ false) eQ=true:=by kernel_rfl
 rw [q0,n0,hx,e3,e4,hU]
 rfl
def lV (p1:Int):ByteArray:=aC (((aB p1).drop 0).take 32)
theorem cD (p1:Int):(lV p1).size=32:=by
 unfold lV aB
 rw [cF,List.drop_zero,List.length_take,uX]
 rfl
theorem qO:((aK ((aA [115] 1 0 1).length) (aA [115] 1 0 1) 100 false false (aA (aG) ((1+4)+(⟨#[115,115,104,45,117,115,101,114,97,117,116,104]⟩:ByteArray).size) 0 ((1+4)+(⟨#[115,115,104,45,117,115,101,114,97,117,116,104]⟩:ByteArray).size))),(aI),(aJ),(aH))=((100:Int),true,eQ,false):=by kernel_rfl
theorem mm {b:ByteArray} (hb:b.size=32):aP b eQ=false:=by
 cases h:aP b eQ
 ·rfl
 ·have:=fp h;subst this;exact absurd hb (by decide)
theorem vh:cG (⟨#[97,110,110]⟩:ByteArray)=eQ:=by kernel_rfl
theorem eP0 (p1:Int):aA (bK p1) (aE (⟨#[97,110,110]⟩:ByteArray) (aC (((aB p1).drop 0).take 32))) 0 (aE (⟨#[97,110,110]⟩:ByteArray) (aC (((aB p1).drop 0).take 32)))=ce (⟨#[97,110,110]⟩:ByteArray) (lV p1):=mV (⟨#[97,110,110]⟩:ByteArray) (lV p1) (by decide) (by rw [cD];decide)
theorem tE (p1:Int):∀ k:Nat,k≤20→∃ T:Int,100-(k:Int)≤T∧T≤100∧itr (bz p1) k (100,true,eQ,false)=(T,true,eQ,false) :=
 gC (u:=(⟨#[97,110,110]⟩:ByteArray)) (by decide) (cD p1) eQ (fun k z=>by unfold bz fZ dZ db;rw [eP0])
theorem ui (p1:Int) {k:Nat} (hk:k≤20):bD p1 k=false:=by
 obtain ⟨T,h1,h2,h3⟩:=tE p1 k hk
 unfold bD dZ db eh
 simp only [qO,h3,eP0]
 exact fh (by decide) (cD p1) ⟨by omega,h2⟩ (by unfold ej;rw [vh,mm (cD p1)];rfl)
theorem to:cG (⟨#[98,111,98]⟩:ByteArray)=dq:=by kernel_rfl
theorem eP1 (p1:Int):aA (aZ p1) (aE (⟨#[98,111,98]⟩:ByteArray) (aC (((aB p1).drop 0).take 32))) 0 (aE (⟨#[98,111,98]⟩:ByteArray) (aC (((aB p1).drop 0).take 32)))=ce (⟨#[98,111,98]⟩:ByteArray) (lV p1):=mV (⟨#[98,111,98]⟩:ByteArray) (lV p1) (by decide) (by rw [cD];decide)
theorem te (p1:Int):∀ k:Nat,k≤20→∃ T:Int,100-(k:Int)≤T∧T≤100∧itr (aj p1) k (100,true,eQ,false)=(T,true,eQ,false) :=
 gC (u:=(⟨#[98,111,98]⟩:ByteArray)) (by decide) (cD p1) eQ (fun k z=>by unfold aj eF cL cM;rw [eP1])
theorem uR (p1:Int) {k:Nat} (hk:k≤20):aW p1 k=false:=by
 obtain ⟨T,h1,h2,h3⟩:=te p1 k hk
 unfold aW cL cM da
 simp only [qO,h3,eP1]
 cases hq:aP dq eQ
 ·rw [Bool.not_false,aF]
  exact fh (by decide) (cD p1) ⟨by omega,h2⟩ (by unfold ej;rw [to,kl];rfl)
 ·rw [Bool.not_true,aD]
  exact fh (by decide) (cD p1) ⟨by omega,h2⟩ (by unfold ej;rw [to,fp hq,mm (cD p1)];rfl)
theorem tp:cG (⟨#[99,121]⟩:ByteArray)=cl:=by kernel_rfl
theorem eP2 (p1:Int):aA (ab p1) (aE (⟨#[99,121]⟩:ByteArray) (aC (((aB p1).drop 0).take 32))) 0 (aE (⟨#[99,121]⟩:ByteArray) (aC (((aB p1).drop 0).take 32)))=ce (⟨#[99,121]⟩:ByteArray) (lV p1):=mV (⟨#[99,121]⟩:ByteArray) (lV p1) (by decide) (by rw [cD];decide)
theorem tJ (p1:Int):∀ k:Nat,k≤20→∃ T:Int,100-(k:Int)≤T∧T≤100∧itr (ak p1) k (100,true,eQ,false)=(T,true,eQ,false) :=
 gC (u:=(⟨#[99,121]⟩:ByteArray)) (by decide) (cD p1) eQ (fun k z=>by unfold ak eE cJ cK;rw [eP2])
theorem ur (p1:Int) {k:Nat} (hk:k≤20):aX p1 k=false:=by
 obtain ⟨T,h1,h2,h3⟩:=tJ p1 k hk
 unfold aX cJ cK dX
 simp only [qO,h3,eP2]
 cases hq:aP cl eQ
 ·rw [Bool.not_false,aF]
  exact fh (by decide) (cD p1) ⟨by omega,h2⟩ (by unfold ej;rw [tp,kl];rfl)
 ·rw [Bool.not_true,aD]
  exact fh (by decide) (cD p1) ⟨by omega,h2⟩ (by unfold ej;rw [tp,fp hq,mm (cD p1)];rfl)
theorem uz:cG (⟨#[110,105,108]⟩:ByteArray)=eQ:=by kernel_rfl
theorem eP3 (p1:Int):aA (bA p1) (aE (⟨#[110,105,108]⟩:ByteArray) (aC (((aB p1).drop 0).take 32))) 0 (aE (⟨#[110,105,108]⟩:ByteArray) (aC (((aB p1).drop 0).take 32)))=ce (⟨#[110,105,108]⟩:ByteArray) (lV p1):=mV (⟨#[110,105,108]⟩:ByteArray) (lV p1) (by decide) (by rw [cD];decide)
theorem ti (p1:Int):∀ k:Nat,k≤20→∃ T:Int,100-(k:Int)≤T∧T≤100∧itr (bw p1) k (100,true,eQ,false)=(T,true,eQ,false) :=
 gC (u:=(⟨#[110,105,108]⟩:ByteArray)) (by decide) (cD p1) eQ (fun k z=>by unfold bw ff dY dc;rw [eP3])
theorem uh (p1:Int) {k:Nat} (hk:k≤20):bE p1 k=false:=by
 obtain ⟨T,h1,h2,h3⟩:=ti p1 k hk
 unfold bE dY dc eg
 simp only [qO,h3,eP3]
 exact fh (by decide) (cD p1) ⟨by omega,h2⟩ (by unfold ej;rw [uz,mm (cD p1)];rfl)
theorem asks_true (p0 p1 p2:Int):al p0 p1 p2=true:=by
 have hm:=ts p2
 have f0:bv (bD p1) (m5 p2+1)=m5 p2+1:=eH fun j hj=>ui p1 (by omega)
 have f1:bv (aW p1) (m5 p2+1)=m5 p2+1:=eH fun j hj=>uR p1 (by omega)
 have f2:bv (aX p1) (m5 p2+1)=m5 p2+1:=eH fun j hj=>ur p1 (by omega)
 have f3:bv (bE p1) (m5 p2+1)=m5 p2+1:=eH fun j hj=>uh p1 (by omega)
 unfold al
 rw [vO,f0,f1,f2,f3,fG,Bool.not_true,aD,aD]
 generalize ((bM (aM .i64 (bM p0 4) 4) 4:Int)==0)=c0
 generalize ((bM (aM .i64 (bM p0 4) 4) 4:Int)==1)=c1
 generalize ((bM (aM .i64 (bM p0 4) 4) 4:Int)==2)=c2
 cases c0 <;> cases c1 <;> cases c2 <;> rfl
end Go.Vm
end
