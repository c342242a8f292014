/- A part of a proof (pack3): the small machine that walks the program, the walks of its functions, and what they compute in plain. -/
import Derived.Test.YtcomenlmambmfaaGreatDoorWdc
import Derived.Test.YtcomenlmambmfaaGreatDoorChecked
set_option maxHeartbeats 2000000
set_option maxRecDepth 100000
set_option linter.unusedVariables false
set_option linter.unusedSimpArgs false
noncomputable section
namespace Go.Vm
open Go
def num (B:Int):List Int→Int
 |[]=>0
 |a :: bs=>a+B*num B bs
def bx (B:Int):Nat→Int→List Int
 |0,_=>[]
 |n+1,v=>v % B :: bx B n (v/B)
def Dig (B:Int) (xs:List Int):Prop:=∀ x∈xs,0≤x∧x<B
theorem fu (B a:Int) (bs:List Int):num B (a :: bs)=a+B*num B bs:=rfl
theorem gE (B v:Int) (n:Nat):bx B (n+1) v=v % B :: bx B n (v/B):=rfl
theorem Dig.cons {B a:Int} {bs:List Int} (h:Dig B (a :: bs)):(0≤a∧a<B)∧Dig B bs :=
 ⟨h a (by simp),fun x hx=>h x (List.mem_cons_of_mem _ hx)⟩
theorem Dig.mk_cons {B a:Int} {bs:List Int} (h:0≤a∧a<B) (h':Dig B bs):Dig B (a :: bs):=by
 intro x hx
 rcases List.mem_cons.1 hx with rfl|hx
 ·exact h
 ·exact h' x hx
theorem Dig.nil {B:Int}:Dig B []:=fun _ h=>by cases h
theorem mL {a b:Nat} (h:a≤b):(2:Int) ^ a≤2 ^ b:=by
 obtain ⟨d,rfl⟩:=Nat.exists_eq_add_of_le h
 have h1:(0:Int)<2 ^ a:=Int.pow_pos (by decide)
 have h2:(0:Int)<2 ^ d:=Int.pow_pos (by decide)
 have h3:=Int.mul_le_mul_of_nonneg_left (a:=1) (b:=2 ^ d) (c:=2 ^ a) (by omega) (by omega)
 rw [Int.pow_add]
 omega
theorem gX {B:Int} (hB:0<B) (n:Nat):0<B ^ n:=Int.pow_pos hB
theorem jY {B:Int} (hB:0<B):∀ {xs:List Int},Dig B xs→0≤num B xs∧num B xs<B ^ xs.length
 |[],_=>by simp [num]
 |a :: bs,h=>by
  obtain ⟨ha,hs⟩:=h.cons
  obtain ⟨h1,h2⟩:=jY hB hs
  have h3:0≤B*num B bs:=Int.mul_nonneg (by omega) h1
  have h4:B*(num B bs+1)≤B*B ^ bs.length:=Int.mul_le_mul_of_nonneg_left (by omega) (by omega)
  rw [fu,List.length_cons,Int.pow_succ,Int.mul_comm (B ^ _) B]
  rw [Int.mul_add] at h4
  omega
theorem bF (B:Int):∀ (n:Nat) (v:Int),(bx B n v).length=n
 |0,_=>rfl
 |n+1,v=>by rw [gE,List.length_cons,bF B n]
theorem da {B:Int} (hB:0<B):∀ (n:Nat) (v:Int),Dig B (bx B n v)
 |0,_=>Dig.nil
 |n+1,v=>Dig.mk_cons ⟨Int.emod_nonneg _ (by omega),Int.emod_lt_of_pos _ hB⟩ (da hB n _)
theorem fY {B:Int} (hB:0<B):∀ (n:Nat) (v:Int),num B (bx B n v)=v % B ^ n
 |0,v=>by simp [bx,num]
 |n+1,v=>by
  rw [gE,fu,fY hB n,Int.pow_succ,Int.mul_comm (B ^ n) B]
  have h1:=Int.emod_nonneg v (b:=B) (by omega)
  have h2:=Int.emod_lt_of_pos v hB
  have h3:=Int.emod_add_mul_ediv v B
  have h4:=Int.emod_add_mul_ediv (v/B) (B ^ n)
  have hn:=gX hB n
  have h5:=Int.emod_nonneg (v/B) (b:=B ^ n) (by omega)
  have h6:=Int.emod_lt_of_pos (v/B) hn
  have h7:B*(v/B % B ^ n+1)≤B*B ^ n:=Int.mul_le_mul_of_nonneg_left (by omega) (by omega)
  have h8:0≤B*(v/B % B ^ n):=Int.mul_nonneg (by omega) h5
  rw [Int.mul_add] at h7
  have e:v=(v % B+B*(v/B % B ^ n))+(B*B ^ n)*(v/B/B ^ n):=by
   rw [Int.mul_assoc]
   rw [Int.add_assoc,← Int.mul_add,h4,h3]
  have e2:v % (B*B ^ n)=(v % B+B*(v/B % B ^ n)) % (B*B ^ n):=by
   conv=>lhs;rw [e]
   rw [Int.add_mul_emod_self_left]
  rw [e2]
  exact (Int.emod_eq_of_lt (by omega) (by omega)).symm
theorem nw {B:Int} (hB:0<B):∀ {xs:List Int},Dig B xs→bx B xs.length (num B xs)=xs
 |[],_=>rfl
 |a :: bs,h=>by
  obtain ⟨ha,hs⟩:=h.cons
  rw [List.length_cons,gE,fu,Int.add_mul_emod_self_left,Int.emod_eq_of_lt ha.1 ha.2,Int.add_mul_ediv_left _ _ (by omega),Int.ediv_eq_zero_of_lt ha.1 ha.2,Int.zero_add,nw hB hs]
theorem jq {B:Int} (hB:0<B) {xs:List Int} {n:Nat} {v:Int} (h:Dig B xs) (hn:xs.length=n) (hv:num B xs=v):xs=bx B n v:=by
 rw [← nw hB h,hn,hv]
theorem gZ {B:Int}:∀ {xs:List Int} {i:Nat} {x:Int},i<xs.length→num B (xs.set i x)=num B xs+(x-xs.getD i 0)*B ^ i
 |[],i,x,h=>by simp at h
 |a :: bs,0,x,h=>by simp [num];omega
 |a :: bs,i+1,x,h=>by
  have:=gZ (B:=B) (xs:=bs) (i:=i) (x:=x) (by simpa using h)
  rw [List.set_cons_succ,fu,this,fu,List.getD_cons_succ,Int.pow_succ,Int.mul_add]
  have:B*((x-bs.getD i 0)*B ^ i)=(x-bs.getD i 0)*(B ^ i*B):=by rw [Int.mul_comm B,Int.mul_assoc]
  omega
theorem oH {B:Int} {xs:List Int} {i:Nat} {x:Int} (h:Dig B xs) (hx:0≤x∧x<B):Dig B (xs.set i x):=by
 intro y hy
 rcases List.mem_or_eq_of_mem_set hy with h1|h1
 ·exact h y h1
 ·rw [h1];exact hx
theorem kV {B:Int} (hB:0<B):∀ {xs:List Int} {i:Nat},Dig B xs→xs.getD i 0=num B xs/B ^ i % B
 |[],i,h=>by simp [num]
 |a :: bs,0,h=>by
  obtain ⟨ha,hs⟩:=h.cons
  rw [List.getD_cons_zero,fu,Int.pow_zero,Int.ediv_one,Int.add_mul_emod_self_left,Int.emod_eq_of_lt ha.1 ha.2]
 |a :: bs,i+1,h=>by
  obtain ⟨ha,hs⟩:=h.cons
  rw [List.getD_cons_succ,kV hB (i:=i) hs,fu,Int.pow_succ,Int.mul_comm (B ^ i) B,← Int.ediv_ediv_of_nonneg (by omega),Int.add_mul_ediv_left _ _ (by omega),Int.ediv_eq_zero_of_lt ha.1 ha.2,Int.zero_add]
theorem bh {B:Int} (hB:0<B) {xs:List Int} {i:Nat} (h:Dig B xs):0≤xs.getD i 0∧xs.getD i 0<B:=by
 rw [kV hB h]
 exact ⟨Int.emod_nonneg _ (by omega),Int.emod_lt_of_pos _ hB⟩
theorem dd {B:Int}:∀ {xs:List Int} {i:Nat},num B (xs.take (i+1))=num B (xs.take i)+xs.getD i 0*B ^ i
 |[],i=>by simp [num]
 |a :: bs,0=>by simp [num]
 |a :: bs,i+1=>by
  have:=dd (B:=B) (xs:=bs) (i:=i)
  rw [List.take_succ_cons,fu,this,List.take_succ_cons,fu,List.getD_cons_succ,Int.pow_succ,Int.mul_add]
  have:B*(bs.getD i 0*B ^ i)=bs.getD i 0*(B ^ i*B):=by rw [Int.mul_comm B,Int.mul_assoc]
  omega
theorem kN (B:Int):∀ n,num B (List.replicate n 0)=0
 |0=>rfl
 |n+1=>by rw [List.replicate_succ,fu,kN B n];simp
theorem sP (x:Int) {m r:Nat} (h:r<m):x % 2 ^ m/2 ^ r % 2=x/2 ^ r % 2:=by
 obtain ⟨d,rfl⟩:∃ d,m=r+(d+1):=⟨m-r-1,by omega⟩
 have hr:=gX (B:=2) (by decide) r
 have e1:=Int.emod_add_mul_ediv x (2 ^ (r+(d+1)))
 have e2:x/2 ^ r=x % 2 ^ (r+(d+1))/2 ^ r+2*(2 ^ d*(x/2 ^ (r+(d+1)))):=by
  conv=>lhs;rw [← e1]
  rw [Int.pow_add,Int.mul_assoc,Int.add_mul_ediv_left _ _ (by omega),Int.pow_succ,Int.mul_comm (2 ^ d) 2,Int.mul_assoc]
 rw [e2,Int.add_mul_emod_self_left]
theorem kH {m:Nat} (hm:0<m) {xs:List Int} (h:Dig (2 ^ m) xs) (k:Nat):xs.getD (k/m) 0/2 ^ (k % m) % 2=num (2 ^ m) xs/2 ^ k % 2:=by
 have hB:=gX (B:=2) (by decide) m
 rw [kV hB h,sP _ (Nat.mod_lt _ hm),Int.ediv_ediv_of_nonneg (Int.le_of_lt (gX hB _)),← Int.pow_mul,← Int.pow_add,Nat.div_add_mod]
theorem yn (x:Int) (k:Nat):x % 2 ^ (k+1)=x % 2 ^ k+x/2 ^ k % 2*2 ^ k:=by
 have hk:=gX (B:=2) (by decide) k
 have e1:=Int.emod_add_mul_ediv x (2 ^ k)
 have e2:=Int.emod_add_mul_ediv (x/2 ^ k) 2
 have h1:=Int.emod_nonneg x (b:=2 ^ k) (by omega)
 have h2:=Int.emod_lt_of_pos x hk
 have e:x=(x % 2 ^ k+x/2 ^ k % 2*2 ^ k)+2 ^ (k+1)*(x/2 ^ k/2):=by
  rw [Int.pow_succ,Int.mul_assoc,Int.add_assoc,Int.mul_comm (x/2 ^ k % 2),← Int.mul_add,e2,e1]
 conv=>lhs;rw [e]
 rw [Int.add_mul_emod_self_left]
 rcases Int.emod_two_eq (x/2 ^ k) with h|h <;> rw [h,Int.pow_succ] <;> exact Int.emod_eq_of_lt (by omega) (by omega)
theorem yv (u v:Int) (n:Nat) (hu:0≤u) (hv:0≤v) (hv':v<2 ^ n) (h:u*2 ^ n+v<18446744073709551616):iOr .u64 (u*2 ^ n) v=u*2 ^ n+v:=by
 obtain ⟨a,rfl⟩:=Int.eq_ofNat_of_zero_le hu
 obtain ⟨b,rfl⟩:=Int.eq_ofNat_of_zero_le hv
 have hb:b<2 ^ n:=by
  have h0:((2:Int) ^ n)=((2 ^ n:Nat):Int):=by rw [Int.natCast_pow];rfl
  have h1:(b:Int)<2 ^ n:=hv'
  rw [h0] at h1
  exact Int.ofNat_lt.1 h1
 have hab:a*2 ^ n+b<18446744073709551616:=by
  have h0:((a:Int)*2 ^ n)=((a*2 ^ n:Nat):Int):=by rw [Int.natCast_mul,Int.natCast_pow];rfl
  have h1:((a:Int))*2 ^ n+(b:Int)<18446744073709551616:=h
  rw [h0] at h1
  omega
 have e:((a:Int)*2 ^ n)=((a*2 ^ n:Nat):Int):=by rw [Int.natCast_mul,Int.natCast_pow];rfl
 rw [e]
 unfold iOr
 rw [eV]
 show (((BitVec.ofInt 64 ((a*2 ^ n:Nat):Int) ||| BitVec.ofInt 64 (b:Int)).toNat:Nat):Int) % 18446744073709551616=_
 rw [BitVec.ofInt_natCast,BitVec.ofInt_natCast,BitVec.toNat_or,BitVec.toNat_ofNat,BitVec.toNat_ofNat,Nat.mod_eq_of_lt (a:=a*2 ^ n) (by omega),Nat.mod_eq_of_lt (a:=b) (by omega)]
 have:a*2 ^ n ||| b=a*2 ^ n+b:=by
  rw [Nat.mul_comm];exact (Nat.two_pow_add_eq_or_of_lt hb a).symm
 rw [this]
 omega
theorem AR {m n k:Nat} (hm:0<m) (hk:k<m*n) {t:List Int} {v x:Int} (ht:Dig (2 ^ m) t) (hn:t.length=n) (hv:num (2 ^ m) t=v % 2 ^ k) (hx:x=t.getD (k/m) 0+v/2 ^ k % 2*2 ^ (k % m)) :
  t.getD (k/m) 0<2 ^ (k % m)∧Dig (2 ^ m) (t.set (k/m) x)∧(t.set (k/m) x).length=n∧num (2 ^ m) (t.set (k/m) x)=v % 2 ^ (k+1):=by
 have hB:=gX (B:=2) (by decide) m
 have hr:k % m<m:=Nat.mod_lt _ hm
 have hi:k/m<n:=by rw [Nat.div_lt_iff_lt_mul hm,Nat.mul_comm];exact hk
 have hpk:=gX (B:=2) (by decide) k
 have hpr:=gX (B:=2) (by decide) (k % m)
 have h0:=bh hB ht (i:=k/m)
 have hg:t.getD (k/m) 0<2 ^ (k % m):=by
  have h1:0≤v % 2 ^ k:=Int.emod_nonneg _ (by omega)
  have h2:v % 2 ^ k<2 ^ k:=Int.emod_lt_of_pos _ hpk
  have e:(2:Int) ^ k=2 ^ (k % m)*(2 ^ m) ^ (k/m):=by
   rw [← Int.pow_mul,← Int.pow_add,Nat.mod_add_div]
  have h3:v % 2 ^ k/(2 ^ m) ^ (k/m)<2 ^ (k % m):=by
   apply Int.ediv_lt_of_lt_mul (gX hB _)
   rw [← e];exact h2
  have h4:0≤v % 2 ^ k/(2 ^ m) ^ (k/m):=Int.ediv_nonneg h1 (Int.le_of_lt (gX hB _))
  have h5:(2:Int) ^ (k % m)≤2 ^ m:=mL (by omega)
  rw [kV hB ht,hv,Int.emod_eq_of_lt h4 (by omega)]
  exact h3
 refine ⟨hg,oH ht ?_,by rw [List.length_set,hn],?_⟩
 ·have h5:(2:Int) ^ (k % m+1)≤2 ^ m:=mL (by omega)
  rw [Int.pow_succ] at h5
  rw [hx]
  rcases Int.emod_two_eq (v/2 ^ k) with h|h <;> rw [h] <;> omega
 ·rw [gZ (by omega),hv,hx,yn]
  have e:(v/2 ^ k % 2*2 ^ (k % m))*(2 ^ m) ^ (k/m)=v/2 ^ k % 2*2 ^ k:=by
   rw [Int.mul_assoc,← Int.pow_mul,← Int.pow_add,Nat.mod_add_div]
  rw [← e]
  congr 2
  omega
end Go.Vm
namespace Go.Vm
open Go
def dE:List Int→Int
 |[a,b,c,d,e]=>a+b*2251799813685248+c*5070602400912917605986812821504+d*11417981541647679048466287755595961091061972992+e*25711008708143844408671393477458601640355247900524685364822016
 |_=>0
theorem sr (x:Int):aa .u64 x 51=x/2251799813685248:=fi .u64 x 51 (by decide)
theorem HY (x:Int):ai .u64 x 2251799813685247=x % 2251799813685248:=mR x 51 (by decide)
theorem ig {a b c d e:Int} (ha:0≤a∧a<9223372036854775808) (hb:0≤b∧b<9223372036854775808) (hc:0≤c∧c<9223372036854775808) (hd:0≤d∧d<9223372036854775808) (he:0≤e∧e<9223372036854775808) :
  ∃ q r0 r1 r2 r3 r4:Int,F45 [a,b,c,d,e]=[r0,r1,r2,r3,r4]∧(0≤r0∧r0<2251799813685248+19*4097)∧(0≤r1∧r1<2251799813685248)∧(0≤r2∧r2<2251799813685248)∧(0≤r3∧r3<2251799813685248)∧(0≤r4∧r4<2251799813685248) ∧
   dE [a,b,c,d,e]=dE [r0,r1,r2,r3,r4]+q*57896044618658097711785492504343953926634992332820282019728792003956564819949:=by
 have e1:t1 a=a:=by unfold t1;rw [eC];omega
 have e2:t2 a b=b+a/2251799813685248:=by unfold t2;rw [e1,eC,sr];omega
 have e3:t3 a b c=c+(b+a/2251799813685248)/2251799813685248:=by unfold t3;rw [e2,eC,sr];omega
 have e4:t4 a b c d=d+(c+(b+a/2251799813685248)/2251799813685248)/2251799813685248:=by unfold t4;rw [e3,eC,sr];omega
 have e5:t5 a b c d e=e+(d+(c+(b+a/2251799813685248)/2251799813685248)/2251799813685248)/2251799813685248:=by unfold t5;rw [e4,eC,sr];omega
 rw [Bo]
 simp only [BC,HY,sr,e1,e2,e3,e4,e5,eC,kU]
 generalize ha':a/2251799813685248=a1
 generalize hb':(b+a1)/2251799813685248=b1
 generalize hc':(c+b1)/2251799813685248=c1
 generalize hd':(d+c1)/2251799813685248=d1
 generalize he':(e+d1)/2251799813685248=e6
 clear e1 e2 e3 e4 e5
 have h1:0≤a1∧a1≤4095:=by omega
 have h2:0≤b1∧b1≤4096:=by omega
 have h3:0≤c1∧c1≤4096:=by omega
 have h4:0≤d1∧d1≤4096:=by omega
 have h5:0≤e6∧e6≤4096:=by omega
 have h6:19*e6 % 18446744073709551616=19*e6:=Int.emod_eq_of_lt (by omega) (by omega)
 have h7:(a % 2251799813685248+19*e6) % 18446744073709551616=a % 2251799813685248+19*e6:=Int.emod_eq_of_lt (by omega) (by omega)
 rw [h6,h7]
 refine ⟨e6,_,_,_,_,_,rfl,?_,?_,?_,?_,?_,?_⟩
 ·omega
 ·omega
 ·omega
 ·omega
 ·omega
 ·simp only [dE]
  omega
abbrev PF:Int:=57896044618658097711785492504343953926634992332820282019728792003956564819949
def Fe (xs:List Int):Prop:=∃ a b c d e,xs=[a,b,c,d,e]∧(0≤a∧a<4503599627370496)∧(0≤b∧b<4503599627370496)∧(0≤c∧c<4503599627370496)∧(0≤d∧d<4503599627370496)∧(0≤e∧e<4503599627370496)
theorem rM {x y q:Int} (h:x=y+q*PF):x % PF=y % PF:=by
 rw [h,Int.add_mul_emod_self_right]
theorem Hn (a b c d e a' b' c' d' e':Int):F16 [a,b,c,d,e] [a',b',c',d',e']=F45 [aN .u64 a a',aN .u64 b b',aN .u64 c c',aN .u64 d d',aN .u64 e e']:=by
 unfold F16
 congr 1
 kernel_rfl
theorem zP {x y:List Int} (hx:Fe x) (hy:Fe y):Fe (F16 x y)∧dE (F16 x y) % PF=(dE x+dE y) % PF:=by
 obtain ⟨a,b,c,d,e,rfl,ha,hb,hc,hd,he⟩:=hx
 obtain ⟨a',b',c',d',e',rfl,ha',hb',hc',hd',he'⟩:=hy
 have s:∀ u v:Int,(0≤u∧u<4503599627370496)→(0≤v∧v<4503599627370496)→aN .u64 u v=u+v:=by
  intro u v hu hv
  rw [eC];exact Int.emod_eq_of_lt (by omega) (by omega)
 rw [Hn,s a a' ha ha',s b b' hb hb',s c c' hc hc',s d d' hd hd',s e e' he he']
 obtain ⟨q,r0,r1,r2,r3,r4,h,h0,h1,h2,h3,h4,hv⟩:=ig (a:=a+a') (b:=b+b') (c:=c+c') (d:=d+d') (e:=e+e') (by omega) (by omega) (by omega) (by omega) (by omega)
 rw [h]
 refine ⟨⟨r0,r1,r2,r3,r4,rfl,by omega,by omega,by omega,by omega,by omega⟩,?_⟩
 have:dE [a,b,c,d,e]+dE [a',b',c',d',e']=dE [r0,r1,r2,r3,r4]+q*PF:=by
  rw [← hv];simp only [dE];omega
 exact (rM this).symm
theorem JB (a b c d e r0 r1 r2 r3 r4:Int) {y:List Int} (h:F45 y=[r0,r1,r2,r3,r4]):F18 [a,b,c,d,e] y=F45 [aN .u64 a (ag .u64 9007199254740916 r0),aN .u64 b (ag .u64 9007199254740988 r1),aN .u64 c (ag .u64 9007199254740988 r2),aN .u64 d (ag .u64 9007199254740988 r3),aN .u64 e (ag .u64 9007199254740988 r4)]:=by
 unfold F18 zi
 rw [h]
 congr 1
 kernel_rfl
theorem yx {x y:List Int} (hx:Fe x) (hy:Fe y):Fe (F18 x y)∧dE (F18 x y) % PF=(dE x-dE y) % PF:=by
 obtain ⟨a,b,c,d,e,rfl,ha,hb,hc,hd,he⟩:=hx
 obtain ⟨a',b',c',d',e',rfl,ha',hb',hc',hd',he'⟩:=hy
 obtain ⟨q',r0',r1',r2',r3',r4',h',h0',h1',h2',h3',h4',hv'⟩:=ig (a:=a') (b:=b') (c:=c') (d:=d') (e:=e') (by omega) (by omega) (by omega) (by omega) (by omega)
 have s:∀ k u v:Int,(9007199254740916≤k∧k≤9007199254740988)→(0≤u∧u<4503599627370496)→(0≤v∧v<4503599627370496)→aN .u64 u (ag .u64 k v)=u+(k-v):=by
  intro k u v hk hu hv
  rw [eC,wS,Int.emod_eq_of_lt (a:=k-v) (by omega) (by omega)];exact Int.emod_eq_of_lt (by omega) (by omega)
 rw [JB a b c d e r0' r1' r2' r3' r4' h',s _ a r0' (by decide) ha (by omega),s _ b r1' (by decide) hb (by omega),s _ c r2' (by decide) hc (by omega),s _ d r3' (by decide) hd (by omega),s _ e r4' (by decide) he (by omega)]
 obtain ⟨q,r0,r1,r2,r3,r4,h,h0,h1,h2,h3,h4,hv⟩:=ig (a:=a+(9007199254740916-r0')) (b:=b+(9007199254740988-r1')) (c:=c+(9007199254740988-r2')) (d:=d+(9007199254740988-r3')) (e:=e+(9007199254740988-r4')) (by omega) (by omega) (by omega) (by omega) (by omega)
 rw [h]
 refine ⟨⟨r0,r1,r2,r3,r4,rfl,by omega,by omega,by omega,by omega,by omega⟩,?_⟩
 have:dE [a,b,c,d,e]-dE [a',b',c',d',e']=dE [r0,r1,r2,r3,r4]+(q-q'-4)*PF:=by
  simp only [dE,PF] at hv hv' ⊢
  omega
 exact (rM this).symm
end Go.Vm
namespace Go.Vm
open Go
def W (p:Int × Int) (x y:Int):Int × Int:=(ei p.1 (lH x y) (eg p.2 (fZ x y) 0),ei p.2 (fZ x y) 0)
theorem vU {p:Int × Int} {x y:Int} (h1:0≤p.1) (h2:0≤p.2) (h2':p.2<18446744073709551616) (hx:0≤x) (hy:0≤y) (hb:p.1*18446744073709551616+p.2+x*y<340282366920938463463374607431768211456) :
  0≤(W p x y).1∧0≤(W p x y).2∧(W p x y).2<18446744073709551616∧(W p x y).1*18446744073709551616+(W p x y).2=p.1*18446744073709551616+p.2+x*y:=by
 have hxy:0≤x*y:=Int.mul_nonneg hx hy
 simp only [W,ei,eg,lH,fZ]
 generalize x*y=m at *
 generalize p.1=a at *
 generalize p.2=b at *
 have e1:(a+m/18446744073709551616+(b+m % 18446744073709551616+0)/18446744073709551616) % 18446744073709551616=a+m/18446744073709551616+(b+m % 18446744073709551616+0)/18446744073709551616 :=
  Int.emod_eq_of_lt (by omega) (by omega)
 rw [e1]
 omega
theorem Is {x y:List Int} {f0 f1 f2 f3 f4 g0 g1 g2 g3 g4:Int} (hx:F45 x=[f0,f1,f2,f3,f4]) (hy:F45 y=[g0,g1,g2,g3,g4]) :
  itr (iE x y) 5 [0,0,0,0,0,0,0,0,0,0] =
   let n:=fun g=>bS .u64 g 19
   let c0:=W (W (W (W (W (0,0) f0 g0) f1 (n g4)) f2 (n g3)) f3 (n g2)) f4 (n g1)
   let c1:=W (W (W (W (W (0,0) f0 g1) f1 g0) f2 (n g4)) f3 (n g3)) f4 (n g2)
   let c2:=W (W (W (W (W (0,0) f0 g2) f1 g1) f2 g0) f3 (n g4)) f4 (n g3)
   let c3:=W (W (W (W (W (0,0) f0 g3) f1 g2) f2 g1) f3 g0) f4 (n g4)
   let c4:=W (W (W (W (W (0,0) f0 g4) f1 g3) f2 g2) f3 g1) f4 g0
   [c0.1,c0.2,c1.1,c1.2,c2.1,c2.2,c3.1,c3.2,c4.1,c4.2]:=by
 unfold iE zt
 rw [hx,hy]
 kernel_rfl
theorem lj {x y:Int} (hx:0≤x∧x<4503599627370496) (hy:0≤y∧y<144115188075855872):0≤x*y∧x*y≤649037107316853453566312041152512:=by
 refine ⟨Int.mul_nonneg hx.1 hy.1,?_⟩
 have h:=Int.mul_le_mul (a:=x) (b:=y) (c:=4503599627370496) (d:=144115188075855872) (by omega) (by omega) hy.1 (by omega)
 have e:(4503599627370496:Int)*144115188075855872=649037107316853453566312041152512:=by decide
 omega
theorem W5 {x0 x1 x2 x3 x4 y0 y1 y2 y3 y4:Int} (hx0:0≤x0∧x0<4503599627370496) (hx1:0≤x1∧x1<4503599627370496) (hx2:0≤x2∧x2<4503599627370496) (hx3:0≤x3∧x3<4503599627370496) (hx4:0≤x4∧x4<4503599627370496)
  (hy0:0≤y0∧y0<144115188075855872) (hy1:0≤y1∧y1<144115188075855872) (hy2:0≤y2∧y2<144115188075855872) (hy3:0≤y3∧y3<144115188075855872) (hy4:0≤y4∧y4<144115188075855872) :
  ∃ h l:Int,W (W (W (W (W (0,0) x0 y0) x1 y1) x2 y2) x3 y3) x4 y4=(h,l)∧(0≤h∧h<2251799813685247)∧(0≤l∧l<18446744073709551616)∧h*18446744073709551616+l=x0*y0+x1*y1+x2*y2+x3*y3+x4*y4:=by
 have b0:=lj hx0 hy0
 have b1:=lj hx1 hy1
 have b2:=lj hx2 hy2
 have b3:=lj hx3 hy3
 have b4:=lj hx4 hy4
 obtain ⟨p1,p2,p3,p4⟩:=vU (p:=(0,0)) (x:=x0) (y:=y0) (by decide) (by decide) (by decide) hx0.1 hy0.1 (by simp only;omega)
 obtain ⟨q1,q2,q3,q4⟩:=vU (p:=W (0,0) x0 y0) (x:=x1) (y:=y1) p1 p2 p3 hx1.1 hy1.1 (by simp only at p4;omega)
 obtain ⟨r1,r2,r3,r4⟩:=vU (p:=W (W (0,0) x0 y0) x1 y1) (x:=x2) (y:=y2) q1 q2 q3 hx2.1 hy2.1 (by simp only at p4;omega)
 obtain ⟨s1,s2,s3,s4⟩:=vU (p:=W (W (W (0,0) x0 y0) x1 y1) x2 y2) (x:=x3) (y:=y3) r1 r2 r3 hx3.1 hy3.1 (by simp only at p4;omega)
 obtain ⟨t1,t2,t3,t4⟩:=vU (p:=W (W (W (W (0,0) x0 y0) x1 y1) x2 y2) x3 y3) (x:=x4) (y:=y4) s1 s2 s3 hx4.1 hy4.1 (by simp only at p4;omega)
 have tot:(W (W (W (W (W (0,0) x0 y0) x1 y1) x2 y2) x3 y3) x4 y4).1*18446744073709551616+(W (W (W (W (W (0,0) x0 y0) x1 y1) x2 y2) x3 y3) x4 y4).2=x0*y0+x1*y1+x2*y2+x3*y3+x4*y4:=by
  simp only at p4;omega
 refine ⟨(W (W (W (W (W (0,0) x0 y0) x1 y1) x2 y2) x3 y3) x4 y4).1,(W (W (W (W (W (0,0) x0 y0) x1 y1) x2 y2) x3 y3) x4 y4).2,rfl,⟨t1,?_⟩,⟨t2,t3⟩,tot⟩
 clear p4 q4 r4 s4 t4 p1 p2 p3 q1 q2 q3 r1 r2 r3 s1 s2 s3
 have bd:x0*y0+x1*y1+x2*y2+x3*y3+x4*y4≤3245185536584267267831560205762560:=by omega
 rw [← tot] at bd
 omega
end Go.Vm
namespace Go.Vm
open Go
theorem BN {h l r:Int} (hh:0≤h) (hl:0≤l∧l<18446744073709551616) (hr:0≤r∧r<18446744073709551616) (hb:h<2251799813685247) :
  iOr .u64 (cu .u64 (aN .u64 h (eg l r 0)) 13) (aa .u64 (ei l r 0) 51)=(h*18446744073709551616+l+r)/2251799813685248 ∧
  ai .u64 (ei l r 0) 2251799813685247=(h*18446744073709551616+l+r) % 2251799813685248:=by
 have s51:∀ x:Int,aa .u64 x 51=x/2251799813685248:=fun x=>fi .u64 x 51 (by decide)
 have a51:∀ x:Int,ai .u64 x 2251799813685247=x % 2251799813685248:=fun x=>mR x 51 (by decide)
 have l13:∀ x:Int,cu .u64 x 13=(x*8192) % 18446744073709551616:=fun x=>by rw [show (13:Int)=((13:Nat):Int) from rfl,lG .u64 x 13 (by decide),eV];rfl
 rw [s51,a51,l13,eC]
 simp only [ei,eg]
 have e1:(h+(l+r+0)/18446744073709551616) % 18446744073709551616=h+(l+r+0)/18446744073709551616:=Int.emod_eq_of_lt (by omega) (by omega)
 rw [e1]
 have e2:(h+(l+r+0)/18446744073709551616)*8192 % 18446744073709551616=(h+(l+r+0)/18446744073709551616)*2 ^ 13:=by
  rw [Int.emod_eq_of_lt (by omega) (by omega)];rfl
 rw [e2,yv _ _ 13 (by omega) (by omega) (by show _<(8192:Int);omega) (by show _*(8192:Int)+_<_;omega)]
 refine ⟨?_,by omega⟩
 show _*(8192:Int)+_=_
 omega
end Go.Vm
namespace Go.Vm
open Go
def nx (h l r:Int):Int:=iOr .u64 (cu .u64 (aN .u64 h (eg l r 0)) 13) (aa .u64 (ei l r 0) 51)
def loD (l r:Int):Int:=ai .u64 (ei l r 0) 2251799813685247
theorem Hw {x y:List Int} {h0 l0 h1 l1 h2 l2 h3 l3 h4 l4:Int} (h:itr (iE x y) 5 [0,0,0,0,0,0,0,0,0,0]=[h0,l0,h1,l1,h2,l2,h3,l3,h4,l4]) :
  F20 x y =
   let r1:=nx h0 l0 0
   let r2:=nx h1 l1 r1
   let r3:=nx h2 l2 r2
   let r4:=nx h3 l3 r3
   let r5:=nx h4 l4 r4
   F45 [aN .u64 (loD l0 0) (bS .u64 19 r5),loD l1 r1,loD l2 r2,loD l3 r3,loD l4 r4]:=by
 unfold F20 lU
 rw [h]
 show F45 _=F45 _
 congr 1
 kernel_rfl
end Go.Vm
namespace Go.Vm
open Go
theorem nk {x y:Int} (hx:0≤x∧x<4503599627370496) (hy:0≤y∧y<4503599627370496):x*y≤20282409603651670423947251286016:=by
 have h:=Int.mul_le_mul (a:=x) (b:=y) (c:=4503599627370496) (d:=4503599627370496) (by omega) (by omega) hy.1 (by omega)
 have e:(4503599627370496:Int)*4503599627370496=20282409603651670423947251286016:=by decide
 omega
theorem rV {h l r s:Int} (hh:0≤h∧h<2251799813685247) (hl:0≤l∧l<18446744073709551616) (hr:0≤r∧r<18446744073709551616) (hs:h*18446744073709551616+l=s) :
  nx h l r=(s+r)/2251799813685248∧loD l r=(s+r) % 2251799813685248∧0≤nx h l r∧nx h l r<18446744073709551616:=by
 obtain ⟨h1,h2⟩:=BN hh.1 hl hr (by omega)
 rw [hs] at h1 h2
 have h1':nx h l r=(s+r)/2251799813685248:=h1
 refine ⟨h1',h2,?_,?_⟩ <;> rw [h1'] <;> omega
theorem Hv (f0 f1 f2 f3 f4 g0 g1 g2 g3 g4:Int):dE [f0,f1,f2,f3,f4]*dE [g0,g1,g2,g3,g4] =
  dE [f0*g0+f1*(19*g4)+f2*(19*g3)+f3*(19*g2)+f4*(19*g1),f0*g1+f1*g0+f2*(19*g4)+f3*(19*g3)+f4*(19*g2),f0*g2+f1*g1+f2*g0+f3*(19*g4)+f4*(19*g3),f0*g3+f1*g2+f2*g1+f3*g0+f4*(19*g4),f0*g4+f1*g3+f2*g2+f3*g1+f4*g0] +
  (f1*g4+f2*g3+f3*g2+f4*g1+2251799813685248*(f2*g4+f3*g3+f4*g2)+5070602400912917605986812821504*(f3*g4+f4*g3)+11417981541647679048466287755595961091061972992*(f4*g4))*PF:=by
 simp only [dE,PF]
 grind -lia -linarith
theorem zS {x y:List Int} (hx:Fe x) (hy:Fe y):Fe (F20 x y)∧dE (F20 x y) % PF=(dE x*dE y) % PF:=by
 obtain ⟨a,b,c,d,e,rfl,ha,hb,hc,hd,he⟩:=hx
 obtain ⟨a',b',c',d',e',rfl,ha',hb',hc',hd',he'⟩:=hy
 obtain ⟨q,f0,f1,f2,f3,f4,hf,hf0,hf1,hf2,hf3,hf4,hfv⟩:=ig (a:=a) (b:=b) (c:=c) (d:=d) (e:=e) (by omega) (by omega) (by omega) (by omega) (by omega)
 obtain ⟨q',g0,g1,g2,g3,g4,hg,hg0,hg1,hg2,hg3,hg4,hgv⟩:=ig (a:=a') (b:=b') (c:=c') (d:=d') (e:=e') (by omega) (by omega) (by omega) (by omega) (by omega)
 have n:∀ g:Int,(0≤g∧g<4503599627370496)→bS .u64 g 19=19*g:=by
  intro g hg
  rw [kU,Int.emod_eq_of_lt (by omega) (by omega)];omega
 have hacc:=Is hf hg
 simp only [n g1 (by omega),n g2 (by omega),n g3 (by omega),n g4 (by omega)] at hacc
 obtain ⟨h0,l0,e0,hh0,hl0,s0⟩:=W5 (x0:=f0) (x1:=f1) (x2:=f2) (x3:=f3) (x4:=f4) (y0:=g0) (y1:=19*g4) (y2:=19*g3) (y3:=19*g2) (y4:=19*g1) (by omega) (by omega) (by omega) (by omega) (by omega) (by omega) (by omega) (by omega) (by omega) (by omega)
 obtain ⟨h1,l1,e1,hh1,hl1,s1⟩:=W5 (x0:=f0) (x1:=f1) (x2:=f2) (x3:=f3) (x4:=f4) (y0:=g1) (y1:=g0) (y2:=19*g4) (y3:=19*g3) (y4:=19*g2) (by omega) (by omega) (by omega) (by omega) (by omega) (by omega) (by omega) (by omega) (by omega) (by omega)
 obtain ⟨h2,l2,e2,hh2,hl2,s2⟩:=W5 (x0:=f0) (x1:=f1) (x2:=f2) (x3:=f3) (x4:=f4) (y0:=g2) (y1:=g1) (y2:=g0) (y3:=19*g4) (y4:=19*g3) (by omega) (by omega) (by omega) (by omega) (by omega) (by omega) (by omega) (by omega) (by omega) (by omega)
 obtain ⟨h3,l3,e3,hh3,hl3,s3⟩:=W5 (x0:=f0) (x1:=f1) (x2:=f2) (x3:=f3) (x4:=f4) (y0:=g3) (y1:=g2) (y2:=g1) (y3:=g0) (y4:=19*g4) (by omega) (by omega) (by omega) (by omega) (by omega) (by omega) (by omega) (by omega) (by omega) (by omega)
 obtain ⟨h4,l4,e4,hh4,hl4,s4⟩:=W5 (x0:=f0) (x1:=f1) (x2:=f2) (x3:=f3) (x4:=f4) (y0:=g4) (y1:=g3) (y2:=g2) (y3:=g1) (y4:=g0) (by omega) (by omega) (by omega) (by omega) (by omega) (by omega) (by omega) (by omega) (by omega) (by omega)
 rw [e0,e1,e2,e3,e4] at hacc
 have key:=Hw hacc
 have hid:=Hv f0 f1 f2 f3 f4 g0 g1 g2 g3 g4
 have b40:=nk (x:=f0) (y:=g4) (by omega) (by omega)
 have b41:=nk (x:=f1) (y:=g3) (by omega) (by omega)
 have b42:=nk (x:=f2) (y:=g2) (by omega) (by omega)
 have b43:=nk (x:=f3) (y:=g1) (by omega) (by omega)
 have b44:=nk (x:=f4) (y:=g0) (by omega) (by omega)
 generalize hq2:(f1*g4+f2*g3+f3*g2+f4*g1+2251799813685248*(f2*g4+f3*g3+f4*g2)+5070602400912917605986812821504*(f3*g4+f4*g3)+11417981541647679048466287755595961091061972992*(f4*g4))=q2 at hid
 rw [← s0,← s1,← s2,← s3,← s4] at hid
 have bd4:h4*18446744073709551616+l4≤101412048018258352119736256430080:=by omega
 generalize ht0:h0*18446744073709551616+l0=t0 at hid
 generalize ht1:h1*18446744073709551616+l1=t1 at hid
 generalize ht2:h2*18446744073709551616+l2=t2 at hid
 generalize ht3:h3*18446744073709551616+l3=t3 at hid
 generalize ht4:h4*18446744073709551616+l4=t4 at hid bd4
 obtain ⟨u0,v0,w0,w0'⟩:=rV (r:=0) hh0 hl0 (by omega) ht0
 obtain ⟨u1,v1,w1,w1'⟩:=rV (r:=nx h0 l0 0) hh1 hl1 ⟨w0,w0'⟩ ht1
 obtain ⟨u2,v2,w2,w2'⟩:=rV (r:=nx h1 l1 (nx h0 l0 0)) hh2 hl2 ⟨w1,w1'⟩ ht2
 obtain ⟨u3,v3,w3,w3'⟩:=rV (r:=nx h2 l2 (nx h1 l1 (nx h0 l0 0))) hh3 hl3 ⟨w2,w2'⟩ ht3
 obtain ⟨u4,v4,w4,w4'⟩:=rV (r:=nx h3 l3 (nx h2 l2 (nx h1 l1 (nx h0 l0 0)))) hh4 hl4 ⟨w3,w3'⟩ ht4
 simp only at key
 generalize nx h0 l0 0=r1 at *
 generalize nx h1 l1 r1=r2 at *
 generalize nx h2 l2 r2=r3 at *
 generalize nx h3 l3 r3=r4 at *
 generalize nx h4 l4 r4=r5 at *
 rw [v0,v1,v2,v3,v4] at key
 clear v0 v1 v2 v3 v4 hacc e0 e1 e2 e3 e4 s0 s1 s2 s3 s4 b40 b41 b42 b43 b44 hq2 hf hg n
 have r5b:r5≤45035996273713152:=by omega
 have m1:bS .u64 19 r5=19*r5:=by rw [kU];exact Int.emod_eq_of_lt (by omega) (by omega)
 have m2:aN .u64 ((t0+0) % 2251799813685248) (19*r5)=(t0+0) % 2251799813685248+19*r5:=by rw [eC];exact Int.emod_eq_of_lt (by omega) (by omega)
 rw [m1,m2] at key
 obtain ⟨q3,p0,p1,p2,p3,p4,hp,hp0,hp1,hp2,hp3,hp4,hpv⟩:=ig (a:=(t0+0) % 2251799813685248+19*r5) (b:=(t1+r1) % 2251799813685248) (c:=(t2+r2) % 2251799813685248) (d:=(t3+r3) % 2251799813685248) (e:=(t4+r4) % 2251799813685248) (by omega) (by omega) (by omega) (by omega) (by omega)
 rw [hp] at key
 rw [key]
 refine ⟨⟨p0,p1,p2,p3,p4,rfl,by omega,by omega,by omega,by omega,by omega⟩,?_⟩
 have e5:dE [t0,t1,t2,t3,t4]=dE [p0,p1,p2,p3,p4]+(q3+r5)*PF:=by
  have:dE [t0,t1,t2,t3,t4]=dE [(t0+0) % 2251799813685248+19*r5,(t1+r1) % 2251799813685248,(t2+r2) % 2251799813685248,(t3+r3) % 2251799813685248,(t4+r4) % 2251799813685248]+r5*PF:=by
   simp only [dE,PF]
   clear hpv hid hfv hgv
   omega
  rw [this,hpv];show dE _+q3*PF+r5*PF=_;rw [Int.add_mul,Int.add_assoc]
 have f:dE [a,b,c,d,e]*dE [a',b',c',d',e']=dE [p0,p1,p2,p3,p4]+(q3+r5+q2+q*dE [g0,g1,g2,g3,g4]+q'*dE [f0,f1,f2,f3,f4]+q*q'*PF)*PF:=by
  rw [hfv,hgv]
  have h7:dE [f0,f1,f2,f3,f4]*dE [g0,g1,g2,g3,g4]=dE [p0,p1,p2,p3,p4]+(q3+r5)*PF+q2*PF:=by rw [hid,e5]
  generalize dE [f0,f1,f2,f3,f4]=A at *
  generalize dE [g0,g1,g2,g3,g4]=Bv at *
  generalize dE [p0,p1,p2,p3,p4]=Cv at *
  show (A+q*PF)*(Bv+q'*PF)=_
  generalize PF=M at *
  grind -lia -linarith
 exact (rM f).symm
end Go.Vm
namespace Go.Vm
open Go
structure Uns (k:IntKind) (N:Nat):Prop where
 bits:2 ^ k.bits=N
 wrap:∀ x,k.wrap x=x % (N:Int)
theorem wL:Uns .u8 256:=⟨rfl,et⟩
theorem gw:Uns .u64 18446744073709551616:=⟨rfl,eV⟩
theorem oM {k:IntKind} {N:Nat} (h:Uns k N) {a:Nat} (ha:a<N):(BitVec.ofInt k.bits (a:Int)).toNat=a:=by
 rw [BitVec.ofInt_natCast,BitVec.toNat_ofNat,h.bits,Nat.mod_eq_of_lt ha]
theorem pB {k:IntKind} {N:Nat} (h:Uns k N) {a:Nat} (ha:a<N):k.wrap (a:Int)=(a:Int):=by
 rw [h.wrap];exact Int.emod_eq_of_lt (by omega) (by omega)
theorem mM {k:IntKind} {N:Nat} (h:Uns k N) {a b:Nat} (ha:a<N) (hb:b<N):iOr k (a:Int) (b:Int)=((a ||| b:Nat):Int):=by
 have:a ||| b<N:=by rw [← h.bits] at *;exact Nat.or_lt_two_pow ha hb
 unfold iOr
 rw [BitVec.toNat_or,oM h ha,oM h hb,pB h this]
theorem fF {k:IntKind} {N:Nat} (h:Uns k N) {a b:Nat} (ha:a<N) (hb:b<N):ai k (a:Int) (b:Int)=((a &&& b:Nat):Int):=by
 have:a &&& b<N:=by have:=Nat.and_le_left (n:=a) (m:=b);omega
 unfold ai
 rw [BitVec.toNat_and,oM h ha,oM h hb,pB h this]
theorem iC {k:IntKind} {N:Nat} (h:Uns k N) {a b:Nat} (ha:a<N) (hb:b<N):bM k (a:Int) (b:Int)=((a ^^^ b:Nat):Int):=by
 have:a ^^^ b<N:=by rw [← h.bits] at *;exact Nat.xor_lt_two_pow ha hb
 unfold bM
 rw [BitVec.toNat_xor,oM h ha,oM h hb,pB h this]
theorem AD {x:Int} {N:Nat} (h:0≤x∧x<(N:Int)):∃ a:Nat,x=(a:Int)∧a<N:=by
 obtain ⟨a,rfl⟩:=Int.eq_ofNat_of_zero_le h.1
 exact ⟨a,rfl,by omega⟩
theorem wI {k:IntKind} {N:Nat} (h:Uns k N) (hN:1<N) {x:Int} (hx:0≤x∧x<(N:Int)):ai k x 1=x % 2:=by
 obtain ⟨a,rfl,ha⟩:=AD hx
 have:=fF h ha hN
 rw [Nat.and_one_is_mod] at this
 exact this
theorem qE {k:IntKind} {N:Nat} (h:Uns k N) {u v:Int} {n:Nat} (hu:0≤u) (hv:0≤v) (hv':v<2 ^ n) (hb:v+u*2 ^ n<(N:Int)):iOr k v (u*2 ^ n)=v+u*2 ^ n:=by
 obtain ⟨a,rfl⟩:=Int.eq_ofNat_of_zero_le hu
 obtain ⟨b,rfl⟩:=Int.eq_ofNat_of_zero_le hv
 have e:((a:Int)*2 ^ n)=((a*2 ^ n:Nat):Int):=by rw [Int.natCast_mul,Int.natCast_pow];rfl
 have e2:((2:Int) ^ n)=((2 ^ n:Nat):Int):=by rw [Int.natCast_pow];rfl
 rw [e] at hb ⊢
 rw [e2] at hv'
 rw [mM h (by omega) (by omega)]
 have:b ||| a*2 ^ n=a*2 ^ n+b:=by
  rw [Nat.or_comm,Nat.mul_comm];exact (Nat.two_pow_add_eq_or_of_lt (by omega) a).symm
 rw [this];omega
theorem jr (n:Nat):(0:Int)<2 ^ n:=Int.pow_pos (by decide)
theorem uQ {k:IntKind} {N:Nat} (h:Uns k N) (hN:1<N) {x:Int} {n:Nat} (hn:n≤k.bits) (hx:0≤x∧x<(N:Int)):ai k (aa k x (n:Int)) 1=x/2 ^ n % 2:=by
 rw [fi k x n hn,wI h hN]
 have h1:=jr n
 refine ⟨Int.ediv_nonneg hx.1 (by omega),?_⟩
 have:=Int.ediv_le_self (b:=2 ^ n) (a:=x) hx.1
 omega
theorem Be {k:IntKind} {N:Nat} (h:Uns k N) {old b:Int} {n:Nat} (hn:n<k.bits) (hb:b=0∨b=1) (ho:0≤old) (ho':old<2 ^ n):iOr k old (cu k (k.wrap b) (n:Int))=old+b*2 ^ n:=by
 have hp:=jr n
 have h1:(2:Int) ^ (n+1)≤2 ^ k.bits:=mL (by omega)
 have h2:(2:Int) ^ k.bits=(N:Int):=by rw [← h.bits,Int.natCast_pow];rfl
 rw [Int.pow_succ] at h1
 have hw:k.wrap b=b:=by rw [h.wrap];exact Int.emod_eq_of_lt (by omega) (by omega)
 have hb1:b*2 ^ n<(N:Int)∧0≤b*2 ^ n∧old+b*2 ^ n<(N:Int):=by rcases hb with rfl|rfl <;> omega
 rw [hw,lG k b n (by omega),h.wrap,Int.emod_eq_of_lt hb1.2.1 hb1.1]
 exact qE h (by omega) ho ho' hb1.2.2
theorem HP (x:Int) (n:Nat):x/2 ^ n % 2=0∨x/2 ^ n % 2=1:=Int.emod_two_eq _
end Go.Vm
namespace Go.Vm
open Go
theorem wd (a b c d e:Int):dE [a,b,c,d,e]=num (2 ^ 51) [a,b,c,d,e]:=by
 simp only [num,dE]
 show _=a+2251799813685248*(b+2251799813685248*(c+2251799813685248*(d+2251799813685248*(e+2251799813685248*0))))
 omega
theorem JG {x:List Int} {l0 l1 l2 l3 l4:Int} (h:F45 (F45 x)=[l0,l1,l2,l3,l4]) :
  F52 x =
   let q0:=aa .u64 (aN .u64 l0 19) 51
   let q1:=aa .u64 (aN .u64 l1 q0) 51
   let q2:=aa .u64 (aN .u64 l2 q1) 51
   let q3:=aa .u64 (aN .u64 l3 q2) 51
   let q4:=aa .u64 (aN .u64 l4 q3) 51
   let m0:=aN .u64 l0 (bS .u64 19 q4)
   let m1:=aN .u64 l1 (aa .u64 m0 51)
   let m2:=aN .u64 l2 (aa .u64 m1 51)
   let m3:=aN .u64 l3 (aa .u64 m2 51)
   let m4:=aN .u64 l4 (aa .u64 m3 51)
   [ai .u64 m0 2251799813685247,ai .u64 m1 2251799813685247,ai .u64 m2 2251799813685247,ai .u64 m3 2251799813685247,ai .u64 m4 2251799813685247]:=by
 unfold F52 ma
 rw [h]
 kernel_rfl
theorem tG {x:List Int} (hx:Fe x):Dig (2 ^ 51) (F52 x)∧(F52 x).length=5∧num (2 ^ 51) (F52 x)=dE x % PF:=by
 obtain ⟨a,b,c,d,e,rfl,ha,hb,hc,hd,he⟩:=hx
 obtain ⟨q,f0,f1,f2,f3,f4,hf,hf0,hf1,hf2,hf3,hf4,hfv⟩:=ig (a:=a) (b:=b) (c:=c) (d:=d) (e:=e) (by omega) (by omega) (by omega) (by omega) (by omega)
 obtain ⟨q',l0,l1,l2,l3,l4,hl,hl0,hl1,hl2,hl3,hl4,hlv⟩:=ig (a:=f0) (b:=f1) (c:=f2) (d:=f3) (e:=f4) (by omega) (by omega) (by omega) (by omega) (by omega)
 have key:=JG (x:=[a,b,c,d,e]) (by rw [hf,hl])
 have s:∀ u v:Int,(0≤u∧u<4503599627370496)→(0≤v∧v<4503599627370496)→aN .u64 u v=u+v:=by
  intro u v hu hv
  rw [eC];exact Int.emod_eq_of_lt (by omega) (by omega)
 simp only at key
 have hv:dE [a,b,c,d,e] % PF=dE [l0,l1,l2,l3,l4] % PF:=by rw [rM hfv,rM hlv]
 simp only [sr,HY] at key
 rw [s l0 19 (by omega) (by omega)] at key
 generalize g0:(l0+19)/2251799813685248=q0 at key
 have b0:0≤q0∧q0≤1:=by omega
 rw [s l1 q0 (by omega) (by omega)] at key
 generalize g1:(l1+q0)/2251799813685248=q1 at key
 have b1:0≤q1∧q1≤1:=by omega
 rw [s l2 q1 (by omega) (by omega)] at key
 generalize g2:(l2+q1)/2251799813685248=q2 at key
 have b2:0≤q2∧q2≤1:=by omega
 rw [s l3 q2 (by omega) (by omega)] at key
 generalize g3:(l3+q2)/2251799813685248=q3 at key
 have b3:0≤q3∧q3≤1:=by omega
 rw [s l4 q3 (by omega) (by omega)] at key
 generalize g4:(l4+q3)/2251799813685248=q4 at key
 have b4:0≤q4∧q4≤1:=by omega
 have e0:bS .u64 19 q4=19*q4:=by rw [kU];exact Int.emod_eq_of_lt (by omega) (by omega)
 rw [e0,s l0 (19*q4) (by omega) (by omega)] at key
 generalize j0:(l0+19*q4)/2251799813685248=c0 at key
 have d0:0≤c0∧c0≤1:=by omega
 rw [s l1 c0 (by omega) (by omega)] at key
 generalize j1:(l1+c0)/2251799813685248=c1 at key
 have d1:0≤c1∧c1≤1:=by omega
 rw [s l2 c1 (by omega) (by omega)] at key
 generalize j2:(l2+c1)/2251799813685248=c2 at key
 have d2:0≤c2∧c2≤1:=by omega
 rw [s l3 c2 (by omega) (by omega)] at key
 generalize j3:(l3+c2)/2251799813685248=c3 at key
 have d3:0≤c3∧c3≤1:=by omega
 rw [s l4 c3 (by omega) (by omega)] at key
 clear hfv hlv hf hl hf0 hf1 hf2 hf3 hf4 ha hb hc hd he
 rw [key,hv]
 refine ⟨?_,rfl,?_⟩
 ·intro y hy
  simp only [List.mem_cons,List.not_mem_nil,or_false] at hy
  show 0≤y∧y<2251799813685248
  rcases hy with rfl|rfl|rfl|rfl|rfl <;> omega
 ·rw [← wd]
  have hlt:0≤dE [l0,l1,l2,l3,l4]-q4*PF∧dE [l0,l1,l2,l3,l4]-q4*PF<PF:=by
   simp only [dE,PF];omega
  have:dE [l0,l1,l2,l3,l4] % PF=dE [l0,l1,l2,l3,l4]-q4*PF:=by
   have:=rM (x:=dE [l0,l1,l2,l3,l4]) (y:=dE [l0,l1,l2,l3,l4]-q4*PF) (q:=q4) (by omega)
   rw [this];exact Int.emod_eq_of_lt hlt.1 hlt.2
  rw [this]
  simp only [dE,PF] at hlt ⊢
  omega
theorem xH {m n:Nat} (hm:0<m) {v:Int} {f:Nat→List Int→List Int} {K:Nat} (hK:K≤m*n)
  (hf:∀ k t,k<K→Dig (2 ^ m) t→t.length=n→0≤t.getD (k/m) 0→t.getD (k/m) 0<2 ^ (k % m)→f k t=t.set (k/m) (t.getD (k/m) 0+v/2 ^ k % 2*2 ^ (k % m))) :
  ∀ {z:List Int},Dig (2 ^ m) z→z.length=n→num (2 ^ m) z=0→∀ j,j≤K→Dig (2 ^ m) (itr f j z)∧(itr f j z).length=n∧num (2 ^ m) (itr f j z)=v % 2 ^ j:=by
 intro z hz hl h0 j
 induction j with
 |zero =>
  intro _
  rw [bB]
  exact ⟨hz,hl,by rw [h0,Int.pow_zero,Int.emod_one]⟩
 |succ j ih =>
  intro hj
  obtain ⟨h1,h2,h3⟩:=ih (by omega)
  obtain ⟨h4,h5,h6,h7⟩:=AR hm (show j<m*n by omega) h1 h2 h3 rfl
  rw [aq,hf j _ (by omega) h1 h2 (bh (jr m) h1).1 h4]
  exact ⟨h5,h6,h7⟩
theorem Dig.zeros {B:Int} (hB:0<B) (n:Nat):Dig B (List.replicate n 0):=by
 intro x hx
 rw [List.eq_of_mem_replicate hx]
 omega
theorem Av {x:List Int} (hx:Fe x):F33 x=bx 256 32 (dE x % PF):=by
 obtain ⟨w1,w2,w3⟩:=tG hx
 have h:=xH (m:=8) (n:=32) (by decide) (v:=dE x % PF) (f:=sW x) (K:=255) (by decide) (by
  intro k t hk ht hl h1 h2
  unfold sW
  have hd:=bh (jr 51) w1 (i:=k/51)
  have hd':0≤(F52 x).getD (k/51) 0∧(F52 x).getD (k/51) 0<((18446744073709551616:Nat):Int):=⟨hd.1,Int.lt_trans hd.2 (by decide)⟩
  rw [uQ gw (by decide) (show k % 51≤64 by omega) hd',kH (by decide) w1,w3,Be wL (show k % 8<8 by omega) (HP _ _) h1 h2]) (z:=List.replicate 32 0) (Dig.zeros (by decide) 32) rfl (kN _ 32) 255 (by decide)
 obtain ⟨h1,h2,h3⟩:=h
 have e:F33 x=itr (sW x) 255 (List.replicate 32 0):=rfl
 rw [e]
 refine jq (by decide) h1 h2 ?_
 show num (2 ^ 8) _=_
 rw [h3]
 have p1:=Int.emod_nonneg (dE x) (b:=PF) (by decide)
 have p2:=Int.emod_lt_of_pos (dE x) (b:=PF) (by decide)
 refine Int.emod_eq_of_lt p1 (Int.lt_trans p2 (by decide))
end Go.Vm
namespace Go.Vm
open Go
def Bd (K:Int) (xs:List Int):Prop:=∀ x∈xs,-K≤x∧x≤K
theorem Bd.at {K:Int} (hK:0≤K) {xs:List Int} (h:Bd K xs) (i:Nat):-K≤xs.getD i 0∧xs.getD i 0≤K:=by
 rw [List.getD_eq_getElem?_getD]
 cases hj:xs[i]? with
 |none=>simp;omega
 |some v=>exact h v (List.mem_of_getElem? hj)
theorem Bd.set {K:Int} {xs:List Int} {i:Nat} {v:Int} (h:Bd K xs) (hv:-K≤v∧v≤K):Bd K (xs.set i v):=by
 intro y hy
 rcases List.mem_or_eq_of_mem_set hy with h1|h1
 ·exact h y h1
 ·rw [h1];exact hv
theorem Dig.bd {B K:Int} (hK:B≤K) {xs:List Int} (h:Dig B xs):Bd K xs:=by
 intro x hx
 have:=h x hx
 omega
theorem uL {K:Int} (hK:0≤K):∀ {xs:List Int},Bd K xs→-(K*65536 ^ xs.length-K)≤65535*num 65536 xs∧65535*num 65536 xs≤K*65536 ^ xs.length-K
 |[],_=>by simp [num]
 |a :: bs,h=>by
  obtain ⟨h1,h2⟩:=uL hK (xs:=bs) (fun x hx=>h x (List.mem_cons_of_mem _ hx))
  have ha:=h a (by simp)
  rw [List.length_cons,fu,Int.pow_succ,← Int.mul_assoc K]
  omega
def ch (k:Nat) (z:Int × List Int):Int × List Int :=
 ((aa .i64 (aN .i64 (z.2.getD k 0) z.1) 16),z.2.set k (ag .i64 (aN .i64 (z.2.getD k 0) z.1) (cu .i64 (aa .i64 (aN .i64 (z.2.getD k 0) z.1) 16) 16)))
theorem zF {x:Int} {n:Nat} (hn:n≤64) (h:-9223372036854775808≤x*2 ^ n) (h':x*2 ^ n<9223372036854775808):cu .i64 x (n:Int)=x*2 ^ n:=by
 rw [lG .i64 x n hn];exact bm h h'
theorem Jq {k:Nat} {c:Int} {d:List Int} (h1:-2305843009213693952≤d.getD k 0∧d.getD k 0≤2305843009213693952) (h2:-70368744177664≤c∧c≤70368744177664) :
  ch k (c,d)=((d.getD k 0+c)/65536,d.set k ((d.getD k 0+c) % 65536)):=by
 unfold ch
 simp only
 rw [bq (by omega) (by omega)]
 have hx:-4611686018427387904≤d.getD k 0+c∧d.getD k 0+c≤4611686018427387904:=by omega
 generalize d.getD k 0+c=x at *
 have e:aa .i64 x 16=x/65536:=fi .i64 x 16 (by decide)
 have e2:cu .i64 (x/65536) 16=x/65536*65536:=zF (n:=16) (by decide) (by show _≤_*(65536:Int);omega) (by show _*(65536:Int)<_;omega)
 rw [e,e2,ce (by omega) (by omega)]
 congr 2
 omega
theorem lP {α:Type} {xs:List α} {k:Nat} {v:α}:(xs.set k v).take k=xs.take k:=by
 rw [List.take_set,List.set_eq_of_length_le]
 rw [List.length_take];omega
theorem BD {d:List Int} (hd:Bd 2305843009213693952 d):∀ j,j≤d.length →
  (itr ch j (0,d)).2.length=d.length∧(∀ i,i<j→0≤(itr ch j (0,d)).2.getD i 0∧(itr ch j (0,d)).2.getD i 0<65536) ∧
  (∀ i,j≤i→(itr ch j (0,d)).2.getD i 0=d.getD i 0)∧(-70368744177664≤(itr ch j (0,d)).1∧(itr ch j (0,d)).1≤70368744177664) ∧
  num 65536 ((itr ch j (0,d)).2.take j)+(itr ch j (0,d)).1*65536 ^ j=num 65536 (d.take j):=by
 intro j
 induction j with
 |zero=>intro _;rw [bB];refine ⟨rfl,fun i hi=>absurd hi (by omega),fun _ _=>rfl,by simp only;omega,by simp [num]⟩
 |succ j ih =>
  intro hj
  obtain ⟨h1,h2,h3,h4,h5⟩:=ih (by omega)
  rw [aq]
  generalize itr ch j (0,d)=z at *
  obtain ⟨c,d'⟩:=z
  simp only at h1 h2 h3 h4 h5
  have hb:=hd.at (by decide) j
  rw [← h3 j (Nat.le_refl j)] at hb
  rw [Jq hb h4]
  simp only
  refine ⟨by rw [List.length_set];exact h1,?_,?_,?_,?_⟩
  ·intro i hi
   by_cases hij:i=j
   ·subst hij;rw [cz (by omega)];omega
   ·rw [cM (by omega)];exact h2 i (by omega)
  ·intro i hi
   rw [cM (by omega)];exact h3 i (by omega)
  ·omega
  ·rw [dd,lP,cz (by omega),dd,← h3 j (Nat.le_refl j),← h5,Int.pow_succ]
   generalize (65536:Int) ^ j=p
   generalize d'.getD j 0=x
   have:=Int.emod_add_mul_ediv (x+c) 65536
   generalize (x+c) % 65536=r at *
   generalize (x+c)/65536=q at *
   have e:x=r+65536*q-c:=by omega
   subst e
   grind -lia -linarith
theorem lv {B:Int} {xs:List Int} (h:∀ i,i<xs.length→0≤xs.getD i 0∧xs.getD i 0<B):Dig B xs:=by
 intro x hx
 obtain ⟨j,hj,rfl⟩:=List.mem_iff_getElem.1 hx
 have:=h j hj
 rw [List.getD_eq_getElem?_getD,List.getElem?_eq_getElem hj] at this
 exact this
theorem EV:∀ (n:Nat) (v:Int),bx 65536 n (v % 65536 ^ n)=bx 65536 n v:=by
 intro n
 induction n with
 |zero=>intro v;rfl
 |succ n ih =>
  intro v
  rw [gE,gE,Int.pow_succ,Int.mul_comm (65536 ^ n)]
  have hq:(0:Int)<65536 ^ n:=Int.pow_pos (by decide)
  have a1:v % (65536*65536 ^ n) % 65536=v % 65536:=Int.emod_emod_of_dvd _ ⟨65536 ^ n,rfl⟩
  have a2:v % (65536*65536 ^ n)/65536=v/65536 % 65536 ^ n:=by
   have x1:=Int.emod_add_mul_ediv v (65536*65536 ^ n)
   have x2:v/(65536*65536 ^ n)=v/65536/65536 ^ n:=(Int.ediv_ediv_of_nonneg (by decide)).symm
   have x3:=Int.emod_add_mul_ediv (v/65536) (65536 ^ n)
   rw [x2,Int.mul_assoc] at x1
   generalize 65536 ^ n*(v/65536/65536 ^ n)=y at *
   omega
  rw [a1,a2,ih]
theorem oh {d:List Int} {n:Nat} (hn:d.length=n) (hd:Bd 2305843009213693952 d):itr ch n (0,d)=(num 65536 d/65536 ^ n,bx 65536 n (num 65536 d)):=by
 obtain ⟨h1,h2,h3,h4,h5⟩:=BD hd n (by omega)
 generalize itr ch n (0,d)=z at *
 obtain ⟨c,d'⟩:=z
 simp only at h1 h2 h3 h4 h5
 rw [List.take_of_length_le (by omega),List.take_of_length_le (by omega)] at h5
 have hD:Dig 65536 d':=lv (fun i hi=>h2 i (by omega))
 obtain ⟨b1,b2⟩:=jY (by decide) hD
 have hp:(0:Int)<65536 ^ n:=Int.pow_pos (by decide)
 rw [h1,hn] at b2
 have e1:num 65536 d/65536 ^ n=c:=by
  rw [← h5,Int.add_mul_ediv_right _ _ (by omega),Int.ediv_eq_zero_of_lt b1 b2];omega
 have e2:num 65536 d % 65536 ^ n=num 65536 d':=by
  rw [← h5,Int.add_mul_emod_self_right,Int.emod_eq_of_lt b1 b2]
 rw [e1]
 congr 1
 rw [← EV,e2]
 exact jq (by decide) hD (by omega) rfl
end Go.Vm
namespace Go.Vm
open Go
theorem Cy:gN=ch:=rfl
theorem Cu:ml=ch:=rfl
theorem EO:tW=ch:=rfl
def gg (v:Int):Int:=v % 57896044618658097711785492504343953926634992332820282019728792003956564819968+19*(v/57896044618658097711785492504343953926634992332820282019728792003956564819968)
theorem xU (v:Int):gg v % PF=v % PF:=by
 have:gg v=v+(-(v/57896044618658097711785492504343953926634992332820282019728792003956564819968))*PF:=by
  unfold gg PF;omega
 exact rM this
theorem dR {B:Int} (hB:0<B):∀ (n i:Nat) (v:Int),i<n→(bx B n v).getD i 0=v/B ^ i % B
 |0,i,v,h=>absurd h (by omega)
 |n+1,0,v,_=>by rw [gE,List.getD_cons_zero,Int.pow_zero,Int.ediv_one]
 |n+1,i+1,v,h=>by
  rw [gE,List.getD_cons_succ,dR hB n i _ (by omega),Int.ediv_ediv_of_nonneg (by omega),Int.pow_succ,Int.mul_comm (B ^ i)]
theorem ni {w u:Int} {x:Int} (hx:0≤x∧x<65536) (h:u=w % 115792089237316195423570985008687907853269984665640564039457584007913129639936+(x-w/1766847064778384329583297500742918515827483896875618958121606201292619776 % 65536)*1766847064778384329583297500742918515827483896875618958121606201292619776):(bx 65536 16 w).set 15 x=bx 65536 16 u:=by
 have hD:=da (B:=65536) (by decide) 16 w
 have hl:=bF 65536 16 w
 refine jq (by decide) (oH hD hx) (by rw [List.length_set,hl]) ?_
 rw [gZ (by omega),fY (by decide),dR (by decide) _ _ _ (by decide),h]
 rfl
theorem mS {d:List Int} (hl:d.length=16) (hd:Bd 1099511627776 d) (k:Nat) :
  ∃ e,cT k d=(bx 65536 16 (num 65536 d % 57896044618658097711785492504343953926634992332820282019728792003956564819968)).set 0 e ∧
   e=num 65536 d % 65536+19*(num 65536 d/57896044618658097711785492504343953926634992332820282019728792003956564819968) ∧
   Bd 1099511627776 (cT k d)∧(cT k d).length=16∧num 65536 (cT k d)=gg (num 65536 d):=by
 have hb:Bd 2305843009213693952 d:=fun x hx=>by have:=hd x hx;omega
 have hch:=oh hl hb
 have ha:=uL (by decide) hd
 rw [hl] at ha
 have hp:(65536:Int) ^ 16=115792089237316195423570985008687907853269984665640564039457584007913129639936:=by rfl
 rw [hp] at ha hch
 have hq:(65536:Int) ^ 15=1766847064778384329583297500742918515827483896875618958121606201292619776:=by rfl
 unfold cT
 rw [Cy,hch]
 generalize num 65536 d=v at *
 simp only
 rw [dR (by decide) 16 15 v (by decide),hq]
 have e15:aa .i64 (v/1766847064778384329583297500742918515827483896875618958121606201292619776 % 65536) 15=v/1766847064778384329583297500742918515827483896875618958121606201292619776 % 65536/32768:=fi .i64 _ 15 (by decide)
 rw [e15]
 have e16:cu .i64 (v/1766847064778384329583297500742918515827483896875618958121606201292619776 % 65536/32768) 15=v/1766847064778384329583297500742918515827483896875618958121606201292619776 % 65536/32768*32768 :=
  zF (n:=15) (by decide) (by show _≤_*(32768:Int);omega) (by show _*(32768:Int)<_;omega)
 rw [e16,ce (by omega) (by omega)]
 rw [ni (u:=v % 57896044618658097711785492504343953926634992332820282019728792003956564819968) (by omega) (by omega)]
 rw [cR (by omega) (by omega),cR (by omega) (by omega),dR (by decide) 16 0 _ (by decide),Int.pow_zero,Int.ediv_one]
 rw [bq (x:=19*_) (by omega) (by omega),bq (by omega) (by omega)]
 refine ⟨_,rfl,by omega,?_,by rw [List.length_set,bF],?_⟩
 ·exact ((da (B:=65536) (by decide) 16 _).bd (by decide)).set (by omega)
 ·rw [gZ (by rw [bF];decide),fY (by decide),hp,dR (by decide) 16 0 _ (by decide),Int.pow_zero,Int.ediv_one]
  unfold gg
  omega
theorem GA {d:List Int} (hl:d.length=16) (hd:Bd 1099511627776 d):F46 d=bx 65536 16 (num 65536 d % PF):=by
 have ha:=uL (by decide) hd
 rw [hl] at ha
 have hp:(65536:Int) ^ 16=115792089237316195423570985008687907853269984665640564039457584007913129639936:=by rfl
 rw [hp] at ha
 obtain ⟨e1,_,_,b1,l1,n1⟩:=mS hl hd 0
 obtain ⟨e2,_,_,b2,l2,n2⟩:=mS l1 b1 1
 obtain ⟨e3,_,_,b3,l3,n3⟩:=mS l2 b2 2
 obtain ⟨e4,h4,he4,b4,l4,n4⟩:=mS l3 b3 3
 have hi:itr cT 4 d=cT 3 (cT 2 (cT 1 (cT 0 d))):=by rw [aq,aq,aq,aq,bB]
 have hm:num 65536 (cT 2 (cT 1 (cT 0 d))) % PF=num 65536 d % PF:=by rw [n3,xU,n2,xU,n1,xU]
 have hu:0≤num 65536 (cT 2 (cT 1 (cT 0 d)))∧num 65536 (cT 2 (cT 1 (cT 0 d)))<57896044618658097711785492504343953926634992332820282019728792003956564819968:=by
  rw [n3,n2,n1]
  have a1:-4294967296≤gg (num 65536 d)∧gg (num 65536 d)<57896044618658097711785492504343953926634992332820282019728792003956564819968+4294967296:=by
   clear n1 n2 n3 n4 he4 h4 hm
   unfold gg;omega
  generalize gg (num 65536 d)=y at *
  have a2:0≤gg y∧gg y<57896044618658097711785492504343953926634992332820282019728792003956564819968:=by clear n1 n2 n3 n4 he4 h4 hm ha;unfold gg;omega
  generalize gg y=x at *
  unfold gg;omega
 generalize num 65536 (cT 2 (cT 1 (cT 0 d)))=u at *
 rw [← hm]
 have h4':cT 3 (cT 2 (cT 1 (cT 0 d)))=bx 65536 16 u:=by
  rw [h4,he4,Int.emod_eq_of_lt hu.1 hu.2]
  refine jq (by decide) (oH (da (by decide) _ _) (by omega)) (by rw [List.length_set,bF]) ?_
  rw [gZ (by rw [bF];decide),fY (by decide),hp,dR (by decide) 16 0 _ (by decide),Int.pow_zero,Int.ediv_one]
  omega
 unfold F46
 rw [hi,h4',Cu]
 rw [dR (by decide) 16 0 _ (by decide),Int.pow_zero,Int.ediv_one,bq (by omega) (by omega)]
 have hc:=oh (d:=(bx 65536 16 u).set 0 (u % 65536+19)) (n:=16) (by rw [List.length_set,bF]) (((da (B:=65536) (by decide) 16 _).bd (by decide)).set (by omega))
 have hv:num 65536 ((bx 65536 16 u).set 0 (u % 65536+19))=u+19:=by
  rw [gZ (by rw [bF];decide),fY (by decide),hp,dR (by decide) 16 0 _ (by decide),Int.pow_zero,Int.ediv_one]
  omega
 rw [hv] at hc
 rw [hc]
 simp only
 have hq:(65536:Int) ^ 15=1766847064778384329583297500742918515827483896875618958121606201292619776:=by rfl
 rw [dR (by decide) 16 15 (u+19) (by decide),hq]
 by_cases hge:PF≤u
 ·have t:decide ((u+19)/1766847064778384329583297500742918515827483896875618958121606201292619776 % 65536 ≥ 32768)=true:=by
   apply decide_eq_true
   show 32768≤_
   unfold PF at hge
   omega
  have hu2:u % PF=u-PF:=by
   have:=rM (x:=u) (y:=u-PF) (q:=1) (by omega)
   rw [this];refine Int.emod_eq_of_lt (by omega) ?_
   unfold PF;omega
  unfold PF at hge
  rw [t,aD,hu2,ce (by omega) (by omega)]
  refine ni (by omega) ?_
  unfold PF
  omega
 ·have t:decide ((u+19)/1766847064778384329583297500742918515827483896875618958121606201292619776 % 65536 ≥ 32768)=false:=by
   apply decide_eq_false
   show ¬ 32768≤_
   unfold PF at hge
   omega
  rw [t,aA,Int.emod_eq_of_lt hu.1 (by omega)]
end Go.Vm
namespace Go.Vm
open Go
def E (x:List Int) (v:Int):Prop:=Fe x∧dE x % PF=v % PF
theorem E.to {x:List Int} {v w:Int} (h:E x v) (e:v % PF=w % PF):E x w:=⟨h.1,h.2.trans e⟩
theorem LJ {x y:List Int} {v w:Int} (hx:E x v) (hy:E y w):E (F16 x y) (v+w) :=
 ⟨(zP hx.1 hy.1).1,by rw [(zP hx.1 hy.1).2,Int.add_emod,hx.2,hy.2,← Int.add_emod]⟩
theorem KY {x y:List Int} {v w:Int} (hx:E x v) (hy:E y w):E (F18 x y) (v-w) :=
 ⟨(yx hx.1 hy.1).1,by rw [(yx hx.1 hy.1).2,Int.sub_emod,hx.2,hy.2,← Int.sub_emod]⟩
theorem tA {x y:List Int} {v w:Int} (hx:E x v) (hy:E y w):E (F20 x y) (v*w) :=
 ⟨(zS hx.1 hy.1).1,by rw [(zS hx.1 hy.1).2,Int.mul_emod,hx.2,hy.2,← Int.mul_emod]⟩
theorem jt {n:Int} (h:0≤n∧n<4294967296):E (F30 n) n:=by
 have e:F30 n=[n,0,0,0,0]:=by
  unfold F30
  rw [eV,Int.emod_eq_of_lt (by omega) (by omega)]
 rw [e]
 refine ⟨⟨n,0,0,0,0,rfl,by omega,by omega,by omega,by omega,by omega⟩,?_⟩
 simp only [dE]
 congr 1
 omega
theorem Cd {b:List Int} (hb:Dig 256 b) (hl:b.length=32):E (F23 b) (num 256 b % 57896044618658097711785492504343953926634992332820282019728792003956564819968):=by
 have h:=xH (m:=51) (n:=5) (by decide) (v:=num 256 b) (f:=sk b) (K:=255) (by decide) (by
  intro k t hk ht hl h1 h2
  unfold sk
  have hd:=bh (B:=256) (by decide) hb (i:=k/8)
  rw [uQ wL (by decide) (show k % 8≤8 by omega) hd,show b.getD (k/8) 0/2 ^ (k % 8) % 2=num 256 b/2 ^ k % 2 from kH (m:=8) (by decide) hb k,
   Be gw (show k % 51<64 by omega) (HP _ _) h1 h2]) (z:=List.replicate 5 0) (Dig.zeros (by decide) 5) rfl (kN _ 5) 255 (by decide)
 obtain ⟨h1,h2,h3⟩:=h
 have e:F23 b=itr (sk b) 255 (List.replicate 5 0):=by
  unfold F23
  have:((((b.length:Nat):Int):Int) != 32)=false:=by rw [hl];rfl
  rw [this,aA]
  rfl
 rw [← e] at h1 h2 h3
 obtain ⟨a,b',c,d,e',he⟩:=mZ h2
 rw [he] at h1 h3 ⊢
 have hm:∀ x,x∈[a,b',c,d,e']→0≤x∧x<4503599627370496:=fun x hx=>⟨(h1 x hx).1,Int.lt_trans (h1 x hx).2 (by decide)⟩
 refine ⟨⟨a,b',c,d,e',rfl,hm a (by simp),hm b' (by simp),hm c (by simp),hm d (by simp),hm e' (by simp)⟩,?_⟩
 rw [wd,h3]
 rfl
theorem zN {b:List Int}:kR b=decide (b.length=32):=by
 unfold kR
 by_cases h:b.length=32
 ·have:((((b.length:Nat):Int):Int) != 32)=false:=by rw [h];rfl
  rw [this,aA,decide_eq_true h]
 ·have:((((b.length:Nat):Int):Int) != 32)=true:=by
   have:((b.length:Nat):Int)≠32:=by omega
   simpa using this
  rw [this,aD,decide_eq_false h]
theorem E.bytes {x:List Int} {v:Int} (h:E x v):F33 x=bx 256 32 (v % PF):=by rw [Av h.1,h.2]
theorem lK (v:Int):0≤v % PF∧v % PF<PF:=⟨Int.emod_nonneg _ (by decide),Int.emod_lt_of_pos _ (by decide)⟩
theorem Du {v w:Int} (h:bx 256 32 (v % PF)=bx 256 32 (w % PF)):v % PF=w % PF:=by
 have h1:=congrArg (num 256) h
 rw [fY (by decide),fY (by decide)] at h1
 have a:=lK v
 have b:=lK w
 rw [Int.emod_eq_of_lt a.1 (Int.lt_trans a.2 (by decide)),Int.emod_eq_of_lt b.1 (Int.lt_trans b.2 (by decide))] at h1
 exact h1
theorem E.same {x y:List Int} {v w:Int} (hx:E x v) (hy:E y w):F29 x y=decide (v % PF=w % PF):=by
 unfold F29
 rw [hx.bytes,hy.bytes]
 by_cases h:v % PF=w % PF
 ·rw [h,decide_eq_true rfl];exact beq_self_eq_true _
 ·rw [decide_eq_false h]
  exact beq_eq_false_iff_ne.2 fun e=>h (Du e)
theorem E.odd {x:List Int} {v:Int} (hx:E x v):F32 x=decide (v % PF % 2=1):=by
 obtain ⟨w1,w2,w3⟩:=tG hx.1
 have hd:=bh (jr 51) w1 (i:=0)
 have hb:=kH (m:=51) (by decide) w1 0
 have e0:∀ z:Int,z/2 ^ 0 % 2=z % 2:=fun z=>by rw [Int.pow_zero,Int.ediv_one]
 have hb':(F52 x).getD 0 0 % 2=v % PF % 2:=by rw [← hx.2,← w3,← e0 ((F52 x).getD 0 0),← e0 (num _ _)];exact hb
 unfold F32
 rw [wI gw (by decide) ⟨hd.1,Int.lt_trans hd.2 (by decide)⟩,hb']
 rfl
theorem ky {b:List Int} (hb:Dig 256 b):∃ N:Nat,num 256 b=(N:Int)∧N<2 ^ (8*b.length):=by
 obtain ⟨h1,h2⟩:=jY (B:=256) (by decide) hb
 obtain ⟨N,hN⟩:=Int.eq_ofNat_of_zero_le h1
 refine ⟨N,hN,?_⟩
 have e:(256:Int) ^ b.length=((2 ^ (8*b.length):Nat):Int):=by
  rw [Nat.pow_mul,Int.natCast_pow];rfl
 rw [hN,e] at h2
 exact Int.ofNat_lt.1 h2
theorem oC {b:List Int} (hb:Dig 256 b) {N:Nat} (hN:num 256 b=(N:Int)) (j:Nat):ai .u8 (aa .u8 (b.getD (j/8) 0) ((j % 8:Nat):Int)) 1=((N/2 ^ j % 2:Nat):Int):=by
 have hd:=bh (B:=256) (by decide) hb (i:=j/8)
 rw [uQ wL (by decide) (show j % 8≤8 by omega) hd,show b.getD (j/8) 0/2 ^ (j % 8) % 2=num 256 b/2 ^ j % 2 from kH (m:=8) (by decide) hb j,hN]
 rw [Int.natCast_emod,Int.natCast_ediv,Int.natCast_pow]
 rfl
theorem vA {x b:List Int} {v:Int} (hx:E x v) (hb:Dig 256 b) {N:Nat} (hN:num 256 b=(N:Int)):E (F26 x b) (v ^ N):=by
 have hlt:N<2 ^ (8*b.length):=by
  obtain ⟨M,h1,h2⟩:=ky hb
  rw [hN] at h1
  have:N=M:=by omega
  rw [this];exact h2
 have key:∀ k,k≤8*b.length→E (itr (sn x b) k (F30 1)) (v ^ (N/2 ^ (8*b.length-k))):=by
  intro k
  induction k with
  |zero =>
   intro _
   rw [bB,Nat.sub_zero,Nat.div_eq_of_lt hlt,Int.pow_zero]
   exact jt (by decide)
  |succ k ih =>
   intro hk
   have h:=ih (by omega)
   rw [aq]
   generalize itr (sn x b) k (F30 1)=z at *
   unfold sn
   have ej:8*b.length-1-k=8*b.length-(k+1):=by omega
   rw [oC hb hN,ej]
   have e1:N/2 ^ (8*b.length-k)=N/2 ^ (8*b.length-(k+1))/2:=by
    rw [Nat.div_div_eq_div_mul,← Nat.pow_succ]
    congr 2
    omega
   rw [e1] at h
   generalize N/2 ^ (8*b.length-(k+1))=n at *
   have hsq:=tA h h
   rw [← Int.pow_add] at hsq
   rcases Nat.mod_two_eq_zero_or_one n with h0|h0
   ·rw [h0]
    have:(((0:Nat):Int)==1)=false:=rfl
    rw [this,aA]
    have:n/2+n/2=n:=by omega
    rw [this] at hsq
    exact hsq
   ·rw [h0]
    have:(((1:Nat):Int)==1)=true:=rfl
    rw [this,aD]
    have hm:=tA hsq hx
    rw [← Int.pow_succ] at hm
    have:(n/2+n/2).succ=n:=by omega
    rw [this] at hm
    exact hm
 have:=key (8*b.length) (Nat.le_refl _)
 rw [Nat.sub_self,Nat.pow_zero,Nat.div_one] at this
 exact this
end Go.Vm
namespace Go.Vm
open Go
def R (d:List Int) (v:Int):Prop:=d=bx 65536 16 (v % PF)
theorem R.to {x:List Int} {v w:Int} (h:R x v) (e:v % PF=w % PF):R x w:=by unfold R at *;rw [h,e]
def su (B:Int) (h:Nat→Int):Nat→Int
 |0=>0
 |j+1=>su B h j+h j*B ^ j
theorem iD (B:Int) (h:Nat→Int) (j:Nat):su B h (j+1)=su B h j+h j*B ^ j:=rfl
theorem zu (B:Int) (xs:List Int):∀ j,su B (fun i=>xs.getD i 0) j=num B (xs.take j)
 |0=>by simp [su,num]
 |j+1=>by rw [iD,zu B xs j,dd]
theorem jW {B:Int} {xs:List Int} {n:Nat} (h:xs.length=n):su B (fun i=>xs.getD i 0) n=num B xs:=by
 rw [zu,List.take_of_length_le (by omega)]
theorem oS (B:Int) (f g:Nat→Int):∀ j,su B (fun i=>f i+g i) j=su B f j+su B g j
 |0=>rfl
 |j+1=>by rw [iD,iD,iD,oS B f g j,Int.add_mul];omega
theorem oL (B a:Int) (f:Nat→Int):∀ j,su B (fun i=>a*f i) j=a*su B f j
 |0=>by simp [su]
 |j+1=>by rw [iD,iD,oL B a f j,Int.mul_add,Int.mul_assoc]
theorem nQ {B:Int} {f g:Nat→Int}:∀ {j:Nat},(∀ i,i<j→f i=g i)→su B f j=su B g j
 |0,_=>rfl
 |j+1,h=>by rw [iD,iD,nQ (fun i hi=>h i (by omega)),h j (by omega)]
theorem oX {B:Int} {f:Nat→List Int→List Int} {g:Nat→Int} {p:List Int} {n o:Nat} (hn:n+o≤p.length)
  (hf:∀ k z,k<n→z.length=p.length→z.getD (k+o) 0=p.getD (k+o) 0→f k z=z.set (k+o) (g k)) :
  ∀ j,j≤n→(itr f j p).length=p.length∧(∀ i,i<j→(itr f j p).getD (i+o) 0=g i)∧(∀ i,i<o∨j+o≤i→(itr f j p).getD i 0=p.getD i 0) ∧
   num B (itr f j p)=num B p+su B (fun i=>g i-p.getD (i+o) 0) j*B ^ o:=by
 intro j
 induction j with
 |zero=>intro _;rw [bB];exact ⟨rfl,fun i hi=>absurd hi (by omega),fun _ _=>rfl,by simp [su]⟩
 |succ j ih =>
  intro hj
  obtain ⟨h1,h2,h3,h4⟩:=ih (by omega)
  rw [aq]
  generalize itr f j p=z at *
  have hz:=h3 (j+o) (Or.inr (Nat.le_refl _))
  rw [hf j z (by omega) h1 hz]
  refine ⟨by rw [List.length_set,h1],?_,?_,?_⟩
  ·intro i hi
   by_cases hij:i=j
   ·subst hij;rw [cz (by omega)]
   ·rw [cM (by omega)];exact h2 i (by omega)
  ·intro i hi
   rw [cM (by omega)];exact h3 i (by omega)
  ·rw [gZ (by omega),h4,hz,iD,Int.add_mul,Int.mul_assoc _ (B ^ j),← Int.pow_add]
   omega
theorem mp {K:Int} {xs:List Int} (h:∀ i,i<xs.length→-K≤xs.getD i 0∧xs.getD i 0≤K):Bd K xs:=by
 intro x hx
 obtain ⟨j,hj,rfl⟩:=List.mem_iff_getElem.1 hx
 have:=h j hj
 rw [List.getD_eq_getElem?_getD,List.getElem?_eq_getElem hj] at this
 exact this
theorem qA {f:Nat→List Int→List Int} {g:Nat→Int} {p:List Int} {n:Nat} (hn:p.length=n) (K:Int)
  (hf:∀ k z,k<n→z.getD k 0=p.getD k 0→f k z=z.set k (g k)) (hg:∀ k,k<n→-K≤g k∧g k≤K) :
  (itr f n p).length=n∧Bd K (itr f n p)∧num 65536 (itr f n p)=su 65536 g n:=by
 obtain ⟨h1,h2,h3,h4⟩:=oX (B:=65536) (f:=f) (g:=g) (p:=p) (n:=n) (o:=0) (by omega) (fun k z hk _ h=>hf k z hk h) n (Nat.le_refl _)
 refine ⟨by omega,?_,?_⟩
 ·apply mp
  intro i hi
  have:=h2 i (by omega)
  rw [Nat.add_zero] at this
  rw [this]
  exact hg i (by omega)
 ·rw [h4,Int.pow_zero,Int.mul_one,← jW hn]
  have:∀ j,su 65536 (fun i=>p.getD i 0) j+su 65536 (fun i=>g i-p.getD (i+0) 0) j=su 65536 g j:=by
   intro j
   rw [← oS]
   exact nQ fun i _=>by rw [Nat.add_zero];omega
  exact this n
theorem R.len {d:List Int} {v:Int} (h:R d v):d.length=16:=by rw [h,bF]
theorem R.dig {d:List Int} {v:Int} (h:R d v):Dig 65536 d:=by rw [h];exact da (by decide) _ _
theorem R.num {d:List Int} {v:Int} (h:R d v):num 65536 d=v % PF:=by
 rw [h,fY (by decide)]
 have a:=lK v
 exact Int.emod_eq_of_lt a.1 (Int.lt_trans a.2 (by decide))
theorem R.at {d:List Int} {v:Int} (h:R d v) (i:Nat):0≤d.getD i 0∧d.getD i 0<65536:=bh (by decide) h.dig
theorem wH {d:List Int} {v:Int} (hl:d.length=16) (hd:Bd 1099511627776 d) (hv:Go.Vm.num 65536 d % PF=v % PF):R (F46 d) v:=by
 unfold R;rw [GA hl hd,hv]
theorem Ju {x y:List Int} {v w:Int} (hx:R x v) (hy:R y w):R (F17 x y) (v+w):=by
 obtain ⟨h1,h2,h3⟩:=qA (f:=xD y) (g:=fun k=>x.getD k 0+y.getD k 0) hx.len 1099511627776 (by
  intro k z hk hz
  unfold xD
  have a:=hx.at k
  have b:=hy.at k
  rw [hz,bq (by omega) (by omega)]) (by
  intro k hk
  have a:=hx.at k
  have b:=hy.at k
  omega)
 refine wH h1 h2 ?_
 rw [h3,oS,jW hx.len,jW hy.len,hx.num,hy.num,← Int.add_emod]
theorem jk {n:Int} (h:-1099511627776≤n∧n≤1099511627776):R (F31 n) n:=by
 unfold F31
 refine wH rfl ?_ ?_
 ·intro x hx
  simp only [List.mem_cons,List.not_mem_nil,or_false] at hx
  omega
 ·simp [num]
theorem KK {x y:List Int} {v w:Int} (hx:R x v) (hy:R y w):R (F19 x y) (v-w):=by
 obtain ⟨h1,h2,h3⟩:=qA (f:=gl y) (g:=fun k=>x.getD k 0+(-1)*y.getD k 0) hx.len 65536 (by
  intro k z hk hz
  unfold gl
  have a:=hx.at k
  have b:=hy.at k
  rw [hz,ce (by omega) (by omega)];congr 1;omega) (by
  intro k hk
  have a:=hx.at k
  have b:=hy.at k
  omega)
 rw [oS,oL,jW hx.len,jW hy.len,hx.num,hy.num] at h3
 unfold F19
 generalize itr (gl y) 16 x=z at *
 have z0:=h2.at (by decide) 0
 rw [bq (y:=131034) (by omega) (by omega)]
 obtain ⟨k1,k2,k3,k4⟩:=oX (B:=65536) (f:=mc) (g:=fun k=>z.getD (k+1) 0+131070) (p:=z.set 0 (z.getD 0 0+131034)) (n:=14) (o:=1) (by rw [List.length_set];omega) (by
  intro k z' hk hl hz
  unfold mc
  rw [cM (by omega)] at hz
  have b:=h2.at (by decide) (k+1)
  rw [hz,bq (by omega) (by omega)]) 14 (Nat.le_refl _)
 generalize itr mc 14 (z.set 0 (z.getD 0 0+131034))=u at *
 have u15:=k3 15 (by omega)
 rw [cM (by omega)] at u15
 have z15:=h2.at (by decide) 15
 rw [u15,bq (by omega) (by omega)]
 have ul:u.length=16:=by rw [k1,List.length_set,h1]
 refine wH (by rw [List.length_set,ul]) ?_ ?_
 ·refine Bd.set (mp ?_) (by omega)
  intro i hi
  by_cases i0:i=0
  ·have:=k3 0 (by omega)
   rw [cz (by omega)] at this
   rw [i0,this];omega
  ·by_cases i15:i=15
   ·rw [i15,u15];omega
   ·have:=k2 (i-1) (by omega)
    rw [show i-1+1=i by omega] at this
    have b:=h2.at (by decide) i
    rw [this];omega
 ·rw [gZ (by omega),u15,k4,gZ (by omega),h3]
  have e:su 65536 (fun i=>z.getD (i+1) 0+131070-(z.set 0 (z.getD 0 0+131034)).getD (i+1) 0) 14=su 65536 (fun _=>131070) 14:=nQ fun i _=>by rw [cM (by omega)];omega
  have e2:su 65536 (fun _=>131070) 14=53919893334301279589334030174039261347274288845081144962207220498430:=by kernel_rfl
  rw [e,e2]
  have q0:(65536:Int) ^ 0=1:=rfl
  have q1:(65536:Int) ^ 1=65536:=rfl
  have q15:(65536:Int) ^ 15=1766847064778384329583297500742918515827483896875618958121606201292619776:=rfl
  rw [q0,q1,q15]
  have:v % PF + -1*(w % PF)+(z.getD 0 0+131034-z.getD 0 0)*1+53919893334301279589334030174039261347274288845081144962207220498430*65536+(z.getD 15 0+65534-z.getD 15 0)*1766847064778384329583297500742918515827483896875618958121606201292619776=(v % PF-w % PF)+2*PF:=by
   unfold PF;omega
  rw [this,rM rfl,← Int.sub_emod]
theorem ju {B:Int} (hB:0<B):∀ (n m:Nat) (v:Int),bx B (n+m) v=bx B n v++bx B m (v/B ^ n)
 |0,m,v=>by rw [Nat.zero_add,Int.pow_zero,Int.ediv_one];rfl
 |n+1,m,v=>by
  rw [Nat.add_right_comm,gE,ju hB n m,gE,List.cons_append,Int.ediv_ediv_of_nonneg (by omega),Int.pow_succ,Int.mul_comm B]
theorem EN {a b:Int} (ha:0≤a∧a<65536) (hb:0≤b∧b<65536):0≤a*b∧a*b≤4294967296:=by
 refine ⟨Int.mul_nonneg ha.1 hb.1,?_⟩
 have h:=Int.mul_le_mul (a:=a) (b:=b) (c:=65536) (d:=65536) (by omega) (by omega) hb.1 (by omega)
 omega
theorem pM {x y:List Int} {v w:Int} (hx:R x v) (hy:R y w):R (F21 x y) (v*w):=by
 have inner:∀ k0:Nat,k0<16→∀ z:List Int,z.length=32→Bd ((k0:Int)*4294967296) z →
   (kJ x y k0 z).length=32∧Bd (((k0+1:Nat):Int)*4294967296) (kJ x y k0 z)∧num 65536 (kJ x y k0 z)=num 65536 z+x.getD k0 0*num 65536 y*65536 ^ k0:=by
  intro k0 h0 z hz hb
  have hx0:=hx.at k0
  obtain ⟨h1,h2,h3,h4⟩:=oX (B:=65536) (f:=zB x y k0) (g:=fun k=>z.getD (k+k0) 0+x.getD k0 0*y.getD k 0) (p:=z) (n:=16) (o:=k0) (by omega) (by
   intro k z' hk hl he
   unfold zB
   have a:=hb.at (by omega) (k+k0)
   have b:=EN hx0 (hy.at k)
   rw [Nat.add_comm k0 k,he,cR (by omega) (by omega),bq (by omega) (by omega)]) 16 (Nat.le_refl _)
  unfold kJ
  refine ⟨by rw [h1,hz],?_,?_⟩
  ·apply mp
   intro i hi
   have a:=hb.at (by omega) i
   have e:((k0+1:Nat):Int)*4294967296=(k0:Int)*4294967296+4294967296:=by omega
   by_cases hik:i<k0∨16+k0≤i
   ·rw [h3 i hik,e];omega
   ·have:=h2 (i-k0) (by omega)
    rw [show i-k0+k0=i by omega] at this
    have b:=EN hx0 (hy.at (i-k0))
    rw [this,e];omega
  ·rw [h4]
   congr 2
   have e:su 65536 (fun i=>z.getD (i+k0) 0+x.getD k0 0*y.getD i 0-z.getD (i+k0) 0) 16=su 65536 (fun i=>x.getD k0 0*y.getD i 0) 16:=nQ fun i _=>by omega
   rw [e,oL,jW hy.len]
 have outer:∀ j,j≤16→(itr (kJ x y) j (List.replicate 32 0)).length=32∧Bd ((j:Int)*4294967296) (itr (kJ x y) j (List.replicate 32 0))∧num 65536 (itr (kJ x y) j (List.replicate 32 0))=num 65536 (x.take j)*num 65536 y:=by
  intro j
  induction j with
  |zero =>
   intro _
   rw [bB]
   refine ⟨rfl,?_,by rw [kN];simp [num]⟩
   intro a ha
   rw [List.eq_of_mem_replicate ha];omega
  |succ j ih =>
   intro hj
   obtain ⟨h1,h2,h3⟩:=ih (by omega)
   obtain ⟨i1,i2,i3⟩:=inner j (by omega) _ h1 h2
   rw [aq]
   refine ⟨i1,i2,?_⟩
   rw [i3,h3,dd,Int.add_mul]
   congr 1
   rw [Int.mul_assoc,Int.mul_assoc,Int.mul_comm (65536 ^ j)]
 obtain ⟨o1,o2,o3⟩:=outer 16 (Nat.le_refl _)
 rw [List.take_of_length_le (by rw [hx.len];decide),hx.num,hy.num] at o3
 have hch:=oh (n:=32) o1 (fun a ha=>by have:=o2 a ha;omega)
 rw [o3] at hch
 have hV:0≤v % PF*(w % PF):=Int.mul_nonneg (lK v).1 (lK w).1
 have hV2:v % PF*(w % PF)≤3351951982485649274893506249551461531869841455148098344430890360930441007516186694504959566828678008207342894297409383004791299986236948390458062788362601:=by
  have h:=Int.mul_le_mul (a:=v % PF) (b:=w % PF) (c:=PF) (d:=PF) (Int.le_of_lt (lK v).2) (Int.le_of_lt (lK w).2) (lK w).1 (by decide)
  have e:PF*PF=3351951982485649274893506249551461531869841455148098344430890360930441007516186694504959566828678008207342894297409383004791299986236948390458062788362601:=by kernel_rfl
  rw [e] at h
  exact h
 refine R.to (v:=v % PF*(w % PF)) ?_ (Int.mul_emod v w PF).symm
 generalize v % PF*(w % PF)=V at *
 have hsp:=ju (B:=65536) (by decide) 16 16 V
 have e0:F21 x y=F46 (itr (sv x y) 16 (List.replicate 16 0)):=rfl
 have ez:([0,0,0,0,0,0,0,0,0,0,0,0,0,0,0,0,0,0,0,0,0,0,0,0,0,0,0,0,0,0,0,0]:List Int)=List.replicate 32 0:=rfl
 have g1:∀ k,k<16→(bx 65536 32 V).getD k 0=(bx 65536 16 V).getD k 0:=by
  intro k hk
  rw [show 32=16+16 from rfl,hsp,List.getD_eq_getElem?_getD,List.getElem?_append_left (by rw [bF];exact hk),← List.getD_eq_getElem?_getD]
 have g2:∀ k,k<16→(bx 65536 32 V).getD (k+16) 0=(bx 65536 16 (V/65536 ^ 16)).getD k 0:=by
  intro k hk
  rw [show 32=16+16 from rfl,hsp,List.getD_eq_getElem?_getD,List.getElem?_append_right (by rw [bF];omega),bF,Nat.add_sub_cancel,← List.getD_eq_getElem?_getD]
 obtain ⟨h1,h2,h3⟩:=qA (f:=sv x y) (p:=List.replicate 16 0) (n:=16) (g:=fun k=>(bx 65536 16 V).getD k 0+38*(bx 65536 16 (V/65536 ^ 16)).getD k 0) rfl 1099511627776 (by
  intro k z hk hz
  unfold sv
  rw [ez,EO,hch]
  simp only
  rw [g1 k hk,g2 k hk]
  have a:=bh (i:=k) (by decide) (da (B:=65536) (by decide) 16 V)
  have b:=bh (i:=k) (by decide) (da (B:=65536) (by decide) 16 (V/65536 ^ 16))
  rw [cR (by omega) (by omega),bq (by omega) (by omega)]) (by
  intro k hk
  have a:=bh (i:=k) (by decide) (da (B:=65536) (by decide) 16 V)
  have b:=bh (i:=k) (by decide) (da (B:=65536) (by decide) 16 (V/65536 ^ 16))
  omega)
 rw [e0]
 refine wH h1 h2 ?_
 have hp:(65536:Int) ^ 16=115792089237316195423570985008687907853269984665640564039457584007913129639936:=by rfl
 rw [h3,oS,oL,jW (bF _ _ _),jW (bF _ _ _),fY (by decide),fY (by decide),hp]
 have:V=V % 115792089237316195423570985008687907853269984665640564039457584007913129639936+38*(V/115792089237316195423570985008687907853269984665640564039457584007913129639936 % 115792089237316195423570985008687907853269984665640564039457584007913129639936)+(2*(V/115792089237316195423570985008687907853269984665640564039457584007913129639936))*PF:=by
  unfold PF;omega
 exact (rM this).symm
end Go.Vm
namespace Go.Vm
open Go
theorem vZ (b:List Int):∀ j,su 65536 (fun k=>b.getD (2*k) 0+256*b.getD (2*k+1) 0) j=num 256 (b.take (2*j))
 |0=>by simp [su,num]
 |j+1=>by
  rw [iD,vZ b j,show 2*(j+1)=2*j+1+1 by omega,dd,dd,Int.pow_succ]
  have e:(65536:Int) ^ j=256 ^ (2*j):=by rw [Int.pow_mul];rfl
  rw [e,Int.add_mul]
  generalize (256:Int) ^ (2*j)=p
  rw [Int.mul_comm p 256,← Int.mul_assoc,Int.mul_comm 256 (b.getD _ _)]
  omega
theorem ie {x:Int} (h:0≤x∧x<256):IntKind.wrap .i64 x=x:=bm (by omega) (by omega)
theorem IL {b:List Int} (hb:Dig 256 b) (hl:b.length=32):R (F24 b) (num 256 b % 57896044618658097711785492504343953926634992332820282019728792003956564819968):=by
 obtain ⟨h1,h2,h3⟩:=qA (f:=hI b) (p:=List.replicate 16 0) (n:=16) (g:=fun k=>b.getD (2*k) 0+256*b.getD (2*k+1) 0) rfl 65536 (by
  intro k z hk hz
  unfold hI
  have a:=bh (i:=2*k) (by decide) hb
  have c:=bh (i:=2*k+1) (by decide) hb
  rw [ie a,ie c,cR (by omega) (by omega),bq (by omega) (by omega)]) (by
  intro k hk
  have a:=bh (i:=2*k) (by decide) hb
  have c:=bh (i:=2*k+1) (by decide) hb
  omega)
 have h15:0≤(itr (hI b) 16 (List.replicate 16 0)).getD 15 0:=by
  obtain ⟨k1,k2,k3,k4⟩:=oX (B:=65536) (f:=hI b) (p:=List.replicate 16 0) (n:=16) (o:=0) (g:=fun k=>b.getD (2*k) 0+256*b.getD (2*k+1) 0) (by decide) (by
   intro k z hk _ hz
   unfold hI
   have a:=bh (i:=2*k) (by decide) hb
   have c:=bh (i:=2*k+1) (by decide) hb
   rw [ie a,ie c,cR (by omega) (by omega),bq (by omega) (by omega)];rfl) 16 (Nat.le_refl _)
  have:=k2 15 (by decide)
  have a:=bh (i:=30) (by decide) hb
  have c:=bh (i:=31) (by decide) hb
  have e:(itr (hI b) 16 (List.replicate 16 0)).getD 15 0=b.getD 30 0+256*b.getD 31 0:=this
  omega
 rw [vZ,List.take_of_length_le (by omega)] at h3
 have e0:F24 b=F46 ((itr (hI b) 16 (List.replicate 16 0)).set 15 (br ((itr (hI b) 16 (List.replicate 16 0)).getD 15 0) 32768)):=rfl
 have hD:Dig 65536 (itr (hI b) 16 (List.replicate 16 0)):=by
  obtain ⟨k1,k2,k3,k4⟩:=oX (B:=65536) (f:=hI b) (p:=List.replicate 16 0) (n:=16) (o:=0) (g:=fun k=>b.getD (2*k) 0+256*b.getD (2*k+1) 0) (by decide) (by
   intro k z hk _ hz
   unfold hI
   have a:=bh (i:=2*k) (by decide) hb
   have c:=bh (i:=2*k+1) (by decide) hb
   rw [ie a,ie c,cR (by omega) (by omega),bq (by omega) (by omega)];rfl) 16 (Nat.le_refl _)
  apply lv
  intro i hi
  have e:=k2 i (by omega)
  have a:=bh (i:=2*i) (by decide) hb
  have c:=bh (i:=2*i+1) (by decide) hb
  rw [Nat.add_zero] at e
  rw [e];omega
 rw [e0]
 have g15:=kV (B:=65536) (by decide) (i:=15) hD
 rw [h3] at g15
 generalize itr (hI b) 16 (List.replicate 16 0)=d at *
 have b15:=bh (i:=15) (by decide) hD
 have erem:br (d.getD 15 0) 32768=d.getD 15 0 % 32768:=by
  unfold br;exact Int.tmod_eq_emod_of_nonneg h15
 rw [erem]
 refine wH (by rw [List.length_set,h1]) ((hD.bd (by decide)).set (by omega)) ?_
 rw [gZ (by omega),h3,g15]
 have hq:(65536:Int) ^ 15=1766847064778384329583297500742918515827483896875618958121606201292619776:=rfl
 rw [hq]
 congr 1
 obtain ⟨n1,n2⟩:=jY (B:=256) (by decide) hb
 rw [hl] at n2
 have hp:(256:Int) ^ 32=115792089237316195423570985008687907853269984665640564039457584007913129639936:=rfl
 rw [hp] at n2
 omega
theorem R.beq {m n:List Int} {v w:Int} (hm:R m v) (hn:R n w):(m==n)=decide (v % PF=w % PF):=by
 by_cases h:v % PF=w % PF
 ·rw [decide_eq_true h]
  unfold R at hm hn
  rw [hm,hn,h];exact beq_self_eq_true _
 ·rw [decide_eq_false h]
  refine beq_eq_false_iff_ne.2 fun e=>h ?_
  rw [← hm.num,← hn.num,e]
theorem sd {b:List Int} (hb:Dig 256 b) {N:Nat} (hN:num 256 b=(N:Int)) (k j:Nat) (hj:j<8):br (aa .u8 (b.getD k 0) (j:Int)) 2=((N/2 ^ (8*k+j) % 2:Nat):Int):=by
 have h:=oC hb hN (8*k+j)
 rw [show (8*k+j)/8=k by omega,show (8*k+j) % 8=j by omega] at h
 have hd:=bh (B:=256) (by decide) hb (i:=k)
 rw [uQ wL (by decide) (show j≤8 by omega) hd] at h
 rw [← h,fi .u8 _ j (show j≤8 by omega)]
 unfold br
 exact Int.tmod_eq_emod_of_nonneg (Int.ediv_nonneg hd.1 (Int.le_of_lt (jr j)))
theorem pd (x k:Nat):x % 2 ^ (k+1)=x % 2 ^ k+x/2 ^ k % 2*2 ^ k:=by
 have h:=yn (x:Int) k
 have e:∀ n:Nat,(2:Int) ^ n=((2 ^ n:Nat):Int):=fun n=>by rw [Int.natCast_pow];rfl
 rw [e,e] at h
 exact_mod_cast h
theorem Eo {x b:List Int} {v:Int} (hx:R x v) (hb:Dig 256 b) {N:Nat} (hN:num 256 b=(N:Int)):R (F27 x b) (v ^ N):=by
 have inner:∀ k,∀ z:List Int × List Int,R z.1 (v ^ (N % 2 ^ (8*k)))→R z.2 (v ^ (2 ^ (8*k)))→∀ j,j≤8 →
   R (itr (rk b k) j z).1 (v ^ (N % 2 ^ (8*k+j)))∧R (itr (rk b k) j z).2 (v ^ (2 ^ (8*k+j))):=by
  intro k z h1 h2 j
  induction j with
  |zero=>intro _;rw [bB];exact ⟨h1,h2⟩
  |succ j ih =>
   intro hj
   obtain ⟨g1,g2⟩:=ih (by omega)
   rw [aq]
   generalize itr (rk b k) j z=u at *
   unfold rk
   simp only
   rw [sd hb hN k j (by omega)]
   refine ⟨?_,?_⟩
   ·rw [show 8*k+(j+1)=(8*k+j)+1 by omega,pd]
    generalize 8*k+j=i at *
    rcases Nat.mod_two_eq_zero_or_one (N/2 ^ i) with h0|h0
    ·rw [h0,Nat.zero_mul,Nat.add_zero]
     have:(((0:Nat):Int)==1)=false:=rfl
     rw [this,aA]
     exact g1
    ·rw [h0,Nat.one_mul]
     have:(((1:Nat):Int)==1)=true:=rfl
     rw [this,aD,Int.pow_add]
     exact pM g1 g2
   ·rw [show 8*k+(j+1)=(8*k+j)+1 by omega,Nat.pow_succ,Nat.mul_two,Int.pow_add]
    exact pM g2 g2
 have outer:∀ k,k≤b.length→R (itr (xI b) k (F31 1,x)).1 (v ^ (N % 2 ^ (8*k)))∧R (itr (xI b) k (F31 1,x)).2 (v ^ (2 ^ (8*k))):=by
  intro k
  induction k with
  |zero =>
   intro _
   rw [bB,Nat.mul_zero,Nat.pow_zero,Nat.mod_one,Int.pow_zero,Int.pow_one]
   exact ⟨jk (by decide),hx⟩
  |succ k ih =>
   intro hk
   obtain ⟨g1,g2⟩:=ih (by omega)
   rw [aq]
   obtain ⟨i1,i2⟩:=inner k _ g1 g2 8 (Nat.le_refl _)
   rw [show 8*(k+1)=8*k+8 by omega]
   exact ⟨i1,i2⟩
 have hlt:N<2 ^ (8*b.length):=by
  obtain ⟨M,h1,h2⟩:=ky hb
  rw [hN] at h1
  have:N=M:=by omega
  rw [this];exact h2
 have:=(outer b.length (Nat.le_refl _)).1
 rw [Nat.mod_eq_of_lt hlt] at this
 unfold F27
 rw [Nat.sub_zero]
 exact this
theorem AN (v:Int) (j:Nat):v/65536 ^ j=v/256 ^ (2*j):=by
 rw [Int.pow_mul];rfl
theorem Ff {d:List Int} {v:Int} (hd:R d v):∀ j,j≤16→itr (lk d) j (0,[])=(2*j,bx 256 (2*j) (v % PF)):=by
 intro j
 induction j with
 |zero=>intro _;rw [bB];rfl
 |succ j ih =>
  intro hj
  rw [aq,ih (by omega)]
  unfold lk
  simp only
  have h1:d.getD j 0=v % PF/65536 ^ j % 65536:=by rw [hd,dR (by decide) 16 j _ (by omega)]
  have h2:=hd.at j
  have e1:IntKind.wrap .u8 (br (d.getD j 0) 256)=d.getD j 0 % 256:=by
   unfold br
   rw [Int.tmod_eq_emod_of_nonneg h2.1,et];omega
  have e2:IntKind.wrap .u8 (iu .i64 (d.getD j 0) 256)=d.getD j 0/256:=by
   unfold iu
   rw [Int.tdiv_eq_ediv_of_nonneg h2.1,bm (by omega) (by omega),et];omega
  rw [e1,e2,show 2*(j+1)=2*j+2 by omega,ju (by decide) (2*j) 2]
  refine Prod.ext rfl ?_
  simp only
  congr 1
  rw [h1,AN]
  generalize v % PF/256 ^ (2*j)=u
  show _=[u % 256,u/256 % 256]
  congr 1
  ·omega
  ·congr 1;omega
theorem Fs {d:List Int} {v:Int} (hd:R d v):F49 d=bx 256 32 (v % PF):=by
 unfold F49;rw [Ff hd 16 (Nat.le_refl _)]
theorem vm:F50 255 21=[235,255,255,255,255,255,255,255,255,255,255,255,255,255,255,255,255,255,255,255,255,255,255,255,255,255,255,255,255,255,255,127]:=by kernel_rfl
theorem xR:F50 252 2=[254,255,255,255,255,255,255,255,255,255,255,255,255,255,255,255,255,255,255,255,255,255,255,255,255,255,255,255,255,255,255,15]:=by kernel_rfl
theorem xg:F50 253 5=[251,255,255,255,255,255,255,255,255,255,255,255,255,255,255,255,255,255,255,255,255,255,255,255,255,255,255,255,255,255,255,31]:=by kernel_rfl
theorem xe:F51 255 21=[235,255,255,255,255,255,255,255,255,255,255,255,255,255,255,255,255,255,255,255,255,255,255,255,255,255,255,255,255,255,255,127]:=by kernel_rfl
theorem BI:F51 252 2=[254,255,255,255,255,255,255,255,255,255,255,255,255,255,255,255,255,255,255,255,255,255,255,255,255,255,255,255,255,255,255,15]:=by kernel_rfl
theorem Ae:F51 253 5=[251,255,255,255,255,255,255,255,255,255,255,255,255,255,255,255,255,255,255,255,255,255,255,255,255,255,255,255,255,255,255,31]:=by kernel_rfl
def pw:Nat:=57896044618658097711785492504343953926634992332820282019728792003956564819947
def dz:Nat:=7237005577332262213973186563042994240829374041602535252466099000494570602494
def po:Nat:=14474011154664524427946373126085988481658748083205070504932198000989141204987
theorem mO (xs:List Int) (h:xs.length=32):aH xs 32 0 32=xs:=bJ h
theorem Jv {x:List Int} {v:Int} (hx:E x v):E (F25 x) (v ^ pw):=by
 unfold F25
 rw [vm,mO _ rfl]
 exact vA hx (by unfold Dig;decide) (N:=pw) (by kernel_rfl)
theorem Ks {x:List Int} {v:Int} (hx:R x v):R (F28 x) (v ^ pw):=by
 unfold F28
 rw [xe,mO _ rfl]
 exact Eo hx (by unfold Dig;decide) (N:=pw) (by kernel_rfl)
end Go.Vm
namespace Tabn
def bn (n:Nat):Prop:=2≤n∧∀ m,m ∣ n→m=1∨m=n
theorem bn.coprime_of_lt {p k:Nat} (hp:bn p) (h0:0<k) (h1:k<p):Nat.Coprime p k:=by
 rcases hp.2 (Nat.gcd p k) (Nat.gcd_dvd_left p k) with h|h
 ·exact h
 ·have:=Nat.gcd_dvd_right p k
  rw [h] at this
  have:=Nat.le_of_dvd h0 this
  omega
theorem bn.dvd_mul {p a b:Nat} (hp:bn p) (h:p ∣ a*b):p ∣ a∨p ∣ b:=by
 rcases hp.2 (Nat.gcd p a) (Nat.gcd_dvd_left p a) with h1|h1
 ·exact .inr (Nat.Coprime.dvd_of_dvd_mul_left h1 h)
 ·exact .inl (h1 ▸ Nat.gcd_dvd_right p a)
def cV:Nat→Nat→Nat
 |_,0=>1
 |0,_+1=>0
 |n+1,k+1=>cV n k+cV n (k+1)
theorem kZ:∀ n k,n<k→cV n k=0
 |0,0,h=>by omega
 |0,k+1,_=>rfl
 |n+1,0,h=>by omega
 |n+1,k+1,h=>by
  show cV n k+cV n (k+1)=0
  rw [kZ n k (by omega),kZ n (k+1) (by omega)]
theorem ji (n:Nat):cV n 0=1:=by cases n <;> rfl
theorem pj:∀ n,cV n n=1
 |0=>rfl
 |n+1=>by
  show cV n n+cV n (n+1)=1
  rw [pj n,kZ n (n+1) (by omega)]
theorem nE:∀ n k,(n+1)*cV n k=cV (n+1) (k+1)*(k+1)
 |n,0=>by
  show (n+1)*cV n 0=(cV n 0+cV n 1)*1
  induction n with
  |zero=>rfl
  |succ n ih =>
   simp only [ji] at ih ⊢
   have:cV (n+1) 1=cV n 0+cV n 1:=rfl
   rw [this,ji]
   omega
 |0,k+1=>by
  show (0+1)*cV 0 (k+1)=(cV 0 (k+1)+cV 0 (k+2))*(k+2)
  simp [cV]
 |n+1,k+1=>by
  have h1:=nE n k
  have h2:=nE n (k+1)
  have e1:cV (n+2) (k+2)=cV (n+1) (k+1)+cV (n+1) (k+2):=rfl
  have e2:cV (n+1) (k+1)=cV n k+cV n (k+1):=rfl
  show (n+1+1)*cV (n+1) (k+1)=cV (n+2) (k+2)*(k+1+1)
  rw [e1]
  grind
theorem pH {p k:Nat} (hp:bn p) (h0:0<k) (h1:k<p):p ∣ cV p k:=by
 obtain ⟨n,rfl⟩:∃ n,p=n+1:=⟨p-1,by omega⟩
 obtain ⟨j,rfl⟩:∃ j,k=j+1:=⟨k-1,by omega⟩
 have h:=nE n j
 have hd:(n+1) ∣ cV (n+1) (j+1)*(j+1):=⟨cV n j,h.symm⟩
 exact Nat.Coprime.dvd_of_dvd_mul_right (hp.coprime_of_lt h0 h1) hd
def fg (n a:Nat):Nat→Nat
 |0=>0
 |m+1=>fg n a m+cV n m*a ^ m
theorem pN (n a:Nat):∀ m,fg (n+1) a (m+1)=fg n a (m+1)+a*fg n a m
 |0=>by simp [fg,ji]
 |m+1=>by
  have ih:=pN n a m
  have e:cV (n+1) (m+1)=cV n m+cV n (m+1):=rfl
  rw [fg,ih,e,fg,fg,fg,Nat.pow_succ]
  grind
theorem wu (a:Nat):∀ n,(a+1) ^ n=fg n a (n+1)
 |0=>by simp [fg,cV]
 |n+1=>by
  have e:fg n a (n+1+1)=fg n a (n+1):=by
   rw [fg,kZ n (n+1) (by omega)];simp
  rw [Nat.pow_succ,wu a n,pN,e]
  grind
theorem qr {p:Nat} (hp:bn p) (a:Nat):∀ m,m+1≤p→fg p a (m+1) % p=1 % p
 |0,_=>by simp [fg,ji]
 |m+1,h=>by
  rw [fg,Nat.add_mod,qr hp a m (by omega)]
  obtain ⟨c,hc⟩:=pH hp (show 0<m+1 by omega) (by omega)
  rw [hc,Nat.mul_assoc,Nat.mul_mod_right]
  simp
theorem Ak {p:Nat} (hp:bn p) (a:Nat):(a+1) ^ p % p=(a ^ p+1) % p:=by
 have h2:=hp.1
 rw [wu,fg,pj,Nat.one_mul]
 obtain ⟨q,hq⟩:∃ q,p=q+1:=⟨p-1,by omega⟩
 have:=qr hp a q (by omega)
 rw [← hq] at this
 rw [Nat.add_mod,this,← Nat.add_mod,Nat.add_comm]
theorem EY {p:Nat} (hp:bn p):∀ a,a ^ p % p=a % p
 |0=>by rw [Nat.zero_pow (by have:=hp.1;omega)]
 |a+1=>by
  rw [Ak hp,Nat.add_mod,EY hp a,← Nat.add_mod]
theorem lO {p a b:Nat} (h:a % p=b % p):p ∣ a-b:=Nat.dvd_of_mod_eq_zero (Nat.sub_mod_eq_zero_of_mod_eq h)
theorem mD {p a b:Nat} (hle:b≤a) (h:p ∣ a-b):a % p=b % p:=by
 obtain ⟨c,hc⟩:=h
 have:a=b+p*c:=by omega
 rw [this,Nat.add_mul_mod_self_left]
theorem xT {p a b c:Nat} (hp:bn p) (ha:¬ p ∣ a) (h:a*b % p=a*c % p):b % p=c % p:=by
 rcases Nat.le_total b c with hbc|hbc
 ·have h1:p ∣ a*c-a*b:=lO h.symm
  rw [← Nat.mul_sub] at h1
  rcases hp.dvd_mul h1 with h2|h2
  ·exact absurd h2 ha
  ·exact (mD hbc h2).symm
 ·have h1:p ∣ a*b-a*c:=lO h
  rw [← Nat.mul_sub] at h1
  rcases hp.dvd_mul h1 with h2|h2
  ·exact absurd h2 ha
  ·exact (mD hbc h2)
theorem fermat_one {p a:Nat} (hp:bn p) (ha:¬ p ∣ a):a ^ (p-1) % p=1 % p:=by
 refine xT hp ha ?_
 have h2:=hp.1
 have e:a*a ^ (p-1)=a ^ p:=by
  rw [← Nat.pow_succ'];congr 1;omega
 rw [e,Nat.mul_one,EY hp]
def rK (m:Nat):Nat→Nat→Nat→Nat
 |0,_,_=>1 % m
 |f+1,a,e=>if e=0 then 1 % m else if e % 2=1 then a*rK m f (a*a % m) (e/2) % m else rK m f (a*a % m) (e/2)
theorem pmod_eq (m:Nat):∀ f a e,e<2 ^ f→rK m f a e=a ^ e % m
 |0,a,e,h=>by
  have:e=0:=by simpa using h
  subst this
  rfl
 |f+1,a,e,h=>by
  have hlt:e/2<2 ^ f:=by rw [Nat.pow_succ] at h;omega
  have hs:(a*a % m) ^ (e/2) % m=a ^ (2*(e/2)) % m:=by
   rw [← Nat.pow_mod,Nat.pow_mul,Nat.pow_two]
  unfold rK
  by_cases h0:e=0
  ·subst h0;simp
  ·rw [if_neg h0,pmod_eq m f _ _ hlt,hs]
   by_cases h1:e % 2=1
   ·rw [if_pos h1]
    rw [Nat.mul_mod,Nat.mod_mod,← Nat.mul_mod,← Nat.pow_succ']
    congr 2;omega
   ·rw [if_neg h1]
    congr 2;omega
theorem oJ:∀ n,2≤n→∃ r,bn r∧r ∣ n:=by
 intro n
 induction n using Nat.strongRecOn with
 |_ n ih =>
  intro hn
  by_cases hp:bn n
  ·exact ⟨n,hp,Nat.dvd_refl n⟩
  ·have:∃ m,m ∣ n∧m≠1∧m≠n:=by
    apply Classical.byContradiction
    intro h
    apply hp
    refine ⟨hn,fun m hm=>?_⟩
    apply Classical.byContradiction
    intro h2
    exact h ⟨m,hm,fun e=>h2 (.inl e),fun e=>h2 (.inr e)⟩
   obtain ⟨m,hm,h1,h2⟩:=this
   have hle:=Nat.le_of_dvd (by omega) hm
   have h0:m≠0:=by rintro rfl;have:=Nat.eq_zero_of_zero_dvd hm;omega
   obtain ⟨r,hr,hd⟩:=ih m (by omega) (by omega)
   exact ⟨r,hr,Nat.dvd_trans hd hm⟩
theorem lQ {n:Nat} (hn:2≤n) (h:∀ r,bn r→r ∣ n→n<r*r):bn n:=by
 refine ⟨hn,fun m hm=>?_⟩
 obtain ⟨e,he⟩:=hm
 by_cases h1:m=1
 ·exact .inl h1
 by_cases h2:e=1
 ·subst h2;right;omega
 exfalso
 have hm0:m≠0:=by rintro rfl;omega
 have he0:e≠0:=by rintro rfl;omega
 obtain ⟨r,hr,hrd⟩:=oJ m (by omega)
 obtain ⟨s,hs,hsd⟩:=oJ e (by omega)
 have a1:=h r hr (Nat.dvd_trans hrd ⟨e,he⟩)
 have a2:=h s hs (Nat.dvd_trans hsd ⟨m,by rw [he,Nat.mul_comm]⟩)
 have b1:=Nat.le_of_dvd (by omega) hrd
 have b2:=Nat.le_of_dvd (by omega) hsd
 rcases Nat.le_total m e with hle|hle
 ·have:r*r≤m*e:=Nat.mul_le_mul b1 (Nat.le_trans b1 hle)
  omega
 ·have:s*s≤m*e:=Nat.mul_le_mul (Nat.le_trans b2 hle) b2
  omega
theorem ve {p b m:Nat} (k:Nat) (h:b ^ m % p=1 % p):b ^ (m*k) % p=1 % p:=by
 rw [Nat.pow_mul,Nat.pow_mod,h,← Nat.pow_mod,Nat.one_pow]
theorem vQ {p b:Nat}:∀ m n,b ^ m % p=1 % p→b ^ n % p=1 % p→b ^ (Nat.gcd m n) % p=1 % p:=by
 intro m n
 induction m,n using Nat.gcd.induction with
 |H0 n=>intro _ h;simpa using h
 |H1 m n hm ih =>
  intro h1 h2
  rw [Nat.gcd_rec]
  refine ih ?_ h1
  have e:b ^ n=b ^ (m*(n/m))*b ^ (n % m):=by
   rw [← Nat.pow_add,Nat.div_add_mod]
  rw [e,Nat.mul_mod,ve _ h1,← Nat.mul_mod,Nat.one_mul] at h2
  exact h2
theorem qp {n q a t:Nat} (hn:2≤n) (hq:bn q) (he:t*q=n-1) (h1:a ^ (n-1) % n=1 % n)
  (hg:Nat.gcd (a ^ t % n+(n-1)) n=1) {r:Nat} (hr:bn r) (hd:r ∣ n):q ∣ r-1:=by
 have hr2:=hr.1
 have hmod:∀ {x y:Nat},x % n=y % n→x % r=y % r:=by
  intro x y h
  rw [← Nat.mod_mod_of_dvd x hd,h,Nat.mod_mod_of_dvd y hd]
 have hbq:(a ^ t) ^ q % r=1 % r:=by
  rw [← Nat.pow_mul,he];exact hmod h1
 have hrb:¬ r ∣ a ^ t:=by
  intro hdv
  have hz:a ^ t % r=0:=Nat.mod_eq_zero_of_dvd hdv
  rw [Nat.pow_mod,hz,Nat.zero_pow (by have:=hq.1;omega)] at hbq
  rw [Nat.mod_eq_of_lt (by omega:1<r)] at hbq
  simp at hbq
 have hfl:=fermat_one hr hrb
 rcases hq.2 (Nat.gcd q (r-1)) (Nat.gcd_dvd_left _ _) with hgc|hgc
 ·exfalso
  have hone:=vQ q (r-1) hbq hfl
  rw [hgc,Nat.pow_one] at hone
  have hdg:r ∣ a ^ t % n+(n-1):=by
   have h3:(a ^ t % n) % r=1 % r:=by rw [Nat.mod_mod_of_dvd _ hd];exact hone
   have h4:(a ^ t % n+(n-1)) % r=0:=by
    rw [Nat.add_mod,h3,← Nat.add_mod]
    have:1+(n-1)=n:=by omega
    rw [this];exact Nat.mod_eq_zero_of_dvd hd
   exact Nat.dvd_of_mod_eq_zero h4
  have:=Nat.dvd_gcd hdg hd
  rw [hg] at this
  have:=Nat.le_of_dvd (by omega) this
  omega
 ·have:=Nat.gcd_dvd_right q (r-1)
  rwa [hgc] at this
theorem AB {n q a t f:Nat} (hq:bn q) (hn:2≤n) (he:t*q=n-1) (hf:n-1<2 ^ f) (h1:rK n f a (n-1)=1)
  (hg:Nat.gcd (rK n f a t+(n-1)) n=1) (hb:n<q*q):bn n:=by
 have ht:t≤n-1:=by rw [← he];exact Nat.le_mul_of_pos_right t (by have:=hq.1;omega)
 rw [pmod_eq n f a _ hf] at h1
 rw [pmod_eq n f a _ (by omega)] at hg
 refine lQ hn fun r hr hd=>?_
 have h:=qp hn hq he (by rw [h1,Nat.mod_eq_of_lt (by omega:1<n)]) hg hr hd
 have:=Nat.le_of_dvd (by have:=hr.1;omega) h
 have:=Nat.mul_le_mul (show q≤r by omega) (show q≤r by omega)
 omega
theorem sa {n q q' a t t' f:Nat} (hq:bn q) (hq':bn q') (hne:q'<q) (hn:2≤n) (he:t*q=n-1) (he':t'*q'=n-1) (hf:n-1<2 ^ f)
  (h1:rK n f a (n-1)=1) (hg:Nat.gcd (rK n f a t+(n-1)) n=1) (hg':Nat.gcd (rK n f a t'+(n-1)) n=1) (hb:n<(q*q')*(q*q')):bn n:=by
 have ht:t≤n-1:=by rw [← he];exact Nat.le_mul_of_pos_right t (by have:=hq.1;omega)
 have ht':t'≤n-1:=by rw [← he'];exact Nat.le_mul_of_pos_right t' (by have:=hq'.1;omega)
 rw [pmod_eq n f a _ hf] at h1
 rw [pmod_eq n f a _ (by omega)] at hg
 rw [pmod_eq n f a _ (by omega)] at hg'
 have h1':a ^ (n-1) % n=1 % n:=by rw [h1,Nat.mod_eq_of_lt (by omega:1<n)]
 refine lQ hn fun r hr hd=>?_
 have h:=qp hn hq he h1' hg hr hd
 have h':=qp hn hq' he' h1' hg' hr hd
 have hc:Nat.Coprime q q':=hq.coprime_of_lt (by have:=hq'.1;omega) hne
 have:=Nat.le_of_dvd (by have:=hr.1;omega) (Nat.Coprime.mul_dvd_of_dvd_of_dvd hc h h')
 have:=Nat.mul_le_mul (show q*q'≤r by omega) (show q*q'≤r by omega)
 omega
def qT (n:Nat):Bool:=(List.range n).all fun m=>m<2 || n % m != 0
theorem cn {n:Nat} (hn:2≤n) (h:qT n=true):bn n:=by
 refine ⟨hn,fun m hm=>?_⟩
 have hle:=Nat.le_of_dvd (by omega) hm
 by_cases h2:m=n
 ·exact .inr h2
 unfold qT at h
 rw [List.all_eq_true] at h
 have:=h m (List.mem_range.2 (by omega))
 have hz:n % m=0:=Nat.mod_eq_zero_of_dvd hm
 simp [hz] at this
 left
 have h0:m≠0:=by rintro rfl;have:=Nat.eq_zero_of_zero_dvd hm;omega
 omega
theorem GL:bn 97:=cn (by decide) (by decide +kernel)
theorem Fn:bn 103:=cn (by decide) (by decide +kernel)
theorem FG:bn 127:=cn (by decide) (by decide +kernel)
theorem Gc:bn 419:=cn (by decide) (by decide +kernel)
theorem HD:bn 991:=cn (by decide) (by decide +kernel)
theorem Gr:bn 1723:=cn (by decide) (by decide +kernel)
theorem GS:bn 4153:=cn (by decide) (by decide +kernel)
theorem FZ:bn 430751:=AB (q:=1723) (a:=2) (t:=250) (f:=19) Gr (by decide +kernel) (by decide +kernel) (by decide +kernel) (by decide +kernel) (by decide +kernel) (by decide +kernel)
theorem Gy:bn 569003:=sa (q:=419) (q':=97) (a:=2) (t:=1358) (t':=5866) (f:=20) Gc GL (by decide +kernel) (by decide +kernel) (by decide +kernel) (by decide +kernel) (by decide +kernel) (by decide +kernel) (by decide +kernel) (by decide +kernel) (by decide +kernel)
theorem Gu:bn 8574133:=sa (q:=991) (q':=103) (a:=2) (t:=8652) (t':=83244) (f:=24) HD Fn (by decide +kernel) (by decide +kernel) (by decide +kernel) (by decide +kernel) (by decide +kernel) (by decide +kernel) (by decide +kernel) (by decide +kernel) (by decide +kernel)
theorem Ca:bn 2773320623:=AB (q:=569003) (a:=2) (t:=4874) (f:=32) Gy (by decide +kernel) (by decide +kernel) (by decide +kernel) (by decide +kernel) (by decide +kernel) (by decide +kernel)
theorem EG:bn 72106336199:=AB (q:=2773320623) (a:=2) (t:=26) (f:=37) Ca (by decide +kernel) (by decide +kernel) (by decide +kernel) (by decide +kernel) (by decide +kernel) (by decide +kernel)
theorem Bu:bn 1919519569386763:=sa (q:=8574133) (q':=127) (a:=2) (t:=223873314) (t':=15114327318006) (f:=51) Gu FG (by decide +kernel) (by decide +kernel) (by decide +kernel) (by decide +kernel) (by decide +kernel) (by decide +kernel) (by decide +kernel) (by decide +kernel) (by decide +kernel)
theorem Eg:bn 31757755568855353:=sa (q:=430751) (q':=4153) (a:=2) (t:=73726481352) (t':=7646943310584) (f:=55) FZ GS (by decide +kernel) (by decide +kernel) (by decide +kernel) (by decide +kernel) (by decide +kernel) (by decide +kernel) (by decide +kernel) (by decide +kernel) (by decide +kernel)
theorem Dp:bn 75445702479781427272750846543864801:=sa (q:=1919519569386763) (q':=72106336199) (a:=2) (t:=39304471641247389600) (t':=1046311689884858398375200) (f:=116) Bu EG (by decide +kernel) (by decide +kernel) (by decide +kernel) (by decide +kernel) (by decide +kernel) (by decide +kernel) (by decide +kernel) (by decide +kernel) (by decide +kernel)
theorem EJ:bn 74058212732561358302231226437062788676166966415465897661863160754340907:=sa (q:=75445702479781427272750846543864801) (q':=31757755568855353) (a:=2) (t:=981609426360740691344999861639072106) (t':=2331972502653487852620185443007392165117953542933313402) (f:=236) Dp Eg (by decide +kernel) (by decide +kernel) (by decide +kernel) (by decide +kernel) (by decide +kernel) (by decide +kernel) (by decide +kernel) (by decide +kernel) (by decide +kernel)
theorem Dv:bn 57896044618658097711785492504343953926634992332820282019728792003956564819949:=AB (q:=74058212732561358302231226437062788676166966415465897661863160754340907) (a:=2) (t:=781764) (f:=255) EJ (by decide +kernel) (by decide +kernel) (by decide +kernel) (by decide +kernel) (by decide +kernel) (by decide +kernel)
def P:Nat:=57896044618658097711785492504343953926634992332820282019728792003956564819949
theorem prime_P:bn P:=Dv
end Tabn
namespace Tabn
abbrev F:=Fin P
instance:NeZero P:=⟨by decide⟩
theorem HW:0<P:=by decide
theorem jI {a b:F} (h:a*b=0):a=0∨b=0:=by
 have h1:(a*b).val=0:=by rw [h];rfl
 rw [Fin.val_mul] at h1
 have h2:P ∣ a.val*b.val:=Nat.dvd_of_mod_eq_zero h1
 have small:∀ c:F,P ∣ c.val→c=0:=by
  intro c hc
  apply Fin.ext
  show c.val=0
  rcases Nat.eq_zero_or_pos c.val with h0|h0
  ·exact h0
  ·have:=Nat.le_of_dvd h0 hc
   have:=c.isLt
   omega
 rcases prime_P.dvd_mul h2 with h3|h3
 ·exact .inl (small _ h3)
 ·exact .inr (small _ h3)
theorem dh {a b:F} (ha:a≠0) (hb:b≠0):a*b≠0:=fun h=>by
 rcases jI h with h|h
 ·exact ha h
 ·exact hb h
theorem nq {a b c:F} (ha:a≠0) (h:a*b=a*c):b=c:=by
 have h1:a*(b-c)=0:=by grind -lia -linarith
 rcases jI h1 with h2|h2
 ·exact absurd h2 ha
 ·grind -lia -linarith
def eI:Nat:=57896044618658097711785492504343953926634992332820282019728792003956564819947
def Kd (e:Nat) (a:F):F:=⟨a.val ^ e % P,Nat.mod_lt _ HW⟩
def finv (a:F):F:=Kd eI a
theorem iZ {a:F} (h:a≠0):a*finv a=1:=by
 apply Fin.ext
 rw [Fin.val_mul]
 show a.val*(a.val ^ eI % P) % P=1 % P
 have e:eI+1=P-1:=by decide
 rw [Nat.mul_mod_mod,Nat.mul_comm,← Nat.pow_succ]
 show a.val ^ (eI+1) % P=1 % P
 rw [e]
 apply fermat_one prime_P
 intro hd
 apply h
 apply Fin.ext
 show a.val=0
 rcases Nat.eq_zero_or_pos a.val with h0|h0
 ·exact h0
 ·have:=Nat.le_of_dvd h0 hd
  have:=a.isLt
  omega
theorem eI_lit:eI=57896044618658097711785492504343953926634992332820282019728792003956564819947:=rfl
attribute [irreducible] eI
theorem finv_val (a:F):(finv a).val=a.val ^ eI % P:=rfl
attribute [irreducible] finv
theorem fdiv {a b c:F} (hb:b≠0) (h:c=a*finv b):c*b=a:=by
 have:=iZ hb
 grind -lia -linarith
theorem uw {a b c:F} (hb:b≠0) (h:c*b=a):c=a*finv b:=by
 have:=iZ hb
 grind -lia -linarith
theorem Hm:(2:F)≠0:=by decide
theorem MC {a:F} (h:2*a=0):a=0:=by
 rcases jI h with h|h
 ·exact absurd h Hm
 ·exact h
structure Crv where
 a:F
 d:F
 r:F
 sq:r*r=a
 an:a≠0
 nsq:∀ s,s*s≠d
theorem Crv.rn (C:Crv):C.r≠0:=fun h=>C.an (by rw [← C.sq,h];grind -lia -linarith)
theorem Crv.dn (C:Crv):C.d≠0:=fun h=>C.nsq 0 (by rw [h];grind -lia -linarith)
def On (C:Crv) (x y:F):Prop:=C.a*x ^ 2+y ^ 2=1+C.d*x ^ 2*y ^ 2
theorem yJ (C:Crv) {p q:F} (hq:q≠0) (h:p ^ 2=C.d*q ^ 2):False:=by
 have:=iZ hq
 exact C.nsq (p*finv q) (by grind -lia -linarith)
theorem Crv.complete (C:Crv) {x1 y1 x2 y2:F} (h1:On C x1 y1) (h2:On C x2 y2) (e:F) (he:e*e=1):C.d*x1*x2*y1*y2≠e:=by
 intro h
 unfold On at h1 h2
 have hr:=C.sq
 have hne:e≠0:=by
  intro h0
  rw [h0] at he
  have:(0:F)=1:=by grind -lia -linarith
  exact absurd this (by decide)
 have hx1:x1≠0:=by intro h0;apply hne;rw [← h,h0];grind -lia -linarith
 have hy1:y1≠0:=by intro h0;apply hne;rw [← h,h0];grind -lia -linarith
 have hx2:x2≠0:=by intro h0;apply hne;rw [← h,h0];grind -lia -linarith
 have k1:(C.r*x1+e*y1) ^ 2=C.d*(x1*y1*(C.r*x2+y2)) ^ 2:=by grind -lia -linarith
 have k2:(C.r*x1-e*y1) ^ 2=C.d*(x1*y1*(C.r*x2-y2)) ^ 2:=by grind -lia -linarith
 by_cases g1:C.r*x2+y2=0
 ·by_cases g2:C.r*x2-y2=0
  ·have:2*(C.r*x2)=0:=by grind -lia -linarith
   rcases jI (MC this) with h3|h3
   ·exact C.rn h3
   ·exact hx2 h3
  ·exact yJ C (dh (dh hx1 hy1) g2) k2
 ·exact yJ C (dh (dh hx1 hy1) g1) k1
theorem Crv.dp (C:Crv) {x1 y1 x2 y2:F} (h1:On C x1 y1) (h2:On C x2 y2):1+C.d*x1*x2*y1*y2≠0:=fun h =>
 C.complete h1 h2 (-1) (by grind -lia -linarith) (by grind -lia -linarith)
theorem Crv.dm (C:Crv) {x1 y1 x2 y2:F} (h1:On C x1 y1) (h2:On C x2 y2):1-C.d*x1*x2*y1*y2≠0:=fun h =>
 C.complete h1 h2 1 (by grind -lia -linarith) (by grind -lia -linarith)
structure Pt (C:Crv) where
 x:F
 y:F
 on:On C x y
theorem Pt.eq {C:Crv} {p q:Pt C} (hx:p.x=q.x) (hy:p.y=q.y):p=q:=by
 cases p;cases q;simp only at hx hy;subst hx hy;rfl
def BB (C:Crv) (x1 y1 x2 y2:F):F:=(x1*y2+x2*y1)*finv (1+C.d*x1*x2*y1*y2)
def AQ (C:Crv) (x1 y1 x2 y2:F):F:=(y1*y2-C.a*x1*x2)*finv (1-C.d*x1*x2*y1*y2)
theorem IN (a d x1 y1 x2 y2:F) (h1:a*x1^2+y1^2=1+d*x1^2*y1^2) (h2:a*x2^2+y2^2=1+d*x2^2*y2^2) :
 a*(x1*y2+x2*y1)^2*(1-d*x1*x2*y1*y2)^2+(y1*y2-a*x1*x2)^2*(1+d*x1*x2*y1*y2)^2=(1+d*x1*x2*y1*y2)^2*(1-d*x1*x2*y1*y2)^2+d*(x1*y2+x2*y1)^2*(y1*y2-a*x1*x2)^2:=by
 grind -lia -linarith
theorem If (C:Crv) {x1 y1 x2 y2:F} (h1:On C x1 y1) (h2:On C x2 y2):On C (BB C x1 y1 x2 y2) (AQ C x1 y1 x2 y2):=by
 have p:=iZ (C.dp h1 h2)
 have m:=iZ (C.dm h1 h2)
 have k:=IN C.a C.d x1 y1 x2 y2 h1 h2
 unfold On BB AQ
 generalize finv (1+C.d*x1*x2*y1*y2)=u at *
 generalize finv (1-C.d*x1*x2*y1*y2)=v at *
 generalize 1+C.d*x1*x2*y1*y2=s at *
 generalize 1-C.d*x1*x2*y1*y2=t at *
 generalize x1*y2+x2*y1=X at *
 generalize y1*y2-C.a*x1*x2=Y at *
 have hs:s ^ 2*u ^ 2=1:=by grind -lia -linarith
 have ht:t ^ 2*v ^ 2=1:=by grind -lia -linarith
 grind -lia -linarith
def Pt.add {C:Crv} (p q:Pt C):Pt C:=⟨BB C p.x p.y q.x q.y,AQ C p.x p.y q.x q.y,If C p.on q.on⟩
def Pt.zero (C:Crv):Pt C:=⟨0,1,by unfold On;grind -lia -linarith⟩
def Pt.neg {C:Crv} (p:Pt C):Pt C:=⟨-p.x,p.y,by have:=p.on;unfold On at *;grind -lia -linarith⟩
theorem Pt.add_comm {C:Crv} (p q:Pt C):p.add q=q.add p:=by
 apply Pt.eq
 ·show BB C _ _ _ _=BB C _ _ _ _
  unfold BB
  have e:1+C.d*p.x*q.x*p.y*q.y=1+C.d*q.x*p.x*q.y*p.y:=by grind -lia -linarith
  rw [e];grind -lia -linarith
 ·show AQ C _ _ _ _=AQ C _ _ _ _
  unfold AQ
  have e:1-C.d*p.x*q.x*p.y*q.y=1-C.d*q.x*p.x*q.y*p.y:=by grind -lia -linarith
  rw [e];grind -lia -linarith
theorem sB {C:Crv} (p q:Pt C):(p.add q).x*(1+C.d*p.x*q.x*p.y*q.y)=p.x*q.y+q.x*p.y:=fdiv (C.dp p.on q.on) rfl
theorem rc {C:Crv} (p q:Pt C):(p.add q).y*(1-C.d*p.x*q.x*p.y*q.y)=p.y*q.y-C.a*p.x*q.x:=fdiv (C.dm p.on q.on) rfl
theorem IQ {C:Crv} {p q s:Pt C} (hx:s.x*(1+C.d*p.x*q.x*p.y*q.y)=p.x*q.y+q.x*p.y) (hy:s.y*(1-C.d*p.x*q.x*p.y*q.y)=p.y*q.y-C.a*p.x*q.x):p.add q=s:=by
 apply Pt.eq
 ·apply nq (C.dp p.on q.on)
  have:=sB p q
  grind -lia -linarith
 ·apply nq (C.dm p.on q.on)
  have:=rc p q
  grind -lia -linarith
theorem Pt.zero_add {C:Crv} (p:Pt C):(Pt.zero C).add p=p:=by
 apply IQ
 ·show p.x*(1+C.d*0*p.x*1*p.y)=0*p.y+p.x*1;grind -lia -linarith
 ·show p.y*(1-C.d*0*p.x*1*p.y)=1*p.y-C.a*0*p.x;grind -lia -linarith
theorem Fh (a d x1 y1 x2 y2 x3 y3:F) (h1:a*x1^2+y1^2=1+d*x1^2*y1^2) (h2:a*x2^2+y2^2=1+d*x2^2*y2^2) (h3:a*x3^2+y3^2=1+d*x3^2*y3^2) :
 ((x1*y2+x2*y1)*y3*(1-d*x1*x2*y1*y2)+x3*(y1*y2-a*x1*x2)*(1+d*x1*x2*y1*y2))*(1-(d*x2*x3*y2*y3)^2+d*(x2*y3+x3*y2)*(y2*y3-a*x2*x3)*x1*y1)
 =(x1*(y2*y3-a*x2*x3)*(1+d*x2*x3*y2*y3)+(x2*y3+x3*y2)*y1*(1-d*x2*x3*y2*y3))*(1-(d*x1*x2*y1*y2)^2+d*(x1*y2+x2*y1)*(y1*y2-a*x1*x2)*x3*y3):=by
 grind -lia -linarith
theorem GX (a d x1 y1 x2 y2 x3 y3:F) (h1:a*x1^2+y1^2=1+d*x1^2*y1^2) (h2:a*x2^2+y2^2=1+d*x2^2*y2^2) (h3:a*x3^2+y3^2=1+d*x3^2*y3^2) :
 ((y1*y2-a*x1*x2)*y3*(1+d*x1*x2*y1*y2)-a*(x1*y2+x2*y1)*x3*(1-d*x1*x2*y1*y2))*(1-(d*x2*x3*y2*y3)^2-d*(x2*y3+x3*y2)*(y2*y3-a*x2*x3)*x1*y1)
 =(y1*(y2*y3-a*x2*x3)*(1+d*x2*x3*y2*y3)-a*x1*(x2*y3+x3*y2)*(1-d*x2*x3*y2*y3))*(1-(d*x1*x2*y1*y2)^2-d*(x1*y2+x2*y1)*(y1*y2-a*x1*x2)*x3*y3):=by
 grind -lia -linarith
theorem CI (D d u X v Y x y l e:F) (hu:u*(1+D)=X) (hv:v*(1-D)=Y) (hl:l*(1+d*u*x*v*y)=u*y+x*v) :
  l*(1-D ^ 2+d*X*Y*x*y)=X*y*(1-D)+x*Y*(1+D):=by
 subst hu hv
 grind -lia -linarith
theorem zA (D a d u X v Y x y l e:F) (hu:u*(1+D)=X) (hv:v*(1-D)=Y) (hl:l*(1-d*u*x*v*y)=v*y-a*u*x) :
  l*(1-D ^ 2-d*X*Y*x*y)=Y*y*(1+D)-a*X*x*(1-D):=by
 subst hu hv
 grind -lia -linarith
theorem sS {D d u X v Y x y:F} (hu:u*(1+D)=X) (hv:v*(1-D)=Y) (n1:1+D≠0) (n2:1-D≠0) (n3:1+d*u*x*v*y≠0):1-D ^ 2+d*X*Y*x*y≠0:=by
 have e:1-D ^ 2+d*X*Y*x*y=(1+D)*(1-D)*(1+d*u*x*v*y):=by
  subst hu hv
  grind -lia -linarith
 rw [e];exact dh (dh n1 n2) n3
theorem qM {D d u X v Y x y:F} (hu:u*(1+D)=X) (hv:v*(1-D)=Y) (n1:1+D≠0) (n2:1-D≠0) (n3:1-d*u*x*v*y≠0):1-D ^ 2-d*X*Y*x*y≠0:=by
 have e:1-D ^ 2-d*X*Y*x*y=(1+D)*(1-D)*(1-d*u*x*v*y):=by
  subst hu hv
  grind -lia -linarith
 rw [e];exact dh (dh n1 n2) n3
theorem AL {l r nl dl nr dr:F} (h1:l*dl=nl) (h2:r*dr=nr) (h3:nl*dr=nr*dl) (n1:dl≠0) (n2:dr≠0):l=r:=by
 apply nq (dh n1 n2)
 subst h1 h2
 grind -lia -linarith
theorem Pt.add_assoc {C:Crv} (p q s:Pt C):(p.add q).add s=p.add (q.add s):=by
 have ax:=Fh C.a C.d p.x p.y q.x q.y s.x s.y p.on q.on s.on
 have ay:=GX C.a C.d p.x p.y q.x q.y s.x s.y p.on q.on s.on
 have ux:=sB p q
 have uy:=rc p q
 have vx:=sB q s
 have vy:=rc q s
 have n1:=C.dp p.on q.on
 have n2:=C.dm p.on q.on
 have n3:=C.dp q.on s.on
 have n4:=C.dm q.on s.on
 apply Pt.eq
 ·have lx:=CI _ C.d _ _ _ _ s.x s.y _ 0 ux uy (sB (p.add q) s)
  have rx:=CI _ C.d _ _ _ _ p.x p.y ((q.add s).add p).x 0 vx vy (sB (q.add s) p)
  have m1:=sS (d:=C.d) (x:=s.x) (y:=s.y) ux uy n1 n2 (C.dp (p.add q).on s.on)
  have m2:=sS (d:=C.d) (x:=p.x) (y:=p.y) vx vy n3 n4 (C.dp (q.add s).on p.on)
  rw [Pt.add_comm p (q.add s)]
  exact AL lx rx (by clear lx rx m1 m2 ux uy vx vy n1 n2 n3 n4 ay;grind -lia -linarith) m1 m2
 ·have lx:=zA _ C.a C.d _ _ _ _ s.x s.y _ 0 ux uy (rc (p.add q) s)
  have rx:=zA _ C.a C.d _ _ _ _ p.x p.y ((q.add s).add p).y 0 vx vy (rc (q.add s) p)
  have m1:=qM (d:=C.d) (x:=s.x) (y:=s.y) ux uy n1 n2 (C.dm (p.add q).on s.on)
  have m2:=qM (d:=C.d) (x:=p.x) (y:=p.y) vx vy n3 n4 (C.dm (q.add s).on p.on)
  rw [Pt.add_comm p (q.add s)]
  exact AL lx rx (by clear lx rx m1 m2 ux uy vx vy n1 n2 n3 n4 ax;grind -lia -linarith) m1 m2
def Pt.mul {C:Crv}:Nat→Pt C→Pt C
 |0,_=>Pt.zero C
 |n+1,p=>(Pt.mul n p).add p
theorem Pt.add_zero {C:Crv} (p:Pt C):p.add (Pt.zero C)=p:=by rw [Pt.add_comm,Pt.zero_add]
theorem Pt.mul_one {C:Crv} (p:Pt C):Pt.mul 1 p=p:=Pt.zero_add p
theorem Pt.add_mul {C:Crv} (m n:Nat) (p:Pt C):Pt.mul (m+n) p=(Pt.mul m p).add (Pt.mul n p):=by
 induction n with
 |zero=>show Pt.mul m p=(Pt.mul m p).add (Pt.zero C);rw [Pt.add_zero]
 |succ n ih=>show (Pt.mul (m+n) p).add p=(Pt.mul m p).add ((Pt.mul n p).add p);rw [ih,Pt.add_assoc]
theorem Pt.mul_mul {C:Crv} (m n:Nat) (p:Pt C):Pt.mul (m*n) p=Pt.mul m (Pt.mul n p):=by
 induction m with
 |zero=>rw [Nat.zero_mul];rfl
 |succ m ih=>rw [Nat.succ_mul,Pt.add_mul,ih];rfl
theorem Pt.mul_zero {C:Crv} (m:Nat):Pt.mul m (Pt.zero C)=Pt.zero C:=by
 induction m with
 |zero=>rfl
 |succ m ih=>show (Pt.mul m (Pt.zero C)).add _=_;rw [ih,Pt.zero_add]
end Tabn
namespace Tabn
def jd (a:F):Nat→F
 |0=>1
 |n+1=>jd a n*a
theorem ww (a:F) (n:Nat):(jd a n).val=a.val ^ n % P:=by
 induction n with
 |zero=>rfl
 |succ n ih =>
  show (jd a n*a).val=_
  rw [Fin.val_mul,ih,Nat.pow_succ,Nat.mod_mul_mod]
theorem DK (a:F) (m n:Nat):jd a (m+n)=jd a m*jd a n:=by
 induction n with
 |zero=>show jd a m=jd a m*1;grind -lia -linarith
 |succ n ih=>show jd a (m+n)*a=jd a m*(jd a n*a);rw [ih];grind -lia -linarith
theorem Cq (a b:F) (n:Nat):jd (a*b) n=jd a n*jd b n:=by
 induction n with
 |zero=>show (1:F)=1*1;grind -lia -linarith
 |succ n ih=>show jd (a*b) n*(a*b)=jd a n*a*(jd b n*b);rw [ih];grind -lia -linarith
attribute [irreducible] jd
def eH:Nat:=28948022309329048855892746252171976963317496166410141009864396001978282409974
theorem II:eH+eH=P-1:=by decide
theorem KT:eH<2 ^ 256:=by decide
theorem IE:rK P 256 236839902240 eH=P-1:=by decide +kernel
attribute [irreducible] eH
theorem Dl {a:F} (h:a≠0):jd a (P-1)=1:=by
 apply Fin.ext
 rw [ww]
 show a.val ^ (P-1) % P=1 % P
 apply fermat_one prime_P
 intro hd
 apply h
 apply Fin.ext
 show a.val=0
 rcases Nat.eq_zero_or_pos a.val with h0|h0
 ·exact h0
 ·have:=Nat.le_of_dvd h0 hd
  have:=a.isLt
  omega
theorem wz:(-1:F).val=P-1:=by decide
theorem BK {a:F} {n e:Nat} (hn:a.val=n) (he:e<2 ^ 256) (h:rK P 256 n e=P-1):jd a e = -1:=by
 apply Fin.ext
 rw [ww,wz,hn,← pmod_eq P 256 n e he,h]
theorem ya {a r:F} (ha:a≠0) (h:r*r=a):jd a eH=1:=by
 have hr:r≠0:=by intro h0;apply ha;rw [← h,h0];grind -lia -linarith
 rw [← h,Cq,← DK,II,Dl hr]
theorem xu:(1:F)≠-1:=by decide
theorem Cn (r:F):r*r≠236839902240:=by
 intro h
 have h1:=ya (a:=236839902240) (by decide) h
 have h2:jd 236839902240 eH = -1:=BK (n:=236839902240) (by decide) KT IE
 exact xu (h1.symm.trans h2)
def Ji (X Z:F):F:=(X+Z)*(X+Z)*((X-Z)*(X-Z))
def KZ (X Z:F):F:=(X+Z)*(X+Z)-(X-Z)*(X-Z)
def Ka (X Z:F):F:=KZ X Z*((X-Z)*(X-Z)+121666*KZ X Z)
def JY (X1 Z1 X2 Z2:F):F:=(X1*X2-Z1*Z2)*(X1*X2-Z1*Z2)
def Je (u X1 Z1 X2 Z2:F):F:=u*((X1*Z2-Z1*X2)*(X1*Z2-Z1*X2))
end Tabn
namespace Tabn
def iR:F:=19681161376707505956807079304988542015446066515923890162744021073123829784752
theorem CA:iR*iR = -1:=by decide +kernel
def sH:F:=121665
def oV:F:=121666
theorem FW:oV≠0:=by decide
theorem JT:16*sH*oV=236839902240:=by decide
def dT:F:=0-sH*finv oV
theorem Ha:dT*oV=0-sH:=by
 have h:=iZ FW
 unfold dT
 generalize finv oV=u at *
 generalize oV=v at *
 generalize sH=w at *
 grind -lia -linarith
theorem ID (s:F):s*s≠dT:=by
 intro h
 have h1:=Ha
 have h2:=CA
 have h3:=JT
 refine Cn (4*(s*oV*iR)) ?_
 rw [← h3]
 rw [← h] at h1
 generalize oV=v at *
 generalize sH=w at *
 generalize iR=i at *
 grind -lia -linarith
attribute [irreducible] iR sH oV dT
def CT:Crv:=⟨-1,dT,iR,CA,by decide,ID⟩
structure Ex (p:Pt CT) (x y z t:F):Prop where
 z0:z≠0
 x:x=p.x*z
 y:y=p.y*z
 t:t=p.x*p.y*z
theorem FP:(2:F)≠0:=by decide
theorem IT {px py qx qy sx sy d z1 z2:F} (hx:sx*(1+d*px*qx*py*qy)=px*qy+qx*py) (hy:sy*(1-d*px*qx*py*qy)=py*qy - -1*px*qx) :
  (py*z1+px*z1)*(qy*z2+qx*z2)-(py*z1-px*z1)*(qy*z2-qx*z2)=2*(z1*z2)*(sx*(1+d*px*qx*py*qy)) ∧
  (py*z1+px*z1)*(qy*z2+qx*z2)+(py*z1-px*z1)*(qy*z2-qx*z2)=2*(z1*z2)*(sy*(1-d*px*qx*py*qy)) ∧
  z1*z2+z1*z2-px*py*z1*(qx*qy*z2)*(d+d)=2*(z1*z2)*(1-d*px*qx*py*qy) ∧
  z1*z2+z1*z2+px*py*z1*(qx*qy*z2)*(d+d)=2*(z1*z2)*(1+d*px*qx*py*qy):=by
 refine ⟨?_,?_,?_,?_⟩ <;> grind -lia -linarith
theorem Ls (w s u v:F):w*(s*u)*(w*v)=s*(w*v*(w*u)):=by grind -lia -linarith
theorem Lx (w s u v:F):w*u*(w*(s*v))=s*(w*v*(w*u)):=by grind -lia -linarith
theorem Lb (w s r u v:F):w*(s*u)*(w*(r*v))=s*r*(w*v*(w*u)):=by grind -lia -linarith
theorem Iy {p q:Pt CT} {x1 y1 z1 t1 x2 y2 z2 t2:F} (h:Ex p x1 y1 z1 t1) (h':Ex q x2 y2 z2 t2) :
  Ex (p.add q) (((y1+x1)*(y2+x2)-(y1-x1)*(y2-x2))*(z1*z2+z1*z2-t1*t2*(dT+dT)))
   ((z1*z2+z1*z2+t1*t2*(dT+dT))*((y1+x1)*(y2+x2)+(y1-x1)*(y2-x2)))
   ((z1*z2+z1*z2-t1*t2*(dT+dT))*(z1*z2+z1*z2+t1*t2*(dT+dT)))
   (((y1+x1)*(y2+x2)-(y1-x1)*(y2-x2))*((y1+x1)*(y2+x2)+(y1-x1)*(y2-x2))):=by
 obtain ⟨a0,rfl,rfl,rfl⟩:=h
 obtain ⟨b0,rfl,rfl,rfl⟩:=h'
 have ax:=sB p q
 have ay:=rc p q
 have n1:=CT.dp p.on q.on
 have n2:=CT.dm p.on q.on
 have hd:CT.d=dT:=rfl
 have ha:CT.a = -1:=rfl
 rw [hd] at ax ay n1 n2
 rw [ha] at ay
 obtain ⟨e1,e2,e3,e4⟩:=IT (z1:=z1) (z2:=z2) ax ay
 rw [e1,e2,e3,e4]
 have hz:2*(z1*z2)≠0:=dh FP (dh a0 b0)
 refine ⟨dh (dh hz n2) (dh hz n1),?_,?_,?_⟩
 ·exact Ls _ _ _ _
 ·exact Lx _ _ _ _
 ·exact Lb _ _ _ _ _
structure Pj (p:Pt CT) (x y z:F):Prop where
 z0:z≠0
 x:x=p.x*z
 y:y=p.y*z
theorem JD {px py qx qy sx sy d z1 z2:F} (hx:sx*(1+d*px*qx*py*qy)=px*qy+qx*py) (hy:sy*(1-d*px*qx*py*qy)=py*qy - -1*px*qx) :
  px*z1*(qy*z2)+qx*z2*(py*z1)=(z1*z2)*(sx*(1+d*px*qx*py*qy)) ∧
  py*z1*(qy*z2)+px*z1*(qx*z2)=(z1*z2)*(sy*(1-d*px*qx*py*qy)) ∧
  z1*z2*(z1*z2)+d*(px*z1*(qx*z2)*(py*z1*(qy*z2)))=(z1*z2)*(z1*z2)*(1+d*px*qx*py*qy) ∧
  z1*z2*(z1*z2)-d*(px*z1*(qx*z2)*(py*z1*(qy*z2)))=(z1*z2)*(z1*z2)*(1-d*px*qx*py*qy):=by
 refine ⟨?_,?_,?_,?_⟩ <;> grind -lia -linarith
theorem MF (w s u v:F):w*(s*u)*w*(w*w*v)=s*(w*w*u*(w*w*v)):=by grind -lia -linarith
theorem Lz (w s u v:F):w*(s*v)*w*(w*w*u)=s*(w*w*u*(w*w*v)):=by grind -lia -linarith
theorem Bw {p q:Pt CT} {x1 y1 z1 x2 y2 z2:F} (h:Pj p x1 y1 z1) (h':Pj q x2 y2 z2) :
  Pj (p.add q) ((x1*y2+x2*y1)*(z1*z2)*(z1*z2*(z1*z2)-dT*(x1*x2*(y1*y2))))
   ((y1*y2+x1*x2)*(z1*z2)*(z1*z2*(z1*z2)+dT*(x1*x2*(y1*y2))))
   ((z1*z2*(z1*z2)+dT*(x1*x2*(y1*y2)))*(z1*z2*(z1*z2)-dT*(x1*x2*(y1*y2)))):=by
 obtain ⟨a0,rfl,rfl⟩:=h
 obtain ⟨b0,rfl,rfl⟩:=h'
 have ax:=sB p q
 have ay:=rc p q
 have n1:=CT.dp p.on q.on
 have n2:=CT.dm p.on q.on
 have hd:CT.d=dT:=rfl
 have ha:CT.a = -1:=rfl
 rw [hd] at ax ay n1 n2
 rw [ha] at ay
 obtain ⟨e1,e2,e3,e4⟩:=JD (z1:=z1) (z2:=z2) ax ay
 rw [e1,e2,e3,e4]
 have hz:z1*z2≠0:=dh a0 b0
 refine ⟨dh (dh (dh hz hz) n1) (dh (dh hz hz) n2),?_,?_⟩
 ·exact MF _ _ _ _
 ·exact Lz _ _ _ _
theorem Al {a z:F} (hz:z≠0):a*z*finv z=a:=by
 have:=iZ hz
 generalize finv z=u at *
 grind -lia -linarith
theorem JX (z:F):z*0=0:=by grind -lia -linarith
theorem fQ:(1:F)≠0:=by decide
theorem uq (y:F):dT*(y*y)+1≠0:=by
 intro h
 have h2:=CA
 by_cases hy:y=0
 ·rw [hy] at h
  have e1:(0:F)*0=0:=by decide
  have e2:(0:F)+1=1:=by decide
  rw [e1,JX,e2] at h
  exact absurd h fQ
 ·refine yJ CT hy (p:=iR) ?_
  show iR ^ 2=dT*y ^ 2
  generalize dT=d at *
  generalize iR=i at *
  grind -lia -linarith
theorem MB {x y:F}:On CT x y↔x*x=(y*y-1)*finv (dT*(y*y)+1):=by
 have hd:CT.d=dT:=rfl
 have ha:CT.a = -1:=rfl
 unfold On
 rw [hd,ha]
 have h:=iZ (uq y)
 constructor
 ·intro h1
  refine uw (uq y) ?_
  generalize dT=d at *
  grind -lia -linarith
 ·intro h1
  have h2:=fdiv (uq y) h1
  generalize dT=d at *
  clear h h1
  grind -lia -linarith
theorem zD {x:F} (h:x≠0):(-x).val=P-x.val:=by
 have h0:x.val≠0:=fun e=>h (Fin.ext e)
 have:=x.isLt
 rw [Fin.val_neg']
 exact Nat.mod_eq_of_lt (by omega)
theorem KW {x y:F} (h:x*x=y*y):x=y∨x = -y:=by
 have h1:(x-y)*(x+y)=0:=by grind -lia -linarith
 rcases jI h1 with h2|h2
 ·left;grind -lia -linarith
 ·right;grind -lia -linarith
theorem Hc:P % 2=1:=by decide
theorem JO {x y:F} (h:x*x=y*y) (hp:x.val % 2=y.val % 2):x=y:=by
 rcases KW h with h1|h1
 ·exact h1
 ·by_cases hy:y=0
  ·rw [h1,hy];decide
  ·exfalso
   have h2:=zD hy
   rw [← h1] at h2
   have:=y.isLt
   have:=Hc
   omega
def lm (p:Pt CT):Nat:=p.y.val+p.x.val % 2*2 ^ 255
theorem CC {p q:Pt CT} (h:lm p=lm q):p=q:=by
 unfold lm at h
 have h1:=p.y.isLt
 have h2:=q.y.isLt
 have h3:P<2 ^ 255:=by decide
 have hy:p.y.val=q.y.val:=by omega
 have hp:p.x.val % 2=q.x.val % 2:=by omega
 have hy':p.y=q.y:=Fin.ext hy
 refine Pt.eq (JO ?_ hp) hy'
 rw [MB.1 p.on,MB.1 q.on,hy']
end Tabn
namespace Tabn
abbrev JP:=F × F × F × F
def LA (u:F) (bit:Nat) (t:JP):JP :=
 if bit=0 then (Ji t.1 t.2.1,Ka t.1 t.2.1,JY t.1 t.2.1 t.2.2.1 t.2.2.2,Je u t.1 t.2.1 t.2.2.1 t.2.2.2)
 else (JY t.1 t.2.1 t.2.2.1 t.2.2.2,Je u t.1 t.2.1 t.2.2.1 t.2.2.2,Ji t.2.2.1 t.2.2.2,Ka t.2.2.1 t.2.2.2)
def lad (N:Nat) (u:F):Nat→JP
 |0=>(1,0,u,1)
 |k+1=>LA u (N/2 ^ (254-k) % 2) (lad N u k)
def Um (N:Nat) (u:F):F:=(lad N u 255).1*finv (lad N u 255).2.1
end Tabn
namespace Tabn
def L:Nat:=7237005577332262213973186563042994240857116359379907606001950938285454250989
end Tabn
namespace Tabn
def dL:F:=37095705934669439343138083508754565189542113879843219016388785533085940283555
theorem LC:dL*121666=0-121665:=by decide +kernel
theorem ME:sH=121665∧oV=121666:=by unfold sH oV;exact ⟨rfl,rfl⟩
theorem Bc:dT=dL:=by
 have h1:=Ha
 have h2:=LC
 rw [ME.1,ME.2] at h1
 refine nq (a:=121666) (by decide) ?_
 rw [← h2] at h1
 generalize dL=v at *
 generalize dT=u at *
 clear h2
 grind -lia -linarith
def xB:F:=15112221349535400772501151409588531511454012693041857206046113283949847762202
def yB:F:=46316835694926478169428394003475163141307993866256225615783033603165251855960
theorem Hr:xB*xB*(dL*(yB*yB)+1)=yB*yB-1:=by decide +kernel
theorem Lu:On CT xB yB:=by
 refine MB.2 (uw (uq yB) ?_)
 rw [Bc]
 exact Hr
def BT:Pt CT:=⟨xB,yB,Lu⟩
abbrev xX:=F × F × F
def pjA (p q:xX):xX :=
 ((p.1*q.2.1+q.1*p.2.1)*(p.2.2*q.2.2)*(p.2.2*q.2.2*(p.2.2*q.2.2)-dL*(p.1*q.1*(p.2.1*q.2.1))),
  (p.2.1*q.2.1+p.1*q.1)*(p.2.2*q.2.2)*(p.2.2*q.2.2*(p.2.2*q.2.2)+dL*(p.1*q.1*(p.2.1*q.2.1))),
  (p.2.2*q.2.2*(p.2.2*q.2.2)+dL*(p.1*q.1*(p.2.1*q.2.1)))*(p.2.2*q.2.2*(p.2.2*q.2.2)-dL*(p.1*q.1*(p.2.1*q.2.1))))
def Bt (b:Nat) (r:xX):xX:=if b=0 then pjA r r else pjA (pjA r r) (xB,yB,1)
def tm (N:Nat):Nat→xX
 |0=>(0,1,1)
 |k+1=>Bt (N/2 ^ (255-k) % 2) (tm N k)
def PjT (p:Pt CT) (r:xX):Prop:=Pj p r.1 r.2.1 r.2.2
theorem Ef {p q:Pt CT} {r s:xX} (h:PjT p r) (h':PjT q s):PjT (p.add q) (pjA r s):=by
 have:=Bw h h'
 rw [Bc] at this
 exact this
theorem mh (x:F):x=x*1:=by grind -lia -linarith
theorem Do (z:F):0=0*z:=by grind -lia -linarith
theorem GZ:PjT (Pt.zero CT) (0,1,1):=⟨fQ,Do 1,mh 1⟩
theorem Lc:PjT BT (xB,yB,1):=⟨fQ,mh _,mh _⟩
theorem Ao (N k:Nat) (hk:k<256):N/2 ^ (256-(k+1))=2*(N/2 ^ (256-k))+N/2 ^ (255-k) % 2:=by
 have e:256-k=(255-k)+1:=by omega
 rw [show 256-(k+1)=255-k by omega,e,Nat.pow_succ,← Nat.div_div_eq_div_mul]
 omega
theorem KC (N:Nat) (hN:N<2 ^ 256):∀ k,k≤256→PjT (Pt.mul (N/2 ^ (256-k)) BT) (tm N k):=by
 intro k
 induction k with
 |zero =>
  intro _
  rw [Nat.sub_zero,Nat.div_eq_of_lt hN]
  exact GZ
 |succ k ih =>
  intro hk
  have ih:=ih (by omega)
  rw [Ao N k (by omega),Nat.two_mul,Nat.add_assoc,Pt.add_mul]
  show PjT _ (Bt (N/2 ^ (255-k) % 2) (tm N k))
  generalize N/2 ^ (256-k)=m at *
  generalize tm N k=r at *
  unfold Bt
  rcases Nat.mod_two_eq_zero_or_one (N/2 ^ (255-k)) with h|h
  ·rw [h,if_pos rfl]
   exact Ef ih ih
  ·rw [h,if_neg (by decide),Pt.add_mul,Pt.mul_one,← Pt.add_assoc]
   exact Ef (Ef ih ih) Lc
theorem Hl {N:Nat} (hN:N<2 ^ 256):PjT (Pt.mul N BT) (tm N 256):=by
 have:=KC N hN 256 (Nat.le_refl _)
 rwa [Nat.sub_self,Nat.pow_zero,Nat.div_one] at this
theorem tU {a b z:F} (hz:z≠0) (h:a*z=b*z):a=b:=by
 refine nq hz ?_
 clear hz
 grind -lia -linarith
theorem Id {N:Nat} (hN:N<2 ^ 256) {x y:F} (h:(tm N 256).1=x*(tm N 256).2.2∧(tm N 256).2.1=y*(tm N 256).2.2):(Pt.mul N BT).x=x∧(Pt.mul N BT).y=y:=by
 obtain ⟨z0,hx,hy⟩:=Hl hN
 exact ⟨tU z0 (hx.symm.trans h.1),tU z0 (hy.symm.trans h.2)⟩
theorem tmL:(tm L 256).1=0*(tm L 256).2.2∧(tm L 256).2.1=1*(tm L 256).2.2:=by decide +kernel
theorem HN:L<2 ^ 256:=by decide
theorem Kg:Pt.mul L BT=Pt.zero CT:=by
 obtain ⟨h1,h2⟩:=Id HN tmL
 exact Pt.eq h1 h2
theorem mul_mod (N:Nat):Pt.mul (N % L) BT=Pt.mul N BT:=by
 have e:N=(N/L)*L+N % L:=by rw [Nat.mul_comm];exact (Nat.div_add_mod N L).symm
 have h:Pt.mul N BT=Pt.mul ((N/L)*L+N % L) BT:=congrArg (fun n=>Pt.mul n BT) e
 rw [h,Pt.add_mul,Pt.mul_mul,Kg,Pt.mul_zero,Pt.zero_add]
end Tabn
namespace Tabn
def pq (y:F):F:=(y*y-1)*finv (dT*(y*y)+1)
def xOf (r:F) (h:Nat):F:=if r.val % 2=h then r else 0-r
def CG (rt:F→F):Prop:=∀ s,rt (s*s)*rt (s*s)=s*s
def Aw (rt:F→F) (n:Nat):Prop :=
 n % 2 ^ 255<P∧rt (pq (Fin.ofNat P (n % 2 ^ 255)))*rt (pq (Fin.ofNat P (n % 2 ^ 255)))=pq (Fin.ofNat P (n % 2 ^ 255))∧¬ (rt (pq (Fin.ofNat P (n % 2 ^ 255)))=0∧n/2 ^ 255=1)
theorem AX (r:F):0-r = -r:=by grind -lia -linarith
theorem Ht (r:F):(0-r)*(0-r)=r*r:=by grind -lia -linarith
theorem IM (r:F) (h:Nat):xOf r h*xOf r h=r*r:=by
 unfold xOf
 split
 ·rfl
 ·exact Ht r
theorem Gl {r:F} {h:Nat} (hh:h<2) (h0:¬ (r=0∧h=1)):(xOf r h).val % 2=h:=by
 unfold xOf
 split
 ·rename_i e;exact e
 ·rename_i e
  by_cases hr:r=0
  ·exfalso
   rw [hr] at e
   have:(0:F).val % 2=0:=rfl
   apply h0
   exact ⟨hr,by omega⟩
  ·rw [AX,zD hr]
   have:=r.isLt
   have:=Hc
   omega
theorem ki:P<2 ^ 255:=by decide
theorem wo {rt:F→F} {n:Nat} (hn:n<2 ^ 256) (h:Aw rt n):∃ p:Pt CT,lm p=n∧p.y=Fin.ofNat P (n % 2 ^ 255)∧p.x=xOf (rt (pq (Fin.ofNat P (n % 2 ^ 255)))) (n/2 ^ 255):=by
 obtain ⟨h1,h2,h3⟩:=h
 have hh:n/2 ^ 255<2:=by omega
 refine ⟨⟨xOf (rt (pq (Fin.ofNat P (n % 2 ^ 255)))) (n/2 ^ 255),Fin.ofNat P (n % 2 ^ 255),MB.2 ?_⟩,?_,rfl,rfl⟩
 ·rw [IM,h2]
  rfl
 ·unfold lm
  simp only
  rw [Gl hh h3]
  have:(Fin.ofNat P (n % 2 ^ 255)).val=n % 2 ^ 255:=Nat.mod_eq_of_lt h1
  rw [this]
  omega
theorem Gq {rt:F→F} (hr:CG rt) (p:Pt CT):Aw rt (lm p):=by
 have h1:=p.y.isLt
 have h2:=ki
 have e1:lm p % 2 ^ 255=p.y.val:=by unfold lm;omega
 have e2:lm p/2 ^ 255=p.x.val % 2:=by unfold lm;omega
 have e3:Fin.ofNat P p.y.val=p.y:=Fin.ext (Nat.mod_eq_of_lt h1)
 have e4:pq p.y=p.x*p.x:=(MB.1 p.on).symm
 unfold Aw
 rw [e1,e2,e3,e4]
 refine ⟨h1,hr _,?_⟩
 rintro ⟨h3,h4⟩
 have h5:=hr p.x
 rw [h3] at h5
 have h6:p.x=0:=by
  rcases jI (h5.symm.trans (show (0:F)*0=0 by decide)) with h|h <;> exact h
 rw [h6] at h4
 exact absurd h4 (by decide)
theorem HH (p:Pt CT):lm p<2 ^ 256:=by
 have h1:=p.y.isLt
 have h2:=ki
 unfold lm
 omega
theorem Cz:(4:F)*finv 5=yB:=by
 refine (uw (by decide) ?_).symm
 decide +kernel
theorem wl:lm BT=yB.val:=by
 show yB.val+xB.val % 2*2 ^ 255=yB.val
 have:xB.val % 2=0:=by decide +kernel
 rw [this]
 omega
end Tabn
namespace Go.Vm
open Go
theorem AZ (a:Int) (n:Nat):a ^ n % PF=(a % PF) ^ n % PF:=by
 induction n with
 |zero=>rw [Int.pow_zero,Int.pow_zero]
 |succ n ih=>rw [Int.pow_succ,Int.pow_succ,Int.mul_emod,ih,← Int.mul_emod,Int.mul_emod,Int.mul_emod ((a % PF) ^ n),Int.emod_emod_of_dvd _ ⟨1,(Int.mul_one _).symm⟩]
theorem js:PF=((Tabn.P:Nat):Int):=by kernel_rfl
def toF (v:Int):Tabn.F:=⟨(v % PF).toNat,by have h:=lK v;have:=js;omega⟩
theorem eD (v:Int):(((toF v).val:Nat):Int)=v % PF:=Int.toNat_of_nonneg (lK v).1
theorem jC {f g:Tabn.F} (h:((f.val:Nat):Int)=((g.val:Nat):Int)):f=g:=Fin.ext (Int.ofNat.inj h)
theorem CX {v w:Int} (h:v % PF=w % PF):toF v=toF w:=jC (by rw [eD,eD,h])
theorem Dw {v w:Int} (h:toF v=toF w):v % PF=w % PF:=by rw [← eD,← eD,h]
theorem uI (v w:Int):toF (v+w)=toF v+toF w:=by
 apply jC
 rw [eD,Fin.val_add,Int.natCast_emod,Int.natCast_add,eD,eD,← js,← Int.add_emod]
theorem nU (v w:Int):toF (v*w)=toF v*toF w:=by
 apply jC
 rw [eD,Fin.val_mul,Int.natCast_emod,Int.natCast_mul,eD,eD,← js,← Int.mul_emod]
theorem xG (a b:Tabn.F):a-b+b=a:=by grind -lia -linarith
theorem sK {a b c:Tabn.F} (h:a+c=b+c):a=b:=by grind -lia -linarith
theorem zv (v w:Int):toF (v-w)=toF v-toF w:=by
 apply sK (c:=toF w)
 rw [← uI,Int.sub_add_cancel,xG]
theorem xF (v:Int) (e:Nat):((((toF v).val ^ e % Tabn.P:Nat)):Int)=v ^ e % PF:=by
 rw [Int.natCast_emod,Int.natCast_pow,eD,← js,← AZ]
theorem Jl:Tabn.eI=pw:=Tabn.eI_lit
theorem zw (v:Int):toF (v ^ pw)=Tabn.finv (toF v):=by
 apply jC
 rw [eD,Tabn.finv_val,Jl,xF]
def EF (x:List Int) (f:Tabn.F):Prop:=∃ v,E x v∧toF v=f
def RF (x:List Int) (f:Tabn.F):Prop:=∃ v,R x v∧toF v=f
theorem EF.to {x:List Int} {f g:Tabn.F} (h:EF x f) (e:f=g):EF x g:=e ▸ h
theorem RF.to {x:List Int} {f g:Tabn.F} (h:RF x f) (e:f=g):RF x g:=e ▸ h
theorem lX {x y:List Int} {f g:Tabn.F}:EF x f→EF y g→EF (F16 x y) (f+g):=fun ⟨v,h,e⟩ ⟨w,h',e'⟩=>⟨v+w,LJ h h',by rw [uI,e,e']⟩
theorem kx {x y:List Int} {f g:Tabn.F}:EF x f→EF y g→EF (F18 x y) (f-g):=fun ⟨v,h,e⟩ ⟨w,h',e'⟩=>⟨v-w,KY h h',by rw [zv,e,e']⟩
theorem fW {x y:List Int} {f g:Tabn.F}:EF x f→EF y g→EF (F20 x y) (f*g):=fun ⟨v,h,e⟩ ⟨w,h',e'⟩=>⟨v*w,tA h h',by rw [nU,e,e']⟩
theorem qZ {x:List Int} {f:Tabn.F}:EF x f→EF (F25 x) (Tabn.finv f):=fun ⟨v,h,e⟩=>⟨v ^ pw,Jv h,by rw [zw,e]⟩
theorem uB {x y:List Int} {f g:Tabn.F}:RF x f→RF y g→RF (F17 x y) (f+g):=fun ⟨v,h,e⟩ ⟨w,h',e'⟩=>⟨v+w,Ju h h',by rw [uI,e,e']⟩
theorem rJ {x y:List Int} {f g:Tabn.F}:RF x f→RF y g→RF (F19 x y) (f-g):=fun ⟨v,h,e⟩ ⟨w,h',e'⟩=>⟨v-w,KK h h',by rw [zv,e,e']⟩
theorem eh {x y:List Int} {f g:Tabn.F}:RF x f→RF y g→RF (F21 x y) (f*g):=fun ⟨v,h,e⟩ ⟨w,h',e'⟩=>⟨v*w,pM h h',by rw [nU,e,e']⟩
theorem rI {x:List Int} {f:Tabn.F}:RF x f→RF (F28 x) (Tabn.finv f):=fun ⟨v,h,e⟩=>⟨v ^ pw,Ks h,by rw [zw,e]⟩
theorem EF.bytes {x:List Int} {f:Tabn.F}:EF x f→F33 x=bx 256 32 (f.val:Int):=fun ⟨v,h,e⟩=>by rw [h.bytes,← e,eD]
theorem RF.bytes {x:List Int} {f:Tabn.F}:RF x f→F49 x=bx 256 32 (f.val:Int):=fun ⟨v,h,e⟩=>by rw [Fs h,← e,eD]
theorem RF.len {x:List Int} {f:Tabn.F}:RF x f→x.length=16:=fun ⟨v,h,e⟩=>h.len
theorem rL:EF (F30 1) 1:=⟨1,jt (by decide),by decide⟩
theorem lA:EF (F30 0) 0:=⟨0,jt (by decide),by decide⟩
theorem qv:RF (F31 1) 1:=⟨1,jk (by decide),by decide⟩
theorem nn:RF (F31 0) 0:=⟨0,jk (by decide),by decide⟩
def uOf (b:List Int):Tabn.F:=toF (num 256 b % 57896044618658097711785492504343953926634992332820282019728792003956564819968)
theorem FX {b:List Int} (hb:Dig 256 b) (hl:b.length=32):EF (F23 b) (uOf b):=⟨_,Cd hb hl,rfl⟩
theorem GY {b:List Int} (hb:Dig 256 b) (hl:b.length=32):RF (F24 b) (uOf b):=⟨_,IL hb hl,rfl⟩
end Go.Vm
namespace Go.Vm
open Go
end Go.Vm
namespace Go.Vm
open Go
theorem qQ (a:Int) (n:Nat):a ^ n % PF=(a % PF) ^ n % PF:=by
 induction n with
 |zero=>rw [Int.pow_zero,Int.pow_zero]
 |succ n ih=>rw [Int.pow_succ,Int.pow_succ,Int.mul_emod,ih,← Int.mul_emod,Int.mul_emod,Int.mul_emod ((a % PF) ^ n),Int.emod_emod_of_dvd _ ⟨1,(Int.mul_one _).symm⟩]
theorem Cg:PF=((Tabn.P:Nat):Int):=by kernel_rfl
theorem Fo (a:Int):∃ n:Nat,a % PF=(n:Int)∧n<Tabn.P:=by
 obtain ⟨n,hn⟩:=Int.eq_ofNat_of_zero_le (lK a).1
 refine ⟨n,hn,?_⟩
 have:=(lK a).2
 rw [hn,Cg] at this
 exact Int.ofNat_lt.1 this
theorem zC (n k:Nat):(n:Int) ^ k % PF=((n ^ k % Tabn.P:Nat):Int):=by
 rw [Cg,Int.natCast_emod,Int.natCast_pow]
theorem Ah:pw+1=Tabn.P-1:=by kernel_rfl
theorem HE {a:Int} (h:a % PF≠0):(a ^ pw*a) % PF=1:=by
 rw [← Int.pow_succ]
 show a ^ (pw+1) % PF=1
 rw [Ah,qQ]
 obtain ⟨n,hn,hlt⟩:=Fo a
 rw [hn] at h ⊢
 rw [zC,Tabn.fermat_one Tabn.prime_P]
 ·rfl
 ·intro hd
  have:=Nat.le_of_dvd (by omega) hd
  omega
end Go.Vm
namespace Go.Vm
open Go
theorem IZ {a b:Int} (h:a % PF=b % PF):PF ∣ a-b:=Int.dvd_of_emod_eq_zero (by rw [Int.sub_emod,h,Int.sub_self];rfl)
theorem Hk {a b:Int} (h:PF ∣ a-b):a % PF=b % PF:=by
 obtain ⟨q,hq⟩:=h
 exact rM (q:=q) (by rw [Int.mul_comm q];omega)
theorem Dk {a b:Int} (h:PF ∣ a*b):PF ∣ a∨PF ∣ b:=by
 have e:PF.natAbs=Tabn.P:=by kernel_rfl
 have h1:Tabn.P ∣ a.natAbs*b.natAbs:=by
  rw [← Int.natAbs_mul,← e];exact Int.natAbs_dvd_natAbs.2 h
 rcases Tabn.prime_P.dvd_mul h1 with h2|h2
 ·exact .inl (Int.natAbs_dvd_natAbs.1 (by rw [e];exact h2))
 ·exact .inr (Int.natAbs_dvd_natAbs.1 (by rw [e];exact h2))
theorem mul_mod {a b c d:Int} (h:a % PF=b % PF) (h':c % PF=d % PF):a*c % PF=b*d % PF:=by
 rw [Int.mul_emod,h,h',← Int.mul_emod]
theorem Fm {a b:Int} (h:a*a % PF=b*b % PF):a % PF=b % PF∨a % PF=(0-b) % PF:=by
 have h1:=IZ h
 have e:a*a-b*b=(a-b)*(a+b):=by
  rw [Int.sub_mul,Int.mul_add,Int.mul_add,Int.mul_comm b a];omega
 rw [e] at h1
 rcases Dk h1 with h2|h2
 ·exact .inl (Hk h2)
 ·refine .inr (Hk ?_)
  have e2:a-(0-b)=a+b:=by omega
  rw [e2];exact h2
def gI:Nat:=28948022309329048855892746252171976963317496166410141009864396001978282409974
theorem EM {a:Int} (h:a % PF≠0):a ^ gI % PF=1∨a ^ gI % PF=(-1) % PF:=by
 have h1:a ^ gI*a ^ gI % PF=1*1 % PF:=by
  rw [← Int.pow_add]
  have e:gI+gI=pw+1:=by kernel_rfl
  rw [e,Int.pow_succ,HE h]
  rfl
 rcases Fm h1 with h2|h2
 ·exact .inl h2
 ·exact .inr h2
theorem DI:(2:Int) ^ gI % PF=(-1) % PF:=by
 have h:(2 ^ gI % Tabn.P:Nat)=Tabn.P-1:=by
  rw [← Tabn.pmod_eq Tabn.P 256 2 gI (of_decide_eq_true (by kernel_rfl))]
  kernel_rfl
 have e:((Tabn.P-1:Nat):Int)=(-1) % PF:=by kernel_rfl
 have h2:=zC 2 gI
 rw [h,e] at h2
 exact h2
def gO (v:Int):Int:=if v ^ dz*v ^ dz % PF=v % PF then v ^ dz else v ^ dz*2 ^ po
theorem pow_mod {a b:Int} (h:a % PF=b % PF) (n:Nat):a ^ n % PF=b ^ n % PF:=by rw [qQ,h,← qQ]
theorem Fg (v:Int):gO (v*v)*gO (v*v) % PF=v*v % PF:=by
 have e1:(v*v) ^ dz*(v*v) ^ dz=v*v*v ^ gI:=by
  have e:v*v*v ^ gI=v ^ (gI+1+1):=by rw [Int.pow_succ,Int.pow_succ,Int.mul_comm (v*v),Int.mul_assoc]
  have e':dz+dz+(dz+dz)=gI+1+1:=by kernel_rfl
  rw [e,Int.mul_pow,← Int.pow_add,← Int.pow_add,e']
 unfold gO
 by_cases h:(v*v) ^ dz*(v*v) ^ dz % PF=v*v % PF
 ·rw [if_pos h];exact h
 ·rw [if_neg h]
  have hv:v % PF≠0:=by
   intro h0
   apply h
   rw [e1]
   have h1:v*v % PF=0 % PF:=mul_mod (b:=0) (d:=0) (by rw [h0];rfl) (by rw [h0];rfl)
   rw [mul_mod h1 (rfl:v ^ gI % PF=v ^ gI % PF),h1,Int.zero_mul]
  have hh:v ^ gI % PF=(-1) % PF:=by
   rcases EM hv with h1|h1
   ·exfalso
    apply h
    rw [e1,mul_mod (rfl:v*v % PF=v*v % PF) (show v ^ gI % PF=1 % PF from h1),Int.mul_one]
   ·exact h1
  have e2:(v*v) ^ dz*2 ^ po*((v*v) ^ dz*2 ^ po)=(v*v*v ^ gI)*2 ^ gI:=by
   have e3:((2:Int) ^ po)*2 ^ po=2 ^ gI:=by
    have e':po+po=gI:=by kernel_rfl
    rw [← Int.pow_add,e']
   rw [← e1,← e3]
   generalize (v*v) ^ dz=A
   generalize (2:Int) ^ po=B
   grind -lia -linarith
  rw [e2,mul_mod (mul_mod (rfl:v*v % PF=v*v % PF) hh) DI]
  congr 1
  generalize v*v=w
  omega
theorem Ad {x:List Int} {v:Int} (hx:E x v):E (F26 x (aH (F50 252 2) 32 0 32)) (v ^ dz):=by
 rw [xR,mO _ rfl]
 exact vA hx (by unfold Dig;decide) (N:=dz) (by kernel_rfl)
theorem Jf:E (F26 (F30 2) (aH (F50 253 5) 32 0 32)) (2 ^ po):=by
 rw [xg,mO _ rfl]
 exact vA (jt (by decide)) (by unfold Dig;decide) (N:=po) (by kernel_rfl)
theorem tP {x:List Int} {v:Int} (hx:R x v):R (F27 x (aH (F51 252 2) 32 0 32)) (v ^ dz):=by
 rw [BI,mO _ rfl]
 exact Eo hx (by unfold Dig;decide) (N:=dz) (by kernel_rfl)
theorem HL:R (F27 (F31 2) (aH (F51 253 5) 32 0 32)) (2 ^ po):=by
 rw [Ae,mO _ rfl]
 exact Eo (jk (by decide)) (by unfold Dig;decide) (N:=po) (by kernel_rfl)
theorem Ik {x:List Int} {v:Int} (hx:E x v):E (F34 x) (gO v)∧ra x=decide (gO v*gO v % PF=v % PF):=by
 have h1:E (F34 x) (gO v):=by
  unfold F34 gO
  have ht:=Ad hx
  have h2:=Jf
  generalize F26 x (aH (F50 252 2) 32 0 32)=t at *
  generalize F26 (F30 2) (aH (F50 253 5) 32 0 32)=u at *
  rw [(tA ht ht).same hx]
  by_cases h:v ^ dz*v ^ dz % PF=v % PF
  ·rw [if_pos h,decide_eq_true h,Bool.not_true,aA];exact ht
  ·rw [if_neg h,decide_eq_false h,Bool.not_false,aD];exact tA ht h2
 exact ⟨h1,(tA h1 h1).same hx⟩
theorem JM {x:List Int} {v:Int} (hx:R x v):rX x=decide (gO v*gO v % PF=v % PF):=by
 have h1:R (F35 x) (gO v):=by
  unfold F35 gO
  have ht:=tP hx
  have h2:=HL
  generalize F27 x (aH (F51 252 2) 32 0 32)=t at *
  generalize F27 (F31 2) (aH (F51 253 5) 32 0 32)=u at *
  rw [(pM ht ht).beq hx]
  by_cases h:v ^ dz*v ^ dz % PF=v % PF
  ·rw [if_pos h,decide_eq_true h,Bool.not_true,aA];exact ht
  ·rw [if_neg h,decide_eq_false h,Bool.not_false,aD];exact pM ht h2
 exact (pM h1 h1).beq hx
end Go.Vm
namespace Go.Vm
open Go Tabn
theorem EF.len {x:List Int} {f:Tabn.F}:EF x f→x.length=5:=fun ⟨v,h,e⟩=>by
 obtain ⟨⟨a,b,c,d,g,rfl,_⟩,_⟩:=h
 rfl
theorem EF.val {x:List Int} {f:Tabn.F}:EF x f→E x (f.val:Int):=fun ⟨v,h,e⟩=>h.to (by rw [← e,eD,Int.emod_emod_of_dvd _ (Int.dvd_refl _)])
theorem RF.val {x:List Int} {f:Tabn.F}:RF x f→R x (f.val:Int):=fun ⟨v,h,e⟩=>h.to (by rw [← e,eD,Int.emod_emod_of_dvd _ (Int.dvd_refl _)])
theorem oA (f:Tabn.F):toF (f.val:Int)=f:=jC (by rw [eD,js,← Int.natCast_emod,Nat.mod_eq_of_lt f.isLt])
theorem jP (f:Tabn.F):(f.val:Int) % PF=(f.val:Int):=by rw [js,← Int.natCast_emod,Nat.mod_eq_of_lt f.isLt]
theorem EF.same {x y:List Int} {f g:Tabn.F} (h:EF x f) (h':EF y g):F29 x y=decide (f=g):=by
 rw [h.val.same h'.val,jP,jP]
 by_cases e:f=g
 ·rw [decide_eq_true e,e,decide_eq_true rfl]
 ·rw [decide_eq_false e,decide_eq_false (fun h=>e (jC h))]
theorem EF.odd {x:List Int} {f:Tabn.F} (h:EF x f):F32 x=decide (f.val % 2=1):=by
 rw [h.val.odd,jP]
 by_cases e:f.val % 2=1
 ·rw [decide_eq_true e,decide_eq_true (by omega)]
 ·rw [decide_eq_false e,decide_eq_false (by omega)]
def rtF (f:Tabn.F):Tabn.F:=toF (gO (f.val:Int))
theorem Jx:CG rtF:=by
 intro s
 unfold rtF
 have h:=Fg (s.val:Int)
 have e:(((s*s).val:Nat):Int) % PF=(s.val:Int)*(s.val:Int) % PF:=by
  rw [Fin.val_mul,Int.natCast_emod,Int.natCast_mul,← js,Int.emod_emod_of_dvd _ (Int.dvd_refl _)]
 have e1:gO (((s*s).val:Nat):Int) % PF=gO ((s.val:Int)*(s.val:Int)) % PF:=by
  have hp:∀ n:Nat,(((s*s).val:Nat):Int) ^ n % PF=((s.val:Int)*(s.val:Int)) ^ n % PF:=fun n=>pow_mod e n
  unfold gO
  have hc:((((s*s).val:Nat):Int) ^ dz*(((s*s).val:Nat):Int) ^ dz % PF=(((s*s).val:Nat):Int) % PF)=(((s.val:Int)*(s.val:Int)) ^ dz*((s.val:Int)*(s.val:Int)) ^ dz % PF=(s.val:Int)*(s.val:Int) % PF):=by
   rw [mul_mod (hp dz) (hp dz),e]
  simp only [hc]
  split
  ·exact hp dz
  ·exact mul_mod (hp dz) rfl
 rw [← nU]
 apply jC
 rw [eD,mul_mod e1 e1,h,← e,jP]
theorem GM {x:List Int} {f:Tabn.F} (h:EF x f):EF (F34 x) (rtF f)∧ra x=decide (rtF f*rtF f=f):=by
 obtain ⟨h1,h2⟩:=Ik h.val
 have h3:EF (F34 x) (rtF f):=⟨_,h1,rfl⟩
 refine ⟨h3,?_⟩
 rw [h2]
 unfold rtF
 rw [← nU]
 by_cases e:toF (gO (f.val:Int)*gO (f.val:Int))=f
 ·rw [decide_eq_true e,decide_eq_true]
  have:=Dw (e.trans (oA f).symm)
  exact this
 ·rw [decide_eq_false e,decide_eq_false]
  intro h4
  exact e ((CX h4).trans (oA f))
theorem Gt {x:List Int} {v:Int} (hx:R x v):R (F35 x) (gO v):=by
 unfold F35 gO
 have ht:=tP hx
 have h2:=HL
 generalize F27 x (aH (F51 252 2) 32 0 32)=t at *
 generalize F27 (F31 2) (aH (F51 253 5) 32 0 32)=u at *
 rw [(pM ht ht).beq hx]
 by_cases h:v ^ dz*v ^ dz % PF=v % PF
 ·rw [if_pos h,decide_eq_true h,Bool.not_true,aA];exact ht
 ·rw [if_neg h,decide_eq_false h,Bool.not_false,aD];exact pM ht h2
theorem FO {x:List Int} {f:Tabn.F} (h:RF x f):RF (F35 x) (rtF f)∧rX x=decide (rtF f*rtF f=f):=by
 have h3:RF (F35 x) (rtF f):=⟨_,Gt h.val,rfl⟩
 refine ⟨h3,?_⟩
 rw [JM h.val]
 unfold rtF
 rw [← nU]
 by_cases e:toF (gO (f.val:Int)*gO (f.val:Int))=f
 ·rw [decide_eq_true e,decide_eq_true]
  have:=Dw (e.trans (oA f).symm)
  exact this
 ·rw [decide_eq_false e,decide_eq_false]
  intro h4
  exact e ((CX h4).trans (oA f))
theorem RF.beq {x y:List Int} {f g:Tabn.F} (h:RF x f) (h':RF y g):(x==y)=decide (f=g):=by
 rw [h.val.beq h'.val,jP,jP]
 by_cases e:f=g
 ·rw [decide_eq_true e,e,decide_eq_true rfl]
 ·rw [decide_eq_false e,decide_eq_false (fun h=>e (jC h))]
def PE (p:Pt CT) (s:List Int):Prop:=∃ X Y Z T fx fy fz ft,s=X++(Y++(Z++T))∧EF X fx∧EF Y fy∧EF Z fz∧EF T ft∧Ex p fx fy fz ft
theorem zm {X Y Z T:List Int} (hx:X.length=5) (hy:Y.length=5) (hz:Z.length=5) (ht:T.length=5) :
  ((X++(Y++(Z++T))).drop 0).take 5=X∧((X++(Y++(Z++T))).drop 5).take 5=Y∧((X++(Y++(Z++T))).drop 10).take 5=Z∧((X++(Y++(Z++T))).drop 15).take 5=T:=by
 obtain ⟨a,b,c,d,e,rfl⟩:=mZ hx
 obtain ⟨a',b',c',d',e',rfl⟩:=mZ hy
 obtain ⟨a2,b2,c2,d2,e2,rfl⟩:=mZ hz
 obtain ⟨a3,b3,c3,d3,e3,rfl⟩:=mZ ht
 exact ⟨rfl,rfl,rfl,rfl⟩
theorem BP {X Y Z T:List Int} (hx:X.length=5) (hy:Y.length=5) (hz:Z.length=5) (ht:T.length=5) :
  aZ (aZ (aZ (aZ [0,0,0,0,0,0,0,0,0,0,0,0,0,0,0,0,0,0,0,0] 0 X) 5 Y) 10 Z) 15 T=X++(Y++(Z++T)):=by
 obtain ⟨a,b,c,d,e,rfl⟩:=mZ hx
 obtain ⟨a',b',c',d',e',rfl⟩:=mZ hy
 obtain ⟨a2,b2,c2,d2,e2,rfl⟩:=mZ hz
 obtain ⟨a3,b3,c3,d3,e3,rfl⟩:=mZ ht
 rfl
theorem Iw:EF (F30 121665) sH:=by rw [ME.1];exact ⟨121665,jt (by decide),by decide⟩
theorem Ie:EF (F30 121666) oV:=by rw [ME.2];exact ⟨121666,jt (by decide),by decide⟩
theorem lV:EF bu dT:=by
 unfold bu qV
 refine (kx lA (fW Iw (qZ Ie))).to ?_
 unfold dT
 rfl
theorem Dy {p q:Pt CT} {s t k:List Int} (hp:PE p s) (hq:PE q t) (hk:EF k (dT+dT)):PE (p.add q) (lM s t k):=by
 obtain ⟨X,Y,Z,T,fx,fy,fz,ft,rfl,hX,hY,hZ,hT,hE⟩:=hp
 obtain ⟨X',Y',Z',T',fx',fy',fz',ft',rfl,hX',hY',hZ',hT',hE'⟩:=hq
 obtain ⟨c1,c2,c3,c4⟩:=zm hX.len hY.len hZ.len hT.len
 obtain ⟨d1,d2,d3,d4⟩:=zm hX'.len hY'.len hZ'.len hT'.len
 unfold lM
 rw [c1,c2,c3,c4,d1,d2,d3,d4]
 have hc:=fW (fW hT hT') hk
 have hd:=lX (fW hZ hZ') (fW hZ hZ')
 have hq':=fW (lX hY hX) (lX hY' hX')
 have hp':=fW (kx hY hX) (kx hY' hX')
 have he:=kx hq' hp'
 have hf:=kx hd hc
 have hg:=lX hd hc
 have hh:=lX hq' hp'
 have r1:=fW he hf
 have r2:=fW hg hh
 have r3:=fW hf hg
 have r4:=fW he hh
 rw [BP r1.len r2.len r3.len r4.len]
 exact ⟨_,_,_,_,_,_,_,_,rfl,r1,r2,r3,r4,Iy hE hE'⟩
theorem PE.zero:PE (Pt.zero CT) (aZ (aZ [0,0,0,0,0,0,0,0,0,0,0,0,0,0,0,0,0,0,0,0] 5 (F30 1)) 10 (F30 1)) :=
 ⟨F30 0,F30 1,F30 1,F30 0,0,1,1,0,rfl,lA,rL,rL,lA,⟨fQ,Do 1,mh 1,(show (0:Tabn.F)=0*1*1 by decide)⟩⟩
theorem oQ (N m k:Nat) (hk:k<m):N/2 ^ (m-(k+1))=2*(N/2 ^ (m-k))+N/2 ^ (m-1-k) % 2:=by
 have e:m-k=(m-1-k)+1:=by omega
 rw [show m-(k+1)=m-1-k by omega,e,Nat.pow_succ,← Nat.div_div_eq_div_mul]
 omega
theorem AG {n:Nat} {x:Int} (h:x=((n % 2:Nat):Int)):((x:Int)==1)=decide (n % 2=1):=by
 subst h
 rcases Nat.mod_two_eq_zero_or_one n with h|h <;> rw [h] <;> rfl
theorem zf {p:Pt CT} {s n:List Int} (hp:PE p s) (hn:Dig 256 n) {N:Nat} (hN:num 256 n=(N:Int)):PE (Pt.mul N p) (vw s n):=by
 have hk:EF (F16 bu bu) (dT+dT):=lX lV lV
 have hlt:N<2 ^ (8*n.length):=by
  obtain ⟨M,h1,h2⟩:=ky hn
  rw [h1] at hN
  have:=Int.ofNat.inj hN
  omega
 have key:∀ k,k≤8*n.length→PE (Pt.mul (N/2 ^ (8*n.length-k)) p) (itr (oK s n) k (aZ (aZ [0,0,0,0,0,0,0,0,0,0,0,0,0,0,0,0,0,0,0,0] 5 (F30 1)) 10 (F30 1))):=by
  intro k
  induction k with
  |zero =>
   intro _
   rw [bB,Nat.sub_zero,Nat.div_eq_of_lt hlt]
   exact PE.zero
  |succ k ih =>
   intro hk'
   have ih:=ih (by omega)
   rw [aq,oQ N (8*n.length) k (by omega),Nat.two_mul,Nat.add_assoc,Pt.add_mul]
   generalize itr (oK s n) k _=z at *
   generalize N/2 ^ (8*n.length-k)=M at *
   unfold oK
   rw [AG (oC hn hN (8*n.length-1-k))]
   have h2:=Dy ih ih hk
   rcases Nat.mod_two_eq_zero_or_one (N/2 ^ (8*n.length-1-k)) with h|h
   ·rw [h,decide_eq_false (by decide),aA,Nat.add_zero]
    exact h2
   ·rw [h,decide_eq_true rfl,aD,Pt.add_mul,Pt.mul_one,← Pt.add_assoc]
    exact Dy h2 hp hk
 have:=key (8*n.length) (Nat.le_refl _)
 rw [Nat.sub_self,Nat.pow_zero,Nat.div_one] at this
 exact this
def PR (p:Pt CT) (s:List Int):Prop:=∃ X Y Z fx fy fz,s=X++(Y++Z)∧RF X fx∧RF Y fy∧RF Z fz∧Pj p fx fy fz
theorem zX {X Y Z:List Int} (hx:X.length=16) (hy:Y.length=16) (hz:Z.length=16) :
  ((X++(Y++Z)).drop 0).take 16=X∧((X++(Y++Z)).drop 16).take 16=Y∧((X++(Y++Z)).drop 32).take 16=Z:=by
 refine ⟨?_,?_,?_⟩
 ·rw [List.drop_zero,List.take_append_of_le_length (by omega),List.take_of_length_le (by omega)]
 ·rw [← hx,List.drop_left,List.take_append_of_le_length (by omega),List.take_of_length_le (by omega)]
 ·rw [← List.append_assoc,show 32=(X++Y).length by rw [List.length_append];omega,List.drop_left,List.take_of_length_le (by omega)]
theorem ob {Z A B:List Int} {o:Nat} (ho:o=A.length):aZ (A++Z) o B=A++(B++Z.drop B.length):=by
 subst ho
 unfold aZ
 rw [List.take_left,List.drop_append,List.append_assoc]
 simp
theorem EE {X Y Z:List Int} (hx:X.length=16) (hy:Y.length=16) (hz:Z.length=16) :
  aZ (aZ (aZ [0,0,0,0,0,0,0,0,0,0,0,0,0,0,0,0,0,0,0,0,0,0,0,0,0,0,0,0,0,0,0,0,0,0,0,0,0,0,0,0,0,0,0,0,0,0,0,0] 0 X) 16 Y) 32 Z=X++(Y++Z):=by
 rw [show aZ [0,0,0,0,0,0,0,0,0,0,0,0,0,0,0,0,0,0,0,0,0,0,0,0,0,0,0,0,0,0,0,0,0,0,0,0,0,0,0,0,0,0,0,0,0,0,0,0] 0 X=X++(List.replicate 48 0).drop X.length from ob (A:=[]) rfl]
 rw [ob hx.symm,← List.append_assoc,ob (by rw [List.length_append];omega),List.append_assoc,hx,hy,hz]
 show X++(Y++(Z++[]))=_
 rw [List.append_nil]
theorem JN:RF (F31 121665) sH:=by rw [ME.1];exact ⟨121665,jk (by decide),by decide⟩
theorem JI:RF (F31 121666) oV:=by rw [ME.2];exact ⟨121666,jk (by decide),by decide⟩
theorem vc:RF dP dT:=by
 unfold dP cY aT bC
 refine (rJ nn (eh JN (rI JI))).to ?_
 unfold dT
 rfl
theorem DU {p q:Pt CT} {s t:List Int} (hp:PR p s) (hq:PR q t):PR (p.add q) (pp s t dP):=by
 obtain ⟨X,Y,Z,fx,fy,fz,rfl,hX,hY,hZ,hE⟩:=hp
 obtain ⟨X',Y',Z',fx',fy',fz',rfl,hX',hY',hZ',hE'⟩:=hq
 obtain ⟨c1,c2,c3⟩:=zX hX.len hY.len hZ.len
 obtain ⟨d1,d2,d3⟩:=zX hX'.len hY'.len hZ'.len
 unfold pp
 rw [c1,c2,c3,d1,d2,d3]
 have hk:=vc
 generalize dP=k at *
 unfold aT dS cY
 have hxx:=eh hX hX'
 have hyy:=eh hY hY'
 have hzz:=eh hZ hZ'
 have hcr:=uB (eh hX hY') (eh hX' hY)
 have he:=eh hk (eh hxx hyy)
 have hz2:=eh hzz hzz
 have hf:=uB hz2 he
 have hg:=rJ hz2 he
 have r1:=eh (eh hcr hzz) hg
 have r2:=eh (eh (uB hyy hxx) hzz) hf
 have r3:=eh hf hg
 rw [EE r1.len r2.len r3.len]
 exact ⟨_,_,_,_,_,_,rfl,r1,r2,r3,Bw hE hE'⟩
theorem PR.zero:PR (Pt.zero CT) (aZ (aZ [0,0,0,0,0,0,0,0,0,0,0,0,0,0,0,0,0,0,0,0,0,0,0,0,0,0,0,0,0,0,0,0,0,0,0,0,0,0,0,0,0,0,0,0,0,0,0,0] 16 (bC 1)) 32 (bC 1)):=by
 have h0:F31 0=[0,0,0,0,0,0,0,0,0,0,0,0,0,0,0,0]:=by kernel_rfl
 have h1:F31 1=[1,0,0,0,0,0,0,0,0,0,0,0,0,0,0,0]:=by kernel_rfl
 refine ⟨F31 0,F31 1,F31 1,0,1,1,?_,nn,qv,qv,⟨fQ,Do 1,mh 1⟩⟩
 unfold bC
 rw [h0,h1]
 rfl
theorem zH {p:Pt CT} {s n:List Int} (hp:PR p s) (hn:Dig 256 n) {N:Nat} (hN:num 256 n=(N:Int)):PR (Pt.mul N p) (vC n s):=by
 have hlt:N<2 ^ (8*n.length):=by
  obtain ⟨M,h1,h2⟩:=ky hn
  rw [h1] at hN
  have:=Int.ofNat.inj hN
  omega
 have key:∀ k,PR (Pt.mul (N % 2 ^ k) p) (itr (mq n) k (aZ (aZ [0,0,0,0,0,0,0,0,0,0,0,0,0,0,0,0,0,0,0,0,0,0,0,0,0,0,0,0,0,0,0,0,0,0,0,0,0,0,0,0,0,0,0,0,0,0,0,0] 16 (bC 1)) 32 (bC 1),s)).1 ∧
   PR (Pt.mul (2 ^ k) p) (itr (mq n) k (aZ (aZ [0,0,0,0,0,0,0,0,0,0,0,0,0,0,0,0,0,0,0,0,0,0,0,0,0,0,0,0,0,0,0,0,0,0,0,0,0,0,0,0,0,0,0,0,0,0,0,0] 16 (bC 1)) 32 (bC 1),s)).2:=by
  intro k
  induction k with
  |zero =>
   rw [bB,Nat.pow_zero,Nat.mod_one,Pt.mul_one]
   exact ⟨PR.zero,hp⟩
  |succ k ih =>
   rw [aq]
   generalize itr (mq n) k _=z at *
   obtain ⟨i1,i2⟩:=ih
   have hb:=sd hn hN (k/8) (k % 8) (Nat.mod_lt _ (by decide))
   rw [Nat.div_add_mod] at hb
   unfold mq
   rw [AG hb]
   refine ⟨?_,?_⟩
   ·show PR _ (sel _ _ _)
    rw [pd N k]
    rcases Nat.mod_two_eq_zero_or_one (N/2 ^ k) with h|h
    ·rw [h,decide_eq_false (by decide),aA,Nat.zero_mul,Nat.add_zero]
     exact i1
    ·rw [h,decide_eq_true rfl,aD,Nat.one_mul,Pt.add_mul]
     exact DU i1 i2
   ·show PR _ (pp _ _ _)
    rw [Nat.pow_succ,Nat.mul_two,Pt.add_mul]
    exact DU i2 i2
 have:=(key (8*n.length)).1
 rw [Nat.mod_eq_of_lt hlt] at this
 exact this
end Go.Vm
namespace Go.Vm
open Go
theorem FC (bs : ByteArray) : ∀ (n i : Nat) (r : List UInt8), bs.size - i = n → i ≤ bs.size → ByteArray.toList.loop bs i r = r.reverse ++ bs.data.toList.drop i := by
  intro n
  induction n with
  | zero =>
    intro i r h hi
    rw [ByteArray.toList.loop]
    have hs : bs.size = bs.data.toList.length := by rw [Array.length_toList]; rfl
    rw [if_neg (by omega), List.drop_of_length_le (by omega), List.append_nil]
  | succ n ih =>
    intro i r h hi
    rw [ByteArray.toList.loop]
    have hs : bs.size = bs.data.toList.length := by rw [Array.length_toList]; rfl
    have hlt : i < bs.data.toList.length := by omega
    rw [if_pos (by omega), ih (i + 1) _ (by omega) (by omega), List.reverse_cons, List.append_assoc]
    congr 1
    have e : bs.get! i = bs.data.toList[i]'hlt := by
      have h2 : i < bs.data.size := by rw [← Array.length_toList]; exact hlt
      show bs.data[i]! = _
      rw [getElem!_pos bs.data i h2, Array.getElem_toList]
    rw [e, List.drop_eq_getElem_cons hlt]
    rfl
theorem tC (bs:ByteArray):bs.toList=bs.data.toList:=by
 show ByteArray.toList.loop bs 0 []=_
 rw [FC bs _ 0 [] rfl (Nat.zero_le _)]
 rfl
theorem xz (x:ByteArray):aC x x=true:=by unfold aC;exact beq_self_eq_true _
theorem An (x y:ByteArray):aC x y=true↔x=y:=by
 unfold aC
 rw [tC,tC,beq_iff_eq]
 constructor
 ·intro h
  cases x;cases y
  congr 1
  exact Array.toList_inj.1 h
 ·rintro rfl;rfl
theorem wc {x y:List Int} (hx:Dig 256 x) (hy:Dig 256 y) (h:bytesOf x=bytesOf y):x=y:=by
 unfold bytesOf at h
 have h1:(x.map fun n=>UInt8.ofNat n.toNat)=y.map fun n=>UInt8.ofNat n.toNat:=by
  have:=congrArg (fun b:ByteArray=>b.data.toList) h
  simpa using this
 have back:∀ z:List Int,Dig 256 z→(z.map fun n=>UInt8.ofNat n.toNat).map (fun u=>(u.toNat:Int))=z:=by
  intro z hz
  rw [List.map_map]
  conv=>rhs;rw [← List.map_id z]
  apply List.map_congr_left
  intro a ha
  have:=hz a ha
  simp only [Function.comp,id]
  rw [UInt8.toNat_ofNat']
  omega
 rw [← back x hx,← back y hy,h1]
theorem jg {x y:List Int} (hx:Dig 256 x) (hy:Dig 256 y):aC (bytesOf x) (bytesOf y)=decide (x=y):=by
 by_cases h:x=y
 ·subst h;rw [xz,decide_eq_true rfl]
 ·rw [decide_eq_false h]
  cases hs:aC (bytesOf x) (bytesOf y)
  ·rfl
  ·exact absurd (wc hx hy ((An _ _).1 hs)) h
end Go.Vm
namespace Go.Vm
open Go Tabn
def jM (p:Pt CT):List Int:=bx 256 32 (lm p:Int)
theorem jN (p:Pt CT):(jM p).length=32:=bF _ _ _
theorem kQ (p:Pt CT):Dig 256 (jM p):=da (by decide) _ _
theorem mX {v:Int} (h:0≤v) (h':v<2 ^ 256):num 256 (bx 256 32 v)=v:=by
 rw [fY (by decide)]
 exact Int.emod_eq_of_lt h h'
theorem mt {v w:Int} (h:0≤v) (h':v<2 ^ 256) (k:0≤w) (k':w<2 ^ 256) (e:bx 256 32 v=bx 256 32 w):v=w:=by
 rw [← mX h h',e,mX k k']
theorem mV (p:Pt CT):0≤(lm p:Int)∧(lm p:Int)<2 ^ 256:=⟨Int.natCast_nonneg _,by have:=HH p;exact_mod_cast this⟩
theorem zg {n:Nat} (h:n<2 ^ 256):((n:Nat):Int)<2 ^ 256:=by exact_mod_cast h
theorem nnn (n:Nat):(0:Int)≤((n:Nat):Int):=Int.natCast_nonneg n
theorem lY {p q:Pt CT} (h:jM p=jM q):p=q :=
 CC (Int.ofNat.inj (mt (mV p).1 (mV p).2 (mV q).1 (mV q).2 h))
theorem Ix {a b:List Int} (ha:Dig 256 a) (la:a.length=32) (hb:Dig 256 b) (lb:b.length=32) (h1:a.take 31=b.take 31) (h2:a.getD 31 0=b.getD 31 0):a=b:=by
 have e1:num 256 a=num 256 b:=by
  have p1:=dd (B:=256) (xs:=a) (i:=31)
  have p2:=dd (B:=256) (xs:=b) (i:=31)
  rw [List.take_of_length_le (by omega)] at p1 p2
  rw [p1,p2,h1,h2]
 rw [← nw (by decide) ha,← nw (by decide) hb,la,lb,e1]
theorem mK {v:Nat} (hv:v<2 ^ 255):(bx 256 32 (v:Int)).set 31 ((bx 256 32 (v:Int)).getD 31 0+128)=bx 256 32 ((v+2 ^ 255:Nat):Int)∧0≤(bx 256 32 (v:Int)).getD 31 0∧(bx 256 32 (v:Int)).getD 31 0<128:=by
 have hl:(bx 256 32 (v:Int)).length=32:=bF _ _ _
 have hd:=da (B:=256) (by decide) 32 (v:Int)
 have hb:(2:Int) ^ 256=115792089237316195423570985008687907853269984665640564039457584007913129639936:=rfl
 have hc:(2:Nat) ^ 255=57896044618658097711785492504343953926634992332820282019728792003956564819968:=rfl
 have he:(256:Int) ^ 31=452312848583266388373324160190187140051835877600158453279131187530910662656:=rfl
 rw [hc] at hv
 have g:(bx 256 32 (v:Int)).getD 31 0=(v:Int)/256 ^ 31 % 256:=dR (by decide) 32 31 _ (by decide)
 rw [he] at g
 have g1:0≤(bx 256 32 (v:Int)).getD 31 0∧(bx 256 32 (v:Int)).getD 31 0<128:=by rw [g];omega
 refine ⟨?_,g1⟩
 refine jq (by decide) (oH hd (by omega)) (by rw [List.length_set,hl]) ?_
 rw [gZ (by rw [hl];decide),mX (by omega) (by rw [hb];omega),he,hc]
 omega
theorem Ij {v:Int} (h:0≤v∧v<128):iOr .u8 v 128=v+128:=by
 have:=qE wL (u:=1) (v:=v) (n:=7) (by decide) h.1 h.2 (by show v+128<256;omega)
 exact this
theorem zq {v:Int} (h:0≤v∧v<128):aN .u8 v 128=v+128:=by
 unfold aN
 rw [et]
 omega
theorem ED (p:Pt CT):jM p=sel (decide (p.x.val % 2=1)) ((bx 256 32 (p.y.val:Int)).set 31 ((bx 256 32 (p.y.val:Int)).getD 31 0+128)) (bx 256 32 (p.y.val:Int)):=by
 have hv:p.y.val<2 ^ 255:=Nat.lt_trans p.y.isLt ki
 unfold jM lm
 rcases Nat.mod_two_eq_zero_or_one p.x.val with h|h
 ·rw [h,decide_eq_false (by decide),aA,Nat.zero_mul,Nat.add_zero]
 ·rw [h,decide_eq_true rfl,aD,(mK hv).1,Nat.one_mul]
theorem FV {p:Pt CT} {s:List Int} (h:PE p s):EX s=jM p:=by
 obtain ⟨X,Y,Z,T,fx,fy,fz,ft,rfl,hX,hY,hZ,hT,hE⟩:=h
 obtain ⟨c1,c2,c3,c4⟩:=zm hX.len hY.len hZ.len hT.len
 unfold EX
 rw [c1,c2,c3,ED]
 have e1:EF (F20 X (F25 Z)) p.x:=(fW hX (qZ hZ)).to (by rw [hE.x];exact Al hE.z0)
 have e2:EF (F20 Y (F25 Z)) p.y:=(fW hY (qZ hZ)).to (by rw [hE.y];exact Al hE.z0)
 rw [e1.odd,e2.bytes,Ij (mK (Nat.lt_trans p.y.isLt ki)).2]
theorem RF.low {x:List Int} {f:Tabn.F} (h:RF x f):(((br (x.getD 0 0) 2):Int)==1)=decide (f.val % 2=1):=by
 have h1:=h.val
 unfold R at h1
 rw [h1,jP,dR (by decide) 16 0 _ (by decide),Int.pow_zero,Int.ediv_one]
 have e:br ((f.val:Int) % 65536) 2=((f.val % 2:Nat):Int):=by
  unfold br
  rw [Int.tmod_eq_emod_of_nonneg (by omega)]
  omega
 rw [e]
 rcases Nat.mod_two_eq_zero_or_one f.val with h|h <;> rw [h] <;> rfl
theorem FR {p:Pt CT} {s:List Int} (h:PR p s):xb s=jM p:=by
 obtain ⟨X,Y,Z,fx,fy,fz,rfl,hX,hY,hZ,hE⟩:=h
 obtain ⟨c1,c2,c3⟩:=zX hX.len hY.len hZ.len
 unfold xb aT
 rw [c1,c2,c3,ED]
 have e1:RF (F21 X (F28 Z)) p.x:=(eh hX (rI hZ)).to (by rw [hE.x];exact Al hE.z0)
 have e2:RF (F21 Y (F28 Z)) p.y:=(eh hY (rI hZ)).to (by rw [hE.y];exact Al hE.z0)
 rw [e1.low,e2.bytes,zq (mK (Nat.lt_trans p.y.isLt ki)).2]
structure Parts (b:List Int) (N:Nat):Prop where
 eq:b=bx 256 32 (N:Int)
 num:num 256 b=(N:Int)
 lt:N<2 ^ 256
 top:b.getD 31 0=((N/2 ^ 248:Nat):Int)
 odd:(decide ((b.getD 31 0:Int) ≥ 128))=decide (N/2 ^ 255=1)
theorem ea {b:List Int} (hb:Dig 256 b) (hl:b.length=32):∃ N,Parts b N:=by
 obtain ⟨N,h1,h2⟩:=ky hb
 rw [hl] at h2
 have e1:b=bx 256 32 (N:Int):=jq (by decide) hb hl h1
 have e2:b.getD 31 0=((N/2 ^ 248:Nat):Int):=by
  rw [e1,dR (by decide) 32 31 _ (by decide)]
  have he:(256:Int) ^ 31=452312848583266388373324160190187140051835877600158453279131187530910662656:=rfl
  have hc:(2:Nat) ^ 248=452312848583266388373324160190187140051835877600158453279131187530910662656:=rfl
  have hd:(2:Nat) ^ (8*32)=115792089237316195423570985008687907853269984665640564039457584007913129639936:=rfl
  rw [hd] at h2
  rw [he,hc]
  omega
 refine ⟨N,e1,h1,h2,e2,?_⟩
 rw [e2]
 have hc:(2:Nat) ^ 248=452312848583266388373324160190187140051835877600158453279131187530910662656:=rfl
 have hc2:(2:Nat) ^ 255=57896044618658097711785492504343953926634992332820282019728792003956564819968:=rfl
 have hd:(2:Nat) ^ (8*32)=115792089237316195423570985008687907853269984665640564039457584007913129639936:=rfl
 rw [hd] at h2
 rw [hc,hc2]
 by_cases h:N/57896044618658097711785492504343953926634992332820282019728792003956564819968=1
 ·rw [decide_eq_true h,decide_eq_true (by omega)]
 ·rw [decide_eq_false h,decide_eq_false (by omega)]
theorem oF {N:Nat} (h:N<2 ^ 256):N/2 ^ 255<2:=by
 have hc2:(2:Nat) ^ 255=57896044618658097711785492504343953926634992332820282019728792003956564819968:=rfl
 have hd:(2:Nat) ^ 256=115792089237316195423570985008687907853269984665640564039457584007913129639936:=rfl
 rw [hd] at h
 rw [hc2]
 omega
theorem Parts.y {b:List Int} {N:Nat} (h:Parts b N):uOf b=Fin.ofNat P (N % 2 ^ 255):=by
 apply jC
 unfold uOf
 rw [eD,h.num,js]
 show ((N:Int) % 57896044618658097711785492504343953926634992332820282019728792003956564819968) % ((P:Nat):Int)=((N % 2 ^ 255 % P:Nat):Int)
 rw [Int.natCast_emod,Int.natCast_emod]
 rfl
def back (N:Nat):Nat:=(Fin.ofNat P (N % 2 ^ 255)).val+N/2 ^ 255*2 ^ 255
theorem FU {N:Nat} (h:N<2 ^ 256):back N=N↔N % 2 ^ 255<P:=by
 have h1:(Fin.ofNat P (N % 2 ^ 255)).val=N % 2 ^ 255 % P:=rfl
 unfold back
 rw [h1]
 constructor
 ·intro e
  have h2:N % 2 ^ 255 % P<P:=Nat.mod_lt _ HW
  have:N % 2 ^ 255 % P=N % 2 ^ 255:=by omega
  omega
 ·intro e
  rw [Nat.mod_eq_of_lt e]
  omega
theorem GB {N:Nat} (h:N<2 ^ 256):back N<2 ^ 256:=by
 have h1:=oF h
 have h2:=(Fin.ofNat P (N % 2 ^ 255)).isLt
 have h3:=ki
 unfold back
 omega
theorem qu {N:Nat} (h:N<2 ^ 256):bx 256 32 (back N:Int)=sel (decide (N/2 ^ 255=1)) ((bx 256 32 ((Fin.ofNat P (N % 2 ^ 255)).val:Int)).set 31 ((bx 256 32 ((Fin.ofNat P (N % 2 ^ 255)).val:Int)).getD 31 0+128)) (bx 256 32 ((Fin.ofNat P (N % 2 ^ 255)).val:Int)):=by
 have hv:(Fin.ofNat P (N % 2 ^ 255)).val<2 ^ 255:=Nat.lt_trans (Fin.ofNat P (N % 2 ^ 255)).isLt ki
 have h1:=oF h
 unfold back
 by_cases e:N/2 ^ 255=1
 ·rw [e,decide_eq_true rfl,aD,(mK hv).1,Nat.one_mul]
 ·have e0:N/2 ^ 255=0:=by omega
  rw [e0,decide_eq_false (by decide),aA,Nat.zero_mul,Nat.add_zero]
theorem sb {b:List Int} {N:Nat} (h:Parts b N):bx 256 32 (back N:Int)=b↔N % 2 ^ 255<P:=by
 rw [← FU h.lt]
 have h1:=GB h.lt
 have h2:=h.lt
 constructor
 ·intro e
  rw [h.eq] at e
  exact Int.ofNat.inj (mt (nnn _) (zg h1) (nnn _) (zg h2) e)
 ·intro e
  rw [e]
  exact h.eq.symm
theorem vf:∀ a,a<256→a &&& 128=a/128*128:=by decide +kernel
theorem GN {x:Int} (h:0≤x∧x<256):ai .u8 x 128=x/128*2 ^ 7:=by
 obtain ⟨a,rfl,ha⟩:=AD (N:=256) h
 have:=fF wL ha (b:=128) (by decide)
 rw [vf a ha] at this
 have e:((a/128*128:Nat):Int)=(a:Int)/128*2 ^ 7:=by omega
 rw [← e];exact this
theorem Ho {b:List Int} {N:Nat} (h:Parts b N) (hb:Dig 256 b) (hl:b.length=32) :
  (((iOr .u8 ((bx 256 32 ((Fin.ofNat P (N % 2 ^ 255)).val:Int)).getD 31 0) (ai .u8 (b.getD 31 0) 128)):Int) != b.getD 31 0)=false ∧
   aC (bytesOf (((bx 256 32 ((Fin.ofNat P (N % 2 ^ 255)).val:Int)).drop 0).take 31)) (bytesOf ((b.drop 0).take 31))=true↔N % 2 ^ 255<P:=by
 rw [← sb h]
 have hv:(Fin.ofNat P (N % 2 ^ 255)).val<2 ^ 255:=Nat.lt_trans (Fin.ofNat P (N % 2 ^ 255)).isLt ki
 have hB:=qu h.lt
 have hh:=oF h.lt
 obtain ⟨t1,t2,t3⟩:=mK hv
 have hd:=da (B:=256) (by decide) 32 (((Fin.ofNat P (N % 2 ^ 255)).val:Nat):Int)
 have hld:=bF 256 32 (((Fin.ofNat P (N % 2 ^ 255)).val:Nat):Int)
 generalize bx 256 32 (((Fin.ofNat P (N % 2 ^ 255)).val:Nat):Int)=C at *
 have b31:0≤b.getD 31 0∧b.getD 31 0<256:=bh (by decide) hb
 have b128:b.getD 31 0/128=((N/2 ^ 255:Nat):Int):=by
  rw [h.top]
  have hc:(2:Nat) ^ 248=452312848583266388373324160190187140051835877600158453279131187530910662656:=rfl
  have hc2:(2:Nat) ^ 255=57896044618658097711785492504343953926634992332820282019728792003956564819968:=rfl
  rw [hc,hc2]
  omega
 rw [GN b31,b128]
 have hor:iOr .u8 (C.getD 31 0) (((N/2 ^ 255:Nat):Int)*2 ^ 7)=C.getD 31 0+((N/2 ^ 255:Nat):Int)*2 ^ 7 :=
  qE wL (Int.natCast_nonneg _) t2 t3 (by show C.getD 31 0+((N/2 ^ 255:Nat):Int)*128<256;generalize N/2 ^ 255=m at *;omega)
 rw [hor,List.drop_zero,List.drop_zero,jg (fun x hx=>hd x (List.mem_of_mem_take hx)) (fun x hx=>hb x (List.mem_of_mem_take hx))]
 have g1:(bx 256 32 (back N:Int)).take 31=C.take 31:=by
  rw [hB]
  cases decide (N/2 ^ 255=1)
  ·rfl
  ·rw [aD,lP]
 have g2:(bx 256 32 (back N:Int)).getD 31 0=C.getD 31 0+((N/2 ^ 255:Nat):Int)*2 ^ 7:=by
  rw [hB]
  by_cases e:N/2 ^ 255=1
  ·rw [e,decide_eq_true rfl,aD,cz (by omega)]
   rfl
  ·have e0:N/2 ^ 255=0:=by omega
   rw [e0,decide_eq_false (by decide),aA]
   show _=C.getD 31 0+0*128
   omega
 rw [← g1,← g2]
 constructor
 ·rintro ⟨h1,h2⟩
  refine Ix (da (by decide) _ _) (bF _ _ _) hb hl (of_decide_eq_true h2) ?_
  simpa using h1
 ·intro e
  rw [e]
  simp
theorem Hp {b:List Int} {N:Nat} (h:Parts b N) (hb:Dig 256 b) (hl:b.length=32) :
  aC (bytesOf (((sel (decide ((b.getD 31 0:Int) ≥ 128)) ((bx 256 32 ((Fin.ofNat P (N % 2 ^ 255)).val:Int)).set 31 (aN .u8 ((bx 256 32 ((Fin.ofNat P (N % 2 ^ 255)).val:Int)).getD 31 0) 128)) (bx 256 32 ((Fin.ofNat P (N % 2 ^ 255)).val:Int))).drop 0).take 32)) (bytesOf b)=true↔N % 2 ^ 255<P:=by
 rw [← sb h]
 have hv:(Fin.ofNat P (N % 2 ^ 255)).val<2 ^ 255:=Nat.lt_trans (Fin.ofNat P (N % 2 ^ 255)).isLt ki
 rw [zq (mK hv).2,h.odd,← qu h.lt,List.drop_zero,List.take_of_length_le (by rw [bF];exact Nat.le_refl _),jg (da (by decide) _ _) hb]
 exact decide_eq_true_iff
theorem HO {α:Type} {h:Nat} (hh:h<2) {c:Nat} (hc:c<2) (x y:α):sel (!((decide (c=1))==(decide (h=1)))) x y=if c=h then y else x:=by
 have h1:c=0∨c=1:=by omega
 have h2:h=0∨h=1:=by omega
 rcases h1 with rfl|rfl <;> rcases h2 with rfl|rfl <;> rfl
theorem MP {X:List Int} {r:Tabn.F} {h:Nat} (hX:EF X r) (hh:h<2):EF (sel (!((F32 X)==(decide (h=1)))) (F18 (F30 0) X) X) (xOf r h):=by
 rw [hX.odd,HO hh (Nat.mod_lt _ (by decide))]
 unfold xOf
 split
 ·exact hX
 ·exact kx lA hX
theorem MO {X:List Int} {r:Tabn.F} {h:Nat} (hX:RF X r) (hh:h<2):RF (sel (!((((br (X.getD 0 0) 2):Int)==1)==(decide (h=1)))) (F19 (F31 0) X) X) (xOf r h):=by
 rw [hX.low,HO hh (Nat.mod_lt _ (by decide))]
 unfold xOf
 split
 ·exact hX
 ·exact rJ nn hX
theorem yY (a b:Tabn.F):a*b=b*a:=by grind -lia -linarith
theorem Jg {Y:List Int} {y:Tabn.F} (h:EF Y y):EF (F20 (F18 (F20 Y Y) (F30 1)) (F25 (F16 (F20 (F20 Y Y) (bu)) (F30 1)))) (pq y):=by
 refine (fW (kx (fW h h) rL) (qZ (lX (fW (fW h h) lV) rL))).to ?_
 unfold pq
 rw [yY (y*y) dT]
theorem KM {Y:List Int} {y:Tabn.F} (h:RF Y y):RF (aT (cY (aT Y Y) (bC 1)) (F28 (dS (aT (dP) (aT Y Y)) (bC 1)))) (pq y):=by
 unfold aT cY dS bC
 exact eh (rJ (eh h h) qv) (rI (uB (eh vc (eh h h)) qv))
def Reads (ok:Bool) (b:List Int) (R:Pt CT→Prop):Prop:=(ok=true∧∃ p,b=jM p∧R p)∨(ok=false∧∀ p,b≠jM p)
theorem Ee {b:List Int} {N:Nat} (h:Parts b N) (hn:¬ Aw rtF N):∀ p,b≠jM p:=by
 intro p e
 apply hn
 rw [h.eq] at e
 have h2:=h.lt
 have:=Int.ofNat.inj (mt (nnn _) (zg h2) (mV p).1 (mV p).2 e)
 rw [this]
 exact Gq Jx p
theorem xv {b:List Int} (hb:Dig 256 b):Reads (gR b) b (fun p=>PE p (ia b)):=by
 by_cases hl:b.length=32
 ·obtain ⟨N,hN⟩:=ea hb hl
  have hlook:=Ho hN hb hl
  have hY:EF (F23 b) (Fin.ofNat P (N % 2 ^ 255)):=(FX hb hl).to hN.y
  have hh:=oF hN.lt
  obtain ⟨hR,hok⟩:=GM (Jg hY)
  have hX:=MP hR hh
  have hz:=hR.same lA
  have hpt:=wo (rt:=rtF) hN.lt
  have hne:=Ee hN
  unfold Aw at hpt hne
  unfold ia gR
  rw [zN,decide_eq_true hl,Bool.not_true,aA,aA,hN.odd,hY.bytes,hok,hz]
  generalize F34 (F20 (F18 (F20 (F23 b) (F23 b)) (F30 1)) (F25 (F16 (F20 (F20 (F23 b) (F23 b)) (bu)) (F30 1))))=Rt at *
  generalize pq (Fin.ofNat P (N % 2 ^ 255))=xx at *
  by_cases c:N % 2 ^ 255<P
  ·obtain ⟨c1,c2⟩:=hlook.2 c
   rw [c1,c2,Bool.not_true,aA,aA,aA,aA]
   by_cases c3:rtF xx*rtF xx=xx
   ·rw [decide_eq_true c3,Bool.not_true,aA,aA]
    by_cases c4:rtF xx=0∧N/2 ^ 255=1
    ·refine .inr ⟨?_,hne (fun h=>h.2.2 c4)⟩
     rw [decide_eq_true c4.1,decide_eq_true c4.2]
     rfl
    ·obtain ⟨p,p1,p2,p3⟩:=hpt ⟨c,c3,c4⟩
     have e1:∀ {α:Type} (x y:α),sel (decide (rtF xx=0)) (sel (decide (N/2 ^ 255=1)) x y) y=y:=by
      intro α x y
      by_cases d1:rtF xx=0
      ·by_cases d2:N/2 ^ 255=1
       ·exact absurd ⟨d1,d2⟩ c4
       ·rw [decide_eq_false d2,aA];cases decide (rtF xx=0) <;> rfl
      ·rw [decide_eq_false d1,aA]
     rw [e1,e1]
     refine .inl ⟨rfl,p,?_,?_⟩
     ·rw [hN.eq,← p1];rfl
     ·have hT:=fW hX hY
      rw [BP hX.len hY.len rL.len hT.len]
      exact ⟨_,_,_,_,_,_,_,_,rfl,hX,hY,rL,hT,⟨fQ,by rw [p3];exact mh _,by rw [p2];exact mh _,by rw [p3,p2];exact mh _⟩⟩
   ·refine .inr ⟨?_,hne (fun h=>c3 h.2.1)⟩
    rw [decide_eq_false c3]
    rfl
  ·refine .inr ⟨?_,hne (fun h=>c h.1)⟩
   have h3:¬ _:=fun h=>c (hlook.1 h)
   generalize (((iOr .u8 ((bx 256 32 ((Fin.ofNat P (N % 2 ^ 255)).val:Int)).getD 31 0) (ai .u8 (b.getD 31 0) 128)):Int) != b.getD 31 0)=x1 at *
   generalize aC (bytesOf (((bx 256 32 ((Fin.ofNat P (N % 2 ^ 255)).val:Int)).drop 0).take 31)) (bytesOf ((b.drop 0).take 31))=x2 at *
   cases x1
   ·cases x2
    ·rfl
    ·exact absurd ⟨rfl,rfl⟩ h3
   ·rfl
 ·refine .inr ⟨?_,fun p e=>hl (by rw [e];exact jN p)⟩
  unfold gR
  rw [zN,decide_eq_false hl]
  rfl
theorem xp {b:List Int} (hb:Dig 256 b):Reads (gQ b) b (fun p=>PR p (lB b)):=by
 by_cases hl:b.length=32
 ·obtain ⟨N,hN⟩:=ea hb hl
  have hlook:=Hp hN hb hl
  have hY:RF (F24 b) (Fin.ofNat P (N % 2 ^ 255)):=(GY hb hl).to hN.y
  have hh:=oF hN.lt
  obtain ⟨hR,hok⟩:=FO (KM hY)
  have hX:=MO hR hh
  have hz:=hR.beq nn
  have hpt:=wo (rt:=rtF) hN.lt
  have hne:=Ee hN
  have hlen:((((b.length:Nat):Int):Int) != 32)=false:=by rw [hl];rfl
  unfold Aw at hpt hne
  rw [hN.odd] at hlook
  unfold lB gQ
  rw [hlen,aA,aA,hN.odd,hY.bytes,hok]
  have e43:bC 0=F31 0:=rfl
  rw [e43,hz]
  generalize F35 (aT (cY (aT (F24 b) (F24 b)) (bC 1)) (F28 (dS (aT (dP) (aT (F24 b) (F24 b))) (bC 1))))=Rt at *
  generalize pq (Fin.ofNat P (N % 2 ^ 255))=xx at *
  by_cases c:N % 2 ^ 255<P
  ·rw [hlook.2 c,Bool.not_true,aA,aA]
   by_cases c3:rtF xx*rtF xx=xx
   ·rw [decide_eq_true c3,Bool.not_true,aA,aA]
    by_cases c4:rtF xx=0∧N/2 ^ 255=1
    ·refine .inr ⟨?_,hne (fun h=>h.2.2 c4)⟩
     rw [decide_eq_true c4.1,decide_eq_true c4.2]
     rfl
    ·obtain ⟨p,p1,p2,p3⟩:=hpt ⟨c,c3,c4⟩
     have e1:∀ {α:Type} (x y:α),sel (decide (rtF xx=0)) (sel (decide (N/2 ^ 255=1)) x y) y=y:=by
      intro α x y
      by_cases d1:rtF xx=0
      ·by_cases d2:N/2 ^ 255=1
       ·exact absurd ⟨d1,d2⟩ c4
       ·rw [decide_eq_false d2,aA];cases decide (rtF xx=0) <;> rfl
      ·rw [decide_eq_false d1,aA]
     rw [e1,e1]
     refine .inl ⟨rfl,p,?_,?_⟩
     ·rw [hN.eq,← p1];rfl
     ·unfold cY bC
      rw [EE hX.len hY.len qv.len]
      exact ⟨_,_,_,_,_,_,rfl,hX,hY,qv,⟨fQ,by rw [p3];exact mh _,by rw [p2];exact mh _⟩⟩
   ·refine .inr ⟨?_,hne (fun h=>c3 h.2.1)⟩
    rw [decide_eq_false c3]
    rfl
  ·refine .inr ⟨?_,hne (fun h=>c h.1)⟩
   have h3:¬ _:=fun h=>c (hlook.1 h)
   rw [Bool.not_eq_true] at h3
   rw [h3]
   rfl
 ·refine .inr ⟨?_,fun p e=>hl (by rw [e];exact jN p)⟩
  have hlen:((((b.length:Nat):Int):Int) != 32)=true:=by simp;omega
  unfold gQ
  rw [hlen]
  rfl
end Go.Vm
namespace Go.Vm
open Go Tabn
structure Sc4 (s:List Int) (V:Nat):Prop where
 ex:∃ a b c d:Int,s=[a,b,c,d]∧(0≤a∧a<18446744073709551616)∧(0≤b∧b<18446744073709551616)∧(0≤c∧c<18446744073709551616)∧(0≤d∧d<18446744073709551616) ∧
  a+18446744073709551616*b+340282366920938463463374607431768211456*c+6277101735386680763835789423207666416102355444464034512896*d=(V:Int)
theorem tM:L=7237005577332262213973186563042994240857116359379907606001950938285454250989:=rfl
theorem Sc4.zero:Sc4 [0,0,0,0] 0:=⟨0,0,0,0,rfl,by decide,by decide,by decide,by decide,by decide⟩
theorem Sc4.order:Sc4 ((xa.drop 0).take 4) L:=⟨6346243789798364141,1503914060200516822,0,1152921504606846976,rfl,by decide,by decide,by decide,by decide,by rw [tM];decide⟩
theorem ij {x y c:Int} (hx:0≤x∧x<18446744073709551616) (hy:0≤y∧y<18446744073709551616) (hc:0≤c∧c≤1):gL x y c=x-y-c+18446744073709551616*cy x y c:=by
 unfold gL cy
 split <;> omega
theorem AF {a b:List Int} {V W:Nat} (ha:Sc4 a V) (hb:Sc4 b W):sN a b=decide (V<W):=by
 obtain ⟨a0,a1,a2,a3,rfl,h0,h1,h2,h3,hV⟩:=ha
 obtain ⟨b0,b1,b2,b3,rfl,k0,k1,k2,k3,hW⟩:=hb
 have e:sN [a0,a1,a2,a3] [b0,b1,b2,b3]=((cy a3 b3 (cy a2 b2 (cy a1 b1 (cy a0 b0 0))):Int)==1):=by kernel_rfl
 rw [e]
 have r0:=fc a0 b0 0
 have s0:=fb a0 b0 0
 have q0:=ij h0 k0 (show (0:Int)≤0∧(0:Int)≤1 by decide)
 generalize cy a0 b0 0=c0 at *
 generalize gL a0 b0 0=d0 at *
 have r1:=fc a1 b1 c0
 have s1:=fb a1 b1 c0
 have q1:=ij h1 k1 r0
 generalize cy a1 b1 c0=c1 at *
 generalize gL a1 b1 c0=d1 at *
 have r2:=fc a2 b2 c1
 have s2:=fb a2 b2 c1
 have q2:=ij h2 k2 r1
 generalize cy a2 b2 c1=c2 at *
 generalize gL a2 b2 c1=d2 at *
 have r3:=fc a3 b3 c2
 have s3:=fb a3 b3 c2
 have q3:=ij h3 k3 r2
 generalize cy a3 b3 c2=c3 at *
 generalize gL a3 b3 c2=d3 at *
 by_cases h:V<W
 ·have:c3=1:=by omega
  rw [this,decide_eq_true h];rfl
 ·have:c3=0:=by omega
  rw [this,decide_eq_false h];rfl
theorem Fc {s c:Int} (hs:0≤s∧s<18446744073709551616) (hc:0≤c∧c≤1):iOr .u64 (cu .u64 s 1) c=s % 9223372036854775808*2+c:=by
 have e1:cu .u64 s 1=s % 9223372036854775808*2 ^ 1:=by
  have:=lG .u64 s 1 (by decide)
  rw [show ((1:Nat):Int)=1 from rfl] at this
  rw [this,eV]
  show s*2 % 18446744073709551616=s % 9223372036854775808*2
  omega
 rw [e1,yv _ c 1 (by omega) hc.1 (by show c<2;omega) (by show s % 9223372036854775808*2+c<_;omega)]
 rfl
theorem CS {s:Int} (hs:0≤s∧s<18446744073709551616):aa .u64 s 63=s/9223372036854775808:=fi .u64 s 63 (by decide)
theorem Gn {s:List Int} {V b:Nat} (h:Sc4 s V) (hV:V<L) (hb:b<2):Sc4 (ye s (b:Int)) ((2*V+b) % L):=by
 obtain ⟨a0,a1,a2,a3,rfl,h0,h1,h2,h3,hN⟩:=h
 have e0:(itr (ff) 4 ((b:Int),[a0,a1,a2,a3])).2=[iOr .u64 (cu .u64 a0 1) (b:Int),iOr .u64 (cu .u64 a1 1) (aa .u64 a0 63),iOr .u64 (cu .u64 a2 1) (aa .u64 a1 63),iOr .u64 (cu .u64 a3 1) (aa .u64 a2 63)]:=by kernel_rfl
 unfold ye
 rw [e0,CS h0,CS h1,CS h2,Fc h0 (by omega),Fc h1 (by omega),Fc h2 (by omega),Fc h3 (by omega)]
 rw [tM] at hV
 have g0:0≤a0 % 9223372036854775808*2+(b:Int)∧a0 % 9223372036854775808*2+(b:Int)<18446744073709551616:=by omega
 have g1:0≤a1 % 9223372036854775808*2+a0/9223372036854775808∧a1 % 9223372036854775808*2+a0/9223372036854775808<18446744073709551616:=by omega
 have g2:0≤a2 % 9223372036854775808*2+a1/9223372036854775808∧a2 % 9223372036854775808*2+a1/9223372036854775808<18446744073709551616:=by omega
 have g3:0≤a3 % 9223372036854775808*2+a2/9223372036854775808∧a3 % 9223372036854775808*2+a2/9223372036854775808<18446744073709551616:=by omega
 have hT:(a0 % 9223372036854775808*2+(b:Int))+18446744073709551616*(a1 % 9223372036854775808*2+a0/9223372036854775808)+340282366920938463463374607431768211456*(a2 % 9223372036854775808*2+a1/9223372036854775808)+6277101735386680763835789423207666416102355444464034512896*(a3 % 9223372036854775808*2+a2/9223372036854775808)=((2*V+b:Nat):Int):=by omega
 generalize a0 % 9223372036854775808*2+(b:Int)=t0 at *
 generalize a1 % 9223372036854775808*2+a0/9223372036854775808=t1 at *
 generalize a2 % 9223372036854775808*2+a1/9223372036854775808=t2 at *
 generalize a3 % 9223372036854775808*2+a2/9223372036854775808=t3 at *
 have hS:Sc4 [t0,t1,t2,t3] (2*V+b):=⟨t0,t1,t2,t3,rfl,g0,g1,g2,g3,hT⟩
 rw [AF hS Sc4.order]
 by_cases hlt:2*V+b<L
 ·rw [decide_eq_true hlt,Bool.not_true,aA,Nat.mod_eq_of_lt hlt]
  exact hS
 ·rw [decide_eq_false hlt,Bool.not_false,aD]
  have em:(2*V+b) % L=2*V+b-L:=by
   rw [Nat.mod_eq_sub_mod (by omega),Nat.mod_eq_of_lt]
   rw [tM] at *
   omega
  rw [em]
  rw [tM] at hlt ⊢
  have e1:(itr (my) 4 (0,[t0,t1,t2,t3])).2=[gL t0 6346243789798364141 0,gL t1 1503914060200516822 (cy t0 6346243789798364141 0),gL t2 0 (cy t1 1503914060200516822 (cy t0 6346243789798364141 0)),gL t3 1152921504606846976 (cy t2 0 (cy t1 1503914060200516822 (cy t0 6346243789798364141 0)))]:=by kernel_rfl
  rw [e1]
  have r0:=fc t0 6346243789798364141 0
  have s0:=fb t0 6346243789798364141 0
  have q0:=ij g0 (show (0:Int)≤6346243789798364141∧(6346243789798364141:Int)<18446744073709551616 by decide) (show (0:Int)≤0∧(0:Int)≤1 by decide)
  generalize cy t0 6346243789798364141 0=c0 at *
  generalize gL t0 6346243789798364141 0=d0 at *
  have r1:=fc t1 1503914060200516822 c0
  have s1:=fb t1 1503914060200516822 c0
  have q1:=ij g1 (show (0:Int)≤1503914060200516822∧(1503914060200516822:Int)<18446744073709551616 by decide) r0
  generalize cy t1 1503914060200516822 c0=c1 at *
  generalize gL t1 1503914060200516822 c0=d1 at *
  have r2:=fc t2 0 c1
  have s2:=fb t2 0 c1
  have q2:=ij g2 (show (0:Int)≤0∧(0:Int)<18446744073709551616 by decide) r1
  generalize cy t2 0 c1=c2 at *
  generalize gL t2 0 c1=d2 at *
  have r3:=fc t3 1152921504606846976 c2
  have s3:=fb t3 1152921504606846976 c2
  have q3:=ij g3 (show (0:Int)≤1152921504606846976∧(1152921504606846976:Int)<18446744073709551616 by decide) r2
  generalize cy t3 1152921504606846976 c2=c3 at *
  generalize gL t3 1152921504606846976 c2=d3 at *
  exact ⟨d0,d1,d2,d3,rfl,s0,s1,s2,s3,by omega⟩
theorem Cs:0<L:=by decide
theorem vz (M b:Nat):(2*(M % L)+b) % L=(2*M+b) % L:=by
 rw [Nat.add_mod,Nat.mul_mod,Nat.mod_mod,← Nat.mul_mod,← Nat.add_mod]
theorem Em {b:List Int} (hb:Dig 256 b) {N:Nat} (hN:num 256 b=(N:Int)):Sc4 (xo b) (N % L):=by
 have hlt:N<2 ^ (8*b.length):=by
  obtain ⟨M,h1,h2⟩:=ky hb
  rw [h1] at hN
  have:=Int.ofNat.inj hN
  omega
 have key:∀ k,k≤8*b.length→Sc4 (itr (pJ b) k [0,0,0,0]) ((N/2 ^ (8*b.length-k)) % L):=by
  intro k
  induction k with
  |zero =>
   intro _
   rw [bB,Nat.sub_zero,Nat.div_eq_of_lt hlt]
   exact Sc4.zero
  |succ k ih =>
   intro hk'
   have ih:=ih (by omega)
   rw [aq,oQ N (8*b.length) k (by omega),← vz]
   generalize itr (pJ b) k _=z at *
   unfold pJ
   rw [oC hb hN (8*b.length-1-k)]
   have hw:IntKind.wrap .u64 ((N/2 ^ (8*b.length-1-k) % 2:Nat):Int)=((N/2 ^ (8*b.length-1-k) % 2:Nat):Int):=by
    rw [eV];omega
   rw [hw]
   exact Gn ih (Nat.mod_lt _ Cs) (Nat.mod_lt _ (by decide))
 have:=key (8*b.length) (Nat.le_refl _)
 rw [Nat.sub_self,Nat.pow_zero,Nat.div_one] at this
 exact this
theorem ja (B:Int):∀ (xs ys:List Int),num B (xs++ys)=num B xs+B ^ xs.length*num B ys
 |[],ys=>by show num B ys=0+B ^ 0*num B ys;rw [Int.pow_zero];omega
 |x :: xs,ys=>by
  show x+B*num B (xs++ys)=x+B*num B xs+B ^ (xs.length+1)*num B ys
  rw [ja B xs ys,Int.mul_add,Int.pow_succ,Int.mul_comm (B ^ xs.length) B,Int.mul_assoc,Int.add_assoc]
theorem GP {a:Int} (ha:0≤a∧a<18446744073709551616) {k:Nat} (hk:k<8):IntKind.wrap .u8 (aa .u64 a ((8*k:Nat):Int))=a/256 ^ k % 256:=by
 rw [fi .u64 a (8*k) (by show 8*k≤64;omega),et,Int.pow_mul]
 rfl
theorem lD {p0:List Int} {j:Nat} (h:0≤p0.getD j 0∧p0.getD j 0<18446744073709551616) (z:Nat × List Int):∀ k,k≤8→(itr (gP p0 j) k z).2=z.2++bx 256 k (p0.getD j 0):=by
 intro k
 induction k with
 |zero=>intro _;rw [bB];exact (List.append_nil _).symm
 |succ k ih =>
  intro hk
  rw [aq]
  show (itr (gP p0 j) k z).2++[_]=_
  rw [ih (by omega),ju (by decide) k 1,List.append_assoc,GP h (by omega)]
  rfl
theorem yy {s:List Int} {V:Nat} (h:Sc4 s V):ng s=bx 256 32 (V:Int):=by
 obtain ⟨a,b,c,d,rfl,h0,h1,h2,h3,hV⟩:=h
 have w:∀ j,0≤[a,b,c,d].getD j 0∧[a,b,c,d].getD j 0<18446744073709551616:=by
  intro j
  match j with
  |0=>exact h0
  |1=>exact h1
  |2=>exact h2
  |3=>exact h3
  |j+4=>exact ⟨Int.le_refl 0,(show (0:Int)<18446744073709551616 by decide)⟩
 have e:ng [a,b,c,d]=bx 256 8 a++(bx 256 8 b++(bx 256 8 c++bx 256 8 d)):=by
  unfold ng
  rw [aq,aq,aq,aq,bB]
  show (itr (gP _ 3) 8 _).2=_
  rw [lD (w 3) _ 8 (by decide)]
  show (itr (gP _ 2) 8 _).2++_=_
  rw [lD (w 2) _ 8 (by decide)]
  show (itr (gP _ 1) 8 _).2++_++_=_
  rw [lD (w 1) _ 8 (by decide)]
  show (itr (gP _ 0) 8 _).2++_++_++_=_
  rw [lD (w 0) _ 8 (by decide)]
  show []++bx 256 8 a++bx 256 8 b++bx 256 8 c++bx 256 8 d=_
  rw [List.nil_append,List.append_assoc,List.append_assoc]
 rw [e]
 have n8:∀ x:Int,(0≤x∧x<18446744073709551616)→num 256 (bx 256 8 x)=x:=fun x hx=>by
  rw [fY (by decide)];exact Int.emod_eq_of_lt hx.1 hx.2
 refine jq (by decide) ?_ ?_ ?_
 ·intro x hx
  simp only [List.mem_append] at hx
  rcases hx with hx|hx|hx|hx <;> exact da (by decide) _ _ x hx
 ·simp only [List.length_append,bF]
 ·have p:(256:Int) ^ 8=18446744073709551616:=rfl
  rw [ja,ja,ja,n8 a h0,n8 b h1,n8 c h2,n8 d h3,bF,bF,bF,p]
  omega
theorem KA {V:Nat} (hV:V<2 ^ 256):num 256 (bx 256 32 (V:Int))=(V:Int):=mX (nnn V) (zg hV)
theorem Sc4.dig {s:List Int} {V:Nat} (h:Sc4 s V):Dig (2 ^ 64) s∧num (2 ^ 64) s=(V:Int)∧V<2 ^ 256:=by
 obtain ⟨a,b,c,d,rfl,h0,h1,h2,h3,hV⟩:=h
 have p:(2:Int) ^ 64=18446744073709551616:=rfl
 have h256:(2:Nat) ^ 256=115792089237316195423570985008687907853269984665640564039457584007913129639936:=rfl
 rw [p,h256]
 refine ⟨?_,?_,by omega⟩
 ·intro x hx
  simp only [List.mem_cons,List.not_mem_nil,or_false] at hx
  rcases hx with rfl|rfl|rfl|rfl
  ·exact h0
  ·exact h1
  ·exact h2
  ·exact h3
 ·show a+18446744073709551616*(b+18446744073709551616*(c+18446744073709551616*(d+18446744073709551616*0)))=(V:Int)
  omega
end Go.Vm
namespace Go.Vm
open Go Tabn
theorem IF {f:Nat→Int × List Int→Int × List Int} {W:Nat→Int} {sg:Int} {p:List Int} {n:Nat} {C:Int→Prop} (hn:p.length=n)
  (hf:∀ k c d,k<n→d.length=n→d.getD k 0=p.getD k 0→C c→∃ c' r,f k (c,d)=(c',d.set k r)∧(0≤r∧r<256)∧C c'∧r+256*(sg*c')=W k+sg*c) {c0:Int} (h0:C c0) :
  ∀ j,j≤n→∃ c d,itr f j (c0,p)=(c,d)∧d.length=n∧C c∧(∀ i,i<j→0≤d.getD i 0∧d.getD i 0<256)∧(∀ i,j≤i→d.getD i 0=p.getD i 0)∧num 256 (d.take j)+256 ^ j*(sg*c)=su 256 W j+sg*c0:=by
 intro j
 induction j with
 |zero =>
  intro _
  rw [bB]
  refine ⟨c0,p,rfl,hn,h0,fun i hi=>absurd hi (by omega),fun _ _=>rfl,?_⟩
  rw [List.take_zero,Int.pow_zero]
  show 0+1*(sg*c0)=0+sg*c0
  omega
 |succ j ih =>
  intro hj
  obtain ⟨c,d,e,hl,hc,hd,hp,hv⟩:=ih (by omega)
  rw [aq,e]
  obtain ⟨c',r,e1,hr,hc',hw⟩:=hf j c d (by omega) hl (hp j (Nat.le_refl _)) hc
  refine ⟨c',d.set j r,e1,by rw [List.length_set,hl],hc',?_,?_,?_⟩
  ·intro i hi
   by_cases hij:i=j
   ·subst hij;rw [cz (by omega)];exact hr
   ·rw [cM (by omega)];exact hd i (by omega)
  ·intro i hi
   rw [cM (by omega)];exact hp i (by omega)
  ·rw [dd,lP,cz (by omega),iD,Int.pow_succ]
   generalize (256:Int) ^ j=X at *
   generalize num 256 (d.take j)=a at *
   generalize su 256 W j=b at *
   generalize sg*c'=y at *
   generalize sg*c=x at *
   generalize sg*c0=x0 at *
   generalize W j=w at *
   have e2:a=b+x0-X*x:=by omega
   have e3:w=r+256*y-x:=by omega
   rw [e2,e3]
   grind -lia -linarith
theorem tE {f:Nat→Int × List Int→Int × List Int} {W:Nat→Int} {sg:Int} {p:List Int} {n:Nat} {C:Int→Prop} (hn:p.length=n)
  (hf:∀ k c d,k<n→d.length=n→d.getD k 0=p.getD k 0→C c→∃ c' r,f k (c,d)=(c',d.set k r)∧(0≤r∧r<256)∧C c'∧r+256*(sg*c')=W k+sg*c) {c0:Int} (h0:C c0) :
  ∃ c d,itr f n (c0,p)=(c,d)∧d.length=n∧C c∧Dig 256 d∧num 256 d+256 ^ n*(sg*c)=su 256 W n+sg*c0:=by
 obtain ⟨c,d,e,hl,hc,hd,_,hv⟩:=IF (sg:=sg) hn hf h0 n (Nat.le_refl _)
 refine ⟨c,d,e,hl,hc,lv (fun i hi=>hd i (by omega)),?_⟩
 rw [List.take_of_length_le (by omega)] at hv
 exact hv
theorem HM:(256:Int) ^ 33=29642774844752946028434172162224104410437116074403984394101141506025761187823616:=rfl
theorem Kq {r:List Int} {V b:Nat} (hd:Dig 256 r) (hl:r.length=33) (hV:num 256 r=(V:Int)) (hlt:V<L) (hb:b<2) :
  ∃ d,itr cK 33 ((b:Int),r)=(0,d)∧d.length=33∧Dig 256 d∧num 256 d=((2*V+b:Nat):Int):=by
 obtain ⟨c,d,e,h1,h2,h3,h4⟩:=tE (f:=cK) (W:=fun k=>2*r.getD k 0) (sg:=1) (p:=r) (n:=33) (C:=fun c=>0≤c∧c≤1) hl (by
  intro k c d hk hld hg hc
  refine ⟨iu .i64 (aN .i64 (bS .i64 2 (d.getD k 0)) c) 256,br (aN .i64 (bS .i64 2 (d.getD k 0)) c) 256,rfl,?_⟩
  rw [hg]
  have hr:0≤r.getD k 0∧r.getD k 0<256:=bh (by decide) hd
  generalize r.getD k 0=x at *
  have e1:bS .i64 2 x=2*x:=by unfold bS;exact bm (by omega) (by omega)
  have e2:aN .i64 (2*x) c=2*x+c:=bq (by omega) (by omega)
  have e3:iu .i64 (2*x+c) 256=(2*x+c)/256:=by
   unfold iu
   rw [Int.tdiv_eq_ediv_of_nonneg (by omega),bm (by omega) (by omega)]
  have e4:br (2*x+c) 256=(2*x+c) % 256:=by
   unfold br
   rw [Int.tmod_eq_emod_of_nonneg (by omega)]
  rw [e1,e2,e3,e4]
  omega) (c0:=(b:Int)) (by omega)
 have e5:su 256 (fun k=>2*r.getD k 0) 33=2*(V:Int):=by rw [oL,jW hl,hV]
 rw [e5,HM] at h4
 rw [tM] at hlt
 have hb1:=jY (B:=256) (by decide) h3
 have hc:c=0:=by omega
 subst hc
 exact ⟨d,e,h1,h3,by omega⟩
def og:List Int:=[237,211,245,92,26,99,18,88,214,156,247,162,222,249,222,20,0,0,0,0,0,0,0,0,0,0,0,0,0,0,0,16]
theorem wg:num 256 og=(L:Int):=by kernel_rfl
theorem qj:Dig 256 og:=by unfold Dig og;decide
theorem wG:og.length=32:=rfl
def qW (r:List Int) (k3:Nat) (z3:Int × List Int):Int × List Int :=
 ((sel (decide (((sel (decide ((((k3:Nat):Int):Int)<32)) (ag .i64 (ag .i64 (r.getD k3 0) z3.1) (IntKind.wrap .i64 (og.getD k3 0))) (ag .i64 (r.getD k3 0) z3.1)):Int)<0)) 1 0),z3.2.set k3 (sel (decide (((sel (decide ((((k3:Nat):Int):Int)<32)) (ag .i64 (ag .i64 (r.getD k3 0) z3.1) (IntKind.wrap .i64 (og.getD k3 0))) (ag .i64 (r.getD k3 0) z3.1)):Int)<0)) (aN .i64 (sel (decide ((((k3:Nat):Int):Int)<32)) (ag .i64 (ag .i64 (r.getD k3 0) z3.1) (IntKind.wrap .i64 (og.getD k3 0))) (ag .i64 (r.getD k3 0) z3.1)) 256) (sel (decide ((((k3:Nat):Int):Int)<32)) (ag .i64 (ag .i64 (r.getD k3 0) z3.1) (IntKind.wrap .i64 (og.getD k3 0))) (ag .i64 (r.getD k3 0) z3.1))))
theorem IG {r:List Int} {T:Nat} (hd:Dig 256 r) (hl:r.length=33) (hT:num 256 r=(T:Int)) :
  ∃ c d,itr (qW r) 33 (0,List.replicate 33 0)=(c,d)∧d.length=33∧(c=0∨c=1)∧Dig 256 d∧num 256 d-256 ^ 33*c=(T:Int)-(L:Int):=by
 obtain ⟨c,d,e,h1,h2,h3,h4⟩:=tE (f:=qW r) (W:=fun k=>r.getD k 0 + -1*(og++[0]).getD k 0) (sg:=-1) (p:=List.replicate 33 0) (n:=33) (C:=fun c=>0≤c∧c≤1) (by simp) (by
  intro k c d hk hld hg hc
  have hr:0≤r.getD k 0∧r.getD k 0<256:=bh (by decide) hd
  have hx:(sel (decide ((((k:Nat):Int):Int)<32)) (ag .i64 (ag .i64 (r.getD k 0) c) (IntKind.wrap .i64 (og.getD k 0))) (ag .i64 (r.getD k 0) c))=r.getD k 0-c-(og++[0]).getD k 0∧0≤(og++[0]).getD k 0∧(og++[0]).getD k 0<256:=by
   have e1:ag .i64 (r.getD k 0) c=r.getD k 0-c:=ce (by omega) (by omega)
   rw [e1]
   by_cases h:k<32
   ·have ho:0≤og.getD k 0∧og.getD k 0<256:=bh (by decide) qj
    have eo:(og++[0]).getD k 0=og.getD k 0:=by
     rw [List.getD_eq_getElem?_getD,List.getElem?_append_left (by rw [wG];exact h),← List.getD_eq_getElem?_getD]
    rw [decide_eq_true (by omega),aD,eo,ie ho]
    exact ⟨ce (by omega) (by omega),ho⟩
   ·have hk2:k=32:=by omega
    subst hk2
    rw [decide_eq_false (by decide),aA]
    have eo:(og++[0]).getD 32 0=0:=rfl
    rw [eo]
    omega
  unfold qW
  simp only
  rw [hx.1]
  obtain ⟨_,ho⟩:=hx
  generalize (og++[0]).getD k 0=o at *
  generalize r.getD k 0=x at *
  by_cases hn:x-c-o<0
  ·rw [decide_eq_true hn,aD,aD]
   have e2:aN .i64 (x-c-o) 256=x-c-o+256:=bq (by omega) (by omega)
   rw [e2]
   exact ⟨1,_,rfl,by omega,by omega,by omega⟩
  ·rw [decide_eq_false hn,aA,aA]
   exact ⟨0,_,rfl,by omega,by omega,by omega⟩) (c0:=0) (by decide)
 have e5:su 256 (fun k=>r.getD k 0 + -1*(og++[0]).getD k 0) 33=(T:Int)-(L:Int):=by
  rw [oS,oL,jW hl,jW (xs:=og++[0]) (n:=33) rfl,hT,ja,wg]
  show (T:Int) + -1*((L:Int)+_*(0+256*0))=_
  omega
 rw [e5] at h4
 refine ⟨c,d,e,h1,by omega,h3,?_⟩
 generalize (256:Int) ^ 33=X at *
 have:X*(-1*c) = -(X*c):=by rw [Int.neg_mul,Int.one_mul,Int.mul_neg]
 omega
theorem Hs {b:List Int} (hb:Dig 256 b) {N:Nat} (hN:num 256 b=(N:Int)) {i k1:Nat} (hk:k1<8) :
  br (aa .i64 (IntKind.wrap .i64 (b.getD i 0)) (((8:Nat):Int)-1-((k1:Nat):Int))) 2=((N/2 ^ (8*i+(7-k1)) % 2:Nat):Int):=by
 have hd:=bh (B:=256) (by decide) hb (i:=i)
 have e1:((8:Nat):Int)-1-((k1:Nat):Int)=((7-k1:Nat):Int):=by omega
 rw [ie hd,e1,fi .i64 _ (7-k1) (by show 7-k1≤64;omega)]
 have h2:=kH (m:=8) (by decide) hb (8*i+(7-k1))
 rw [show (8*i+(7-k1))/8=i by omega,show (8*i+(7-k1)) % 8=7-k1 by omega] at h2
 unfold br
 have hp:=jr (7-k1)
 rw [Int.tmod_eq_emod_of_nonneg (Int.ediv_nonneg hd.1 (Int.le_of_lt hp)),h2]
 show num 256 b/2 ^ (8*i+(7-k1)) % 2=_
 rw [hN,Int.natCast_emod,Int.natCast_ediv,Int.natCast_pow]
 rfl
def yR (z:Nat × List Int) (V:Nat):Prop:=z.1=33∧z.2.length=33∧Dig 256 z.2∧num 256 z.2=(V:Int)∧V<L
theorem Jt {b:List Int} (hb:Dig 256 b) {N:Nat} (hN:num 256 b=(N:Int)) {k0 k1:Nat} (hk:k1<8) {z:Nat × List Int} {V:Nat} (hz:yR z V) :
  yR (jS b k0 k1 z) ((2*V+N/2 ^ (8*(b.length-1-k0)+(7-k1)) % 2) % L):=by
 obtain ⟨z1,z2,z3,z4,z5⟩:=hz
 have hb2:N/2 ^ (8*(b.length-1-k0)+(7-k1)) % 2<2:=Nat.mod_lt _ (by decide)
 obtain ⟨d,e,d1,d2,d3⟩:=Kq z3 z2 z4 z5 hb2
 have hS:mu b k0 k1 z=qW (itr cK 33 ((br (aa .i64 (IntKind.wrap .i64 (b.getD (b.length-1-k0) 0)) (((8:Nat):Int)-1-((k1:Nat):Int))) 2),z.2)).2:=rfl
 unfold jS
 rw [hS,Hs hb hN hk,e]
 generalize N/2 ^ (8*(b.length-1-k0)+(7-k1)) % 2=bt at *
 obtain ⟨c,d',e',l1,l2,l3,l4⟩:=IG d2 d1 d3
 show yR (sel ((itr (qW d) 33 (0,List.replicate 33 0)).1==0) 33 z.1,sel ((itr (qW d) 33 (0,List.replicate 33 0)).1==0) (itr (qW d) 33 (0,List.replicate 33 0)).2 d) _
 rw [e',z1]
 have hb1:=jY (B:=256) (by decide) l3
 have hb3:=jY (B:=256) (by decide) d2
 rw [l1] at hb1
 rw [d1] at hb3
 rw [HM] at l4 hb1 hb3
 have hL:=tM
 have hmod:(2*V+bt) % L=if 2*V+bt<L then 2*V+bt else 2*V+bt-L:=by
  split
  ·rename_i h;exact Nat.mod_eq_of_lt h
  ·rename_i h
   rw [Nat.mod_eq_sub_mod (by omega),Nat.mod_eq_of_lt (by omega)]
 rw [hmod]
 rcases l2 with rfl|rfl
 ·have h1:¬ 2*V+bt<L:=by omega
  rw [if_neg h1]
  refine ⟨rfl,l1,l3,?_,by omega⟩
  show num 256 d'=_
  omega
 ·have h1:2*V+bt<L:=by omega
  rw [if_pos h1]
  exact ⟨rfl,d1,d2,d3,h1⟩
theorem KD {b:List Int} (hb:Dig 256 b) {N:Nat} (hN:num 256 b=(N:Int)):xY b=bx 256 32 ((N % L:Nat):Int):=by
 have hlt:N<2 ^ (8*b.length):=by
  obtain ⟨M,h1,h2⟩:=ky hb
  rw [h1] at hN
  have:=Int.ofNat.inj hN
  omega
 have hz0:yR (33,List.replicate 33 0) 0:=⟨rfl,by simp,Dig.zeros (by decide) _,by show num 256 (List.replicate 33 0)=((0:Nat):Int);rw [kN];rfl,Cs⟩
 have inner:∀ (k0:Nat) (z:Nat × List Int),k0<b.length→yR z ((N/2 ^ (8*b.length-8*k0)) % L)→∀ k1,k1≤8→yR (itr (jS b k0) k1 (z.1,z.2)) ((N/2 ^ (8*b.length-(8*k0+k1))) % L):=by
  intro k0 z hk0 hz k1
  induction k1 with
  |zero=>intro _;rw [bB];exact hz
  |succ k1 ih =>
   intro hk1
   have:=Jt hb hN (k0:=k0) (show k1<8 by omega) (ih (by omega))
   rw [aq,show 8*k0+(k1+1)=8*k0+k1+1 by omega,oQ N (8*b.length) (8*k0+k1) (by omega),← vz]
   rw [show 8*(b.length-1-k0)+(7-k1)=8*b.length-1-(8*k0+k1) by omega] at this
   exact this
 have outer:∀ k0,k0≤b.length→yR (itr (mG b) k0 (33,List.replicate 33 0)) ((N/2 ^ (8*b.length-8*k0)) % L):=by
  intro k0
  induction k0 with
  |zero =>
   intro _
   rw [bB,Nat.mul_zero,Nat.sub_zero,Nat.div_eq_of_lt hlt]
   exact hz0
  |succ k0 ih =>
   intro hk
   rw [aq]
   have:=inner k0 _ (by omega) (ih (by omega)) 8 (Nat.le_refl _)
   rw [show 8*(k0+1)=8*k0+8 by omega]
   exact this
 have h:=outer b.length (Nat.le_refl _)
 rw [Nat.sub_self,Nat.pow_zero,Nat.div_one] at h
 obtain ⟨_,h2,h3,h4,h5⟩:=h
 unfold xY
 have hl4:∀ k z,om b k z=z.set k (IntKind.wrap .u8 (((itr (mG b) b.length (33,List.replicate 33 0)).2).getD k 0)):=fun _ _=>rfl
 generalize (itr (mG b) b.length (33,List.replicate 33 0)).2=rr at *
 obtain ⟨g1,g2,_,_⟩:=oX (B:=256) (f:=om b) (g:=fun k=>IntKind.wrap .u8 (rr.getD k 0)) (p:=List.replicate 32 0) (n:=32) (o:=0) (by simp) (fun k z _ _ _=>hl4 k z) 32 (Nat.le_refl _)
 rw [List.length_replicate] at g1
 have e33:rr=bx 256 33 ((N % L:Nat):Int):=jq (by decide) h3 h2 h4
 have hgd:∀ i,i<32→(itr (om b) 32 (List.replicate 32 0)).getD i 0=(bx 256 32 ((N % L:Nat):Int)).getD i 0:=by
  intro i hi
  have:=g2 i hi
  rw [Nat.add_zero] at this
  rw [this,e33,dR (by decide) 33 i _ (by omega),dR (by decide) 32 i _ hi,et]
  exact Int.emod_emod_of_dvd _ (Int.dvd_refl _)
 apply List.ext_getElem?
 intro i
 by_cases hi:i<32
 ·have:=hgd i hi
  rw [List.getD_eq_getElem?_getD,List.getD_eq_getElem?_getD,List.getElem?_eq_getElem (by omega),List.getElem?_eq_getElem (by rw [bF];exact hi)] at this
  rw [List.getElem?_eq_getElem (by omega),List.getElem?_eq_getElem (by rw [bF];exact hi)]
  exact congrArg some this
 ·rw [List.getElem?_eq_none (by omega),List.getElem?_eq_none (by rw [bF];omega)]
end Go.Vm
namespace Go.Vm
open Go
theorem jf {α β:Type} (R:Nat→α→β→Prop) {f:Nat→α→α} {g:Nat→β→β}:∀ {n:Nat} {x:α} {y:β},R 0 x y→(∀ k,k<n→∀ a b,R k a b→R (k+1) (f k a) (g k b))→R n (itr f n x) (itr g n y):=by
 intro n
 induction n with
 |zero=>intro x y h0 hs;rw [bB,bB];exact h0
 |succ n ih =>
  intro x y h0 hs
  rw [aq,aq]
  exact hs n (Nat.lt_succ_self n) _ _ (ih h0 fun k hk=>hs k (Nat.lt_succ_of_lt hk))
theorem GG {w n s x:Nat} (hw:n+s=w) (hx:x<2 ^ w) :
  x*2 ^ s % 2 ^ w=2 ^ s*(x % 2 ^ n)∧x/2 ^ n<2 ^ s∧2 ^ s*(x % 2 ^ n)+x/2 ^ n<2 ^ w∧(x/2 ^ n+x*2 ^ s) % 2 ^ w=2 ^ s*(x % 2 ^ n)+x/2 ^ n:=by
 subst hw
 have e1:x*2 ^ s % 2 ^ (n+s)=2 ^ s*(x % 2 ^ n):=by rw [Nat.pow_add,Nat.mul_comm x,Nat.mul_comm (2 ^ n)];exact Nat.mul_mod_mul_left _ _ _
 have e2:x/2 ^ n<2 ^ s:=Nat.div_lt_of_lt_mul (by rw [← Nat.pow_add];exact hx)
 have e3:2 ^ s*(x % 2 ^ n)+x/2 ^ n<2 ^ (n+s):=by
  have h1:x % 2 ^ n<2 ^ n:=Nat.mod_lt _ (Nat.pow_pos (by decide))
  have h2:2 ^ s*(x % 2 ^ n+1)≤2 ^ s*2 ^ n:=Nat.mul_le_mul_left _ h1
  rw [Nat.pow_add,Nat.mul_comm (2 ^ n)]
  rw [Nat.mul_add] at h2
  omega
 refine ⟨e1,e2,e3,?_⟩
 rw [Nat.add_mod,e1,Nat.mod_eq_of_lt (Nat.lt_of_le_of_lt (Nat.div_le_self _ _) hx),Nat.add_comm,Nat.mod_eq_of_lt e3]
theorem uz {k:IntKind} {N:Nat} (h:Uns k N) {a n:Nat} (hn:n≤k.bits):cu k (a:Int) (n:Int)=((a*2 ^ n % N:Nat):Int):=by
 rw [lG k _ _ hn,h.wrap]
 simp
theorem nd (k:IntKind) {a n:Nat} (hn:n≤k.bits):aa k (a:Int) (n:Int)=((a/2 ^ n:Nat):Int):=by
 rw [fi k _ _ hn]
 simp
theorem yk {k:IntKind} {N:Nat} (h:Uns k N) (a b:Nat):aN k (a:Int) (b:Int)=(((a+b) % N:Nat):Int):=by
 show k.wrap _=_
 rw [h.wrap]
 simp
theorem Fw {k:IntKind} {N:Nat} (h:Uns k N) (a b:Nat):bS k (a:Int) (b:Int)=((a*b % N:Nat):Int):=by
 show k.wrap _=_
 rw [h.wrap]
 simp
theorem wB {k:IntKind} {N:Nat} (h:Uns k N) (a:Nat):k.wrap (a:Int)=((a % N:Nat):Int):=by
 rw [h.wrap]
 simp
theorem IH {k:IntKind} {w n s x:Nat} (h:Uns k (2 ^ w)) (hk:k.bits=w) (hw:n+s=w) (hx:x<2 ^ w) :
  iOr k (cu k (x:Int) (s:Int)) (aa k (x:Int) (n:Int))=(((x/2 ^ n+x*2 ^ s) % 2 ^ w:Nat):Int):=by
 obtain ⟨e1,e2,e3,e4⟩:=GG hw hx
 rw [uz h (by omega),nd k (by omega),e1,mM h (by omega) (Nat.lt_of_le_of_lt (Nat.div_le_self _ _) hx),e4,← Nat.two_pow_add_eq_or_of_lt e2]
theorem Hz {w a b c:Nat} (ha:a<2 ^ w):(a &&& b) ^^^ (((2 ^ w-1) ^^^ a) &&& c)=(a &&& b) ||| (((2 ^ w-1) ^^^ a) &&& c):=by
 apply Nat.eq_of_testBit_eq
 intro i
 simp only [Nat.testBit_xor,Nat.testBit_and,Nat.testBit_or,Nat.testBit_two_pow_sub_one]
 cases hb:a.testBit i
 ·simp
 ·have:i<w:=by
   apply Classical.byContradiction
   intro hn
   rw [Nat.testBit_lt_two_pow (Nat.lt_of_lt_of_le ha (Nat.pow_le_pow_right (by decide) (by omega)))] at hb
   cases hb
  simp [this]
theorem Fz (a b c:Nat):(a &&& b) ^^^ (a &&& c) ^^^ (b &&& c)=((a &&& b) ||| (b &&& c)) ||| (a &&& c):=by
 apply Nat.eq_of_testBit_eq
 intro i
 simp only [Nat.testBit_xor,Nat.testBit_and,Nat.testBit_or]
 cases a.testBit i <;> cases b.testBit i <;> cases c.testBit i <;> rfl
def Wd (w:Nat) (x:Int):Prop:=∃ a:Nat,x=(a:Int)∧a<2 ^ w
theorem Wd.up {w v:Nat} {x:Int} (h:Wd w x) (hv:w≤v):Wd v x:=by
 obtain ⟨a,rfl,h⟩:=h
 exact ⟨a,rfl,Nat.lt_of_lt_of_le h (Nat.pow_le_pow_right (by decide) hv)⟩
theorem Wd.and {w:Nat} {k:IntKind} (h:Uns k (2 ^ w)) {x y:Int} (hx:Wd w x) (hy:Wd w y):Wd w (ai k x y):=by
 obtain ⟨a,rfl,ha⟩:=hx
 obtain ⟨b,rfl,hb⟩:=hy
 exact ⟨_,fF h ha hb,Nat.and_lt_two_pow _ hb⟩
theorem Wd.xor {w:Nat} {k:IntKind} (h:Uns k (2 ^ w)) {x y:Int} (hx:Wd w x) (hy:Wd w y):Wd w (bM k x y):=by
 obtain ⟨a,rfl,ha⟩:=hx
 obtain ⟨b,rfl,hb⟩:=hy
 exact ⟨_,iC h ha hb,Nat.xor_lt_two_pow ha hb⟩
theorem Wd.mod {w:Nat} (x:Int):Wd w (x % ((2 ^ w:Nat):Int)):=by
 have hp:(0:Int)<((2 ^ w:Nat):Int):=Int.natCast_pos.2 (Nat.pow_pos (by decide))
 obtain ⟨a,ha⟩:=Int.eq_ofNat_of_zero_le (Int.emod_nonneg x (Int.ne_of_gt hp))
 have h2:=Int.emod_lt_of_pos x hp
 rw [ha] at h2
 exact ⟨a,ha,Int.ofNat_lt.1 h2⟩
theorem Wd.of {w:Nat} {x:Int} (h:0≤x) (h':x<((2 ^ w:Nat):Int)):Wd w x:=by
 obtain ⟨a,rfl⟩:=Int.eq_ofNat_of_zero_le h
 exact ⟨a,rfl,Int.ofNat_lt.1 h'⟩
theorem IW (o i:Nat):adr o i 1=o+i:=by rw [eJ];omega
def DH (x:Int):Prop:=∃ b:Nat,x=(b:Int)∧b<256
theorem oG {v w:Nat} {k k':IntKind} (h:Uns k (2 ^ w)) (h':Uns k' (2 ^ v)) (hv:w≤v) {x y:Int} (hx:Wd w x) (hy:Wd w y):bM k' x y=bM k x y:=by
 have hp:2 ^ w≤2 ^ v:=Nat.pow_le_pow_right (by decide) hv
 obtain ⟨a,rfl,ha⟩:=hx
 obtain ⟨b,rfl,hb⟩:=hy
 rw [iC h ha hb,iC h' (by omega) (by omega)]
theorem Ic {w n:Nat} (k:IntKind) (hn:n≤k.bits) {x:Int} (hx:Wd w x):Wd w (aa k x (n:Int)):=by
 obtain ⟨a,rfl,ha⟩:=hx
 exact ⟨_,nd k hn,Nat.lt_of_le_of_lt (Nat.div_le_self _ _) ha⟩
theorem wO {w n:Nat} (k k':IntKind) (hn:n≤k.bits) (hn':n≤k'.bits) {x:Int} (hx:Wd w x):aa k' x (n:Int)=aa k x (n:Int):=by
 obtain ⟨a,rfl,ha⟩:=hx
 rw [nd k hn,nd k' hn']
theorem FF {v w:Nat} {k k':IntKind} (h:Uns k (2 ^ w)) (h':Uns k' (2 ^ v)) (hv:w≤v) {x y z:Int} (hx:Wd w x) (hy:Wd w y) (hz:Wd w z) :
  iOr k' (ai k' x y) (ai k' (bM k' ((2 ^ w-1:Nat):Int) x) z)=bM k (ai k x y) (ai k (bM k ((2 ^ w-1:Nat):Int) x) z):=by
 have hp:2 ^ w≤2 ^ v:=Nat.pow_le_pow_right (by decide) hv
 obtain ⟨a,rfl,ha⟩:=hx
 obtain ⟨b,rfl,hb⟩:=hy
 obtain ⟨c,rfl,hc⟩:=hz
 have hm:2 ^ w-1<2 ^ w:=Nat.sub_lt (Nat.pow_pos (by decide)) (by decide)
 have hq:=Nat.xor_lt_two_pow hm ha
 have h1:a &&& b<2 ^ w:=Nat.and_lt_two_pow _ hb
 have h2:((2 ^ w-1) ^^^ a) &&& c<2 ^ w:=Nat.and_lt_two_pow _ hc
 rw [iC h hm ha,iC h' (by omega) (by omega),fF h ha hb,fF h' (by omega) (by omega),fF h hq hc,fF h' (by omega) (by omega),iC h h1 h2,mM h' (by omega) (by omega),Hz ha]
theorem CF {v w:Nat} {k k':IntKind} (h:Uns k (2 ^ w)) (h':Uns k' (2 ^ v)) (hv:w≤v) {x y z:Int} (hx:Wd w x) (hy:Wd w y) (hz:Wd w z) :
  iOr k' (iOr k' (ai k' x y) (ai k' y z)) (ai k' x z)=bM k (bM k (ai k x y) (ai k x z)) (ai k y z):=by
 have hp:2 ^ w≤2 ^ v:=Nat.pow_le_pow_right (by decide) hv
 obtain ⟨a,rfl,ha⟩:=hx
 obtain ⟨b,rfl,hb⟩:=hy
 obtain ⟨c,rfl,hc⟩:=hz
 have h1:a &&& b<2 ^ w:=Nat.and_lt_two_pow _ hb
 have h2:a &&& c<2 ^ w:=Nat.and_lt_two_pow _ hc
 have h3:b &&& c<2 ^ w:=Nat.and_lt_two_pow _ hc
 have h4:=Nat.or_lt_two_pow (n:=w) h1 h3
 rw [fF h ha hb,fF h' (by omega) (by omega),fF h ha hc,fF h' (by omega) (by omega),fF h hb hc,fF h' (by omega) (by omega),iC h h1 h2,iC h (Nat.xor_lt_two_pow h1 h2) h3,
  mM h' (by omega) (by omega),mM h' (by omega) (by omega),Fz]
end Go.Vm
namespace Go.Vm
open Go
theorem gt:Uns .u64 (2 ^ 64):=gw
theorem vg {n s:Nat} (hw:n+s=64) (h0:0<n) (h1:0<s) {x:Int} (hx:Wd 64 x):dk x (n:Int)=cE x (s:Int)∧Wd 64 (cE x (s:Int)):=by
 obtain ⟨a,rfl,ha⟩:=hx
 have c1:ai .u64 (IntKind.wrap .u64 (s:Int)) 63=(s:Int):=by
  have h:∀ s:Fin 64,ai .u64 (IntKind.wrap .u64 ((s.val:Nat):Int)) 63=((s.val:Nat):Int):=by decide
  exact h ⟨s,by omega⟩
 have c2:ag .u64 64 (s:Int)=(n:Int):=by rw [wS];omega
 have c3:ag .i64 64 (n:Int)=(s:Int):=by rw [ce (by omega) (by omega)];omega
 have e1:cE (a:Int) (s:Int)=(((a/2 ^ n+a*2 ^ s) % 2 ^ 64:Nat):Int):=by
  unfold cE
  rw [c1,c2]
  exact IH gt rfl hw ha
 refine ⟨?_,_,e1,Nat.mod_lt _ (Nat.pow_pos (by decide))⟩
 rw [e1]
 unfold dk
 rw [c3,nd .u64 (show n≤64 by omega),uz gw (show s≤64 by omega),yk gw]
 congr 1
 rw [show (2:Nat) ^ 64=18446744073709551616 from rfl]
 generalize a/2 ^ n=u
 generalize a*2 ^ s=v
 omega
theorem EL {n1 s1 n2 s2 n3:Nat} (h1:n1+s1=64) (h2:n2+s2=64) (h1':0<n1∧0<s1) (h2':0<n2∧0<s2) (h3:n3<64) {x:Int} (hx:Wd 64 x) :
  cW x [(n1:Int),(n2:Int),(n3:Int)] true=bM .u64 (bM .u64 (cE x (s1:Int)) (cE x (s2:Int))) (aa .u64 x (n3:Int))∧Wd 64 (bM .u64 (bM .u64 (cE x (s1:Int)) (cE x (s2:Int))) (aa .u64 x (n3:Int))):=by
 obtain ⟨a1,a2⟩:=vg h1 h1'.1 h1'.2 hx
 obtain ⟨b1,b2⟩:=vg h2 h2'.1 h2'.2 hx
 have b3:=Ic (n:=n3) .u64 (show n3≤64 by omega) hx
 refine ⟨?_,(a2.xor gt b2).xor gt b3⟩
 unfold cW
 rw [aD]
 show bM .u64 (bM .u64 (dk x (n1:Int)) (dk x (n2:Int))) (aa .u64 x (n3:Int))=_
 rw [a1,b1,oG (v:=64) gt gw (by decide) a2 b2,wO .u64 .u64 (show n3≤64 by omega) (show n3≤64 by omega) hx,oG (v:=64) gt gw (by decide) (a2.xor gt b2) b3]
theorem Dm {n1 s1 n2 s2 n3 s3:Nat} (h1:n1+s1=64) (h2:n2+s2=64) (h3:n3+s3=64) (h1':0<n1∧0<s1) (h2':0<n2∧0<s2) (h3':0<n3∧0<s3) {x:Int} (hx:Wd 64 x) :
  cW x [(n1:Int),(n2:Int),(n3:Int)] false=bM .u64 (bM .u64 (cE x (s1:Int)) (cE x (s2:Int))) (cE x (s3:Int))∧Wd 64 (bM .u64 (bM .u64 (cE x (s1:Int)) (cE x (s2:Int))) (cE x (s3:Int))):=by
 obtain ⟨a1,a2⟩:=vg h1 h1'.1 h1'.2 hx
 obtain ⟨b1,b2⟩:=vg h2 h2'.1 h2'.2 hx
 obtain ⟨c1,c2⟩:=vg h3 h3'.1 h3'.2 hx
 refine ⟨?_,(a2.xor gt b2).xor gt c2⟩
 unfold cW
 rw [aA]
 show bM .u64 (bM .u64 (dk x (n1:Int)) (dk x (n2:Int))) (dk x (n3:Int))=_
 rw [a1,b1,c1,oG (v:=64) gt gw (by decide) a2 b2,oG (v:=64) gt gw (by decide) (a2.xor gt b2) c2]
theorem Cr {x:Int} (hx:Wd 64 x):cW x [1,8,7] true=(bM .u64 (bM .u64 (cE x 63) (cE x 56)) (aa .u64 x 7)):=(EL (n1:=1) (s1:=63) (n2:=8) (s2:=56) (n3:=7) rfl rfl (by decide) (by decide) (by decide) hx).1
theorem Dd {x:Int} (hx:Wd 64 x):cW x [19,61,6] true=(bM .u64 (bM .u64 (cE x 45) (cE x 3)) (aa .u64 x 6)):=(EL (n1:=19) (s1:=45) (n2:=61) (s2:=3) (n3:=6) rfl rfl (by decide) (by decide) (by decide) hx).1
theorem Bg {x:Int} (hx:Wd 64 x):cW x [28,34,39] false=(bM .u64 (bM .u64 (cE x 36) (cE x 30)) (cE x 25)):=(Dm (n1:=28) (s1:=36) (n2:=34) (s2:=30) (n3:=39) (s3:=25) rfl rfl rfl (by decide) (by decide) (by decide) hx).1
theorem Ew {x:Int} (hx:Wd 64 x):cW x [14,18,41] false=(bM .u64 (bM .u64 (cE x 50) (cE x 46)) (cE x 23)):=(Dm (n1:=14) (s1:=50) (n2:=18) (s2:=46) (n3:=41) (s3:=23) rfl rfl rfl (by decide) (by decide) (by decide) hx).1
theorem jv (x y:Int):aN .u64 x y=(x+y) % 18446744073709551616:=(gt).wrap _
theorem qG (x:Int):ai .u64 x 18446744073709551615=x % 18446744073709551616:=mR x 64 (by decide)
theorem qD (x:Int):Wd 64 (x % 18446744073709551616):=Wd.mod x
theorem oD (x:Int):x % 18446744073709551616 % 18446744073709551616=x % 18446744073709551616:=Int.emod_emod_of_dvd x (by decide)
def Gh (st x l k g f:Int):Int:=aN .u64 (aN .u64 (aN .u64 (aN .u64 l (bM .u64 (bM .u64 (cE f 50) (cE f 46)) (cE f 23))) (bM .u64 (ai .u64 f g) (ai .u64 (te .u64 f) k))) st) x
def Ip (a c d:Int):Int:=aN .u64 (bM .u64 (bM .u64 (cE a 36) (cE a 30)) (cE a 25)) (bM .u64 (bM .u64 (ai .u64 a c) (ai .u64 a d)) (ai .u64 c d))
def GT (st x l k g f:Int):Int:=ai .u64 (aN .u64 (aN .u64 (aN .u64 (aN .u64 l (cW f [14,18,41] false)) (iOr .u64 (ai .u64 f g) (ai .u64 (bM .u64 18446744073709551615 f) k))) st) x) 18446744073709551615
def Hu (a c d:Int):Int:=aN .u64 (cW a [28,34,39] false) (iOr .u64 (iOr .u64 (ai .u64 a c) (ai .u64 c d)) (ai .u64 a d))
def Gg (p0:List Int) (k1:Nat):List Int:=itr (nB) 64 (itr (jV p0 k1) 128 [0,0,0,0,0,0,0,0,0,0,0,0,0,0,0,0,0,0,0,0,0,0,0,0,0,0,0,0,0,0,0,0,0,0,0,0,0,0,0,0,0,0,0,0,0,0,0,0,0,0,0,0,0,0,0,0,0,0,0,0,0,0,0,0,0,0,0,0,0,0,0,0,0,0,0,0,0,0,0,0])
def GI (p0:List Int) (k1:Nat):List Int:=itr (iM) 64 (itr (fe p0 k1) 128 [0,0,0,0,0,0,0,0,0,0,0,0,0,0,0,0,0,0,0,0,0,0,0,0,0,0,0,0,0,0,0,0,0,0,0,0,0,0,0,0,0,0,0,0,0,0,0,0,0,0,0,0,0,0,0,0,0,0,0,0,0,0,0,0,0,0,0,0,0,0,0,0,0,0,0,0,0,0,0,0])
theorem T64 {st x l k g f:Int} (hl:Wd 64 l) (hk:Wd 64 k) (hg:Wd 64 g) (hf:Wd 64 f):GT st x l k g f=Gh st x l k g f:=by
 unfold GT Gh
 rw [Ew hf,qG]
 simp only [jv,eC]
 have hc:iOr .u64 (ai .u64 f g) (ai .u64 (bM .u64 18446744073709551615 f) k)=bM .u64 (ai .u64 f g) (ai .u64 (te .u64 f) k):=FF (v:=64) gt gw (by decide) hf hg hk
 rw [hc]
 generalize bM .u64 (ai .u64 f g) (ai .u64 (te .u64 f) k)=A
 generalize (bM .u64 (bM .u64 (cE f 50) (cE f 46)) (cE f 23))=B
 simp only [Int.emod_add_emod,oD]
theorem U64 {a c d:Int} (ha:Wd 64 a) (hc:Wd 64 c) (hd:Wd 64 d) (t:Int):ai .u64 (aN .u64 t (Hu a c d)) 18446744073709551615=aN .u64 t (Ip a c d):=by
 unfold Hu Ip
 rw [Bg ha,qG]
 simp only [jv,eC]
 have hm:iOr .u64 (iOr .u64 (ai .u64 a c) (ai .u64 c d)) (ai .u64 a d)=bM .u64 (bM .u64 (ai .u64 a c) (ai .u64 a d)) (ai .u64 c d):=CF (v:=64) gt gw (by decide) ha hc hd
 rw [hm]
 generalize bM .u64 (bM .u64 (ai .u64 a c) (ai .u64 a d)) (ai .u64 c d)=A
 generalize (bM .u64 (bM .u64 (cE a 36) (cE a 30)) (cE a 25))=B
 simp only [Int.add_emod_emod,oD]
theorem V64 (e t:Int):ai .u64 (aN .u64 e t) 18446744073709551615=aN .u64 e t:=by
 rw [qG]
 simp only [jv,eC,oD]
def wX (z:Int × Int × Int × Int × Int × Int × Int × Int) (y:List Int):Prop :=
 ∃ l k g f e d c a,z=(l,k,g,f,e,d,c,a)∧y=[a,c,d,e,f,g,k,l]∧Wd 64 l∧Wd 64 k∧Wd 64 g∧Wd 64 f∧Wd 64 e∧Wd 64 d∧Wd 64 c∧Wd 64 a
theorem Ih (p0:List Int) (k1 j:Nat) (l k g f e d c a:Int):cX p0 k1 j (l,k,g,f,e,d,c,a) =
  (k,g,f,aN .u64 e (Gh (Ev.getD (0+j) 0) ((Gg p0 k1).getD j 0) l k g f),d,c,a,aN .u64 (Gh (Ev.getD (0+j) 0) ((Gg p0 k1).getD j 0) l k g f) (Ip a c d)):=rfl
theorem JH (p0:List Int) (k1 j:Nat) (l k g f e d c a:Int):jH p0 k1 j [a,c,d,e,f,g,k,l] =
  [ai .u64 (aN .u64 (GT (aa .u64 (Ev.getD j 0) 0) ((GI p0 k1).getD j 0) l k g f) (Hu a c d)) 18446744073709551615,a,c,d,ai .u64 (aN .u64 e (GT (aa .u64 (Ev.getD j 0) 0) ((GI p0 k1).getD j 0) l k g f)) 18446744073709551615,f,g,k]:=rfl
theorem Eh (j:Nat) (hj:j<80):aa .u64 (Ev.getD j 0) 0=(Ev.getD (0+j) 0):=by
 have h:∀ j:Fin 80,aa .u64 (Ev.getD j.val 0) 0=(Ev.getD (0+j.val) 0):=by decide +kernel
 exact h ⟨j,hj⟩
theorem Gb {p0:List Int} {k1 j:Nat} (hj:j<80) (hW:(GI p0 k1).getD j 0=(Gg p0 k1).getD j 0) {z:Int × Int × Int × Int × Int × Int × Int × Int} {y:List Int} (h:wX z y) :
  wX (cX p0 k1 j z) (jH p0 k1 j y):=by
 obtain ⟨l,k,g,f,e,d,c,a,rfl,rfl,hl,hk,hg,hf,he,hd,hc,ha⟩:=h
 rw [Ih,JH,hW,Eh j hj,T64 hl hk hg hf,U64 ha hc hd,V64]
 refine ⟨_,_,_,_,_,_,_,_,rfl,rfl,hk,hg,hf,?_,hd,hc,ha,?_⟩
 ·rw [jv];exact qD _
 ·rw [jv];exact qD _
theorem Gx {a b n:Nat} (hb:b<256) (hn:n<8) (ha:a<256 ^ n) :
  iOr .u64 (cu .u64 (a:Int) 8) (IntKind.wrap .u64 (b:Int))=((a*256+b:Nat):Int)∧aN .u64 (bS .u64 (a:Int) 256) (IntKind.wrap .u64 (b:Int))=((a*256+b:Nat):Int)∧a*256+b<256 ^ (n+1):=by
 have h1:a*256+b<256 ^ (n+1):=by
  have:(a+1)*256≤256 ^ n*256:=Nat.mul_le_mul_right _ ha
  rw [Nat.pow_succ]
  omega
 have h2:256 ^ (n+1)≤18446744073709551616:=by
  have:(256:Nat) ^ (n+1)≤256 ^ 8:=Nat.pow_le_pow_right (by decide) hn
  exact this
 have h3:18446744073709551616≤18446744073709551616:=by decide
 refine ⟨?_,?_,h1⟩
 ·rw [show (8:Int)=((8:Nat):Int) from rfl,uz gw (show 8≤64 by decide),wB gw,Nat.mod_eq_of_lt (show b<18446744073709551616 by omega),Nat.mod_eq_of_lt (show a*2 ^ 8<18446744073709551616 by omega),mM gw (by omega) (by omega)]
  congr 1
  rw [Nat.mul_comm a (2 ^ 8),← Nat.two_pow_add_eq_or_of_lt (i:=8) (show b<2 ^ 8 by omega) a]
 ·rw [show (256:Int)=((256:Nat):Int) from rfl,Fw gw,wB gw,yk gw]
  congr 1
  omega
def zO (k:Nat) (c r:List Int):Prop:=c.length=80∧r.length=80∧∀ j,j<80→∃ a:Nat,c.getD j 0=(a:Int)∧r.getD j 0=(a:Int)∧a<256 ^ (min (k-8*j) 8)
theorem MH (j:Nat):([0,0,0,0,0,0,0,0,0,0,0,0,0,0,0,0,0,0,0,0,0,0,0,0,0,0,0,0,0,0,0,0,0,0,0,0,0,0,0,0,0,0,0,0,0,0,0,0,0,0,0,0,0,0,0,0,0,0,0,0,0,0,0,0,0,0,0,0,0,0,0,0,0,0,0,0,0,0,0,0]:List Int).getD j 0=0:=by
 show (List.replicate 80 (0:Int)).getD j 0=0
 rw [List.getD_eq_getElem?_getD,List.getElem?_replicate]
 split <;> rfl
theorem Lk (j:Nat):([0,0,0,0,0,0,0,0,0,0,0,0,0,0,0,0,0,0,0,0,0,0,0,0,0,0,0,0,0,0,0,0,0,0,0,0,0,0,0,0,0,0,0,0,0,0,0,0,0,0,0,0,0,0,0,0,0,0,0,0,0,0,0,0,0,0,0,0,0,0,0,0,0,0,0,0,0,0,0,0]:List Int).getD j 0=0:=by
 show (List.replicate 80 (0:Int)).getD j 0=0
 rw [List.getD_eq_getElem?_getD,List.getElem?_replicate]
 split <;> rfl
def Ap (p0:List Int):List Int:=itr (jG p0) 8 (((itr (bP) ((239-p0.length % 128) % 128) (p0.length+1,p0++[128])).2)++(List.replicate 16 0))
theorem Ig {p0:List Int} {k1:Nat} (hT:Ap p0=dX p0) (hB:∀ j,DH ((dX p0).getD j 0)) :
  zO 128 (itr (jV p0 k1) 128 [0,0,0,0,0,0,0,0,0,0,0,0,0,0,0,0,0,0,0,0,0,0,0,0,0,0,0,0,0,0,0,0,0,0,0,0,0,0,0,0,0,0,0,0,0,0,0,0,0,0,0,0,0,0,0,0,0,0,0,0,0,0,0,0,0,0,0,0,0,0,0,0,0,0,0,0,0,0,0,0]) (itr (fe p0 k1) 128 [0,0,0,0,0,0,0,0,0,0,0,0,0,0,0,0,0,0,0,0,0,0,0,0,0,0,0,0,0,0,0,0,0,0,0,0,0,0,0,0,0,0,0,0,0,0,0,0,0,0,0,0,0,0,0,0,0,0,0,0,0,0,0,0,0,0,0,0,0,0,0,0,0,0,0,0,0,0,0,0]):=by
 refine jf zO ⟨rfl,rfl,fun j hj=>⟨0,MH j,Lk j,Nat.pow_pos (by decide)⟩⟩ ?_
 rintro k hk c r ⟨h1,h2,h3⟩
 have e1:jV p0 k1 k c=c.set (k/8) (iOr .u64 (cu .u64 (c.getD (k/8) 0) 8) (IntKind.wrap .u64 ((dX p0).getD (128*k1+k) 0))):=by
  unfold jV
  rw [IW,Nat.zero_add]
 have e2:fe p0 k1 k r=r.set (k/8) (aN .u64 (bS .u64 (r.getD (k/8) 0) 256) (IntKind.wrap .u64 ((dX p0).getD (128*k1+k) 0))):=by
  show r.set (8*k/64) (aN .u64 (bS .u64 (r.getD (8*k/64) 0) 256) (IntKind.wrap .u64 ((Ap p0).getD (128*k1+k) 0)))=_
  rw [hT,show 8*k/64=k/8 by omega]
 rw [e1,e2]
 obtain ⟨b,hb,hb'⟩:=hB (128*k1+k)
 obtain ⟨a,ha1,ha2,ha3⟩:=h3 (k/8) (by omega)
 rw [show min (k-8*(k/8)) 8=k % 8 by omega] at ha3
 obtain ⟨q1,q2,q3⟩:=Gx hb' (show k % 8<8 from Nat.mod_lt _ (by decide)) ha3
 rw [ha1,ha2,hb,q1,q2]
 refine ⟨by rw [List.length_set,h1],by rw [List.length_set,h2],fun j hj=>?_⟩
 by_cases hjk:k/8=j
 ·subst hjk
  exact ⟨_,cz (by omega),cz (by omega),by rw [show min (k+1-8*(k/8)) 8=k % 8+1 by omega];exact q3⟩
 ·obtain ⟨x,x1,x2,x3⟩:=h3 j hj
  refine ⟨x,by rw [cM hjk,x1],by rw [cM hjk,x2],Nat.lt_of_lt_of_le x3 (Nat.pow_le_pow_right (by decide) (by omega))⟩
def yH (k:Nat) (c r:List Int):Prop:=c.length=80∧r.length=80∧∀ j,j<k+16→Wd 64 (c.getD j 0)∧r.getD j 0=c.getD j 0
theorem Fv {p0:List Int} {k1:Nat} (hT:Ap p0=dX p0) (hB:∀ j,DH ((dX p0).getD j 0)):yH 64 (Gg p0 k1) (GI p0 k1):=by
 obtain ⟨h1,h2,h3⟩:=Ig (k1:=k1) hT hB
 refine jf yH ⟨h1,h2,fun j hj=>?_⟩ ?_
 ·obtain ⟨a,a1,a2,a3⟩:=h3 j (by omega)
  refine ⟨⟨a,a1,Nat.lt_of_lt_of_le a3 ?_⟩,by rw [a1,a2]⟩
  have:(256:Nat) ^ (min (128-8*j) 8)≤256 ^ 8:=Nat.pow_le_pow_right (by decide) (Nat.min_le_right _ _)
  exact this
 ·rintro k hk c r ⟨g1,g2,g3⟩
  obtain ⟨x1,y1⟩:=g3 (k+16-16) (by omega)
  obtain ⟨x2,y2⟩:=g3 (k+16-7) (by omega)
  obtain ⟨x3,y3⟩:=g3 (k+16-15) (by omega)
  obtain ⟨x4,y4⟩:=g3 (k+16-2) (by omega)
  have e:ai .u64 (aN .u64 (aN .u64 (aN .u64 (r.getD (k+16-16) 0) (r.getD (k+16-7) 0)) (cW (r.getD (k+16-15) 0) [1,8,7] true)) (cW (r.getD (k+16-2) 0) [19,61,6] true)) 18446744073709551615 =
    aN .u64 (aN .u64 (aN .u64 (c.getD (k+16-16) 0) (c.getD (k+16-7) 0)) (bM .u64 (bM .u64 (cE (c.getD (k+16-15) 0) 63) (cE (c.getD (k+16-15) 0) 56)) (aa .u64 (c.getD (k+16-15) 0) 7))) (bM .u64 (bM .u64 (cE (c.getD (k+16-2) 0) 45) (cE (c.getD (k+16-2) 0) 3)) (aa .u64 (c.getD (k+16-2) 0) 6)):=by
   rw [y1,y2,y3,y4,Cr x3,Dd x4,qG]
   simp only [jv,eC]
   generalize (bM .u64 (bM .u64 (cE (c.getD (k+16-15) 0) 63) (cE (c.getD (k+16-15) 0) 56)) (aa .u64 (c.getD (k+16-15) 0) 7))=A
   generalize (bM .u64 (bM .u64 (cE (c.getD (k+16-2) 0) 45) (cE (c.getD (k+16-2) 0) 3)) (aa .u64 (c.getD (k+16-2) 0) 6))=B
   simp only [Int.emod_add_emod,oD]
  have hw:Wd 64 (aN .u64 (aN .u64 (aN .u64 (c.getD (k+16-16) 0) (c.getD (k+16-7) 0)) (bM .u64 (bM .u64 (cE (c.getD (k+16-15) 0) 63) (cE (c.getD (k+16-15) 0) 56)) (aa .u64 (c.getD (k+16-15) 0) 7))) (bM .u64 (bM .u64 (cE (c.getD (k+16-2) 0) 45) (cE (c.getD (k+16-2) 0) 3)) (aa .u64 (c.getD (k+16-2) 0) 6))):=by
   rw [jv];exact qD _
  show yH (k+1) (c.set (k+16) (aN .u64 (aN .u64 (aN .u64 (c.getD (k+16-16) 0) (c.getD (k+16-7) 0)) (bM .u64 (bM .u64 (cE (c.getD (k+16-15) 0) 63) (cE (c.getD (k+16-15) 0) 56)) (aa .u64 (c.getD (k+16-15) 0) 7))) (bM .u64 (bM .u64 (cE (c.getD (k+16-2) 0) 45) (cE (c.getD (k+16-2) 0) 3)) (aa .u64 (c.getD (k+16-2) 0) 6)))) (r.set (k+16) (ai .u64 (aN .u64 (aN .u64 (aN .u64 (r.getD (k+16-16) 0) (r.getD (k+16-7) 0)) (cW (r.getD (k+16-15) 0) [1,8,7] true)) (cW (r.getD (k+16-2) 0) [19,61,6] true)) 18446744073709551615))
  rw [e]
  refine ⟨by rw [List.length_set,g1],by rw [List.length_set,g2],fun j hj=>?_⟩
  by_cases hjk:k+16=j
  ·subst hjk
   rw [cz (by omega),cz (by omega)]
   exact ⟨hw,rfl⟩
  ·rw [cM hjk,cM hjk]
   exact g3 j (by omega)
def ls (z:List Int):Prop:=z.length=8∧∀ j,j<8→Wd 64 (z.getD j 0)
theorem Fa {z:List Int} (h:ls z):wX (z.getD 7 0,z.getD 6 0,z.getD 5 0,z.getD 4 0,z.getD 3 0,z.getD 2 0,z.getD 1 0,z.getD 0 0) z:=by
 obtain ⟨h1,h2⟩:=h
 refine ⟨_,_,_,_,_,_,_,_,rfl,?_,h2 7 (by decide),h2 6 (by decide),h2 5 (by decide),h2 4 (by decide),h2 3 (by decide),h2 2 (by decide),h2 1 (by decide),h2 0 (by decide)⟩
 match z,h1 with
 |[_,_,_,_,_,_,_,_],_=>rfl
theorem Gp {p0:List Int} {k1:Nat} (hT:Ap p0=dX p0) (hB:∀ j,DH ((dX p0).getD j 0)) {z:List Int} (hz:ls z):kw p0 k1 z=jF p0 k1 z∧ls (kw p0 k1 z):=by
 obtain ⟨w1,w2,w3⟩:=Fv (k1:=k1) hT hB
 have hr:wX (itr (cX p0 k1) 80 (z.getD 7 0,z.getD 6 0,z.getD 5 0,z.getD 4 0,z.getD 3 0,z.getD 2 0,z.getD 1 0,z.getD 0 0)) (itr (jH p0 k1) 80 z) :=
  jf (fun _=>wX) (Fa hz) fun j hj a b hab=>Gb hj (w3 j (by omega)).2 hab
 obtain ⟨l,k,g,f,e,d,c,a,e1,e2,hl,hk,hg,hf,he,hd,hc,ha⟩:=hr
 have key:(fun (k:Nat) (x y:List Int)=>x=y∧ls x) 8 (itr (qN p0 k1 z) 8 z) (itr (kK p0 k1 z) 8 z):=by
  refine jf (fun (k:Nat) (x y:List Int)=>x=y∧ls x) ⟨rfl,hz⟩ ?_
  rintro j hj x y ⟨rfl,hx1,hx2⟩
  have q1:qN p0 k1 z j x=x.set j (aN .u64 (x.getD j 0) ([a,c,d,e,f,g,k,l].getD j 0)):=by
   unfold qN
   rw [e1]
  have q2:kK p0 k1 z j x=x.set j (ai .u64 (aN .u64 (x.getD j 0) ([a,c,d,e,f,g,k,l].getD j 0)) 18446744073709551615):=by
   unfold kK
   rw [e2]
  rw [q1,q2,V64]
  refine ⟨rfl,by rw [List.length_set,hx1],fun i hi=>?_⟩
  by_cases hij:j=i
  ·subst hij
   rw [cz (by omega),jv]
   exact qD _
  ·rw [cM hij]
   exact hx2 i hi
 exact key
theorem GO:((zh.drop 0).take 8)=itr (iP) 8 [7640891576956012808,13503953896175478587,4354685564936845355,11912009170470909681,5840696475078001361,11170449401992604703,2270897969802886507,6620516959819538809]:=by kernel_rfl
theorem Au:ls ((zh.drop 0).take 8):=by
 have h:(List.length ((zh.drop 0).take 8)==8 && (List.range 8).all fun j=>decide (0≤(((zh.drop 0).take 8):List Int).getD j 0) && decide ((((zh.drop 0).take 8):List Int).getD j 0<((2 ^ 64:Nat):Int)))=true:=by kernel_rfl
 rw [Bool.and_eq_true] at h
 refine ⟨eq_of_beq h.1,fun j hj=>?_⟩
 have h2:=List.all_eq_true.1 h.2 j (List.mem_range.2 hj)
 rw [Bool.and_eq_true] at h2
 exact Wd.of (of_decide_eq_true h2.1) (of_decide_eq_true h2.2)
def lN (p0:List Int):Nat × List Int:=itr (bP) ((239-p0.length % 128) % 128) (p0.length+1,p0++[128])
theorem MD (p0:List Int):(lN p0).2.length=(lN p0).1∧(lN p0).1<p0.length+1+128:=by
 have key:(fun (k:Nat) (a b:Nat × List Int)=>a.2.length=a.1∧a.1=p0.length+1+k) ((239-p0.length % 128) % 128) (lN p0) (itr (fun _ y=>y) ((239-p0.length % 128) % 128) (lN p0)):=by
  refine jf (fun (k:Nat) (a b:Nat × List Int)=>a.2.length=a.1∧a.1=p0.length+1+k) (g:=fun _ y=>y) (y:=lN p0) ⟨by simp,rfl⟩ ?_
  rintro k hk a b ⟨h1,h2⟩
  show (a.2++[0]).length=a.1+1∧a.1+1=_
  exact ⟨by rw [List.length_append,h1];rfl,by omega⟩
 have h:=key.2
 have hm:((239-p0.length % 128) % 128)<128:=Nat.mod_lt _ (by decide)
 exact ⟨key.1,by omega⟩
theorem JZ {p0:List Int} (hp:Dig 256 p0):Dig 256 (lN p0).2:=by
 refine jf (fun (k:Nat) (a b:Nat × List Int)=>Dig 256 a.2) (n:=((239-p0.length % 128) % 128)) (y:=(lN p0)) (g:=fun _ y=>y) ?_ ?_
 ·intro x hx
  rcases List.mem_append.1 hx with h|h
  ·exact hp x h
  ·rw [List.mem_singleton.1 h];decide
 ·rintro k hk a b h x hx
  rcases List.mem_append.1 hx with h'|h'
  ·exact h x h'
  ·rw [List.mem_singleton.1 h'];decide
def ek (n k:Nat):Int:=IntKind.wrap .u8 (aa .u64 (bS .u64 (IntKind.wrap .u64 ((n:Nat):Int)) 8) ((8*k:Nat):Int))
theorem wm (B:List Int) (n:Nat) (hn:B.length=n) (t:List Int) (j:Nat) (x:Int):(B++t).set (n+j) x=B++t.set j x:=by
 subst hn
 rw [List.set_append_right _ _ (by omega)]
 congr 2
 omega
theorem yG {α:Type} (f:Nat→α→α) (x:α):itr f 8 x=f 7 (f 6 (f 5 (f 4 (f 3 (f 2 (f 1 (f 0 x))))))):=by
 simp only [aq,bB]
theorem In {p0:List Int} (hl:p0.length≤100000000):Ap p0=(lN p0).2++(List.replicate 8 0++[ek p0.length 7,ek p0.length 6,ek p0.length 5,ek p0.length 4,ek p0.length 3,ek p0.length 2,ek p0.length 1,ek p0.length 0]):=by
 obtain ⟨h1,h2⟩:=MD p0
 have hs:∀ (k:Nat) (z:List Int),k<8→jG p0 k z=z.set ((lN p0).1+(15-k)) (ek p0.length k):=by
  intro k z hk
  show z.set (ag .i64 ((((lN p0).1+16:Nat):Int)-1-((0:Nat):Int)) (k:Int)).toNat _=_
  rw [ce (by omega) (by omega)]
  have:(((((lN p0).1+16:Nat):Int)-1-((0:Nat):Int))-(k:Int)).toNat=(lN p0).1+(15-k):=by omega
  rw [this]
  rfl
 show itr (jG p0) 8 ((lN p0).2++List.replicate 16 0)=_
 rw [yG,hs 0 _ (by decide),hs 1 _ (by decide),hs 2 _ (by decide),hs 3 _ (by decide),hs 4 _ (by decide),hs 5 _ (by decide),hs 6 _ (by decide),hs 7 _ (by decide)]
 simp only [wm _ _ h1]
 rfl
theorem zM (p0:List Int):dX p0=(lN p0).2++(List.replicate 8 0++[ek p0.length 7,ek p0.length 6,ek p0.length 5,ek p0.length 4,ek p0.length 3,ek p0.length 2,ek p0.length 1,ek p0.length 0]):=by
 unfold dX
 rw [yG]
 show (((((((((lN p0).2++List.replicate 8 0)++[ek p0.length 7])++[ek p0.length 6])++[ek p0.length 5])++[ek p0.length 4])++[ek p0.length 3])++[ek p0.length 2])++[ek p0.length 1])++[ek p0.length 0]=_
 simp only [List.append_assoc,List.cons_append,List.nil_append]
theorem JQ (n k:Nat):0≤ek n k∧ek n k<256:=by
 unfold ek
 rw [et]
 omega
theorem GF {p0:List Int} (hp:Dig 256 p0):Dig 256 (dX p0):=by
 rw [zM]
 intro x hx
 rcases List.mem_append.1 hx with h|h
 ·exact JZ hp x h
 ·rcases List.mem_append.1 h with h|h
  ·rw [List.eq_of_mem_replicate h];decide
  ·simp only [List.mem_cons,List.not_mem_nil,or_false] at h
   rcases h with rfl|rfl|rfl|rfl|rfl|rfl|rfl|rfl <;> exact JQ _ _
theorem yO {p0:List Int} (hp:Dig 256 p0) (j:Nat):DH ((dX p0).getD j 0):=by
 obtain ⟨h1,h2⟩:=bh (i:=j) (by decide) (GF hp)
 obtain ⟨a,ha⟩:=Int.eq_ofNat_of_zero_le h1
 exact ⟨a,ha,by rw [ha] at h2;omega⟩
theorem Gv (p0:List Int):ba p0=(itr (bP) ((239-p0.length % 128) % 128) (p0.length+1,p0++[128])).1+16:=by
 unfold ba
 rw [yG]
 show (lN p0).1+8+1+1+1+1+1+1+1+1=(lN p0).1+16
 omega
theorem LY {p0:List Int} (hp:Dig 256 p0) (hl:p0.length≤100000000):qe p0=dN p0:=by
 have hT:Ap p0=dX p0:=(In hl).trans (zM p0).symm
 have hB:=fun j=>yO hp j
 have hH:(fun (k:Nat) (x y:List Int)=>x=y∧ls x) ((ba p0)/128) (itr (kw p0) ((ba p0)/128) ((zh.drop 0).take 8)) (itr (jF p0) ((ba p0)/128) (itr (iP) 8 [7640891576956012808,13503953896175478587,4354685564936845355,11912009170470909681,5840696475078001361,11170449401992604703,2270897969802886507,6620516959819538809])):=by
  refine jf (fun (k:Nat) (x y:List Int)=>x=y∧ls x) ⟨GO,Au⟩ ?_
  rintro k hk x y ⟨rfl,hx⟩
  exact Gp hT hB hx
 obtain ⟨h1,h2,h3⟩:=hH
 have key:(fun (k:Nat) (x:List Int) (y:Nat × List Int)=>x=y.2++List.replicate (64-k) 0∧y.2.length=k) 64 (qe p0) (itr (dI p0) 64 (0,[])):=by
  refine jf (fun (k:Nat) (x:List Int) (y:Nat × List Int)=>x=y.2++List.replicate (64-k) 0∧y.2.length=k) ⟨rfl,rfl⟩ ?_
  rintro k hk x y ⟨rfl,hy⟩
  have hw:=h3 (k/8) (by omega)
  have q1:th p0 k (y.2++List.replicate (64-k) 0)=(y.2++List.replicate (64-k) 0).set k (IntKind.wrap .u8 (aa .u64 ((itr (kw p0) ((ba p0)/128) ((zh.drop 0).take 8)).getD (k/8) 0) ((56-(8*(k % 8)):Nat):Int))):=rfl
  have q2:(dI p0 k y).2=y.2++[IntKind.wrap .u8 (aa .u64 ((itr (kw p0) ((ba p0)/128) ((zh.drop 0).take 8)).getD (k/8) 0) ((56-(8*(k % 8)):Nat):Int))]:=by
   show y.2++[IntKind.wrap .u8 (aa .u64 ((itr (jF p0) (((itr (bP) ((239-p0.length % 128) % 128) (p0.length+1,p0++[128])).1+16)/128) (itr (iP) 8 [7640891576956012808,13503953896175478587,4354685564936845355,11912009170470909681,5840696475078001361,11170449401992604703,2270897969802886507,6620516959819538809])).getD ((8*k)/64) 0) ((56-((8*k) % 64):Nat):Int))]=_
   rw [← Gv,← h1,show (8*k)/64=k/8 by omega,show 56-((8*k) % 64)=56-(8*(k % 8)) by omega,wO .u64 .u64 (show 56-(8*(k % 8))≤64 by omega) (show 56-(8*(k % 8))≤64 by omega) hw]
  refine ⟨?_,by rw [q2,List.length_append,hy];rfl⟩
  rw [q1,q2,show (64-k)=(64-(k+1))+1 by omega,List.replicate_succ]
  have:=wm y.2 k hy (0 :: List.replicate (64-(k+1)) 0) 0 (IntKind.wrap .u8 (aa .u64 ((itr (kw p0) ((ba p0)/128) ((zh.drop 0).take 8)).getD (k/8) 0) ((56-(8*(k % 8)):Nat):Int)))
  rw [show k+0=k from rfl] at this
  rw [this,List.set_cons_zero,List.append_assoc]
  rfl
 have k1:=key.1
 rw [Nat.sub_self,List.replicate_zero,List.append_nil] at k1
 exact k1
end Go.Vm
namespace Go.Vm
open Go Tabn
theorem KQ (p:List Int):Dig 256 (dN p):=by
 have:∀ k,Dig 256 (itr (dI p) k (0,[])).2:=by
  intro k
  induction k with
  |zero=>rw [bB];exact Dig.nil
  |succ k ih =>
   rw [aq]
   intro z hz
   rcases List.mem_append.1 hz with h|h
   ·exact ih z h
   ·rw [List.mem_singleton.1 h,et];omega
 exact this _
theorem zZ {x y:List Int} (hx:Dig 256 x) (hy:Dig 256 y):Dig 256 (x++y):=fun z hz=>(List.mem_append.1 hz).elim (hx z) (hy z)
theorem kT {x:List Int} (h:Dig 256 x) (n:Nat):Dig 256 (x.take n):=fun z hz=>h z (List.mem_of_mem_take hz)
theorem nW {x:List Int} (h:Dig 256 x) (n:Nat):Dig 256 (x.drop n):=fun z hz=>h z (List.mem_of_mem_drop hz)
def nN (b:List Int):Nat:=(num 256 b).toNat
theorem nF {b:List Int} (h:Dig 256 b):num 256 b=(nN b:Int):=(Int.toNat_of_nonneg (jY (by decide) h).1).symm
def hsh (p:List Int):List Int:=dN p
theorem ym (p:List Int):(hsh p).length=64:=mH p
theorem qH (p:List Int):Dig 256 (hsh p):=KQ p
theorem Km {p:List Int} (hp:Dig 256 p) (hl:p.length≤100000000):qe p=hsh p:=LY hp hl
def hN (p:List Int):Nat:=nN (hsh p) % L
theorem Ii (a b c:List Int):aH (oO [a,b,c]) (cL [a,b,c] [a,b,c].length) 0 (cL [a,b,c] [a,b,c].length)=a++b++c:=by
 rw [bJ (Cb _)]
 unfold oO
 show (itr (im [a,b,c]) 3 (0,[])).2=a++b++c
 rw [aq,aq,aq,bB]
 show (([]++a)++b)++c=a++b++c
 rfl
theorem Fq:PE BT BO:=by
 have hy:EF (qV 4 5) yB:=by
  unfold qV
  refine (fW (f:=4) (g:=finv 5) ⟨4,jt (by decide),by decide⟩ (qZ (f:=5) ⟨5,jt (by decide),by decide⟩)).to Cz
 unfold BO
 have hb:F33 (qV 4 5)=jM BT:=by rw [hy.bytes];unfold jM;rw [wl]
 rw [hb,bJ (jN BT)]
 rcases xv (kQ BT) with ⟨_,p,h1,h2⟩|⟨_,h⟩
 ·rw [lY h1]
  rw [← lY h1] at h2 ⊢
  exact h2
 ·exact absurd rfl (h BT)
theorem Gz:PR BT xL:=by
 have hy:RF (aT (bC 4) (F28 (bC 5))) yB:=by
  unfold aT bC
  refine (eh (f:=4) (g:=finv 5) ⟨4,jk (by decide),by decide⟩ (rI (f:=5) ⟨5,jk (by decide),by decide⟩)).to Cz
 unfold xL
 have hb:F49 (aT (bC 4) (F28 (bC 5)))=jM BT:=by rw [hy.bytes];unfold jM;rw [wl]
 rw [hb,bJ (jN BT)]
 rcases xp (kQ BT) with ⟨_,p,h1,h2⟩|⟨_,h⟩
 ·rw [← lY h1] at h2
  exact h2
 ·exact absurd rfl (h BT)
theorem En {x:List Int} (hx:Dig 256 x) (hl:x.length≤100000000):Sc4 (xo (aH (qe x) 64 0 64)) (hN x):=by
 rw [Km hx hl,bJ (ym x)]
 exact Em (qH x) (nF (qH x))
theorem Hg (x:List Int):hN x<L:=Nat.mod_lt _ Cs
theorem LL:L<2 ^ 256:=HN
theorem oN {V:Nat} (h:V<L):num 256 (bx 256 32 (V:Int))=(V:Int):=KA (Nat.lt_trans h LL)
theorem Bp (V:Nat):Dig 256 (bx 256 32 (V:Int)):=da (by decide) _ _
end Go.Vm
namespace Go.Vm
open Go Tabn
theorem IS {a b c:List Int}:yD a b c=bx 256 32 (hN (a++b++c):Int):=by
 unfold yD
 rw [bJ (xs:=a++b++c) (by rw [List.length_append,List.length_append])]
 show xY (aH (hsh (a++b++c)) 64 0 64)=_
 rw [bJ (ym _)]
 exact KD (qH _) (nF (qH _))
def Wb (M:Int) (z:List Int):Prop:=∀ t,0≤z.getD t 0∧z.getD t 0≤M
theorem Wb.set {M M':Int} {z:List Int} {i:Nat} {v:Int} (h:Wb M z) (hm:M≤M') (hv:0≤v∧v≤M'):Wb M' (z.set i v):=by
 intro t
 by_cases hi:i<z.length
 ·by_cases e:t=i
  ·subst e;rw [cz hi];exact hv
  ·rw [cM (by omega)];have:=h t;omega
 ·rw [List.set_eq_of_length_le (by omega)];have:=h t;omega
end Go.Vm
namespace Go.Vm
open Go
theorem Ck (s:ByteArray) (h:s.size<4294967296):kW s=tx s []:=by
 unfold kW tx
 rw [ER s h,ap,List.append_nil]
theorem Cl (s:ByteArray) (h:s.size<4294967296):aH (kW s) (4+s.size) 0 (4+s.size)=tx s []:=by rw [bJ (tc s),Ck s h]
theorem Ge (u p:ByteArray) (hu:u.size≤100000) (hp:p.size≤100000):ef u p=50 :: tx u (tx el (tx sPw (0 :: tx p []))):=by
 unfold ef iw kj
 rw [wt _ _ _ (by omega),wf,yh _ _ hu (by decide)]
 simp only [mz,List.append_assoc,List.cons_append,List.nil_append]
 rfl
def kg (s:List Int) (u b:ByteArray):List Int:=tx (bytesOf s) (50 :: tx u (tx el (tx sPk (1 :: tx sEd (tx b [])))))
theorem wtn (s:ByteArray) (h:s.size<4294967296):gq s=tx s []:=by rw [uE s h];unfold tx;rw [ap,List.append_nil]
theorem BA (s:List Int) (u b:ByteArray) (hs:s.length≤100000) (hu:u.size≤100000) (hb:b.size≤100000):jO s u b=kg s u b:=by
 have hz:(bytesOf s).size=s.length:=cF s
 unfold jO kt mo nI ko
 rw [wt _ _ _ (by omega),wt _ _ _ (by decide),wf,wtn _ (by omega),bJ (nv u sPk),yh u sPk hu (by decide)]
 unfold kg
 simp only [mz,List.append_assoc,List.cons_append,List.nil_append]
 rfl
theorem Aq (s:List Int) (u b:ByteArray):Dg (kg s u b):=gu (lg (by decide) (gu (gu (gu (lg (by decide) (gu (gu od)))))))
theorem yL (s:List Int) (u b:ByteArray):(kg s u b).length=s.length+u.size+b.size+60:=by
 unfold kg
 simp only [ol,List.length_cons,List.length_nil,cF]
 have e1:el.size=14:=rfl
 have e2:sPk.size=9:=rfl
 have e3:sEd.size=11:=rfl
 omega
theorem Im (u p:ByteArray):aU u p=(ef u p).length:=by
 unfold ef iw kj aU
 rw [jD,tJ,nv]
end Go.Vm
namespace Go.Vm
open Go Go.Proofs
def iy (p1:Int) (p3:Int):Int :=
 (aN .i64 p1 p3)
def eE (p1:Int) (p3:Int):Nat :=
 (((aN .i64 p1 p3)).toNat)-(((ag .i64 (aN .i64 p1 p3) p3)).toNat)
def yj:List AV→List Blk→Option (Prop × Ret)
 |[.sc (.p 0 0),.sc (.i .i64 p3)],[.cells [.sl 1 0 p4 1 none,.i .i64 p1,.b false],.ints .u8 p5 p0]=>some (((p4=p5)∧(p4=p0.length∧p0.length≤1000000∧(0:Int)≤p1∧(0:Int)≤p3∧p1+p3≤(p0.length:Int))),⟨.sc (.sl 1 (0+((((ag .i64 (aN .i64 p1 p3) p3)).toNat)*1)) (eE p1 p3) 1 none),[some (.cells [.sl 1 0 p4 1 none,.i .i64 (iy p1 p3),.b false]),some (.ints .u8 p4 p0)]⟩)
 |_,_=>none
theorem ut:Known Tryz.prog gD 84 ⟨2,0,yj⟩:=by
 refine Xw Tryz.f84 53 Zn mixed <|fun E args ks C r h hC hlen=>?_
 simp only at h
 unfold yj at h
 split at h
 rotate_left
 cases h
 rename_i p3 p4 p1 p5 p0
 cases h
 simp only [bI] at hlen
 obtain ⟨hEp5,hC⟩:=hC
 subst hEp5
 refine ⟨rfl,?_⟩
 refine Xs [] [] 32 (v1 pT) <|Tri.seq <|Xu [Eb 13 false] (some [0,1,3,7,15,31,63,127,255,511,511,1535,3583,7679,15871,511,33279,98815,229887,523775,1048575,2097151]) [Eb 26 (decide ((p3:Int)>(ag .i64 ((p4:Nat):Int) p1)))] [] [] [] 384 (v3 (pu (pl (show 2<3 from by first|omega|decide|(rw [bq (by omega) (by omega),ce (by omega) (by omega)];omega))) (v4 (pv pT (pl (show (decide ((p3:Int)<0))=false from (decide_eq_false (by omega)))) (v4 (pu (pl (show 0<3 from by first|omega|decide|(rw [bq (by omega) (by omega),ce (by omega) (by omega)];omega))) (v4 (pu (pl (show 1<3 from by first|omega|decide|(rw [bq (by omega) (by omega),ce (by omega) (by omega)];omega))) (v3 pT))))))))) ?_
 refine Tri.cond (x:=(decide ((p3:Int)>(ag .i64 ((p4:Nat):Int) p1)))) (by kernel_rfl) (fun h=>absurd (h.symm.trans (decide_eq_false (by rw [ce (by omega) (by omega)];omega))) (by decide)) (fun h=>?_)
 refine Tri.skip <|Xt [] [26] [Mc 0 [.sl 1 0 p4 1 none,.i .i64 (aN .i64 p1 p3),.b false]] [0] 528 (v3 (pu (pl (show 1<3 from by first|omega|decide|(rw [bq (by omega) (by omega),ce (by omega) (by omega)];omega))) (v4 (pu (pa (pl (show 1<3 from by first|omega|decide|(rw [bq (by omega) (by omega),ce (by omega) (by omega)];omega))) (Yr 1)) pT)))) ?_
 refine Xu [] (some [0,1,3,7,0,16,48,112,0,496,0,1024,3072,7168,16383,32767]) [(4,.sc (.sl 1 (0+((((ag .i64 (aN .i64 p1 p3) p3)).toNat)*1)) ((((aN .i64 p1 p3)).toNat)-(((ag .i64 (aN .i64 p1 p3) p3)).toNat)) 1 none))] [0,1] [] [] 784 (v3 (pu (pl (show 0<3 from by first|omega|decide|(rw [bq (by omega) (by omega),ce (by omega) (by omega)];omega))) (v3 (pu (pl (show 1<3 from by first|omega|decide|(rw [bq (by omega) (by omega),ce (by omega) (by omega)];omega))) (v5 (pu (pl (show 1<3 from by first|omega|decide|(rw [bq (by omega) (by omega),ce (by omega) (by omega)];omega))) (pu (pl (show (0:Int)≤(ag .i64 (aN .i64 p1 p3) p3)∧((ag .i64 (aN .i64 p1 p3) p3):Int)≤(aN .i64 p1 p3)∧(aN .i64 p1 p3)≤((p4:Nat):Int) from by first|omega|decide|(rw [bq (by omega) (by omega),ce (by omega) (by omega)];omega))) (v1 pT)))))))) ?_
 exact Xz [(0,0),(1,1)] pz
theorem fR (x i:Nat):adr (0+x*1) i 1=x+i:=by
 unfold adr
 cases h:Nat.beq (0+x*1) 0
 ·show 0+x*1+i=x+i;omega
 ·have:=Nat.eq_of_beq_eq_true h;show i=x+i;omega
theorem hO {p1 p3:Int} (h:0≤p1∧0≤p3) (h':p1+p3≤2000000):iy p1 p3=p1+p3∧eE p1 p3=p3.toNat∧((ag .i64 (aN .i64 p1 p3) p3)).toNat=p1.toNat:=by
 unfold iy eE
 rw [bq (by omega) (by omega),ce (by omega) (by omega)]
 exact ⟨rfl,by omega,by omega⟩
def Fx (p1:Int) (p0:List Int):Int :=
 (IntKind.wrap .i64 (p0.getD (adr (0+((((ag .i64 (aN .i64 p1 1) 1)).toNat)*1)) 0 1) 0))
def cB (p1:Int):Int :=
 (iy p1 1)
def zW:List AV→List Blk→Option (Prop × Ret)
 |[.sc (.p 0 0)],[.cells [.sl 1 0 p4 1 none,.i .i64 p1,.b false],.ints .u8 p5 p0]=>some (((p4=p5)∧(p4=p0.length∧p0.length≤1000000∧(0:Int)≤p1∧p1+1≤(p0.length:Int))),⟨.sc (.i .i64 (Fx p1 p0)),[some (.cells [.sl 1 0 p4 1 none,.i .i64 (cB p1),.b false]),some (.ints .u8 p4 p0)]⟩)
 |_,_=>none
theorem FE:Known Tryz.prog gD 47 ⟨2,0,zW⟩:=by
 refine Xw Tryz.f47 14 (Zc ut 48 [.io,.val] [] [0,1] <|Zn) mixed <|fun E args ks C r h hC hlen=>?_
 simp only at h
 unfold zW at h
 split at h
 rotate_left
 cases h
 rename_i p4 p1 p5 p0
 cases h
 simp only [bI] at hlen
 obtain ⟨hEp5,hC⟩:=hC
 subst hEp5
 have ht:=hO (p1:=p1) (p3:=1) ⟨by omega,by decide⟩ (by omega)
 refine ⟨rfl,?_⟩
 refine Xs [] [] 32 (v1 pT) <|Xt [(3,.sc (.sl 1 (0+((((ag .i64 (aN .i64 p1 1) 1)).toNat)*1)) (eE p1 1) 1 none))] [] [Mi 1 p4 p0,Mc 0 [.sl 1 0 p4 1 none,.i .i64 (iy p1 1),.b false]] [0,1] 80 (v1 (pu (pa pT (pa (Yr p4) (pl (show p4=p0.length∧p0.length≤1000000∧(0:Int)≤p1∧(0:Int)≤1∧p1+1≤(p0.length:Int) from by first|omega|decide|(obtain ⟨t1,t2,t3⟩:=ht;rw [fR,t3];omega)|(obtain ⟨t1,t2,t3⟩:=ht;rw [t2];omega))))) (v1 pT))) ?_
 refine Tri.seq <|Xs [Eb 9 false] [0] 144 (v3 (pu (pl (show 2<3 from by first|omega|decide|(obtain ⟨t1,t2,t3⟩:=ht;rw [fR,t3];omega)|(obtain ⟨t1,t2,t3⟩:=ht;rw [t2];omega))) pT)) ?_
 refine Tri.cond_false (by kernel_rfl) <|Tri.skip <|Xs [Ei 2 (IntKind.wrap .i64 (p0.getD (adr (0+((((ag .i64 (aN .i64 p1 1) 1)).toNat)*1)) 0 1) 0))] [9,3] 224 (v1 (pu (pl (show (0:Int)≤0∧0<(((eE p1 1):Nat):Int) from by first|omega|decide|(obtain ⟨t1,t2,t3⟩:=ht;rw [fR,t3];omega)|(obtain ⟨t1,t2,t3⟩:=ht;rw [t2];omega))) (pu (pl (show adr (0+((((ag .i64 (aN .i64 p1 1) 1)).toNat)*1)) 0 1<p4 from by first|omega|decide|(obtain ⟨t1,t2,t3⟩:=ht;rw [fR,t3];omega)|(obtain ⟨t1,t2,t3⟩:=ht;rw [t2];omega))) (v2 pT)))) ?_
 exact Xz [(0,0),(1,1)] pz
def db (p1:Int) (p0:List Int):Int :=
 (aN .i64 (aN .i64 (aN .i64 (bS .i64 (IntKind.wrap .i64 (p0.getD (adr (0+((((ag .i64 (aN .i64 p1 4) 4)).toNat)*1)) 0 1) 0)) 16777216) (bS .i64 (IntKind.wrap .i64 (p0.getD (adr (0+((((ag .i64 (aN .i64 p1 4) 4)).toNat)*1)) 1 1) 0)) 65536)) (bS .i64 (IntKind.wrap .i64 (p0.getD (adr (0+((((ag .i64 (aN .i64 p1 4) 4)).toNat)*1)) 2 1) 0)) 256)) (IntKind.wrap .i64 (p0.getD (adr (0+((((ag .i64 (aN .i64 p1 4) 4)).toNat)*1)) 3 1) 0)))
def eA (p1:Int):Int :=
 (iy p1 4)
def CZ:List AV→List Blk→Option (Prop × Ret)
 |[.sc (.p 0 0)],[.cells [.sl 1 0 p4 1 none,.i .i64 p1,.b false],.ints .u8 p5 p0]=>some (((p4=p5)∧(p4=p0.length∧p0.length≤1000000∧(0:Int)≤p1∧p1+4≤(p0.length:Int))),⟨.sc (.i .i64 (db p1 p0)),[some (.cells [.sl 1 0 p4 1 none,.i .i64 (eA p1),.b false]),some (.ints .u8 p4 p0)]⟩)
 |_,_=>none
theorem JR:Known Tryz.prog gD 85 ⟨2,0,CZ⟩:=by
 refine Xw Tryz.f85 32 (Zc ut 48 [.io,.val] [] [0,1] <|Zn) mixed <|fun E args ks C r h hC hlen=>?_
 simp only at h
 unfold CZ at h
 split at h
 rotate_left
 cases h
 rename_i p4 p1 p5 p0
 cases h
 simp only [bI] at hlen
 obtain ⟨hEp5,hC⟩:=hC
 subst hEp5
 have ht:=hO (p1:=p1) (p3:=4) ⟨by omega,by decide⟩ (by omega)
 refine ⟨rfl,?_⟩
 refine Xs [] [] 32 (v1 pT) <|Xt [(3,.sc (.sl 1 (0+((((ag .i64 (aN .i64 p1 4) 4)).toNat)*1)) (eE p1 4) 1 none))] [] [Mi 1 p4 p0,Mc 0 [.sl 1 0 p4 1 none,.i .i64 (iy p1 4),.b false]] [0,1] 80 (v1 (pu (pa pT (pa (Yr p4) (pl (show p4=p0.length∧p0.length≤1000000∧(0:Int)≤p1∧(0:Int)≤4∧p1+4≤(p0.length:Int) from by first|omega|decide|(obtain ⟨t1,t2,t3⟩:=ht;rw [fR,t3];omega)|(obtain ⟨t1,t2,t3⟩:=ht;rw [t2];omega))))) (v1 pT))) ?_
 refine Tri.seq <|Xs [Eb 9 false] [0] 144 (v3 (pu (pl (show 2<3 from by first|omega|decide|(obtain ⟨t1,t2,t3⟩:=ht;rw [fR,t3];omega)|(obtain ⟨t1,t2,t3⟩:=ht;rw [t2];omega))) pT)) ?_
 refine Tri.cond_false (by kernel_rfl) <|Tri.skip <|Xu [] (some [0,1,3,7,15,0,32,96,224,480,1023,0,2048,6144,14336,30720,65535,0,131072,393216,917504,2097151,4194303]) [Ei 2 (aN .i64 (aN .i64 (aN .i64 (bS .i64 (IntKind.wrap .i64 (p0.getD (adr (0+((((ag .i64 (aN .i64 p1 4) 4)).toNat)*1)) 0 1) 0)) 16777216) (bS .i64 (IntKind.wrap .i64 (p0.getD (adr (0+((((ag .i64 (aN .i64 p1 4) 4)).toNat)*1)) 1 1) 0)) 65536)) (bS .i64 (IntKind.wrap .i64 (p0.getD (adr (0+((((ag .i64 (aN .i64 p1 4) 4)).toNat)*1)) 2 1) 0)) 256)) (IntKind.wrap .i64 (p0.getD (adr (0+((((ag .i64 (aN .i64 p1 4) 4)).toNat)*1)) 3 1) 0)))] [9,3] [] [] 512 (v1 (pu (pl (show (0:Int)≤0∧0<(((eE p1 4):Nat):Int) from by first|omega|decide|(obtain ⟨t1,t2,t3⟩:=ht;rw [fR,t3];omega)|(obtain ⟨t1,t2,t3⟩:=ht;rw [t2];omega))) (pu (pl (show adr (0+((((ag .i64 (aN .i64 p1 4) 4)).toNat)*1)) 0 1<p4 from by first|omega|decide|(obtain ⟨t1,t2,t3⟩:=ht;rw [fR,t3];omega)|(obtain ⟨t1,t2,t3⟩:=ht;rw [t2];omega))) (v3 (pu (pl (show (0:Int)≤1∧1<(((eE p1 4):Nat):Int) from by first|omega|decide|(obtain ⟨t1,t2,t3⟩:=ht;rw [fR,t3];omega)|(obtain ⟨t1,t2,t3⟩:=ht;rw [t2];omega))) (pu (pl (show adr (0+((((ag .i64 (aN .i64 p1 4) 4)).toNat)*1)) 1 1<p4 from by first|omega|decide|(obtain ⟨t1,t2,t3⟩:=ht;rw [fR,t3];omega)|(obtain ⟨t1,t2,t3⟩:=ht;rw [t2];omega))) (v4 (pu (pl (show (0:Int)≤2∧2<(((eE p1 4):Nat):Int) from by first|omega|decide|(obtain ⟨t1,t2,t3⟩:=ht;rw [fR,t3];omega)|(obtain ⟨t1,t2,t3⟩:=ht;rw [t2];omega))) (pu (pl (show adr (0+((((ag .i64 (aN .i64 p1 4) 4)).toNat)*1)) 2 1<p4 from by first|omega|decide|(obtain ⟨t1,t2,t3⟩:=ht;rw [fR,t3];omega)|(obtain ⟨t1,t2,t3⟩:=ht;rw [t2];omega))) (v4 (pu (pl (show (0:Int)≤3∧3<(((eE p1 4):Nat):Int) from by first|omega|decide|(obtain ⟨t1,t2,t3⟩:=ht;rw [fR,t3];omega)|(obtain ⟨t1,t2,t3⟩:=ht;rw [t2];omega))) (pu (pl (show adr (0+((((ag .i64 (aN .i64 p1 4) 4)).toNat)*1)) 3 1<p4 from by first|omega|decide|(obtain ⟨t1,t2,t3⟩:=ht;rw [fR,t3];omega)|(obtain ⟨t1,t2,t3⟩:=ht;rw [t2];omega))) (v3 pT))))))))))))) ?_
 exact Xz [(0,0),(1,1)] pz
def oOk (p0:List Int) (p1:Int):Prop:=p0.length≤1000000∧(0:Int)≤p1∧0≤db p1 p0∧db p1 p0≤16384∧p1+4+db p1 p0≤(p0.length:Int)
def Fk (p1:Int) (p0:List Int):ByteArray :=
 (bytesOf ((p0.drop (0+((((ag .i64 (aN .i64 (eA p1) (db p1 p0)) (db p1 p0))).toNat)*1))).take (eE (eA p1) (db p1 p0))))
def az (p1:Int) (p0:List Int):Int :=
 (iy (eA p1) (db p1 p0))
def yl:List AV→List Blk→Option (Prop × Ret)
 |[.sc (.p 0 0)],[.cells [.sl 1 0 p4 1 none,.i .i64 p1,.b false],.ints .u8 p5 p0]=>some (((p4=p5)∧(p4=p0.length∧oOk p0 p1)),⟨.sc (.s (Fk p1 p0)),[some (.cells [.sl 1 0 p4 1 none,.i .i64 (az p1 p0),.b false]),some (.ints .u8 p4 p0)]⟩)
 |_,_=>none
theorem tb:Known Tryz.prog gD 48 ⟨2,0,yl⟩:=by
 refine Xw Tryz.f48 15 (Zc ut 144 [.io,.val] [] [0,1] <|Zc JR 48 [.io] [] [0,1] <|Zn) mixed <|fun E args ks C r h hC hlen=>?_
 simp only at h
 unfold yl at h
 split at h
 rotate_left
 cases h
 rename_i p4 p1 p5 p0
 cases h
 simp only [bI] at hlen
 obtain ⟨hEp5,hC⟩:=hC
 subst hEp5
 obtain ⟨c0,c1,c2,c3,c4,c5⟩:=hC
 have ht:eA p1=p1+4:=(hO (p1:=p1) (p3:=4) ⟨c2,by decide⟩ (by omega)).1
 have hq:=hO (p1:=eA p1) (p3:=db p1 p0) ⟨by omega,c3⟩ (by omega)
 refine ⟨rfl,?_⟩
 refine Xs [] [] 32 (v1 pT) <|Xt [Ei 3 (db p1 p0)] [] [Mi 1 p4 p0,Mc 0 [.sl 1 0 p4 1 none,.i .i64 (eA p1),.b false]] [0,1] 80 (v1 (pu (pa pT (pa (Yr p4) (pl (show p4=p0.length∧p0.length≤1000000∧(0:Int)≤p1∧p1+4≤(p0.length:Int) from by first|omega|decide|(obtain ⟨q1,q2,q3⟩:=hq;simp only [q3,q2];omega)|(obtain ⟨q1,q2,q3⟩:=hq;rw [q3,q2];omega))))) (v1 pT))) ?_
 refine Tri.seq <|Xs [Eb 7 (decide (((db p1 p0):Int)>16384))] [] 112 (v2 pT) <|Tri.cond (x:=(decide (((db p1 p0):Int)>16384))) (by kernel_rfl) (fun h=>absurd (h.symm.trans (decide_eq_false (by omega))) (by decide)) (fun h=>?_)
 refine Tri.skip <|Xt [Es 2 (bytesOf ((p0.drop (0+((((ag .i64 (aN .i64 (eA p1) (db p1 p0)) (db p1 p0))).toNat)*1))).take (eE (eA p1) (db p1 p0))))] [7,3,0] [Mi 1 p4 p0,Mc 0 [.sl 1 0 p4 1 none,.i .i64 (iy (eA p1) (db p1 p0)),.b false]] [1,0] 192 (v2 (pu (pa pT (pa (Yr p4) (pl (show p4=p0.length∧p0.length≤1000000∧(0:Int)≤(eA p1)∧(0:Int)≤(db p1 p0)∧(eA p1)+(db p1 p0)≤(p0.length:Int) from by first|omega|decide|(obtain ⟨q1,q2,q3⟩:=hq;simp only [q3,q2];omega)|(obtain ⟨q1,q2,q3⟩:=hq;rw [q3,q2];omega))))) (pu (pl (show (0+((((ag .i64 (aN .i64 (eA p1) (db p1 p0)) (db p1 p0))).toNat)*1))+(eE (eA p1) (db p1 p0))≤p4 from by first|omega|decide|(obtain ⟨q1,q2,q3⟩:=hq;simp only [q3,q2];omega)|(obtain ⟨q1,q2,q3⟩:=hq;rw [q3,q2];omega))) (v1 pT)))) ?_
 exact Xz [(0,0),(1,1)] pz
theorem qU {p0:List Int} {p1:Int} (h:oOk p0 p1):az p1 p0=p1+4+db p1 p0:=by
 obtain ⟨c1,c2,c3,c4,c5⟩:=h
 have ht:eA p1=p1+4:=(hO (p1:=p1) (p3:=4) ⟨c2,by decide⟩ (by omega)).1
 unfold az
 rw [(hO (p1:=eA p1) (p3:=db p1 p0) ⟨by omega,c3⟩ (by omega)).1,ht]
end Go.Vm
namespace Go.Vm
open Go Go.Proofs
def Dc (p:List Int):Prop:=1≤p.length∧oOk p (cB 0)∧oOk p (az (cB 0) p)∧oOk p (az (az (cB 0) p) p)∧az (az (az (cB 0) p) p) p<(p.length:Int)
theorem LR {p:List Int} (h:Dc p):0≤az (az (az (cB 0) p) p) p:=by
 obtain ⟨_,_,_,h4,_⟩:=h
 have e:=qU h4
 obtain ⟨c1,c2,c3,c4,c5⟩:=h4
 omega
def gf (p0:List Int) (p1:List Int):List Int :=
 (kW (bytesOf p0))++(aH (p1.set (((az (az (az (cB 0) p1) p1) p1)).toNat) 1) p1.length 0 p1.length)
def sV:List AV→List Blk→Option (Prop × Ret)
 |[.sc (.ro .u8 p0),.sc (.ro .u8 p1),.sc (.i .i64 p2)],[]=>some ((p0.length≤1000∧Dc p1),⟨.sc (.sl 0 0 ((4+(bytesOf p0).size)+p1.length) 1 none),[some (.ints .u8 ((4+(bytesOf p0).size)+p1.length) (gf p0 p1))]⟩)
 |_,_=>none
theorem BL:Known Tryz.prog gD 52 ⟨0,1,sV⟩:=by
 refine Xw Tryz.f52 33 (Zv wR 416 1 <|Zc FE 160 [.io] [] [112,48] <|Zc tb 192 [.io] [] [112,48] <|Zc tb 224 [.io] [] [112,48] <|Zc tb 256 [.io] [] [112,48] <|Zn) mixed <|fun E args ks C r h hC hlen=>?_
 simp only at h
 unfold sV at h
 split at h
 rotate_left
 cases h
 rename_i p0 p1 p2
 cases h
 simp only [bI] at hlen
 obtain ⟨s0,s1,s2,s3,s4,s5⟩:=hC
 have s6:=LR ⟨s1,s2,s3,s4,s5⟩
 have s7:=s2.1
 have s8:=cF p0
 refine ⟨rfl,?_⟩
 refine Xs [] [2] 32 (v1 pT) <|Xt [El 7 48 p1.length] [1] [Mi 48 p1.length p1] [] 80 (v1 (pu (pa (pa (Yz 1) (pa (pl (show 0<1 from by first|omega|decide|exact ⟨rfl,s2⟩|exact ⟨rfl,s3⟩|exact ⟨rfl,s4⟩)) (pa (pl (show p1.length*1≤140737488355328 from by first|omega|decide|exact ⟨rfl,s2⟩|exact ⟨rfl,s3⟩|exact ⟨rfl,s4⟩)) (pl (show p1.length≤140737488355328 from by first|omega|decide|exact ⟨rfl,s2⟩|exact ⟨rfl,s3⟩|exact ⟨rfl,s4⟩))))) (pl (show p1.length=p1.length*1 from by first|omega|decide|exact ⟨rfl,s2⟩|exact ⟨rfl,s3⟩|exact ⟨rfl,s4⟩))) (v1 pT))) ?_
 refine Xt [Ep 8 112] [] [Mc 112 [.sl 48 0 p1.length 1 none,.i .i64 0,.b false]] [] 144 (v1 (pu (pa (pa (pl (show 0<3 from by first|omega|decide|exact ⟨rfl,s2⟩|exact ⟨rfl,s3⟩|exact ⟨rfl,s4⟩)) (Yr 1)) pT) (v2 pT))) ?_
 refine Xt [] [] [Mi 48 p1.length p1,Mc 112 [.sl 48 0 p1.length 1 none,.i .i64 (cB 0),.b false]] [112,48] 176 (v1 (pu (pa pT (pa (Yr p1.length) (pl (show p1.length=p1.length∧p1.length≤1000000∧(0:Int)≤0∧0+1≤(p1.length:Int) from by first|omega|decide|exact ⟨rfl,s2⟩|exact ⟨rfl,s3⟩|exact ⟨rfl,s4⟩)))) pT)) ?_
 refine Xt [] [] [Mi 48 p1.length p1,Mc 112 [.sl 48 0 p1.length 1 none,.i .i64 (az (cB 0) p1),.b false]] [48,112] 208 (v1 (pu (pa pT (pa (Yr p1.length) (pl (show p1.length=p1.length∧oOk p1 (cB 0) from by first|omega|decide|exact ⟨rfl,s2⟩|exact ⟨rfl,s3⟩|exact ⟨rfl,s4⟩)))) pT)) ?_
 refine Xt [] [] [Mi 48 p1.length p1,Mc 112 [.sl 48 0 p1.length 1 none,.i .i64 (az (az (cB 0) p1) p1),.b false]] [48,112] 240 (v1 (pu (pa pT (pa (Yr p1.length) (pl (show p1.length=p1.length∧oOk p1 (az (cB 0) p1) from by first|omega|decide|exact ⟨rfl,s2⟩|exact ⟨rfl,s3⟩|exact ⟨rfl,s4⟩)))) pT)) ?_
 refine Xt [] [] [Mi 48 p1.length p1,Mc 112 [.sl 48 0 p1.length 1 none,.i .i64 (az (az (az (cB 0) p1) p1) p1),.b false]] [48,112] 272 (v1 (pu (pa pT (pa (Yr p1.length) (pl (show p1.length=p1.length∧oOk p1 (az (az (cB 0) p1) p1) from by first|omega|decide|exact ⟨rfl,s2⟩|exact ⟨rfl,s3⟩|exact ⟨rfl,s4⟩)))) pT)) ?_
 refine Xt [] [8] [Mi 48 p1.length (p1.set (((az (az (az (cB 0) p1) p1) p1)).toNat) 1)] [48,112] 384 (v4 (pu (pl (show 1<3 from by first|omega|decide|exact ⟨rfl,s2⟩|exact ⟨rfl,s3⟩|exact ⟨rfl,s4⟩)) (pu (pl (show (0:Int)≤(az (az (az (cB 0) p1) p1) p1)∧(az (az (az (cB 0) p1) p1) p1)<((p1.length:Nat):Int) from by first|omega|decide|exact ⟨rfl,s2⟩|exact ⟨rfl,s3⟩|exact ⟨rfl,s4⟩)) (pu (pa (pl (show ((az (az (az (cB 0) p1) p1) p1)).toNat<p1.length from by first|omega|decide|exact ⟨rfl,s2⟩|exact ⟨rfl,s3⟩|exact ⟨rfl,s4⟩)) (Yr 1)) pT)))) ?_
 refine Tri.len 48 rfl <|fun hl1=>Xt [El 6 448 ((4+(bytesOf p0).size)+p1.length)] [7,0] [Mi 448 ((4+(bytesOf p0).size)+p1.length) ((kW (bytesOf p0))++(aH (p1.set (((az (az (az (cB 0) p1) p1) p1)).toNat) 1) p1.length 0 p1.length))] [48] 480 (v2 (pu (pa pT (pl (show (bytesOf p0).size≤1000000 from by first|omega|decide|exact ⟨rfl,s2⟩|exact ⟨rfl,s3⟩|exact ⟨rfl,s4⟩))) (v1 (pu (pa (pa (pa (pa (pl (show 0+p1.length≤p1.length from by first|omega|decide|exact ⟨rfl,s2⟩|exact ⟨rfl,s3⟩|exact ⟨rfl,s4⟩)) (Yr 1)) (pa (pl (show 0<1 from by first|omega|decide|exact ⟨rfl,s2⟩|exact ⟨rfl,s3⟩|exact ⟨rfl,s4⟩)) (pa (pl (show ((4+(bytesOf p0).size)+p1.length)*1≤140737488355328 from by first|omega|decide|exact ⟨rfl,s2⟩|exact ⟨rfl,s3⟩|exact ⟨rfl,s4⟩)) (pl (show (4+(bytesOf p0).size)+p1.length≤140737488355328 from by first|omega|decide|exact ⟨rfl,s2⟩|exact ⟨rfl,s3⟩|exact ⟨rfl,s4⟩))))) (pl (show p1.length=p1.length*1 from by first|omega|decide|exact ⟨rfl,s2⟩|exact ⟨rfl,s3⟩|exact ⟨rfl,s4⟩))) (pa (Yr 1) (pl (show 0+(4+(bytesOf p0).size)*1=4+(bytesOf p0).size from by first|omega|decide|exact ⟨rfl,s2⟩|exact ⟨rfl,s3⟩|exact ⟨rfl,s4⟩)))) (v1 pT))))) ?_
 exact Xz [(448,0)] pz
theorem Lp {b:Bool} (h:(!b)=true):b=false:=by cases b;rfl;cases h
theorem pS (p0 p1:List Int):(gf p0 p1).length=4+(bytesOf p0).size+p1.length:=by
 unfold gf
 rw [List.length_append,tc,bJ (by rw [List.length_set]),List.length_set]
end Go.Vm
namespace Go.Vm
open Go
theorem xE {p:List Int} {k:Int} {b:Bool} (h:dD p k) (hb:aM p k b=false):b=false∧k+1≤(p.length:Int)∧aL p k b=k+1:=by
 unfold aM at hb
 unfold aL
 rcases ic b 1 h with ⟨q1,q2,q3,q4,q5,q6⟩|⟨_,_,_,q6⟩
 ·exact ⟨q1,q3,q5⟩
 ·rw [q6] at hb;cases hb
theorem FN {p:List Int} {k:Int} {b:Bool} (h:dD p k) (hb:dG p k b=false):b=false∧k+4≤(p.length:Int)∧cd p k b=k+4:=by
 unfold dG at hb
 unfold cd
 rcases ic b 4 h with ⟨q1,q2,q3,q4,q5,q6⟩|⟨_,_,_,q6⟩
 ·exact ⟨q1,q3,q5⟩
 ·rw [q6] at hb;cases hb
theorem jT {p:List Int} {k:Int} {b:Bool} (h:dD p k) (hb:aS p k b=false):b=false∧0≤co p k false∧co p k false≤16384∧k+4+co p k false≤(p.length:Int)∧ab p k b=k+4+co p k false∧aE p k b=bytesOf ((p.drop (k+4).toNat).take (co p k false).toNat):=by
 have hc:=mJ b h
 unfold aS at hb
 unfold ab aE
 rcases ic (sel (decide (((co p k b):Int)>16384)) true (dG p k b)) (co p k b) ⟨h.1,hc.1,hc.2⟩ with ⟨q1,q2,q3,q4,q5,q6⟩|⟨_,_,_,q6⟩
 ·cases hd:decide (((co p k b):Int)>16384)
  ·rw [hd,aA] at q1
   obtain ⟨r1,r2,r3⟩:=FN h q1
   subst r1
   have hn:=of_decide_eq_false hd
   rw [hd] at q4 q5
   rw [q4,q5]
   exact ⟨rfl,q2,by omega,by omega,by omega,by rw [r3]⟩
  ·rw [hd,aD] at q1;cases q1
 ·rw [q6] at hb;cases hb
theorem rO {p:List Int} {m j:Nat} (h:j<m):(p.take m).getD j 0=p.getD j 0:=by
 rw [List.getD_eq_getElem?_getD,List.getD_eq_getElem?_getD,List.getElem?_take,if_pos h]
theorem yC {p:List Int} {a n j:Nat} (h:j<n):((p.drop a).take n).getD j 0=p.getD (a+j) 0:=by
 rw [rO h,List.getD_eq_getElem?_getD,List.getD_eq_getElem?_getD,List.getElem?_drop]
theorem sQ {p:List Int} {k:Int} {m:Nat} (h:dD p k) (h4:k+4≤(p.length:Int)) (hl:p.length≤1000000) (hm:k+4≤(m:Int)):db k (p.take m)=co p k false:=by
 have h0:=h.2.1
 rcases ic false 4 h with ⟨q1,q2,q3,q4,q5,q6⟩|⟨q1,_,_,q6⟩
 ·unfold db co
  rw [q6,aA,q4,(hO (p1:=k) (p3:=4) ⟨h0,by decide⟩ (by omega)).2.2]
  have e:∀ i:Nat,i<4→(p.take m).getD (adr (0+k.toNat*1) i 1) 0=((p.drop k.toNat).take (4:Int).toNat).getD i 0:=fun i hi=>by
   rw [fR,rO (by omega),yC (show i<(4:Int).toNat by show i<4;exact hi)]
  rw [e 0 (by decide),e 1 (by decide),e 2 (by decide),e 3 (by decide)]
 ·exact absurd ⟨rfl,by decide,h4⟩ q1
theorem xS {p:List Int} {k:Int} {m:Nat} {b:Bool} (h:dD p k) (hl:p.length≤1000000) (hb:aS p k b=false) (hm:ab p k b≤(m:Int)) (hm':m≤p.length):oOk (p.take m) k∧az k (p.take m)=ab p k b:=by
 obtain ⟨q1,q2,q3,q4,q5,q6⟩:=jT h hb
 have e:=sQ (m:=m) h (by omega) hl (by omega)
 have hk:oOk (p.take m) k:=⟨by rw [List.length_take];omega,h.2.1,by rw [e];exact q2,by rw [e];exact q3,by rw [e,List.length_take];omega⟩
 exact ⟨hk,by rw [qU hk,e,q5]⟩
theorem Fi {p:List Int} {k1 k2 k3 k4 k5 k6 k7:Int} {b1 b2 b3 b4 b5 b6 b7 b8:Bool} (hl:p.length≤6000) (e1:k1=aL p 0 false) (d1:b1=aM p 0 false) (e2:k2=ab p k1 b1) (d2:b2=aS p k1 b1)
  (e3:k3=ab p k2 b2) (d3:b3=aS p k2 b2) (e4:k4=ab p k3 b3) (d4:b4=aS p k3 b3) (e5:k5=aL p k4 b4) (d5:b5=aM p k4 b4) (e6:k6=ab p k5 b5) (d6:b6=aS p k5 b5)
  (e7:k7=ab p k6 b6) (d7:b7=aS p k6 b6) (d8:aS p k7 b7=false):Dc (p.take k7.toNat)∧0≤k7∧k7≤(p.length:Int):=by
 have c0:dD p 0:=JF (by omega)
 have c1:dD p k1:=by rw [e1];exact fV c0
 have c2:dD p k2:=by rw [e2];exact dO c1
 have c3:dD p k3:=by rw [e3];exact dO c2
 have c4:dD p k4:=by rw [e4];exact dO c3
 have c5:dD p k5:=by rw [e5];exact fV c4
 have c6:dD p k6:=by rw [e6];exact dO c5
 have c7:dD p k7:=by rw [e7];exact dO c6
 have f7:=(jT c7 d8).1
 rw [f7] at d7
 have t7:=jT c6 d7.symm
 have f6:=t7.1
 rw [f6] at d6
 have t6:=jT c5 d6.symm
 have f5:=t6.1
 rw [f5] at d5
 have t5:=xE c4 d5.symm
 have f4:=t5.1
 rw [f4] at d4
 have t4:=jT c3 d4.symm
 have f3:=t4.1
 rw [f3] at d3
 have t3:=jT c2 d3.symm
 have f2:=t3.1
 rw [f2] at d2
 have t2:=jT c1 d2.symm
 have f1:=t2.1
 rw [f1] at d1
 have t1:=xE c0 d1.symm
 obtain ⟨_,a2,a3,a4,a5,_⟩:=t2
 obtain ⟨_,a6,a7,a8,a9,_⟩:=t3
 obtain ⟨_,g2,g3,g4,g5,_⟩:=t4
 obtain ⟨_,g7,g8⟩:=t5
 obtain ⟨_,n2,n3,n4,n5,_⟩:=t6
 obtain ⟨_,m2,m3,m4,m5,_⟩:=t7
 have hm:k7.toNat≤p.length:=by have:=c7.2.2;omega
 have x1:cB 0=k1:=by
  unfold cB
  rw [(hO (p1:=0) (p3:=1) ⟨by decide,by decide⟩ (by decide)).1,e1,t1.2.2]
 have y2:=xS c1 (by omega) d2.symm (m:=k7.toNat) (by omega) hm
 have y3:=xS c2 (by omega) d3.symm (m:=k7.toNat) (by omega) hm
 have y4:=xS c3 (by omega) d4.symm (m:=k7.toNat) (by omega) hm
 refine ⟨⟨?_,?_,?_,?_,?_⟩,c7.2.1,c7.2.2⟩
 ·rw [List.length_take];omega
 ·rw [x1];exact y2.1
 ·rw [x1,y2.2,← e2];exact y3.1
 ·rw [x1,y2.2,← e2,y3.2,← e3];exact y4.1
 ·rw [x1,y2.2,← e2,y3.2,← e3,y4.2,← e4,List.length_take];omega
end Go.Vm
namespace Go.Vm
open Go Tabn
theorem Jk:(2:Int) ^ 64=18446744073709551616:=rfl
theorem oR (k:Nat):(256:Int) ^ k=(2 ^ 64) ^ (k/8)*2 ^ (8*(k % 8)):=by
 have e1:(256:Int) ^ k=2 ^ (8*k):=by rw [Int.pow_mul];rfl
 rw [e1,← Int.pow_mul,← Int.pow_add]
 congr 1
 omega
theorem Am {t:List Int} {v:Int} {k:Nat} (hk:k<32) (ht:Dig (2 ^ 64) t) (hl:t.length=4) (hv:num (2 ^ 64) t=v) (h0:0≤v) (hlt:v<256 ^ k) {b:Int} (hb:0≤b∧b<256) :
  Dig (2 ^ 64) (t.set (k/8) (iOr .u64 (t.getD (k/8) 0) (cu .u64 (IntKind.wrap .u64 b) ((8*(k % 8):Nat):Int)))) ∧
   num (2 ^ 64) (t.set (k/8) (iOr .u64 (t.getD (k/8) 0) (cu .u64 (IntKind.wrap .u64 b) ((8*(k % 8):Nat):Int))))=v+b*256 ^ k:=by
 have hw:IntKind.wrap .u64 b=b:=by rw [eV];omega
 have hp:(2:Int) ^ (8*(k % 8))≤72057594037927936:=by
  have:=mL (show 8*(k % 8)≤56 by omega)
  exact this
 have hp0:=jr (8*(k % 8))
 have hbm:b*2 ^ (8*(k % 8))≤255*2 ^ (8*(k % 8)):=Int.mul_le_mul_of_nonneg_right (by omega) (by omega)
 have hbn:0≤b*2 ^ (8*(k % 8)):=Int.mul_nonneg hb.1 (by omega)
 have hsh:cu .u64 b ((8*(k % 8):Nat):Int)=b*2 ^ (8*(k % 8)):=by
  rw [lG .u64 b (8*(k % 8)) (by show 8*(k % 8)≤64;omega),eV]
  exact Int.emod_eq_of_lt hbn (by omega)
 have hold:t.getD (k/8) 0=v/(2 ^ 64) ^ (k/8):=by
  rw [kV (by decide) ht,hv]
  have hq:0<((2:Int) ^ 64) ^ (k/8):=Int.pow_pos (by decide)
  have h1:v/(2 ^ 64) ^ (k/8)<2 ^ (8*(k % 8)):=by
   refine Int.ediv_lt_of_lt_mul hq ?_
   rw [Int.mul_comm,← oR];exact hlt
  exact Int.emod_eq_of_lt (Int.ediv_nonneg h0 (Int.le_of_lt hq)) (Int.lt_trans (Int.lt_of_lt_of_le h1 hp) (by decide))
 have ho:0≤t.getD (k/8) 0∧t.getD (k/8) 0<2 ^ (8*(k % 8)):=by
  rw [hold]
  have hq:0<((2:Int) ^ 64) ^ (k/8):=Int.pow_pos (by decide)
  refine ⟨Int.ediv_nonneg h0 (Int.le_of_lt hq),Int.ediv_lt_of_lt_mul hq ?_⟩
  rw [Int.mul_comm,← oR];exact hlt
 have hor:iOr .u64 (t.getD (k/8) 0) (b*2 ^ (8*(k % 8)))=t.getD (k/8) 0+b*2 ^ (8*(k % 8)) :=
  qE gw hb.1 ho.1 ho.2 (by show _<(18446744073709551616:Int);omega)
 rw [hw,hsh,hor]
 refine ⟨oH ht ⟨by omega,by rw [Jk];omega⟩,?_⟩
 rw [gZ (by omega),hv,oR k]
 generalize ((2:Int) ^ 64) ^ (k/8)=X
 generalize (2:Int) ^ (8*(k % 8))=Y
 generalize t.getD (k/8) 0=o
 grind -lia -linarith
theorem Jo {t:List Int} {V:Nat} (h:Dig (2 ^ 64) t) (hl:t.length=4) (hV:num (2 ^ 64) t=(V:Int)):Sc4 t V:=by
 match t,hl with
 |[a,b,c,d],_ =>
  rw [Jk] at h hV
  refine ⟨a,b,c,d,rfl,h a (by simp),h b (by simp),h c (by simp),h d (by simp),?_⟩
  have e:num 18446744073709551616 [a,b,c,d]=a+18446744073709551616*(b+18446744073709551616*(c+18446744073709551616*(d+18446744073709551616*0))):=rfl
  rw [e] at hV
  omega
theorem MM {p2:List Int} (hp:Dig 256 p2) (hl:p2.length=64):Sc4 (itr (iG p2) 32 [0,0,0,0]) (nN (p2.drop 32)):=by
 have hd:=nW hp 32
 have key:∀ k,k≤32→Dig (2 ^ 64) (itr (iG p2) k [0,0,0,0])∧(itr (iG p2) k [0,0,0,0]).length=4∧num (2 ^ 64) (itr (iG p2) k [0,0,0,0])=num 256 ((p2.drop 32).take k):=by
  intro k
  induction k with
  |zero=>intro _;rw [bB];exact ⟨by unfold Dig;decide,rfl,rfl⟩
  |succ k ih =>
   intro hk
   obtain ⟨h1,h2,h3⟩:=ih (by omega)
   rw [aq]
   generalize itr (iG p2) k [0,0,0,0]=t at *
   have hb:0≤(p2.drop 32).getD k 0∧(p2.drop 32).getD k 0<256:=bh (by decide) hd
   have eb:p2.getD (32+k) 0=(p2.drop 32).getD k 0:=by
    rw [List.getD_eq_getElem?_getD,List.getD_eq_getElem?_getD,List.getElem?_drop]
   have hbd:=jY (B:=256) (by decide) (kT hd k)
   rw [List.length_take,List.length_drop,hl,Nat.min_eq_left (by omega)] at hbd
   obtain ⟨g1,g2⟩:=Am (show k<32 by omega) h1 h2 h3 hbd.1 hbd.2 hb
   unfold iG
   rw [eb]
   refine ⟨g1,by rw [List.length_set,h2],?_⟩
   rw [g2,dd]
 obtain ⟨h1,h2,h3⟩:=key 32 (Nat.le_refl _)
 rw [List.take_of_length_le (by rw [List.length_drop];omega),nF hd] at h3
 exact Jo h1 h2 h3
theorem iK {S:Nat→Bool}:∀ (n:Nat) {k:Nat},k<aW S n→S k=false
 |0,k,h=>absurd h (by unfold aW;omega)
 |n+1,k,h=>by
  rw [aW] at h
  cases hb:Nat.blt (aW S n) n
  ·rw [hb,cond_false] at h
   have hn:aW S n=n:=by
    have:=qY S n
    have hh:¬ aW S n<n:=fun hlt=>by rw [ak hlt] at hb;cases hb
    omega
   cases hs:S n
   ·rw [hs,cond_false] at h
    by_cases e:k=n
    ·rw [e];exact hs
    ·exact iK n (by omega)
   ·rw [hs,cond_true] at h
    exact iK n (by omega)
  ·rw [hb,cond_true] at h
   exact iK n h
theorem ua {S:Nat→Bool}:∀ (n:Nat),aW S n<n→S (aW S n)=true
 |0,h=>absurd h (by omega)
 |n+1,h=>by
  cases hb:Nat.blt (aW S n) n
  ·cases hs:S n
   ·rw [aW,hb,cond_false,hs,cond_false] at h
    omega
   ·rw [aW,hb,cond_false,hs,cond_true]
    exact hs
  ·rw [aW,hb,cond_true]
   exact ua n (by rw [Nat.blt_eq] at hb;exact hb)
theorem qg {a b:List Int} {i m:Nat} (h:∀ j,i<j→j<m→a.getD j 0=b.getD j 0):∀ n,i+1+n≤m→num 256 (a.take (i+1+n))-num 256 (b.take (i+1+n))=num 256 (a.take (i+1))-num 256 (b.take (i+1)):=by
 intro n
 induction n with
 |zero=>intro _;rfl
 |succ n ih =>
  intro hn
  have h1:=ih (by omega)
  have h2:=h (i+1+n) (by omega) (by omega)
  rw [show i+1+(n+1)=(i+1+n)+1 by omega,dd,dd,h2]
  omega
theorem si {a b:List Int} (ha:Dig 256 a) (hb:Dig 256 b) {i:Nat} (hi:i<a.length) (hi':i<b.length) (h:a.getD i 0<b.getD i 0):num 256 (a.take (i+1))<num 256 (b.take (i+1)):=by
 rw [dd,dd]
 have h1:=jY (B:=256) (by decide) (kT ha i)
 have h2:=jY (B:=256) (by decide) (kT hb i)
 rw [List.length_take,Nat.min_eq_left (by omega)] at h1 h2
 have h3:(a.getD i 0+1)*256 ^ i≤b.getD i 0*256 ^ i:=Int.mul_le_mul_of_nonneg_right (by omega) (by omega)
 rw [Int.add_mul,Int.one_mul] at h3
 omega
theorem FJ {a b:List Int} (ha:Dig 256 a) (hb:Dig 256 b) (la:a.length=32) (lb:b.length=32):wa a b=decide (nN a<nN b):=by
 have na:=nF ha
 have nb:=nF hb
 have tl:∀ x:List Int,x.length=32→x.take 32=x:=fun x hx=>List.take_of_length_le (by omega)
 unfold wa
 cases hf:Nat.blt (aW (ck a b) 32) 32
 ·have hn:aW (ck a b) 32=32:=by
   have h1:=qY (ck a b) 32
   have hh:¬ aW (ck a b) 32<32:=fun hlt=>by rw [ak hlt] at hf;cases hf
   omega
  have hs:∀ k,k<32→ck a b k=false:=fun k hk=>iK 32 (by rw [hn];exact hk)
  have hall:∀ j,j<32→a.getD j 0=b.getD j 0:=by
   intro j hj
   have:=hs (31-j) (by omega)
   unfold ck at this
   rw [show 32-1-(31-j)=j by omega] at this
   cases hx:((a.getD j 0:Int) != b.getD j 0)
   ·simpa using hx
   ·rw [hx] at this;cases this
  have he:num 256 a=num 256 b:=by
   have h1:=qg (a:=a) (b:=b) (i:=0) (m:=32) (fun j _ hj=>hall j hj) 31 (by omega)
   rw [show 0+1+31=32 from rfl,tl a la,tl b lb,show (0:Nat)+1=0+1 from rfl,dd,dd,hall 0 (by decide)] at h1
   have e0:num 256 (a.take 0)=0:=rfl
   have e1:num 256 (b.take 0)=0:=rfl
   rw [e0,e1] at h1
   omega
  rw [aA,decide_eq_false]
  omega
 ·rw [aD]
  have hlt:aW (ck a b) 32<32:=by
   rw [Nat.blt_eq] at hf;exact hf
  have hsame:∀ j,31-aW (ck a b) 32<j→j<32→a.getD j 0=b.getD j 0:=by
   intro j h1 h2
   have:=iK (S:=ck a b) 32 (k:=31-j) (by omega)
   unfold ck at this
   rw [show 32-1-(31-j)=j by omega] at this
   cases hx:((a.getD j 0:Int) != b.getD j 0)
   ·simpa using hx
   ·rw [hx] at this;cases this
  have hdiff:a.getD (31-aW (ck a b) 32) 0≠b.getD (31-aW (ck a b) 32) 0:=by
   have hh:=ua (S:=ck a b) 32 hlt
   have h31:ck a b (aW (ck a b) 32)=sel (a.getD (32-1-aW (ck a b) 32) 0 != b.getD (32-1-aW (ck a b) 32) 0) true false:=rfl
   rw [h31,show 32-1-aW (ck a b) 32=31-aW (ck a b) 32 by omega] at hh
   intro e
   rw [e] at hh
   rw [show (b.getD (31-aW (ck a b) 32) 0 != b.getD (31-aW (ck a b) 32) 0)=false by simp,aA] at hh
   cases hh
  rw [show 32-1-aW (ck a b) 32=31-aW (ck a b) 32 by omega]
  generalize 31-aW (ck a b) 32=i at *
  have hi:i<32:=by
   by_cases h:i<32
   ·exact h
   ·exfalso
    apply hdiff
    rw [List.getD_eq_getElem?_getD,List.getD_eq_getElem?_getD,List.getElem?_eq_none (by omega),List.getElem?_eq_none (by omega)]
  have hup:=qg (a:=a) (b:=b) (i:=i) (m:=32) hsame (31-i) (by omega)
  rw [show i+1+(31-i)=32 by omega,tl a la,tl b lb] at hup
  by_cases hc:a.getD i 0<b.getD i 0
  ·have:=si ha hb (i:=i) (by omega) (by omega) hc
   rw [decide_eq_true hc,decide_eq_true]
   omega
  ·have:=si hb ha (i:=i) (by omega) (by omega) (by omega)
   rw [decide_eq_false hc,decide_eq_false]
   omega
theorem DB {X Y Z T X' T':List Int} (hx:X.length=5) (hy:Y.length=5) (hz:Z.length=5) (ht:T.length=5) (hx':X'.length=5) (ht':T'.length=5) :
  aZ (aZ (X++(Y++(Z++T))) 0 X') 15 T'=X'++(Y++(Z++T')):=by
 obtain ⟨a,b,c,d,e,rfl⟩:=mZ hx
 obtain ⟨a',b',c',d',e',rfl⟩:=mZ hy
 obtain ⟨a2,b2,c2,d2,e2,rfl⟩:=mZ hz
 obtain ⟨a3,b3,c3,d3,e3,rfl⟩:=mZ ht
 obtain ⟨a4,b4,c4,d4,e4,rfl⟩:=mZ hx'
 obtain ⟨a5,b5,c5,d5,e5,rfl⟩:=mZ ht'
 rfl
theorem wn (a z:Tabn.F):0-a*z = -a*z:=by grind -lia -linarith
theorem BW (a b z:Tabn.F):0-a*b*z = -a*b*z:=by grind -lia -linarith
theorem KG {p:Pt CT} {s:List Int} (h:PE p s):PE p.neg (aZ (aZ s 0 (F18 (F30 0) ((s.drop 0).take 5))) 15 (F18 (F30 0) ((s.drop 15).take 5))):=by
 obtain ⟨X,Y,Z,T,fx,fy,fz,ft,rfl,hX,hY,hZ,hT,hE⟩:=h
 obtain ⟨c1,c2,c3,c4⟩:=zm hX.len hY.len hZ.len hT.len
 rw [c1,c4]
 have n1:=kx lA hX
 have n2:=kx lA hT
 rw [DB hX.len hY.len hZ.len hT.len n1.len n2.len]
 refine ⟨_,_,_,_,_,_,_,_,rfl,n1,hY,hZ,n2,⟨hE.z0,?_,hE.y,?_⟩⟩
 ·rw [hE.x];exact wn _ _
 ·rw [hE.t];exact BW _ _ _
theorem LI {p:Pt CT} {s:List Int} (h:PR p s):PR p.neg (aZ s 0 (cY (bC 0) ((s.drop 0).take 16))):=by
 obtain ⟨X,Y,Z,fx,fy,fz,rfl,hX,hY,hZ,hE⟩:=h
 obtain ⟨c1,c2,c3⟩:=zX hX.len hY.len hZ.len
 rw [c1]
 have n1:RF (cY (bC 0) X) (0-fx):=rJ nn hX
 have e:aZ (X++(Y++Z)) 0 (cY (bC 0) X)=cY (bC 0) X++(Y++Z):=by
  unfold aZ
  rw [List.take_zero,List.nil_append,n1.len,Nat.zero_add,← hX.len,List.drop_left]
 rw [e]
 refine ⟨_,_,_,_,_,_,rfl,n1,hY,hZ,⟨hE.z0,?_,hE.y⟩⟩
 rw [hE.x];exact wn _ _
def Aa (A:Pt CT) (pub msg sig:List Int):Pt CT:=(Pt.mul (nN (sig.drop 32)) BT).add (Pt.mul (hN (sig.take 32++pub++msg)) A.neg)
theorem Kc {p0 p1 p2:List Int} {A:Pt CT} (h1:Dig 256 p1) (h2:Dig 256 p2) (hA:p0=jM A) (hl:p2.length=64) (hl1:p1.length≤10000) :
  rm p0 p1 p2=(decide (nN (p2.drop 32)<L) && decide (jM (Aa A p0 p1 p2)=p2.take 32)):=by
 have h0:Dig 256 p0:=by rw [hA];exact kQ A
 have e64:((((p2.length:Nat):Int):Int) != 64)=false:=by rw [hl];rfl
 have hs:=MM h2 hl
 unfold rm
 rw [e64,aA,AF hs Sc4.order]
 rcases xv h0 with ⟨r1,p,r2,r3⟩|⟨_,hno⟩
 ·have hp:p=A:=lY (r2.symm.trans hA)
  subst hp
  rw [r1,Bool.not_true,aA]
  by_cases hc:nN (p2.drop 32)<L
  ·have d0:p2.drop 0=p2:=List.drop_zero
   rw [decide_eq_true hc,Bool.not_true,aA,Bool.true_and,Ii,yy hs,bJ (bF _ _ _),d0]
   have dx:Dig 256 (p2.take 32++p0++p1):=zZ (zZ (kT h2 32) h0) h1
   have lx:(p2.take 32++p0++p1).length≤100000000:=by
    rw [List.length_append,List.length_append,List.length_take,hl,hA,jN];omega
   have hk:=En dx lx
   rw [yy hk,bJ (bF _ _ _)]
   have t1:=zf Fq (Bp _) (oN hc)
   have t2:=zf (KG r3) (Bp _) (oN (Hg (p2.take 32++p0++p1)))
   have t3:=Dy t1 t2 (lX lV lV)
   rw [FV t3,List.drop_zero,List.take_of_length_le (by rw [jN];exact Nat.le_refl _),jg (kQ _) (kT h2 32)]
   rfl
  ·rw [decide_eq_false hc];rfl
 ·exact absurd hA (hno A)
theorem KP {p0 p1 p2:List Int} {A:Pt CT} (h1:Dig 256 p1) (h2:Dig 256 p2) (hA:p0=jM A) (hl:p2.length=64) :
  nc p0 p1 p2=(decide (nN (p2.drop 32)<L) && decide (jM (Aa A p0 p1 p2)=p2.take 32)):=by
 have h0:Dig 256 p0:=by rw [hA];exact kQ A
 have e64:((((p2.length:Nat):Int):Int) != 64)=false:=by rw [hl];rfl
 have hd:(p2.drop 32).take (p2.length-32)=p2.drop 32:=List.take_of_length_le (by rw [List.length_drop];omega)
 have ld:(p2.drop 32).length=32:=by rw [List.length_drop];omega
 have hL:nN og=L:=by
  have:=nF qj
  rw [wg] at this
  exact (Int.ofNat.inj this).symm
 unfold nc
 rw [e64,aA,hd]
 have e41:wa (p2.drop 32) (aH [237,211,245,92,26,99,18,88,214,156,247,162,222,249,222,20,0,0,0,0,0,0,0,0,0,0,0,0,0,0,0,16] 32 0 32)=decide (nN (p2.drop 32)<L):=by
  rw [bJ (n:=32) rfl]
  have:=FJ (nW h2 32) qj ld wG
  rw [hL] at this
  exact this
 rw [e41]
 rcases xp h0 with ⟨r1,p,r2,r3⟩|⟨_,hno⟩
 ·have hp:p=A:=lY (r2.symm.trans hA)
  subst hp
  rw [r1,Bool.not_true,aA]
  by_cases hc:nN (p2.drop 32)<L
  ·have d0:p2.drop 0=p2:=List.drop_zero
   rw [decide_eq_true hc,Bool.not_true,aA,Bool.true_and,IS,bJ (bF _ _ _),d0]
   have t1:=zH Gz (nW h2 32) (nF (nW h2 32))
   have t2:=zH (LI r3) (Bp _) (oN (Hg (p2.take 32++p0++p1)))
   have t3:=DU t1 t2
   rw [FR t3,List.drop_zero,List.take_of_length_le (by rw [jN];exact Nat.le_refl _),jg (kQ _) (kT h2 32)]
   rfl
  ·rw [decide_eq_false hc];rfl
 ·exact absurd hA (hno A)
theorem LK {p0 p1 p2:List Int} (h0:Dig 256 p0) (h:p2.length≠64∨∀ A,p0≠jM A):rm p0 p1 p2=false:=by
 unfold rm
 rcases h with h|h
 ·have e64:((((p2.length:Nat):Int):Int) != 64)=true:=by simp;omega
  rw [e64];rfl
 ·rcases xv h0 with ⟨_,p,r2,_⟩|⟨r1,_⟩
  ·exact absurd r2 (h p)
  ·rw [r1]
   cases ((((p2.length:Nat):Int):Int) != 64) <;> rfl
theorem Jn {p0 p1 p2:List Int} (h0:Dig 256 p0) (h:p2.length≠64∨∀ A,p0≠jM A):nc p0 p1 p2=false:=by
 unfold nc
 rcases h with h|h
 ·have e64:((((p2.length:Nat):Int):Int) != 64)=true:=by simp;omega
  rw [e64]
  cases (!(gQ p0)) <;> rfl
 ·rcases xp h0 with ⟨_,p,r2,_⟩|⟨r1,_⟩
  ·exact absurd r2 (h p)
  ·rw [r1];rfl
theorem Dr {p0 p1 p2:List Int} (h0:Dig 256 p0) (h1:Dig 256 p1) (h2:Dig 256 p2) (hl1:p1.length≤10000):rm p0 p1 p2=nc p0 p1 p2:=by
 by_cases hl:p2.length=64
 ·by_cases hA:∃ A,p0=jM A
  ·obtain ⟨A,hA⟩:=hA
   rw [Kc h1 h2 hA hl hl1,KP h1 h2 hA hl]
  ·have h:∀ A,p0≠jM A:=fun A e=>hA ⟨A,e⟩
   rw [LK h0 (.inr h),Jn h0 (.inr h)]
 ·rw [LK h0 (.inl hl),Jn h0 (.inl hl)]
end Go.Vm
namespace Tabn
theorem Pt.mul_add {C:Crv} (k:Nat) (p q:Pt C):Pt.mul k (p.add q)=(Pt.mul k p).add (Pt.mul k q):=by
 induction k with
 |zero =>
  show Pt.zero C=(Pt.zero C).add (Pt.zero C)
  rw [Pt.zero_add]
 |succ k ih =>
  show (Pt.mul k (p.add q)).add (p.add q)=((Pt.mul k p).add p).add ((Pt.mul k q).add q)
  rw [ih,Pt.add_assoc,Pt.add_assoc,← Pt.add_assoc (Pt.mul k q) p q,Pt.add_comm (Pt.mul k q) p,Pt.add_assoc p]
end Tabn
namespace Go.Vm
open Go Tabn
end Go.Vm
namespace Go.Vm
open Go Tabn
def gp (u B G:ByteArray) (f:Int):List Int:=50 :: tx u (tx el (tx sPk (f :: tx sEd (tx B (tx G [])))))
theorem mE (u B G:ByteArray) (f:Int):(gp u B G f).length=u.size+B.size+G.size+60:=by
 unfold gp
 simp only [List.length_cons,ol,List.length_nil]
 have e1:el.size=14:=rfl
 have e2:sPk.size=9:=rfl
 have e3:sEd.size=11:=rfl
 omega
theorem uj (u B G:ByteArray) {f:Int} (hf:0≤f∧f<256):Dg (gp u B G f):=lg (by decide) (gu (gu (gu (lg hf (gu (gu (gu od)))))))
theorem Fb (v:Int) (X:List Int):nxO (some (v :: X)) 1=some X:=rfl
theorem GK {u B G:ByteArray} {f:Int} (hl:(gp u B G f).length≤6000):textV (rq1 (gp u B G f))=aR u∧textV (rq2 (gp u B G f))=aR el∧textV (rq3 (gp u B G f))=aR sPk∧rq4 (gp u B G f)=some (f :: tx sEd (tx B (tx G []))):=by
 rw [mE] at hl
 have h1:=jp u (tx el (tx sPk (f :: tx sEd (tx B (tx G []))))) (by omega)
 have h2:=jp el (tx sPk (f :: tx sEd (tx B (tx G [])))) (by decide)
 have h3:=jp sPk (f :: tx sEd (tx B (tx G []))) (by decide)
 have e1:rq1 (gp u B G f)=some (tx u (tx el (tx sPk (f :: tx sEd (tx B (tx G [])))))):=rfl
 have e2:rq2 (gp u B G f)=some (tx el (tx sPk (f :: tx sEd (tx B (tx G []))))):=by unfold rq2;rw [e1,h1.2]
 have e3:rq3 (gp u B G f)=some (tx sPk (f :: tx sEd (tx B (tx G [])))):=by unfold rq3;rw [e2,h2.2]
 exact ⟨by rw [e1,h1.1],by rw [e2,h2.1],by rw [e3,h3.1],by unfold rq4;rw [e3,h3.2]⟩
def xn (s:List Int) (u B G K:ByteArray):Bool :=
 sel (!(aC (aJ B 32) ik)) (sel (aC (aJ B 32) K) (sel (!(aC (aJ G 64) ik)) (nc (aR (aJ B 32)) (kg s u B) (aR (aJ G 64))) false) false) false
theorem CW:aC sPk sNo=false:=by kernel_rfl
theorem Bk:aC sPk sPw=false:=by kernel_rfl
theorem HB (t:ByteArray):Dg (dK t):=by unfold dK;exact gn _
theorem CN (t:ByteArray):(dK t).length=(bH t).size:=by unfold dK;exact ap _
theorem EP {u B G:ByteArray} {f:Int} (hf:0<f∧f<256) (hl:(gp u B G f).length≤6000) {s:List Int} {n:Nat} (hs:s.length=n) (hn:n≤1000) :
  fw (gp u B G f)=true∧dY (gp u B G f)=ik∧fD n s (gp u B G f)=xn s u B G (cP u):=by
 have hd:=uj u B G (f:=f) ⟨by omega,hf.2⟩
 obtain ⟨r1,r2,r3,r4⟩:=GK hl
 obtain ⟨v1,v2,v3,v4,v5,v6,v7⟩:=xl hd (show (gp u B G f).length≤1000000000 by omega)
 have ho:gJ (rq4 (gp u B G f)):=(CU hd (by omega)).2.2.2
 obtain ⟨w1,w2,w3,w4,w5,w6,w7⟩:=HU ho
 have hq:=mE u B G f
 have t1:=jp sEd (tx B (tx G [])) (by decide)
 have t2:=jp B (tx G []) (by omega)
 have t3:=jp G [] (by omega)
 have n1:nxO (rq4 (gp u B G f)) 1=some (tx sEd (tx B (tx G []))):=by rw [r4];rfl
 have f0:fh (rq4 (gp u B G f))=f:=by rw [r4];rfl
 have fne:(f != 0)=true:=by simp only [bne_iff_ne,ne_eq];omega
 rw [n1,t1.1,cJ] at w2
 rw [n1,t1.2,t2.1,cJ] at w4
 rw [n1,t1.2,t2.2,t3.1,cJ] at w5
 rw [n1,t1.2,t2.2,t3.2] at w7
 rw [f0,fne] at w1
 have hb:=wk B (by omega)
 obtain ⟨g1,g2⟩:=EB G (by omega)
 refine ⟨?_,?_,?_⟩
 ·unfold fw dV
  rw [v5,v6,v7,r3,cJ,w1,w7,CW,Bk,bN]
  simp only [aD,aA,Bool.not_true,beq_self_eq_true]
 ·unfold dY dW
  rw [v2,v5,v6,v7,r1,r3,cJ,cJ,w1,w2,w4,CW,Bk,bN,bN]
  simp only [aD,aA,Bool.not_true]
  cases (!aC (bg B) ⟨#[]⟩) <;> simp only [aD,aA]
 ·unfold fD gU xn
  rw [v2,v5,v6,v7,r1,r3,cJ,cJ,w1,w2,w4,w5,CW,Bk,bN,bN,hb,g1]
  simp only [aD,aA,Bool.not_true]
  cases hE:aC (aJ B 32) ⟨#[]⟩
  case true=>simp only [Bool.not_true,aA]
  simp only [Bool.not_false,aD]
  cases hG:aC (aJ G 64) ⟨#[]⟩
  case true=>simp only [aD,Bool.not_true,aA];cases aC (aJ B 32) (cP u) <;> simp only [aD,aA]
  simp only [aA,Bool.not_false,aD]
  cases aC (aJ B 32) (cP u)
  case false=>simp only [aA]
  simp only [aD]
  have gG:=g2 (by rw [g1];exact hG)
  have eG:dK G=aR (aJ G 64):=by rw [← gG,iH (HB G)]
  unfold tp
  rw [w4,w5,hb,bJ (ap _),bJ hs,bJ (rA _ _ _),bJ (CN G),BA _ _ _ (by omega) (by omega) (by omega),eG]
  exact Dr (gn _) (Aq _ _ _) (gn _) (by rw [yL];omega)
end Go.Vm
namespace Go.Vm
open Go Tabn
theorem jJ {p:List Int} {k:Int} {b:Bool} {s:ByteArray} {R:List Int} (hd:Dg p) (h:iq p k) (hs:cst p k b=some (tx s R)) (hz:s.size≤16384) :
  aE p k b=s∧cst p (ab p k b) (aS p k b)=some R∧iq p (ab p k b):=by
 have t:=qc b hd h
 have q:=jp s R hz
 rw [hs,q.1,q.2,cJ] at t
 exact ⟨t.1,t.2,⟨h.1,nt b h⟩⟩
theorem tS {p:List Int} {k:Int} {b:Bool} {v:Int} {R:List Int} (hd:Dg p) (h:iq p k) (hs:cst p k b=some (v :: R)) :
  eY p k b=v∧cst p (aL p k b) (aM p k b)=some R∧iq p (aL p k b):=by
 have t:=Bj b hd h
 rw [hs,Fb] at t
 exact ⟨t.1,t.2,⟨h.1,vL b h⟩⟩
theorem wK {p X:List Int} {k:Int} {b:Bool} (h:cst p k b=some X):b=false∧p.drop k.toNat=X:=by
 unfold cst at h
 cases b
 ·exact ⟨rfl,Option.some.inj h⟩
 ·cases h
def tH (u B:ByteArray) (f:Int):List Int:=50 :: tx u (tx el (tx sPk (f :: tx sEd (tx B []))))
theorem sA (u B G:ByteArray) (f:Int):gp u B G f=tH u B f++tx G []:=by
 unfold gp tH
 simp only [List.cons_append,mz,List.nil_append]
theorem DQ {u B G:ByteArray} {f:Int} (hf:0<f∧f<256) (hl:(gp u B G f).length≤6000) {p:List Int} (hp:p=gp u B G f) {k1 k2 k3 k4 k5 k6 k7 k8:Int} {b1 b2 b3 b4 b5 b6 b7 b8:Bool}
  (e1:k1=aL p 0 false) (d1:b1=aM p 0 false) (e2:k2=ab p k1 b1) (d2:b2=aS p k1 b1) (e3:k3=ab p k2 b2) (d3:b3=aS p k2 b2) (e4:k4=ab p k3 b3) (d4:b4=aS p k3 b3)
  (e5:k5=aL p k4 b4) (d5:b5=aM p k4 b4) (e6:k6=ab p k5 b5) (d6:b6=aS p k5 b5) (e7:k7=ab p k6 b6) (d7:b7=aS p k6 b6) (e8:k8=ab p k7 b7) (d8:b8=aS p k7 b7) :
  eY p 0 false=50∧aE p k1 b1=u∧aE p k2 b2=el∧aE p k3 b3=sPk∧eY p k4 b4=f∧aE p k5 b5=sEd∧aE p k6 b6=B∧aE p k7 b7=G∧b8=false∧kA p k8 b8=true∧(p.drop 0).take (k7.toNat-0)=tH u B f:=by
 have hd:Dg p:=by rw [hp];exact uj u B G ⟨by omega,hf.2⟩
 have hq:=mE u B G f
 have hpl:p.length≤6000:=by rw [hp];exact hl
 have c0:iq p 0:=⟨by omega,by decide,by omega⟩
 obtain ⟨s1,z1,c1⟩:=tS hd c0 (show cst p 0 false=some (50 :: tx u (tx el (tx sPk (f :: tx sEd (tx B (tx G [])))))) by rw [hp];rfl)
 rw [← e1,← d1] at z1
 rw [← e1] at c1
 obtain ⟨s2,z2,c2⟩:=jJ hd c1 z1 (by omega)
 rw [← e2,← d2] at z2
 rw [← e2] at c2
 obtain ⟨s3,z3,c3⟩:=jJ hd c2 z2 (by decide)
 rw [← e3,← d3] at z3
 rw [← e3] at c3
 obtain ⟨s4,z4,c4⟩:=jJ hd c3 z3 (by decide)
 rw [← e4,← d4] at z4
 rw [← e4] at c4
 obtain ⟨s5,z5,c5⟩:=tS hd c4 z4
 rw [← e5,← d5] at z5
 rw [← e5] at c5
 obtain ⟨s6,z6,c6⟩:=jJ hd c5 z5 (by decide)
 rw [← e6,← d6] at z6
 rw [← e6] at c6
 obtain ⟨s7,z7,c7⟩:=jJ hd c6 z6 (by omega)
 rw [← e7,← d7] at z7
 rw [← e7] at c7
 obtain ⟨s8,z8,c8⟩:=jJ hd c7 z7 (by omega)
 rw [← e8,← d8] at z8
 rw [← e8] at c8
 obtain ⟨f8,_⟩:=wK z8
 obtain ⟨_,g7⟩:=wK z7
 refine ⟨s1,s2,s3,s4,s5,s6,s7,s8,f8,?_,?_⟩
 ·rw [zb b8 c8,z8];rfl
 ·rw [List.drop_zero,Nat.sub_zero]
  have h:=List.take_append_drop k7.toNat p
  rw [g7,hp,sA] at h
  rw [hp,sA]
  exact List.append_cancel_right h
theorem GJ (X:List Int) (f:Int) (R:List Int):(X++f :: R).set X.length 1=X++1 :: R:=by
 induction X with
 |nil=>rfl
 |cons a X ih=>show a :: (X++f :: R).set X.length 1=_;rw [ih];rfl
theorem xw {P:List Int} {k:Int} {s:ByteArray} {R:List Int} (hd:Dg P) (hl:P.length≤6000) (h0:0≤k) (hk:k≤(P.length:Int)) (h:P.drop k.toNat=tx s R) :
  az k P=k+4+s.size∧k+4+s.size≤(P.length:Int)∧P.drop (k+4+s.size).toNat=R:=by
 have hlen:(P.drop k.toNat).length=4+s.size+R.length:=by rw [h,ol]
 rw [List.length_drop] at hlen
 have c:iq P k:=⟨by omega,h0,hk⟩
 have e1:=sQ (m:=P.length) c (by omega) (by omega) (by omega)
 rw [List.take_length] at e1
 have e2:=(zx false hd c).1
 have e3:cst P k false=some (be4 (aR s).length++(aR s++R)):=by show some (P.drop k.toNat)=_;rw [h];unfold tx;rw [List.append_assoc]
 rw [e3,(vN (aR s).length (by rw [ap];omega) (aR s++R)).1,ap] at e2
 have e4:db k P=(s.size:Int):=by rw [e1,e2]
 have ho:oOk P k:=⟨by omega,h0,by rw [e4];omega,by rw [e4];omega,by rw [e4];omega⟩
 refine ⟨by rw [qU ho,e4],by omega,?_⟩
 rw [show (k+4+(s.size:Int)).toNat=k.toNat+(4+s.size) by omega,← List.drop_drop,h]
 unfold tx
 rw [List.drop_left' (by rw [List.length_append,ap];rfl)]
theorem yM {p0:List Int} {u:ByteArray} {f:Int} {R:List Int} (hs:p0.length≤1000) (hd:Dg (50 :: tx u (tx el (tx sPk (f :: R))))) (hl:(50 :: tx u (tx el (tx sPk (f :: R)))).length≤6000) :
  gf p0 (50 :: tx u (tx el (tx sPk (f :: R))))=tx (bytesOf p0) (50 :: tx u (tx el (tx sPk (1 :: R)))):=by
 have hz:=cF p0
 have hx:(50 :: tx u (tx el (tx sPk (f :: R))))=(50 :: tx u (tx el (tx sPk [])))++f :: R:=by simp only [List.cons_append,mz,List.nil_append]
 have hX:(50 :: tx u (tx el (tx sPk []))).length=u.size+36:=by
  simp only [List.length_cons,ol,List.length_nil]
  have e1:el.size=14:=rfl
  have e2:sPk.size=9:=rfl
  omega
 have hy:(50 :: tx u (tx el (tx sPk (1 :: R))))=(50 :: tx u (tx el (tx sPk [])))++1 :: R:=by simp only [List.cons_append,mz,List.nil_append]
 generalize hP:(50 :: tx u (tx el (tx sPk (f :: R))))=P at *
 have hlP:P.length=u.size+36+(R.length+1):=by rw [hx,List.length_append,hX];rfl
 have a1:cB 0=1:=by
  unfold cB
  exact (hO (p1:=0) (p3:=1) ⟨by decide,by decide⟩ (by decide)).1
 have q1:P.drop (1:Int).toNat=tx u (tx el (tx sPk (f :: R))):=by rw [← hP];rfl
 obtain ⟨x2,y2,z2⟩:=xw hd hl (by decide) (by omega) q1
 obtain ⟨x3,y3,z3⟩:=xw hd hl (by omega) y2 z2
 obtain ⟨x4,y4,z4⟩:=xw hd hl (by omega) y3 z3
 have e1:el.size=14:=rfl
 have e2:sPk.size=9:=rfl
 have hi:(az (az (az (cB 0) P) P) P).toNat=(50 :: tx u (tx el (tx sPk []))).length:=by
  rw [a1,x2,x3,x4,hX]
  omega
 unfold gf
 rw [Ck _ (by omega),bJ (by rw [List.length_set]),hi,hx,GJ,← hy,mz]
 rfl
theorem Ac {p0:List Int} {u B:ByteArray} {f:Int} (hf:0<f∧f<256) (hs:p0.length≤1000) (hl:(tH u B f).length≤6000):gf p0 (tH u B f)=kg p0 u B :=
 yM hs (lg (by decide) (gu (gu (gu (lg ⟨by omega,hf.2⟩ (gu (gu od))))))) hl
theorem FI {X:List Int} (hd:Dg (50 :: X)):aC (bytesOf (50 :: X)) (bytesOf ((([5]++(aH (kW kn) (4+kn.size) 0 (4+kn.size))).drop 0).take (1+(4+kn.size))))=false:=by
 have e:(([5]++(aH (kW kn) (4+kn.size) 0 (4+kn.size))).drop 0).take (1+(4+kn.size))=5 :: tx kn []:=by
  rw [Cl _ (by decide),List.drop_zero]
  show (5 :: tx kn []).take _=_
  rw [List.take_of_length_le (by rw [List.length_cons,ol];decide)]
 rw [e]
 cases h:aC (bytesOf (50 :: X)) (bytesOf (5 :: tx kn []))
 ·rfl
 ·have:=sh hd (lg (by decide) (gu od)) (ew h)
  injection this with h1 _
  exact absurd h1 (by decide)
end Go.Vm
end
