/- A part of a proof (pack3): the small machine that walks the program, the walks of its functions, and what they compute in plain. -/
import Derived.Test.YtfkmfdjdppjijaaQwa
import Derived.Below
import Derived.OpenShut
import Derived.DataShut
import Derived.ChangeSlices
import Derived.SliceStrings
import Derived.LaidMore
import Derived.Lib.Bytealg
import Derived.Lib.Join
import Derived.Laws.RangeAny
import Derived.LoopN
import Derived.Test.YtfkmfdjdppjijaaChecked
set_option maxRecDepth 4000
set_option linter.unusedVariables false
set_option linter.unusedSimpArgs false
noncomputable section
namespace Go.Vm
open Go
def Sc.plain:Sc→Bool
 |.p _ _|.sl _ _ _ _ _|.b _|.i _ _|.s _|.nilp|.nils=>true
 |_=>false
def A1.plain:A1→Bool
 |.sc s=>s.plain
 |.agg l=>l.all Sc.plain
 |.ints _ _ _=>true
 |.arr .str _=>true
 |.arr _ _=>false
def AV.plain:AV→Bool
 |.sc s=>s.plain
 |.agg l=>l.all Sc.plain
 |.ints _ _ _=>true
 |.arr .str _=>true
 |.arr _ _=>false
 |.tup l=>l.all A1.plain
def Blk.plain:Blk→Bool
 |.ints _ _ _=>true
 |.cells l=>l.all Sc.plain
 |.vec .str _=>true
 |.vec _ _=>false
def OBlk.plain:Option Blk→Bool
 |none=>true
 |some k=>k.plain
def Ret.plain (r:Ret):Bool:=r.v.plain && r.bs.all OBlk.plain
def Sc.own0:Sc→Bool
 |.b _|.i _ _|.s _|.nilp|.nils=>true
 |_=>false
inductive Pass where
 |val
 |ro (k:IntKind)
 |rob
 |ros
 |io
theorem gb {xs:List Int} {n:Nat} (h:xs.length=n):dY xs n 0 n=xs:=by
 rw [fF h,List.drop_zero,List.take_of_length_le (by omega)]
def gp {α:Type} (xs:List α) (off len:Nat):List α:=bif Nat.beq off 0 then xs.take len else (xs.drop off).take len
theorem gC {α:Type} (xs:List α) (off len:Nat):gp xs off len=(xs.drop off).take len:=by
 unfold gp
 cases hb:Nat.beq off 0
 ·rfl
 ·have h:=Nat.eq_of_beq_eq_true hb
  subst h
  rfl
def gw (b:Nat):List Nat→List Blk→Option Blk
 |m :: ms,k :: ks=>bif Nat.beq m b then some k else gw b ms ks
 |_,_=>none
def pi (k:IntKind) (ms:List Nat) (ks:List Blk):Sc→Option (Prop × List Int)
 |.ro k' xs=>if k'=k then some (True,xs) else none
 |.nils=>some (True,[])
 |.sl b off len 1 _=>match gw b ms ks with
  |some (.ints k' n xs)=>if k'=k then some (off+len≤n,dY xs n off len) else none
  |some (.cells [])=>some (len=0,[])
  |_=>none
 |_=>none
def ik (ms:List Nat) (ks:List Blk):List Sc→Option (Prop × List (List Int))
 |[]=>some (True,[])
 |s :: r=>match pi .u8 ms ks s,ik ms ks r with
  |some (C,xs),some (C',xss)=>some (C∧C',xs :: xss)
  |_,_=>none
def bK (ns:Ren) (ms:List Nat) (ks:List Blk):List Pass→List AV→Option (Prop × List AV)
 |[],[]=>some (True,[])
 |.ro k :: ps,.sc s :: r=>match pi k ms ks s,bK ns ms ks ps r with
  |some (C,xs),some (C',vs)=>some (C∧C',.sc (.ro k xs) :: vs)
  |_,_=>none
 |.rob :: ps,.sc (.rob xs) :: r=>(match bK ns ms ks ps r with
  |some (C,vs)=>some (C,.sc (.rob xs) :: vs)
  |none=>none)
 |.rob :: ps,.sc (.sl b off len es _) :: r=>match gw b ms ks with
  |some (.cells l)=>(match ik ms ks ((l.drop off).take len),bK ns ms ks ps r with
   |some (C0,xss),some (C,vs)=>bif Nat.beq es 1 then some ((off+len≤l.length∧C0)∧C,.sc (.rob xss) :: vs) else none
   |_,_=>none)
  |some (.vec .row xs)=>(match bK ns ms ks ps r with
   |some (C,vs)=>bif Nat.beq es 1 then some ((off+len≤xs.length)∧C,.sc (.rob (gp xs off len)) :: vs) else none
   |_=>none)
  |_=>none
 |.rob :: ps,.sc .nils :: r=>(match bK ns ms ks ps r with
  |some (C,vs)=>some (C,.sc (.rob []) :: vs)
  |none=>none)
 |.ros :: ps,.sc (.ros xs) :: r=>(match bK ns ms ks ps r with
  |some (C,vs)=>some (C,.sc (.ros xs) :: vs)
  |none=>none)
 |.ros :: ps,.sc .nils :: r=>(match bK ns ms ks ps r with
  |some (C,vs)=>some (C,.sc (.ros []) :: vs)
  |none=>none)
 |.ros :: ps,.sc (.sl b off len es _) :: r=>match gw b ms ks with
  |some (.vec .str xs)=>(match bK ns ms ks ps r with
   |some (C,vs)=>bif Nat.beq es 1 then some ((off+len≤xs.length)∧C,.sc (.ros (gp xs off len)) :: vs) else none
   |_=>none)
  |some (.cells l)=>(match VK.unL .str ((l.drop off).take len),bK ns ms ks ps r with
   |some xs,some (C,vs)=>bif Nat.beq es 1 then some ((off+len≤l.length)∧C,.sc (.ros xs) :: vs) else none
   |_,_=>none)
  |_=>none
 |.val :: ps,.sc s :: r=>(match s.own0,bK ns ms ks ps r with
  |true,some (C,vs)=>some (C,.sc s :: vs)
  |_,_=>none)
 |.val :: ps,.ints k n xs :: r=>(match bK ns ms ks ps r with
  |some (C,vs)=>some (C,.ints k n xs :: vs)
  |none=>none)
 |.io :: ps,v :: r=>(match v.ren ns,bK ns ms ks ps r with
  |some v',some (C,vs)=>some (C,v' :: vs)
  |_,_=>none)
 |_,_=>none
def jS (ns:Ren):List Blk→Option (List Blk)
 |[]=>some []
 |k :: r=>match k.ren ns,jS ns r with
  |some k',some r'=>some (k' :: r')
  |_,_=>none
def upB (up:Ren):List (Option Blk)→Option (List (Option Blk))
 |[]=>some []
 |none :: r=>(match upB up r with
  |some r'=>some (none :: r')
  |none=>none)
 |some k :: r=>match k.ren up,upB up r with
  |some k',some r'=>some (some k' :: r')
  |_,_=>none
def dl (fs:List Nat):Ren:=fs.zip (List.range fs.length)
def upN (fs:List Nat) (nm nb:Nat):Ren:=(List.range (fs.length+nb)).zip (fs++(List.range nb).map (nm+·))
def big:Nat:=1000000000000
def is (ps:List Pass) (ms fs:List Nat) (nb:Nat) (spec:List AV→List Blk→Option (Prop × Ret)) (args:List AV) (nm:Nat):Option Deed :=
 bif cm (dl fs) big && cm (upN fs nm nb) big && ms.all (fun b=>!fs.any (Nat.beq b)) then
  some { rd:=ms++fs,wr:=fs++(List.range nb).map (nm+·),go:=fun ks =>
   match bK (dl fs) ms (ks.take ms.length) ps args,jS (dl fs) (ks.drop ms.length) with
   |some (C,vs),some ks'=>(match spec vs ks' with
    |some (C',r)=>(match r.v.ren (upN fs nm nb),upB (upN fs nm nb) r.bs with
     |some v,some bs=>bif Nat.beq r.bs.length (fs.length+nb) && (ms.isEmpty || r.plain) then some (C∧C',v,bs) else none
     |_,_=>none)
    |none=>none)
   |_,_=>none }
 else none
section
variable {E E0 E':Env} {σ σ':Sig} {nm nb:Nat}
theorem jD (ho:∀ g,E0.old g→E'.old g) (hw:E'.w0=E0.w0) {k:IntKind} {xs:List Int} {V:Value} (h:RoR E0 k xs V):RoR E' k xs V:=by
 obtain ⟨A,c,q1,q2,q3⟩:=h
 refine ⟨A,c,q1,q2,fun hpos=>?_⟩
 obtain ⟨ad,r1,r2,r3⟩:=q3 hpos
 exact ⟨ad,r1,ho _ r2,fun j hj=>by rw [hw];exact r3 j hj⟩
theorem Sc.env {pl:Bool} (ho:pl=false→∀ g,E0.old g→E'.old g) (hw:E'.w0=E0.w0):∀ {s:Sc} {V:Value},(pl=true→s.plain=true)→ScR E0 σ s V→ScR E' σ s V:=by
 intro s V hp h
 cases pl with
 |true =>
  have:=hp rfl
  cases s <;> first|exact h|exact Bool.noConfusion (show false=true from this)
 |false =>
  have ho:=ho rfl
  cases s with
  |b _|i _ _|s _|nilp|nils|raw _|p _ _|sl _ _ _ _ _|clo _ _ _=>exact h
  |ro k xs=>exact jD ho hw h
  |ros xs =>
   obtain ⟨A,c,q1,q2,q3⟩:=h
   refine ⟨A,c,q1,q2,fun hpos=>?_⟩
   obtain ⟨ad,r1,r2,r3⟩:=q3 hpos
   exact ⟨ad,r1,ho _ r2,fun j hj=>by rw [hw];exact r3 j hj⟩
  |rob xs =>
   obtain ⟨A,c,q1,q2,q3⟩:=h
   refine ⟨A,c,q1,q2,fun hpos=>?_⟩
   obtain ⟨ad,r1,r2,r3⟩:=q3 hpos
   refine ⟨ad,r1,ho _ r2,fun j hj=>?_⟩
   obtain ⟨v,e1,e2⟩:=r3 j hj
   exact ⟨v,by rw [hw];exact e1,jD ho hw e2⟩
  |roc xs =>
   obtain ⟨A,c,q1,q2,q3⟩:=h
   refine ⟨A,c,q1,q2,fun hpos=>?_⟩
   obtain ⟨ad,r1,r2,r3⟩:=q3 hpos
   refine ⟨ad,r1,ho _ r2,fun j hj=>?_⟩
   obtain ⟨e0,v,e1,e2⟩:=r3 j hj
   exact ⟨by rw [hw];exact e0,v,by rw [hw];exact e1,jD ho hw e2⟩
  |rp k xs j =>
   obtain ⟨ad,q1,q2,q3⟩:=h
   exact ⟨ad,q1,ho _ q2,fun j hj=>by rw [hw];exact q3 j hj⟩
  |rps x =>
   obtain ⟨ad,q1,q2,q3⟩:=h
   exact ⟨ad,q1,ho _ q2,by rw [hw];exact q3⟩
  |rpb xs =>
   obtain ⟨ad,v,q1,q2,q3,q4⟩:=h
   exact ⟨ad,v,q1,ho _ q2,by rw [hw];exact q3,jD ho hw q4⟩
  |rpc x =>
   obtain ⟨ad,v,q1,q2,q3,q4,q5⟩:=h
   exact ⟨ad,v,q1,ho _ q2,by rw [hw];exact q3,by rw [hw];exact q4,jD ho hw q5⟩
theorem kK {pl:Bool} (ho:pl=false→∀ g,E0.old g→E'.old g) (hw:E'.w0=E0.w0):∀ {l:List Sc} {m:List Value},(pl=true→l.all Sc.plain=true)→cW (ScR E0 σ) l m→cW (ScR E' σ) l m
 |[],[],_,_=>trivial
 |x :: r,V :: m,hp,h=>⟨Sc.env ho hw (fun q=>by have:=hp q;simp only [List.all_cons,Bool.and_eq_true] at this;exact this.1) h.1,
   kK ho hw (fun q=>by have:=hp q;simp only [List.all_cons,Bool.and_eq_true] at this;exact this.2) h.2⟩
theorem mB {pl:Bool} (ho:pl=false→∀ g,E0.old g→E'.old g) (hw:E'.w0=E0.w0) {v:VK}:∀ {xs:List v.T} {m:List Value},(pl=true→v=.str)→cW (ScR E0 σ) (xs.map v.sc) m→cW (ScR E' σ) (xs.map v.sc) m
 |[],[],_,_=>trivial
 |x :: r,V :: m,hp,h=>⟨Sc.env ho hw (fun q=>by have:=hp q;subst this;rfl) h.1,mB ho hw hp h.2⟩
theorem A1.env {pl:Bool} (ho:pl=false→∀ g,E0.old g→E'.old g) (hw:E'.w0=E0.w0) {v:A1} {V:Value} (hp:pl=true→v.plain=true) (h:A1R E0 σ v V):A1R E' σ v V:=by
 cases v with
 |sc s=>exact Sc.env ho hw hp h
 |agg l=>obtain ⟨arr,e,q⟩:=h;exact ⟨arr,e,kK ho hw hp q⟩
 |arr v xs=>obtain ⟨arr,e,q⟩:=h;exact ⟨arr,e,mB ho hw (fun q=>by have:=hp q;cases v <;> first|rfl|exact Bool.noConfusion (show false=true from this)) q⟩
 |ints k n xs=>exact h
theorem mK {pl:Bool} (ho:pl=false→∀ g,E0.old g→E'.old g) (hw:E'.w0=E0.w0):∀ {l:List A1} {m:List Value},(pl=true→l.all A1.plain=true)→cW (A1R E0 σ) l m→cW (A1R E' σ) l m
 |[],[],_,_=>trivial
 |x :: r,V :: m,hp,h=>⟨A1.env ho hw (fun q=>by have:=hp q;simp only [List.all_cons,Bool.and_eq_true] at this;exact this.1) h.1,
   mK ho hw (fun q=>by have:=hp q;simp only [List.all_cons,Bool.and_eq_true] at this;exact this.2) h.2⟩
theorem AV.env {pl:Bool} (ho:pl=false→∀ g,E0.old g→E'.old g) (hw:E'.w0=E0.w0) {v:AV} {V:Value} (hp:pl=true→v.plain=true) (h:AVR E0 σ v V):AVR E' σ v V:=by
 cases v with
 |sc s=>exact Sc.env ho hw hp h
 |agg l=>obtain ⟨arr,e,q⟩:=h;exact ⟨arr,e,kK ho hw hp q⟩
 |arr v xs=>obtain ⟨arr,e,q⟩:=h;exact ⟨arr,e,mB ho hw (fun q=>by have:=hp q;cases v <;> first|rfl|exact Bool.noConfusion (show false=true from this)) q⟩
 |ints k n xs=>exact h
 |tup l=>obtain ⟨arr,e,q⟩:=h;exact ⟨arr,e,mK ho hw hp q⟩
theorem Blk.env {pl:Bool} (ho:pl=false→∀ g,E0.old g→E'.old g) (hw:E'.w0=E0.w0) (hz:∀ g,¬ E0.fz g→¬ E'.fz g) {k:Blk} {L:Pl} {w:World} (hp:pl=true→k.plain=true) (h:dk E0 σ w k L):dk E' σ w k L:=by
 cases L with
 |unset=>exact h
 |nil=>exact h
 |«at» L =>
  obtain ⟨g1,arr,elem,lo,hi,q1,q2,q3,q4,q5,q6⟩:=h
  refine ⟨g1,arr,elem,lo,hi,q1,q2,q3,hz _ q4,q5,fun j s hs=>?_⟩
  obtain ⟨v,e1,e2⟩:=q6 j s hs
  refine ⟨v,e1,Sc.env ho hw (fun q=>?_) e2⟩
  have:=hp q
  cases k with
  |ints kk n xs =>
   simp only [Blk.get?,Option.map_eq_some_iff] at hs
   obtain ⟨_,_,rfl⟩:=hs
   rfl
  |cells l =>
   simp only [Blk.plain,List.all_eq_true] at this
   exact this s (List.mem_of_getElem? hs)
  |vec v l =>
   simp only [Blk.get?,Option.map_eq_some_iff] at hs
   obtain ⟨x,_,rfl⟩:=hs
   cases v with
   |str=>rfl
   |row=>simp [Blk.plain] at this
   |tab=>simp [Blk.plain] at this
theorem eT {M:Mem}:∀ {l m:List Nat} {ks:List Blk},bD M (l++m)=some ks→bD M l=some (ks.take l.length)∧bD M m=some (ks.drop l.length)
 |[],m,ks,h=>⟨by simp [bD],by simpa using h⟩
 |b :: l,m,ks,h=>by
  simp only [List.cons_append,bD] at h ⊢
  cases hb:ap b M with
  |none=>simp [hb] at h
  |some k =>
   simp only [hb] at h ⊢
   cases hr:bD M (l++m) with
   |none=>simp [hr] at h
   |some ks' =>
    simp only [hr,Option.some.injEq] at h
    subst h
    obtain ⟨h1,h2⟩:=eT hr
    exact ⟨by simp [h1],by simpa using h2⟩
theorem eQ {M:Mem}:∀ {l:List Nat} {ks:List Blk},bD M l=some ks→l.length=ks.length∧∀ (j b:Nat),l[j]?=some b→∃ k,ks[j]?=some k∧ap b M=some k
 |[],ks,h=>by
  simp only [bD,Option.some.injEq] at h
  subst h
  exact ⟨rfl,fun j b hb=>by simp at hb⟩
 |x :: l,ks,h=>by
  simp only [bD] at h
  cases hb:ap x M with
  |none=>simp [hb] at h
  |some k =>
   simp only [hb] at h
   cases hr:bD M l with
   |none=>simp [hr] at h
   |some ks' =>
    simp only [hr,Option.some.injEq] at h
    subst h
    obtain ⟨h1,h2⟩:=eQ hr
    refine ⟨by simp [h1],fun j b hj=>?_⟩
    cases j with
    |zero =>
     simp only [List.getElem?_cons_zero,Option.some.injEq] at hj
     subst hj
     exact ⟨k,rfl,hb⟩
    |succ j =>
     simp only [List.getElem?_cons_succ] at hj ⊢
     exact h2 j b hj
theorem jf {b:Nat}:∀ {ms:List Nat} {ks:List Blk} {k:Blk},gw b ms ks=some k→∃ j:Nat,ms[j]?=some b∧ks[j]?=some k
 |[],ks,k,h=>by cases ks <;> cases h
 |m :: ms,[],k,h=>by cases h
 |m :: ms,x :: ks,k,h=>by
  simp only [gw] at h
  by_cases e:m=b
  ·subst e
   simp only [iF,cond_true,Option.some.injEq] at h
   exact ⟨0,rfl,by rw [h];rfl⟩
  ·simp only [gk e,cond_false] at h
   obtain ⟨j,h1,h2⟩:=jf h
   exact ⟨j+1,by simpa using h1,by simpa using h2⟩
theorem fm {M:Mem} {ms:List Nat} {ks:List Blk} (hl:bD M ms=some ks) {b:Nat} {k:Blk} (h:gw b ms ks=some k):ap b M=some k∧b∈ms:=by
 obtain ⟨j,h1,h2⟩:=jf h
 obtain ⟨k',h3,h4⟩:=(eQ hl).2 j b h1
 rw [h2] at h3
 injection h3 with h3
 subst h3
 exact ⟨h4,List.mem_of_getElem? h1⟩
theorem iN {w:World} {g:Nat} {o:Obj} (h:w.heap[g]?=some o):g<w.heap.size:=(Array.getElem?_eq_some_iff.1 h).1
theorem ip {M:Mem} {w:World} (hM:MemR E σ M w) {b:Nat} {k:Blk} (h:ap b M=some k):k.good:=by
 have hB:=hM.blk b _ h
 revert hB
 cases σ b with
 |unset=>intro h;exact h.elim
 |nil=>intro h;exact h.2
 |«at» L=>intro h;exact h.1
def ir (σ:Sig) (fs:List Nat) (g:Nat):Prop:=∃ b∈fs,∃ L,σ b=.at L∧L.g=g
def hO (E:Env) (σ:Sig) (w:World) (fs:List Nat) (lent:Bool) (κ:Sig):Env :=
 {P:=E.P,w0:=w,old:=fun g=>(E.old g∨(lent=true∧¬ E.fz g))∧(g<w.heap.size∧¬ ir σ fs g),fz:=fun g=>g<w.heap.size∧¬ ir σ fs g,sub:=fun _ h=>h.2,kp:=κ }
section
variable {M:Mem} {w:World} {fs ms:List Nat} {kfs kms:List Blk} {lent:Bool} {κ:Sig}
theorem kA (hfs:bD M fs=some kfs) {b:Nat} (hb:b∈fs):∃ k,ap b M=some k:=by
 obtain ⟨j,hj⟩:=List.mem_iff_getElem?.1 hb
 obtain ⟨k,_,h⟩:=(eQ hfs).2 j b hj
 exact ⟨k,h⟩
theorem og (hM:MemR E σ M w) (hfs:bD M fs=some kfs) {g:Nat} (hg:E.fz g):g<w.heap.size∧¬ ir σ fs g:=by
 refine ⟨Nat.lt_of_lt_of_le (hM.olds g hg) hM.size,?_⟩
 rintro ⟨b,hb,L,hL,rfl⟩
 obtain ⟨k,hk⟩:=kA hfs hb
 have hB:=hM.blk b k hk
 rw [hL] at hB
 obtain ⟨_,arr,elem,lo,hi,_,_,_,q4,_⟩:=hB
 exact q4 hg
theorem md (hM:MemR E σ M w) (hfs:bD M fs=some kfs):Grow E (hO E σ w fs lent κ) where
 P:=rfl
 old g hg:=⟨.inl hg,og hM hfs (E.sub g hg)⟩
 fz g hg:=og hM hfs hg
 w0 g hg:=hM.old g hg
 new g hg:=by
  rcases hg.1 with h|h
  ·exact .inl h
  ·exact .inr h.2
 size:=hM.size
 os:=hM.os
 tape:=hM.tape
 output:=hM.output
theorem lW (hM:MemR E σ M w) (hfs:bD M fs=some kfs) (hd:∀ b∈ms,b ∉ fs) {b:Nat} {k:Blk} {L:Loc} (hb:ap b M=some k) (hms:b∈ms) (hL:σ b=.at L):L.g<w.heap.size∧¬ ir σ fs L.g∧¬ E.fz L.g:=by
 have hB:=hM.blk b k hb
 rw [hL] at hB
 have hB':=hB
 obtain ⟨_,arr,elem,lo,hi,q1,_,_,q4,_⟩:=hB
 refine ⟨iN q1,?_,q4⟩
 rintro ⟨c,hc,L',hL',he⟩
 obtain ⟨k',hk'⟩:=kA hfs hc
 have:=hM.inj c b k' k L' L hk' hb hL' hL he
 subst this
 exact hd c hms hc
theorem nt (hM:MemR E σ M w) (hfs:bD M fs=some kfs) (hl:bD M ms=some kms) (hd:∀ b∈ms,b ∉ fs) (hlent:ms≠[]→lent=true) {k:IntKind} {s:Sc} {C:Prop} {xs:List Int} {V:Value}
  (h:pi k ms kms s=some (C,xs)) (hC:C) (hV:ScR E σ s V):RoR (hO E σ w fs lent κ) k xs V:=by
 unfold pi at h
 split at h
 ·split at h
  ·rename_i hk
   subst hk
   simp only [Option.some.injEq,Prod.mk.injEq] at h
   obtain ⟨_,rfl⟩:=h
   exact (md hM hfs).ro hV
  ·cases h
 ·simp only [Option.some.injEq,Prod.mk.injEq] at h
  obtain ⟨_,rfl⟩:=h
  have h4:V=.slice none 0 0:=hV
  exact ⟨none,0,h4,by simp,by simp⟩
 ·rename_i b off len cap
  split at h
  ·rename_i k' n zs hz
   split at h
   ·rename_i hk
    subst hk
    simp only [Option.some.injEq,Prod.mk.injEq] at h
    obtain ⟨rfl,rfl⟩:=h
    obtain ⟨hblk,hmem⟩:=fm hl hz
    have hg0:zs.length=n:=ip hM hblk
    rw [fF hg0]
    have hC:off+len≤n:=hC
    rcases hV with ⟨q1,_,A,rfl⟩|⟨L,c,hL,rfl,q1,q2,q3⟩
    ·subst q1
     exact ⟨A,0,by simp,by simp,by simp⟩
    ·obtain ⟨o1,o2,o3⟩:=lW hM hfs hd hblk hmem hL
     have hB:=hM.blk b _ hblk
     rw [hL] at hB
     obtain ⟨g1,arr,elem,lo,hi,p1,p2,p3,p4,p5,p6⟩:=hB
     simp only [Blk.good] at g1
     have hlen:((zs.drop off).take len).length=len:=by simp;omega
     refine ⟨some ⟨L.g,L.β+off,none⟩,c,by rw [hlen],by rw [hlen];exact q1,fun _=>⟨_,rfl,⟨.inr ⟨hlent (List.ne_nil_of_mem hmem),o3⟩,o1,o2⟩,fun j hj=>?_⟩⟩
     rw [hlen] at hj
     have hget:zs[off+j]?=some (zs.getD (off+j) 0):=by
      rw [List.getD_eq_getElem?_getD,List.getElem?_eq_getElem (by omega)];rfl
     obtain ⟨v,e3,e4⟩:=p6 (off+j) (.i k' (zs.getD (off+j) 0)) (by show (zs[off+j]?).map _=_;rw [hget];rfl)
     simp only [ScR] at e4
     subst e4
     have:((zs.drop off).take len).getD j 0=zs.getD (off+j) 0:=by
      simp [List.getD_eq_getElem?_getD,List.getElem?_take,List.getElem?_drop,hj]
     rw [this,cI]
     show w.cell? _=_
     have hlt:L.β+off+j<L.sz:=by have:=p3;simp only [Blk.len] at this;omega
     have:=p5.1 (L.β+off+j) hlt
     simp [World.cell?,p1,this]
     rw [Nat.add_assoc]
     exact e3
   ·cases h
  ·rename_i hz
   simp only [Option.some.injEq,Prod.mk.injEq] at h
   obtain ⟨rfl,rfl⟩:=h
   rcases hV with ⟨q1,_,A,rfl⟩|⟨L,c,hL,rfl,q1,q2,q3⟩
   ·exact ⟨A,0,by simp,by simp,by simp⟩
   ·have hC:len=0:=hC
    subst hC
    exact ⟨_,c,rfl,by simp,by simp⟩
  ·cases h
 ·cases h
theorem kx (hM:MemR E σ M w) (hfs:bD M fs=some kfs) (hl:bD M ms=some kms) (hd:∀ b∈ms,b ∉ fs) (hlent:ms≠[]→lent=true):∀ {l:List Sc} {C:Prop} {xss:List (List Int)},
  ik ms kms l=some (C,xss)→C→xss.length=l.length∧∀ j s,l[j]?=some s→∀ V,ScR E σ s V→RoR (hO E σ w fs lent κ) .u8 (xss.getD j []) V
 |[],C,xss,h,hC=>by
  simp only [ik,Option.some.injEq,Prod.mk.injEq] at h
  obtain ⟨_,rfl⟩:=h
  exact ⟨rfl,fun j s hs=>by simp at hs⟩
 |s :: r,C,xss,h,hC=>by
  simp only [ik] at h
  split at h
  ·rename_i C1 xs C2 xss' h1 h2
   simp only [Option.some.injEq,Prod.mk.injEq] at h
   obtain ⟨rfl,rfl⟩:=h
   obtain ⟨i1,i2⟩:=kx hM hfs hl hd hlent h2 hC.2
   refine ⟨by simp [i1],fun j s' hs V hV=>?_⟩
   cases j with
   |zero =>
    simp only [List.getElem?_cons_zero,Option.some.injEq] at hs
    subst hs
    simpa using nt hM hfs hl hd hlent h1 hC.1 hV
   |succ j=>simpa using i2 j s' (by simpa using hs) V hV
  ·cases h
theorem lS (hM:MemR E σ M w) (hfs:bD M fs=some kfs) (hl:bD M ms=some kms) (hd:∀ b∈ms,b ∉ fs) (hlent:ms≠[]→lent=true) {b off len:Nat} {cap:Option Nat} {k:Blk} {V:Value}
  (hz:gw b ms kms=some k) (hC:off+len≤k.len) (hV:ScR E σ (.sl b off len 1 cap) V) :
  ∃ A c,V=.slice A len c∧len≤c∧(0<len→∃ ad,A=some ad∧(hO E σ w fs lent κ).old ad.block∧∀ j,j<len→∃ s v,k.get? (off+j)=some s∧w.cell? (ad.add j)=some v∧ScR E σ s v):=by
 obtain ⟨hblk,hmem⟩:=fm hl hz
 have hB:=hM.blk b _ hblk
 rcases hV with ⟨q1,_,A,rfl⟩|⟨L,c,hL,rfl,q1,q2,q3⟩
 ·subst q1
  exact ⟨A,0,rfl,Nat.le_refl _,fun h=>absurd h (Nat.lt_irrefl _)⟩
 ·obtain ⟨o1,o2,o3⟩:=lW hM hfs hd hblk hmem hL
  rw [hL] at hB
  obtain ⟨g1,arr,elem,lo,hi,p1,p2,p3,p4,p5,p6⟩:=hB
  refine ⟨_,c,rfl,q1,fun _=>⟨_,rfl,⟨.inr ⟨hlent (List.ne_nil_of_mem hmem),o3⟩,o1,o2⟩,fun j hj=>?_⟩⟩
  obtain ⟨s,hs⟩:=Blk.get_some g1 (show off+j<k.len by omega)
  obtain ⟨v,e3,e4⟩:=p6 (off+j) _ hs
  refine ⟨s,v,hs,?_,e4⟩
  rw [cI]
  have hlt:L.β+off+j<L.sz:=by omega
  have:=p5.1 (L.β+off+j) hlt
  simp [World.cell?,p1,this]
  rw [Nat.add_assoc]
  exact e3
theorem qk (hM:MemR E σ M w) (hfs:bD M fs=some kfs) (hl:bD M ms=some kms) (hd:∀ b∈ms,b ∉ fs) (hlent:ms≠[]→lent=true) {ns:Ren} {U:Nat} (hns:cm ns U=true) :
  ∀ {ps:List Pass} {args vs:List AV} {m:List Value} {C:Prop},bK ns ms kms ps args=some (C,vs)→C→cW (AVR E σ) args m→cW (AVR (hO E σ w fs lent (bx σ ns)) (bx σ ns)) vs m:=by
 intro ps
 induction ps with
 |nil =>
  intro args vs m C h2 hC h3
  cases args with
  |nil =>
   simp only [bK,Option.some.injEq,Prod.mk.injEq] at h2
   obtain ⟨_,rfl⟩:=h2
   cases m with
   |nil=>trivial
   |cons _ _=>exact h3.elim
  |cons _ _=>simp [bK] at h2
 |cons p ps ih =>
  intro args vs m C h2 hC h3
  cases args with
  |nil=>cases p <;> simp [bK] at h2
  |cons v r =>
   cases m with
   |nil=>exact h3.elim
   |cons V m =>
    have hg:=md (lent:=lent) (κ:=bx σ ns) hM hfs
    cases p with
    |val =>
     cases v with
     |sc s =>
      simp only [bK] at h2
      split at h2
      ·rename_i C' vs' e1 e2
       simp only [Option.some.injEq,Prod.mk.injEq] at h2
       obtain ⟨rfl,rfl⟩:=h2
       refine ⟨?_,ih e2 hC h3.2⟩
       have h4:=h3.1
       cases s <;> first|exact h4|exact Bool.noConfusion (show false=true from e1)
      ·cases h2
     |ints k n xs =>
      simp only [bK] at h2
      split at h2
      ·rename_i C' vs' e2
       simp only [Option.some.injEq,Prod.mk.injEq] at h2
       obtain ⟨rfl,rfl⟩:=h2
       exact ⟨h3.1,ih e2 hC h3.2⟩
      ·cases h2
     |agg l=>simp [bK] at h2
     |arr v xs=>simp [bK] at h2
     |tup l=>simp [bK] at h2
    |ro k =>
     cases v with
     |ints _ _ _=>simp [bK] at h2
     |agg l=>simp [bK] at h2
     |arr v xs=>simp [bK] at h2
     |tup l=>simp [bK] at h2
     |sc s =>
      simp only [bK] at h2
      split at h2
      ·rename_i C1 xs C2 vs' e1 e2
       simp only [Option.some.injEq,Prod.mk.injEq] at h2
       obtain ⟨rfl,rfl⟩:=h2
       exact ⟨nt hM hfs hl hd hlent e1 hC.1 h3.1,ih e2 hC.2 h3.2⟩
      ·cases h2
    |io =>
     have h2':(match v.ren ns,bK ns ms kms ps r with
      |some v',some (C,vs)=>some (C,v' :: vs)
      |_,_=>none)=some (C,vs):=by
      cases v <;> simpa only [bK] using h2
     split at h2'
     ·rename_i v' C' vs' e1 e2
      simp only [Option.some.injEq,Prod.mk.injEq] at h2'
      obtain ⟨rfl,rfl⟩:=h2'
      exact ⟨(AV.ren_R hns e1 h3.1).grow hg,ih e2 hC h3.2⟩
     ·cases h2'
    |rob =>
     cases v with
     |ints _ _ _=>simp [bK] at h2
     |agg l=>simp [bK] at h2
     |arr v xs=>simp [bK] at h2
     |tup l=>simp [bK] at h2
     |sc s =>
      cases s with
      |rob xs =>
       simp only [bK] at h2
       split at h2
       ·rename_i C' vs' e2
        simp only [Option.some.injEq,Prod.mk.injEq] at h2
        obtain ⟨rfl,rfl⟩:=h2
        exact ⟨AVR.grow (v:=.sc (.rob xs)) (σ:=bx σ ns) hg h3.1,ih e2 hC h3.2⟩
       ·cases h2
      |sl b off len es cap =>
       simp only [bK] at h2
       split at h2
       ·rename_i l hz
        split at h2
        ·rename_i C0 xss C' vs' e1 e2
         cases hes:Nat.beq es 1
         ·simp [hes] at h2
         ·simp only [hes,cond_true,Option.some.injEq,Prod.mk.injEq] at h2
          obtain ⟨rfl,rfl⟩:=h2
          have hes1:=Nat.eq_of_beq_eq_true hes
          subst hes1
          refine ⟨?_,ih e2 hC.2 h3.2⟩
          obtain ⟨hle,hC0⟩:=hC.1
          obtain ⟨hblk,hmem⟩:=fm hl hz
          obtain ⟨i1,i2⟩:=kx (κ:=bx σ ns) hM hfs hl hd hlent e1 hC0
          have hll:((l.drop off).take len).length=len:=by simp;omega
          rw [hll] at i1
          have hB:=hM.blk b _ hblk
          rcases h3.1 with ⟨q1,_,A,rfl⟩|⟨L,c,hL,rfl,q1,q2,q3⟩
          ·exact ⟨A,0,by simp [i1,q1],by simp [i1,q1],by simp [i1,q1]⟩
          ·obtain ⟨o1,o2,o3⟩:=lW hM hfs hd hblk hmem hL
           rw [hL] at hB
           obtain ⟨g1,arr,elem,lo,hi,p1,p2,p3,p4,p5,p6⟩:=hB
           refine ⟨some ⟨L.g,L.β+off,none⟩,c,by rw [i1],by rw [i1];exact q1,fun _=>⟨_,rfl,⟨.inr ⟨hlent (List.ne_nil_of_mem hmem),o3⟩,o1,o2⟩,fun j hj=>?_⟩⟩
           rw [i1] at hj
           have hget:l[off+j]?=some (l[off+j]'(by omega)):=List.getElem?_eq_getElem _
           obtain ⟨v,e3,e4⟩:=p6 (off+j) _ hget
           refine ⟨v,?_,i2 j (l[off+j]'(by omega)) (by simp [List.getElem?_take,List.getElem?_drop,hj,hget]) v e4⟩
           rw [cI]
           show w.cell? _=_
           have hlt:L.β+off+j<L.sz:=by have:=p3;simp only [Blk.len] at this;omega
           have:=p5.1 (L.β+off+j) hlt
           simp [World.cell?,p1,this]
           rw [Nat.add_assoc]
           exact e3
        ·cases h2
       ·rename_i xs hz
        split at h2
        ·rename_i C' vs' e2
         cases hes:Nat.beq es 1
         ·simp [hes] at h2
         ·simp only [hes,cond_true,Option.some.injEq,Prod.mk.injEq] at h2
          obtain ⟨rfl,rfl⟩:=h2
          have hes1:=Nat.eq_of_beq_eq_true hes
          subst hes1
          refine ⟨?_,ih e2 hC.2 h3.2⟩
          have hle:off+len≤xs.length:=hC.1
          rw [gC]
          have hll:((xs.drop off).take len).length=len:=by simp;omega
          obtain ⟨A,c,rfl,q1,q2⟩:=lS (κ:=bx σ ns) hM hfs hl hd hlent hz hC.1 h3.1
          refine ⟨A,c,by rw [hll],by rw [hll];exact q1,fun hp=>?_⟩
          rw [hll] at hp
          obtain ⟨ad,rfl,o1,o2⟩:=q2 hp
          refine ⟨ad,rfl,o1,fun j hj=>?_⟩
          rw [hll] at hj
          obtain ⟨s,v,a1,a2,a3⟩:=o2 j hj
          have hget:xs[off+j]?=some (xs.getD (off+j) []):=by
           rw [List.getD_eq_getElem?_getD,List.getElem?_eq_getElem (by omega)];rfl
          have hs:s=.ro .u8 (xs.getD (off+j) []):=by
           have:(xs[off+j]?).map (VK.sc .row)=some s:=a1
           rw [hget] at this
           injection this with this
           exact this.symm
          subst hs
          have:((xs.drop off).take len).getD j []=xs.getD (off+j) []:=by
           simp [List.getD_eq_getElem?_getD,List.getElem?_take,List.getElem?_drop,hj]
          rw [this]
          exact ⟨v,a2,hg.ro a3⟩
        ·cases h2
       ·cases h2
      |nils =>
       simp only [bK] at h2
       split at h2
       ·rename_i C' vs' e2
        simp only [Option.some.injEq,Prod.mk.injEq] at h2
        obtain ⟨rfl,rfl⟩:=h2
        exact ⟨⟨none,0,h3.1,Nat.le_refl _,fun h=>absurd h (Nat.lt_irrefl _)⟩,ih e2 hC h3.2⟩
       ·cases h2
      |_=>simp [bK] at h2
    |ros =>
     cases v with
     |ints _ _ _=>simp [bK] at h2
     |agg l=>simp [bK] at h2
     |arr v xs=>simp [bK] at h2
     |tup l=>simp [bK] at h2
     |sc s =>
      cases s with
      |ros xs =>
       simp only [bK] at h2
       split at h2
       ·rename_i C' vs' e2
        simp only [Option.some.injEq,Prod.mk.injEq] at h2
        obtain ⟨rfl,rfl⟩:=h2
        exact ⟨AVR.grow (v:=.sc (.ros xs)) (σ:=bx σ ns) hg h3.1,ih e2 hC h3.2⟩
       ·cases h2
      |nils =>
       simp only [bK] at h2
       split at h2
       ·rename_i C' vs' e2
        simp only [Option.some.injEq,Prod.mk.injEq] at h2
        obtain ⟨rfl,rfl⟩:=h2
        exact ⟨⟨none,0,h3.1,Nat.le_refl _,fun h=>absurd h (Nat.lt_irrefl _)⟩,ih e2 hC h3.2⟩
       ·cases h2
      |sl b off len es cap =>
       simp only [bK] at h2
       split at h2
       ·rename_i xs hz
        split at h2
        ·rename_i C' vs' e2
         cases hes:Nat.beq es 1
         ·simp [hes] at h2
         ·simp only [hes,cond_true,Option.some.injEq,Prod.mk.injEq] at h2
          obtain ⟨rfl,rfl⟩:=h2
          have hes1:=Nat.eq_of_beq_eq_true hes
          subst hes1
          refine ⟨?_,ih e2 hC.2 h3.2⟩
          have hle:off+len≤xs.length:=hC.1
          rw [gC]
          have hll:((xs.drop off).take len).length=len:=by simp;omega
          obtain ⟨A,c,rfl,q1,q2⟩:=lS (κ:=bx σ ns) hM hfs hl hd hlent hz hC.1 h3.1
          refine ⟨A,c,by rw [hll],by rw [hll];exact q1,fun hp=>?_⟩
          rw [hll] at hp
          obtain ⟨ad,rfl,o1,o2⟩:=q2 hp
          refine ⟨ad,rfl,o1,fun j hj=>?_⟩
          rw [hll] at hj
          obtain ⟨s,v,a1,a2,a3⟩:=o2 j hj
          have hget:xs[off+j]?=some (xs.getD (off+j) ⟨#[]⟩):=by
           rw [List.getD_eq_getElem?_getD,List.getElem?_eq_getElem (by omega)];rfl
          have hs:s=.s (xs.getD (off+j) ⟨#[]⟩):=by
           have:(xs[off+j]?).map (VK.sc .str)=some s:=a1
           rw [hget] at this
           injection this with this
           exact this.symm
          subst hs
          have:((xs.drop off).take len).getD j ⟨#[]⟩=xs.getD (off+j) ⟨#[]⟩:=by
           simp [List.getD_eq_getElem?_getD,List.getElem?_take,List.getElem?_drop,hj]
          rw [this]
          have a3':v=.string (xs.getD (off+j) ⟨#[]⟩):=a3
          rw [← a3']
          exact a2
        ·cases h2
       ·rename_i l hz
        split at h2
        ·rename_i xs C' vs' e1 e2
         cases hes:Nat.beq es 1
         ·simp [hes] at h2
         ·simp only [hes,cond_true,Option.some.injEq,Prod.mk.injEq] at h2
          obtain ⟨rfl,rfl⟩:=h2
          have hes1:=Nat.eq_of_beq_eq_true hes
          subst hes1
          refine ⟨?_,ih e2 hC.2 h3.2⟩
          have hle:off+len≤l.length:=hC.1
          have hll:xs.length=len:=by rw [VK.unL_len e1];simp;omega
          obtain ⟨A,c,rfl,q1,q2⟩:=lS (κ:=bx σ ns) hM hfs hl hd hlent hz hC.1 h3.1
          refine ⟨A,c,by rw [hll],by rw [hll];exact q1,fun hp=>?_⟩
          rw [hll] at hp
          obtain ⟨ad,rfl,o1,o2⟩:=q2 hp
          refine ⟨ad,rfl,o1,fun j hj=>?_⟩
          rw [hll] at hj
          obtain ⟨s,v,a1,a2,a3⟩:=o2 j hj
          have hx:xs[j]?=some (xs.getD j ⟨#[]⟩):=by
           rw [List.getD_eq_getElem?_getD,List.getElem?_eq_getElem (by omega)];rfl
          obtain ⟨s',b1,b2⟩:=VK.unL_get e1 hx
          have hs:s'=s:=by
           have c1:l[off+j]?=some s:=a1
           rw [List.getElem?_take,if_pos hj,List.getElem?_drop,c1] at b1
           injection b1 with b1
           exact b1.symm
          subst hs
          have a3':v=.string (xs.getD j ⟨#[]⟩):=VK.un_R b2 a3
          rw [← a3']
          exact a2
        ·cases h2
       ·cases h2
      |_=>simp [bK] at h2
theorem iV {ns:Ren}:∀ {ks ks':List Blk},jS ns ks=some ks'→ks'.length=ks.length∧∀ (j:Nat) (k':Blk),ks'[j]?=some k'→∃ k,ks[j]?=some k∧k.ren ns=some k'
 |[],ks',h=>by
  simp only [jS,Option.some.injEq] at h
  subst h
  exact ⟨rfl,fun j k' hk=>by simp at hk⟩
 |k :: r,ks',h=>by
  simp only [jS] at h
  split at h
  ·rename_i k1 r1 h1 h2
   simp only [Option.some.injEq] at h
   subst h
   obtain ⟨i1,i2⟩:=iV h2
   refine ⟨by simp [i1],fun j k' hk=>?_⟩
   cases j with
   |zero =>
    simp only [List.getElem?_cons_zero,Option.some.injEq] at hk
    subst hk
    exact ⟨k,rfl,h1⟩
   |succ j=>exact i2 j k' (by simpa using hk)
  ·cases h
theorem mC {up:Ren}:∀ {l l':List (Option Blk)},upB up l=some l'→l'.length=l.length∧∀ (j:Nat) (k':Blk),l'[j]?=some (some k')→∃ k,l[j]?=some (some k)∧k.ren up=some k'
 |[],l',h=>by
  simp only [upB,Option.some.injEq] at h
  subst h
  exact ⟨rfl,fun j k' hk=>by simp at hk⟩
 |none :: r,l',h=>by
  simp only [upB] at h
  split at h
  ·rename_i r1 h2
   simp only [Option.some.injEq] at h
   subst h
   obtain ⟨i1,i2⟩:=mC h2
   refine ⟨by simp [i1],fun j k' hk=>?_⟩
   cases j with
   |zero=>simp at hk
   |succ j=>exact i2 j k' (by simpa using hk)
  ·cases h
 |some k :: r,l',h=>by
  simp only [upB] at h
  split at h
  ·rename_i k1 r1 h1 h2
   simp only [Option.some.injEq] at h
   subst h
   obtain ⟨i1,i2⟩:=mC h2
   refine ⟨by simp [i1],fun j k' hk=>?_⟩
   cases j with
   |zero =>
    simp only [List.getElem?_cons_zero,Option.some.injEq] at hk
    subst hk
    exact ⟨k,rfl,h1⟩
   |succ j=>exact i2 j k' (by simpa using hk)
  ·cases h
theorem nL {i:Nat}:∀ {l:List Blk} {b:Nat} {k:Blk},ap b (jL i l)=some k→∃ j,b=i+j∧l[j]?=some k
 |l,b,k,h=>by
  induction l generalizing i with
  |nil=>cases h
  |cons x r ih =>
   simp only [jL,ap] at h
   by_cases e:i=b
   ·subst e
    simp only [iF,cond_true,Option.some.injEq] at h
    exact ⟨0,rfl,by simp [h]⟩
   ·simp only [gk e,cond_false] at h
    obtain ⟨j,h1,h2⟩:=ih h
    exact ⟨j+1,by omega,by simpa using h2⟩
theorem nr {i:Nat}:∀ {l:List (Option Blk)} {j:Nat} {k:Blk},l[j]?=some (some k)→ap (i+j) (iH i l)=some k
 |l,j,k,h=>by
  induction l generalizing i j with
  |nil=>simp at h
  |cons x r ih =>
   cases j with
   |zero =>
    simp only [List.getElem?_cons_zero,Option.some.injEq] at h
    subst h
    simp [iH,ap,iF]
   |succ j =>
    have:=ih (i:=i+1) (j:=j) (by simpa using h)
    rw [show i+(j+1)=i+1+j by omega]
    cases x with
    |none=>exact this
    |some y =>
     simp only [iH,ap]
     have e:i≠i+1+j:=by omega
     simp only [gk e,cond_false]
     exact this
theorem jY {M':Mem} {c:Nat} {k:Blk} (hk:ap c M'=some k):∀ {ns:List Nat} {ks:List (Option Blk)} {M:Mem},bg ns ks M=some M'→(∃ i:Nat,ns[i]?=some c∧ks[i]?=some (some k))∨(c ∉ ns∧ap c M=some k)
 |[],[],M,h=>by
  simp only [bg,Option.some.injEq] at h
  subst h
  exact .inr ⟨by simp,hk⟩
 |[],_ :: _,M,h=>by simp [bg] at h
 |_ :: _,[],M,h=>by simp [bg] at h
 |b :: r,x :: ks,M,h=>by
  simp only [bg] at h
  rcases jY hk h with ⟨i,h1,h2⟩|⟨h1,h2⟩
  ·exact .inl ⟨i+1,by simpa using h1,by simpa using h2⟩
  ·cases x with
   |none =>
    simp only [put0,cS] at h2
    split at h2
    ·cases h2
    ·rename_i e
     exact .inr ⟨by simp only [List.mem_cons,not_or];exact ⟨e,h1⟩,h2⟩
   |some y =>
    simp only [put0,bP] at h2
    split at h2
    ·rename_i e
     injection h2 with h2
     exact .inl ⟨0,by simp [e],by simp [h2]⟩
    ·rename_i e
     exact .inr ⟨by simp only [List.mem_cons,not_or];exact ⟨e,h1⟩,h2⟩
theorem fY {j b:Nat} (h:fs[j]?=some b):(b,j)∈dl fs:=by
 have hj:=(List.getElem?_eq_some_iff.1 h).1
 refine List.mem_iff_getElem?.2 ⟨j,?_⟩
 unfold dl
 rw [List.getElem?_zip_eq_some]
 exact ⟨h,by rw [List.getElem?_range hj]⟩
theorem pW {j c:Nat}:(j,c)∈upN fs nm nb↔(fs++(List.range nb).map (nm+·))[j]?=some c:=by
 unfold upN
 constructor
 ·intro h
  obtain ⟨i,hi⟩:=List.mem_iff_getElem?.1 h
  rw [List.getElem?_zip_eq_some] at hi
  obtain ⟨h1,h2⟩:=hi
  have hi':=(List.getElem?_eq_some_iff.1 h1).1
  simp only [List.length_range] at hi'
  rw [List.getElem?_range hi'] at h1
  injection h1 with h1
  subst h1
  exact h2
 ·intro h
  have hj:=(List.getElem?_eq_some_iff.1 h).1
  simp only [List.length_append,List.length_map,List.length_range] at hj
  refine List.mem_iff_getElem?.2 ⟨j,?_⟩
  rw [List.getElem?_zip_eq_some]
  exact ⟨by rw [List.getElem?_range hj],h⟩
theorem kZ {j c:Nat} (h:(fs++(List.range nb).map (nm+·))[j]?=some c):(j<fs.length∧fs[j]?=some c)∨(fs.length≤j∧j-fs.length<nb∧c=nm+(j-fs.length)):=by
 by_cases hj:j<fs.length
 ·rw [List.getElem?_append_left hj] at h
  exact .inl ⟨hj,h⟩
 ·rw [List.getElem?_append_right (by omega)] at h
  simp only [List.getElem?_map,Option.map_eq_some_iff] at h
  obtain ⟨i,h1,h2⟩:=h
  have h3:=(List.getElem?_eq_some_iff.1 h1).1
  simp only [List.length_range] at h3
  rw [List.getElem?_range h3] at h1
  injection h1 with h1
  subst h1
  exact .inr ⟨by omega,h3,h2.symm⟩
theorem qW (hM:MemR E σ M w) (hfs:bD M fs=some kfs) {ks':List Blk} (hns:cm (dl fs) big=true) (hdn:jS (dl fs) kfs=some ks') :
  MemR (hO E σ w fs lent (bx σ (dl fs))) (bx σ (dl fs)) (jL 0 ks') w:=by
 obtain ⟨l1,l2⟩:=iV hdn
 obtain ⟨f1,f2⟩:=eQ hfs
 have at1:∀ b k',ap b (jL 0 ks')=some k'→∃ c k,fs[b]?=some c∧ap c M=some k∧k.ren (dl fs)=some k'∧bx σ (dl fs) b=σ c:=by
  intro b k' hb
  obtain ⟨j,rfl,hj⟩:=nL hb
  obtain ⟨k,e1,e2⟩:=l2 j k' hj
  have hlt:=(List.getElem?_eq_some_iff.1 e1).1
  have hc:fs[j]?=some (fs[j]'(by omega)):=List.getElem?_eq_getElem _
  obtain ⟨k2,e3,e4⟩:=f2 j _ hc
  rw [e1] at e3
  injection e3 with e3
  subst e3
  have hmem:=fY hc
  rw [Nat.zero_add]
  exact ⟨_,k,hc,e4,e2,eS hns (cY hns hmem).2.2⟩
 refine { blk:=?_,inj:=?_,old:=fun _ _=>rfl,size:=Nat.le_refl _,olds:=fun g hg=>hg.1,os:=rfl,tape:=rfl,output:=rfl }
 ·intro b k' hb
  obtain ⟨c,k,e1,e2,e3,e4⟩:=at1 b k' hb
  rw [e4]
  have hB:=Blk.ren_R hns e3 (hM.blk c k e2)
  refine Blk.grow (md hM hfs) (fun l hl hz=>?_) hB
  exact hz.2 ⟨c,List.mem_of_getElem? e1,l,hl,rfl⟩
 ·intro b c x y L L' hb hc hL hL' hg
  obtain ⟨b1,k1,e1,e2,e3,e4⟩:=at1 b x hb
  obtain ⟨c1,k2,e5,e6,e7,e8⟩:=at1 c y hc
  have:=hM.inj b1 c1 k1 k2 L L' e2 e6 (e4 ▸ hL) (e8 ▸ hL') hg
  subst this
  have h1:=(cY hns (fY e1)).2.2
  have h2:=(cY hns (fY e5)).2.2
  rw [h1] at h2
  injection h2
def mI (E E0 E1:Env) (lent:Bool):Env :=
 {P:=E.P,w0:=E1.w0,old:=fun g=>(if lent=true then E.old g else E1.old g)∧(E.fz g∨(E1.fz g∧¬ E0.fz g)),fz:=fun g=>E.fz g∨(E1.fz g∧¬ E0.fz g),sub:=fun _ h=>h.2,kp:=E.kp }
def fh (σ σ':Sig) (up:Ren):Sig:=fun c=>match bx σ' up c with
 |.unset=>σ c
 |x=>x
theorem nU {E1:Env} (hg:Grow E E0) (hg':Grow E0 E1) (hl:lent=false→∀ g,E0.old g→E.old g):Grow E (mI E E0 E1 lent) where
 P:=rfl
 old g h:=⟨by split;exact h;exact hg'.old g (hg.old g h),.inl (E.sub g h)⟩
 fz g h:=.inl h
 w0 g h:=(hg'.w0 g (hg.fz g h)).trans (hg.w0 g h)
 new g h:=by
  cases hb:lent with
  |true =>
   have h1:=h.1
   rw [if_pos hb] at h1
   exact .inl h1
  |false =>
   have h1:=h.1
   rw [if_neg (by rw [hb];decide)] at h1
   rcases hg'.new g h1 with h2|h2
   ·exact .inl (hl hb g h2)
   ·exact .inr fun h3=>h2 (hg.fz g h3)
 size:=Nat.le_trans hg.size hg'.size
 os:=hg'.os.trans hg.os
 tape:=hg'.tape.trans hg.tape
 output:=hg'.output.trans hg.output
theorem ni {E1:Env} (hg:Grow E E0) (hg':Grow E0 E1) (hl:lent=false→∀ g,E0.old g→E.old g):lent=false→∀ g,E1.old g→(mI E E0 E1 lent).old g:=by
 intro hb g h
 refine ⟨by rw [if_neg (by rw [hb];decide)];exact h,?_⟩
 rcases hg'.new g h with h2|h2
 ·exact .inl (E.sub g (hl hb g h2))
 ·exact .inr ⟨E1.sub g h,h2⟩
theorem jJ {P:Program} {G:dP} {f:FuncId} {ps:List Pass} {ms fs:List Nat} {nb:Nat} {spec:List AV→List Blk→Option (Prop × Ret)} (hnb:nb≤16) (h:ld P G f fs.length spec):gM P G f (is ps ms fs nb spec):=by
 intro E σ M w args Vs nm A C v M' hP hG hM hargs hn hA hrun hC
 unfold is at hA
 cases hck:cm (dl fs) big && cm (upN fs nm nb) big && ms.all (fun b=>!fs.any (Nat.beq b))
 ·simp [hck] at hA
 simp only [hck,cond_true,Option.some.injEq] at hA
 subst hA
 simp only [Bool.and_eq_true] at hck
 obtain ⟨⟨hns,hup⟩,hdis⟩:=hck
 have hd:∀ b∈ms,b ∉ fs:=by
  intro b hb hf
  rw [List.all_eq_true] at hdis
  have h1:=hdis b hb
  have h2:fs.any (Nat.beq b)=true:=List.any_eq_true.2 ⟨b,hf,iF b⟩
  rw [h2] at h1
  cases h1
 unfold Deed.run at hrun
 simp only at hrun
 split at hrun
 ·cases hrun
 rename_i ks hks
 obtain ⟨hl,hfs⟩:=eT hks
 split at hrun
 ·cases hrun
 rename_i C1 v1 cs hgo
 split at hrun
 ·cases hrun
 rename_i M1 hput
 simp only [Option.some.injEq,Prod.mk.injEq] at hrun
 obtain ⟨rfl,rfl,rfl⟩:=hrun
 split at hgo
 rotate_left
 ·cases hgo
 rename_i C2 vs ks' hlend hdown
 split at hgo
 rotate_left
 ·cases hgo
 rename_i C3 r hspec
 split at hgo
 rotate_left
 ·cases hgo
 rename_i v2 bs hv2 hbs
 cases hpl:Nat.beq r.bs.length (fs.length+nb) && (ms.isEmpty || r.plain)
 ·simp [hpl] at hgo
 simp only [hpl,cond_true,Option.some.injEq,Prod.mk.injEq] at hgo
 obtain ⟨rfl,rfl,rfl⟩:=hgo
 simp only [Bool.and_eq_true] at hpl
 obtain ⟨hlen,hpl⟩:=hpl
 have hlen:=Nat.eq_of_beq_eq_true hlen
 have hplain:(!ms.isEmpty)=true→r.plain=true:=by
  intro q
  rw [Bool.or_eq_true] at hpl
  rcases hpl with h1|h1
  ·rw [h1] at q;cases q
  ·exact h1
 have hlent:ms≠[]→(!ms.isEmpty)=true:=by
  intro q
  cases ms with
  |nil=>exact absurd rfl q
  |cons _ _=>rfl
 have hg0:Grow E (hO E σ w fs (!ms.isEmpty) (bx σ (dl fs))):=md hM hfs
 have hargs0:=qk hM hfs hl hd hlent hns hlend hC.1 hargs
 have hM0:=qW (lent:=!ms.isEmpty) hM hfs hns hdown
 have hkl:ks'.length=fs.length:=by
  rw [(iV hdown).1]
  exact ((eQ hfs).1).symm
 have hkp:∀ j,fs.length≤j→bx σ (dl fs) j=.unset:=by
  intro j hj
  unfold bx
  split
  ·rename_i b hb
   have hmem:=di hb
   unfold fH at hmem
   obtain ⟨p,hp,he⟩:=List.mem_map.1 hmem
   simp only [Prod.mk.injEq] at he
   obtain ⟨rfl,rfl⟩:=he
   obtain ⟨i,hi⟩:=List.mem_iff_getElem?.1 hp
   unfold dl at hi
   rw [List.getElem?_zip_eq_some] at hi
   have h3:=(List.getElem?_eq_some_iff.1 hi.2).1
   simp only [List.length_range] at h3
   have h4:=hi.2
   rw [List.getElem?_range h3] at h4
   injection h4 with h4
   omega
  ·rfl
 generalize hE0:hO E σ w fs (!ms.isEmpty) (bx σ (dl fs))=E0 at *
 have hE0kp:E0.kp=bx σ (dl fs):=by rw [← hE0];rfl
 have hE0fz:∀ g,E0.fz g↔(g<w.heap.size∧¬ ir σ fs g):=by intro g;rw [← hE0];exact Iff.rfl
 have hE0old:(!ms.isEmpty)=false→∀ g,E0.old g→E.old g:=by
  intro q g hg
  rw [← hE0] at hg
  rcases hg.1 with h1|h1
  ·exact h1
  ·rw [q] at h1;cases h1.1
 have hE0w:E0.w0=w:=by rw [← hE0];rfl
 refine (h E0 w vs ks' Vs C3 r (hg0.P.trans hP) (hG.grow hg0) hkl (fun j hj=>by rw [hE0kp];exact hkp j hj) (by rw [hE0kp];exact hM0) (by rw [hE0kp];exact hargs0) hspec hC.2).mono ?_
 rintro V w' ⟨E1,σ',hg1,hk,r1,r2⟩
 rw [hE0kp] at hk
 have gr:=nU (lent:=!ms.isEmpty) hg0 hg1 hE0old
 have bo:=ni (lent:=!ms.isEmpty) hg0 hg1 hE0old
 generalize hup':upN fs nm nb=up at *
 have upm:∀ {j c:Nat},(j,c)∈up↔(fs++(List.range nb).map (nm+·))[j]?=some c:=by
  intro j c
  rw [← hup']
  exact pW
 have sg1:∀ {j c:Nat},(j,c)∈up→bx σ' up c=σ' j:=fun hm=>eS hup (cY hup hm).2.2
 have sg0:∀ c,(∀ j,(j,c) ∉ up)→bx σ' up c=.unset:=by
  intro c hc
  unfold bx
  split
  ·rename_i b hb
   have hmem:=di hb
   unfold fH at hmem
   obtain ⟨p,hp,he⟩:=List.mem_map.1 hmem
   simp only [Prod.mk.injEq] at he
   obtain ⟨rfl,rfl⟩:=he
   exact absurd hp (hc p.1)
  ·rfl
 have feet_sig:∀ {j c:Nat},fs[j]?=some c→σ' j=σ c∨σ' j=.unset:=by
  intro j c hc
  have hj:=(List.getElem?_eq_some_iff.1 hc).1
  rcases hk j hj with h1|h1
  ·refine .inl ?_
   rw [h1]
   exact eS hns (cY hns (fY hc)).2.2
  ·exact .inr h1
 have same:∀ c,¬ (nm≤c∧c<nm+16)→fh σ σ' up c=σ c:=by
  intro c hc
  unfold fh
  by_cases he:∃ j,(j,c)∈up
  ·obtain ⟨j,hj⟩:=he
   rw [sg1 hj]
   rcases kZ (upm.1 hj) with ⟨q1,q2⟩|⟨q1,q2,q3⟩
   ·rcases feet_sig q2 with h1|h1
    ·rw [h1]
     cases σ c <;> rfl
    ·rw [h1]
   ·omega
  ·rw [sg0 c fun j hj=>he ⟨j,hj⟩]
 have hx:Ext σ (fh σ σ' up):=by
  intro c hc
  by_cases hr:nm≤c∧c<nm+16
  ·exact absurd (hn c hr.1 hr.2) hc
  ·exact same c hr
 have hx':Ext (bx σ' up) (fh σ σ' up):=by
  intro c hc
  unfold fh
  cases hs:bx σ' up c with
  |unset=>exact absurd hs hc
  |nil=>rfl
  |«at» L=>rfl
 have rp:(!ms.isEmpty)=true→r.v.plain=true∧r.bs.all OBlk.plain=true:=by
  intro q
  have:=hplain q
  unfold Ret.plain at this
  rw [Bool.and_eq_true] at this
  exact this
 refine ⟨mI E E0 E1 (!ms.isEmpty),fh σ σ' up,gr,hx,same,?_,?_⟩
 ·exact (AV.ren_R hup hv2 (AV.env bo rfl (fun q=>(rp q).1) r1)).ext hx'
 have hcase:∀ c k,ap c M1=some k→(∃ j k0,(j,c)∈up∧ap j (iH 0 r.bs)=some k0∧r.bs[j]?=some (some k0)∧k0.ren up=some k)∨(c ∉ fs∧ap c M=some k):=by
  intro c k hck
  rcases jY hck hput with ⟨i,h1,h2⟩|⟨h1,h2⟩
  ·obtain ⟨k0,h3,h4⟩:=(mC hbs).2 i k h2
   refine .inl ⟨i,k0,upm.2 h1,?_,h3,h4⟩
   have:=nr (i:=0) h3
   simpa using this
  ·exact .inr ⟨fun hf=>h1 (List.mem_append_left _ hf),h2⟩
 have hzz:∀ g,¬ E1.fz g→¬ (mI E E0 E1 (!ms.isEmpty)).fz g:=by
  intro g h1 h2
  rcases h2 with h2|h2
  ·exact h1 (hg1.fz g (hg0.fz g h2))
  ·exact h1 h2.1
 have other:∀ c k,c ∉ fs→ap c M=some k→∀ L,σ c=.at L→E0.fz L.g:=by
  intro c k hcf hc L hL
  have hB:=hM.blk c k hc
  rw [hL] at hB
  obtain ⟨_,arr,elem,lo,hi,q1,_⟩:=hB
  refine (hE0fz _).2 ⟨iN q1,?_⟩
  rintro ⟨b,hb,L',hL',he⟩
  obtain ⟨kb,hkb⟩:=kA hfs hb
  have:=hM.inj b c kb k L' L hkb hc hL' hL he
  subst this
  exact hcf hb
 have heap':∀ g,E0.fz g→w'.heap[g]?=w.heap[g]?:=by
  intro g hg
  rw [r2.old g (hg1.fz g hg),hg1.w0 g hg,hE0w]
 have notnew:∀ c k,c ∉ fs→ap c M=some k→(∀ j,(j,c) ∉ up)∨σ c=.unset:=by
  intro c k hcf hc
  by_cases he:∃ j,(j,c)∈up
  ·obtain ⟨j,hj⟩:=he
   rcases kZ (upm.1 hj) with ⟨q1,q2⟩|⟨q1,q2,q3⟩
   ·exact absurd (List.mem_of_getElem? q2) hcf
   ·exact .inr (hn c (by omega) (by omega))
  ·exact .inl fun j hj=>he ⟨j,hj⟩
 refine { blk:=?_,inj:=?_,old:=?_,size:=?_,olds:=?_,os:=?_,tape:=?_,output:=?_ }
 ·intro c k hck
  rcases hcase c k hck with ⟨j,k0,h1,h2,h3,h4⟩|⟨h1,h2⟩
  ·have hB:=r2.blk j k0 h2
   have hp:(!ms.isEmpty)=true→k0.plain=true:=by
    intro q
    have:=(rp q).2
    rw [List.all_eq_true] at this
    exact this _ (List.mem_of_getElem? h3)
   have hB2:=Blk.ren_R hup h4 (Blk.env bo rfl hzz hp hB)
   have hne:σ' j≠.unset:=by intro e;rw [e] at hB;exact hB
   have e1:fh σ σ' up c=σ' j:=by
    rw [hx' c (by rw [sg1 h1];exact hne),sg1 h1]
   rw [e1]
   exact hB2.ext hx'
  ·have hB:=hM.blk c k h2
   have hne:σ c≠.unset:=by intro e;rw [e] at hB;exact hB
   rw [hx c hne]
   refine dk.ext hx (dk.same (w:=w) (fun L hL=>heap' _ (other c k h1 h2 L hL)) (Blk.grow gr (fun L hL hz=>?_) hB))
   have ho:=other c k h1 h2 L hL
   rcases hz with hz|hz
   ·rw [hL] at hB
    obtain ⟨_,arr,elem,lo,hi,_,_,_,q4,_⟩:=hB
    exact q4 hz
   ·exact hz.2 ho
 ·intro b c x y L L' hb hc hL hL' hg
  have newL:∀ c k,(∃ j k0,(j,c)∈up∧ap j (iH 0 r.bs)=some k0∧r.bs[j]?=some (some k0)∧k0.ren up=some k)→∀ L,fh σ σ' up c=.at L→∃ j k0,(j,c)∈up∧ap j (iH 0 r.bs)=some k0∧σ' j=.at L∧¬ E1.fz L.g:=by
   rintro c k ⟨j,k0,h1,h2,h3,h4⟩ L hL
   have hB:=r2.blk j k0 h2
   have hne:σ' j≠.unset:=by intro e;rw [e] at hB;exact hB
   have e1:fh σ σ' up c=σ' j:=by
    rw [hx' c (by rw [sg1 h1];exact hne),sg1 h1]
   rw [e1] at hL
   rw [hL] at hB
   obtain ⟨_,arr,elem,lo,hi,_,_,_,q4,_⟩:=hB
   exact ⟨j,k0,h1,h2,hL,q4⟩
  have oldL:∀ c k,c ∉ fs→ap c M=some k→∀ L,fh σ σ' up c=.at L→σ c=.at L∧E1.fz L.g:=by
   intro c k h1 h2 L hL
   have hB:=hM.blk c k h2
   have hne:σ c≠.unset:=by intro e;rw [e] at hB;exact hB
   rw [hx c hne] at hL
   exact ⟨hL,hg1.fz _ (other c k h1 h2 L hL)⟩
  rcases hcase b x hb with h1|⟨h1,h2⟩
  ·obtain ⟨j,k0,p1,p2,p3,p4⟩:=newL b x h1 L hL
   rcases hcase c y hc with h3|⟨h3,h4⟩
   ·obtain ⟨i,k1,q1,q2,q3,q4⟩:=newL c y h3 L' hL'
    have:=r2.inj j i k0 k1 L L' p2 q2 p3 q3 hg
    subst this
    have e1:=(cY hup p1).2.2
    have e2:=(cY hup q1).2.2
    rw [e1] at e2
    injection e2
   ·obtain ⟨q1,q2⟩:=oldL c y h3 h4 L' hL'
    exact absurd (hg ▸ q2) p4
  ·obtain ⟨p1,p2⟩:=oldL b x h1 h2 L hL
   rcases hcase c y hc with h3|⟨h3,h4⟩
   ·obtain ⟨i,k1,q1,q2,q3,q4⟩:=newL c y h3 L' hL'
    exact absurd (hg ▸ p2) q4
   ·obtain ⟨q1,q2⟩:=oldL c y h3 h4 L' hL'
    exact hM.inj b c x y L L' h2 h4 p1 q1 hg
 ·intro g hg
  rcases hg with hg|hg
  ·exact r2.old g (hg1.fz g (hg0.fz g hg))
  ·exact r2.old g hg.1
 ·exact r2.size
 ·intro g hg
  rcases hg with hg|hg
  ·exact r2.olds g (hg1.fz g (hg0.fz g hg))
  ·exact r2.olds g hg.1
 ·exact r2.os
 ·exact r2.tape
 ·exact r2.output
end
end
end Go.Vm
namespace Go.Vm
open Go
structure Sig1 where
 m:Nat
 nb:Nat
 spec:List AV→List Blk→Option (Prop × Ret)
structure Known (P:Program) (G:dP) (f:FuncId) (z:Sig1):Prop where
 nb:z.nb≤16
 pure:ld P G f z.m z.spec
abbrev TT:Prop:=True∧True
theorem tt:TT:=⟨trivial,trivial⟩
theorem gH {M N:Mem} (h:∀ b,ap b N=ap b M):∀ l:List Nat,bD N l=bD M l
 |[]=>rfl
 |b :: r=>by rw [bD,bD,h b,gH h r]
theorem gz:∀ (ws:List Nat) (cs:List (Option Blk)) {M N M':Mem},(∀ b,ap b N=ap b M)→bg ws cs M=some M'→∃ N',bg ws cs N=some N'∧∀ b,ap b N'=ap b M'
 |[],[],M,N,M',h,hp=>by
  simp only [bg,Option.some.injEq] at hp
  subst hp
  exact ⟨N,rfl,h⟩
 |b :: ws,c :: cs,M,N,M',h,hp=>by
  rw [bg] at hp ⊢
  refine gz ws cs (M:=put0 b c M) (fun d=>?_) hp
  cases c with
  |none=>show ap d (dE b N)=ap d (dE b M);rw [cS,cS,h d]
  |some k=>show ap d (cd b k N)=ap d (cd b k M);rw [bP,bP,h d]
 |[],_ :: _,_,_,_,_,hp=>by simp [bg] at hp
 |_ :: _,[],_,_,_,_,hp=>by simp [bg] at hp
theorem gq (ns:List Nat) (cs:List (Option Blk)):∀ {ws:List Nat} {ks:List Blk} {M:Mem},bD M ws=some ks→∃ N,(∀ b,ap b N=ap b M)∧bg (ws++ns) (ks.map some++cs) M=bg ns cs N
 |[],ks,M,h=>by
  simp only [bD,Option.some.injEq] at h
  subst h
  exact ⟨M,fun _=>rfl,rfl⟩
 |b :: ws,ks,M,h=>by
  rw [bD] at h
  split at h
  ·cases h
  rename_i k hk
  split at h
  ·cases h
  rename_i ks' hks
  simp only [Option.some.injEq] at h
  subst h
  have same:∀ d,ap d (cd b k M)=ap d M:=fun d=>by
   rw [bP]
   split
   ·rename_i e;rw [e,hk]
   ·rfl
  obtain ⟨N,h1,h2⟩:=gq ns cs (ws:=ws) (ks:=ks') (M:=cd b k M) (by rw [gH same,hks])
  exact ⟨N,fun d=>(h1 d).trans (same d),h2⟩
def nq (ps:List Pass) (ms fs:List Nat) (nb:Nat) (spec:List AV→List Blk→Option (Prop × Ret)) (args:List AV) (nm:Nat):Option Deed :=
 match is ps ms fs nb spec args nm with
 |none=>none
 |some A=>some { rd:=A.rd,wr:=(List.range nb).map (nm+·),go:=fun ks=>match A.go ks with
  |some (C,v,bs)=>some (C∧bs.take fs.length=(ks.drop ms.length).map some,v,bs.drop fs.length)
  |none=>none }
theorem lv {P:Program} {G:dP} {f:FuncId} {ps:List Pass} {ms fs:List Nat} {nb:Nat} {spec:List AV→List Blk→Option (Prop × Ret)} (h:gM P G f (is ps ms fs nb spec)):gM P G f (nq ps ms fs nb spec):=by
 intro E σ M w args Vs nm A C v M' hP hG hM hargs hn hA hrun hC
 unfold nq at hA
 split at hA
 ·cases hA
 rename_i A0 hA0
 simp only [Option.some.injEq] at hA
 subst hA
 unfold Deed.run at hrun
 simp only at hrun
 split at hrun
 ·cases hrun
 rename_i ks hks
 split at hrun
 ·cases hrun
 rename_i C1 v1 cs hgo
 split at hrun
 ·cases hrun
 rename_i M1 hput
 simp only [Option.some.injEq,Prod.mk.injEq] at hrun
 obtain ⟨rfl,rfl,rfl⟩:=hrun
 split at hgo
 rotate_left
 ·cases hgo
 rename_i C0 v0 bs hgo0
 simp only [Option.some.injEq,Prod.mk.injEq] at hgo
 obtain ⟨rfl,rfl,rfl⟩:=hgo
 have hw:A0.rd=ms++fs∧A0.wr=fs++(List.range nb).map (nm+·):=by
  unfold is at hA0
  cases hck:cm (dl fs) big && cm (upN fs nm nb) big && ms.all (fun b=>!fs.any (Nat.beq b))
  ·simp [hck] at hA0
  simp only [hck,cond_true,Option.some.injEq] at hA0
  subst hA0
  exact ⟨rfl,rfl⟩
 have hks':=hks
 rw [hw.1] at hks'
 obtain ⟨_,hfs⟩:=eT hks'
 have hb:bs=(ks.drop ms.length).map some++bs.drop fs.length:=by rw [← hC.2,List.take_append_drop]
 obtain ⟨N,hN,e⟩:=gq ((List.range nb).map (nm+·)) (bs.drop fs.length) hfs
 obtain ⟨N',hN',hl⟩:=gz _ _ hN hput
 have run:A0.run M=some (C0,v0,N'):=by
  unfold Deed.run
  rw [hks]
  simp only
  rw [hgo0]
  simp only
  rw [hw.2,hb,e,hN']
 refine (h E σ M w args Vs nm A0 C0 v0 N' hP hG hM hargs hn hA0 run hC.1).mono ?_
 rintro V w' ⟨E',σ',q1,q2,q3,q4,q5⟩
 exact ⟨E',σ',q1,q2,q3,q4,q5.less fun b k hb=>by rw [hl b];exact hb⟩
structure Site where
 f:FuncId
 nm:Nat
 ps:List Pass
 ms:List Nat
 fs:List Nat
 z:Sig1
 see:Bool
abbrev Lib:=List Site
def lN:Lib→Tab
 |[],_,_,_=>none
 |x :: r,f,args,nm=>bif Nat.beq x.f f && Nat.beq x.nm nm then (bif Nat.beq x.fs.length x.z.m then (bif x.see then nq x.ps x.ms x.fs x.z.nb x.z.spec args nm else is x.ps x.ms x.fs x.z.nb x.z.spec args nm) else none) else lN r f args nm
def iU (P:Program) (G:dP):Lib→Prop
 |[]=>True
 |x :: r=>Known P G x.f x.z∧iU P G r
theorem qL {P:Program} {G:dP}:∀ {l:Lib},iU P G l→gu P G (lN l)
 |[],_,f,args,nm,A,hA=>by simp [lN] at hA
 |x :: r,h,f,args,nm,A,hA=>by
  unfold lN at hA
  cases hb:Nat.beq x.f f && Nat.beq x.nm nm
  ·rw [hb] at hA
   exact qL h.2 f args nm A hA
  ·rw [hb,cond_true] at hA
   cases hm:Nat.beq x.fs.length x.z.m
   ·rw [hm] at hA;cases hA
   ·rw [hm,cond_true] at hA
    rw [Bool.and_eq_true] at hb
    have e1:=Nat.eq_of_beq_eq_true hb.1
    have e2:=Nat.eq_of_beq_eq_true hm
    subst e1
    have h0:gM P G x.f (is x.ps x.ms x.fs x.z.nb x.z.spec):=jJ h.1.nb (e2 ▸ h.1.pure)
    cases hs:x.see
    ·rw [hs,cond_false] at hA
     exact ⟨_,h0,hA⟩
    ·rw [hs,cond_true] at hA
     exact ⟨_,lv h0,hA⟩
def noG:dP:=fun _=>none
variable {B:Bs} {E:Env} {U:Nat} {s:St} {Q:dH}
theorem Tri.seq_region {id:Nat} {ops:Array Oper} {draw:Bool} {d:Code} (hints:List (Nat × AV)) (ms:Option (List Nat)) (kf km:List Nat) (C:Prop) (s':St) (U':Nat) (h:lw B hints U ops ms kf km s=some (C,s')) (hd:ms.isSome=draw)
  (hU:Nat.ble (U+16*ops.size) U'=true) (hC:C) (hq:Tri B E d U' s' Q):Tri B E (.seq (.region id ops draw) d) U s Q :=
 Tri.seq (Tri.region (Q:=ol B E d Q) h hd hU hC hq)
theorem Tri.region' {id:Nat} {ops:Array Oper} {draw:Bool} (hints:List (Nat × AV)) (ms:Option (List Nat)) (kf km:List Nat) (C:Prop) (s':St) (U':Nat) (h:lw B hints U ops ms kf km s=some (C,s')) (hd:ms.isSome=draw)
  (hU:Nat.ble (U+16*ops.size) U'=true) (hC:C) (hq:Q .normal U' s'):Tri B E (.region id ops draw) U s Q :=
 Tri.region h hd hU hC hq
abbrev qb (x:Bool):AV:=.sc (.b x)
abbrev qi (x:Int):AV:=.sc (.i .i64 x)
def jq (U0 n k:Nat) (st':St) (J':Prop) (Q:dH):dH
 |.normal,U,s=>k<n∧J'∧Sub U s U0 st'
 |e,U,s=>Q e U s
theorem Tri.count {α:Type} {c:Code} (U0:Nat) (n:Nat) (f:Nat→α→α) (x0:α) (J:Nat→α→Prop) (st:Nat→α→St) (hJ:J 0 x0) (h0:Sub U s U0 (st 0 x0))
  (gG:∀ k x,k≤n→x=itr f k x0→J k x→Tri B E c U0 (st k x) (jq U0 n k (st (k+1) (f k x)) (J (k+1) (f k x)) Q)):Tri B E (.loop c) U s Q:=by
 refine Tri.loop (U0:=U0) (fun k=>n-k) (fun k=>k≤n∧J k (itr f k x0)) (fun k=>st k (itr f k x0)) 0 ⟨Nat.zero_le _,by show J 0 (itr f 0 x0);rw [dN];exact hJ⟩ (by show Sub U s U0 (st 0 (itr f 0 x0));rw [dN];exact h0) ?_
 rintro k ⟨h1,h2⟩
 refine (gG k _ h1 rfl h2).mono ?_
 intro e U' s' hq
 cases e with
 |normal =>
  obtain ⟨q1,q2,q3⟩:=hq
  exact ⟨k+1,(by show n-(k+1)<n-k;omega),⟨by omega,by show J (k+1) (itr f (k+1) x0);rw [cy];exact q2⟩,by show Sub _ _ U0 (st (k+1) (itr f (k+1) x0));rw [cy];exact q3⟩
 |exit id=>exact hq
 |goto l=>exact hq
 |ret=>exact hq
 |panic ch=>exact hq
 |outgrown=>exact hq
def bY (S:Nat→Bool):Nat→Nat
 |0=>0
 |n+1=>bif Nat.blt (bY S n) n then bY S n else bif S n then n else n+1
theorem bR {k n:Nat} (h:k<n):Nat.blt k n=true:=by rw [Nat.blt_eq];exact h
theorem ef (n:Nat):Nat.blt n n=false:=by
 cases h:Nat.blt n n
 ·rfl
 ·rw [Nat.blt_eq] at h
  exact absurd h (Nat.lt_irrefl n)
theorem el {S:Nat→Bool}:∀ {n:Nat},(∀ j,j<n→S j=false)→bY S n=n
 |0,_=>rfl
 |n+1,h=>by
  rw [bY,el (fun j hj=>h j (by omega)),ef,h n (by omega)]
  rfl
theorem bM {S:Nat→Bool} {k:Nat}:∀ {n:Nat},k<n→(∀ j,j<k→S j=false)→S k=true→bY S n=k
 |0,h,_,_=>absurd h (by omega)
 |n+1,h,hl,hk=>by
  by_cases hn:k<n
  ·rw [bY,bM hn hl hk,bR hn];rfl
  ·have e:k=n:=by omega
   subst e
   rw [bY,el hl,ef,hk];rfl
theorem lc (S:Nat→Bool):∀ n,bY S n≤n
 |0=>Nat.le_refl _
 |n+1=>by
  rw [bY]
  cases h:Nat.blt (bY S n) n
  ·cases S n <;> simp
  ·have:=lc S n;simp only [cond_true];omega
theorem dC {S:Nat→Bool} {k:Nat} (h:∀ j,j<k→S j=false) (hk:S k=false):∀ j,j<k+1→S j=false:=by
 intro j hj
 by_cases e:j=k
 ·subst e;exact hk
 ·exact h j (by omega)
theorem br {id:Nat} (h:Q .normal U s):pC id Q .normal U s:=h
theorem Sub.freeze {fr:Fr} {M:Mem} {U:Nat} (t b off len n:Nat) (cap:Option Nat) (k:IntKind) (xs:List Int) (ht:ap t fr=some (.sc (.sl b off len 1 cap))) (hM:ap b M=some (.ints k n xs)) (hle:off+len≤n) :
  Sub U (fr,M) U (cd t (.sc (.ro k (dY xs n off len))) fr,dE b M):=by
 rintro E n' a w ⟨E1,hg,σ,h1,h2,h3,h4⟩
 have hB:=h1.blk b _ hM
 have hgood:xs.length=n:=ip h1.toMemR hM
 have hlen:((xs.drop off).take len).length=len:=by simp;omega
 have less:∀ c k',ap c (dE b M)=some k'→c≠b∧ap c M=some k':=by
  intro c k' hc
  rw [cS] at hc
  split at hc
  ·cases hc
  ·rename_i e;exact ⟨e,hc⟩
 cases hL:σ b with
 |unset=>rw [hL] at hB;exact hB.elim
 |nil =>
  rw [hL] at hB
  have hn:n=0:=hB.1
  refine ⟨E1,hg,σ,?_,h2,h3,h4⟩
  refine { val:=fun t' v hv=>?_,defers:=h1.defers,tmps:=h1.tmps,toMemR:=MemR.less h1.toMemR fun c k' hc=>(less c k' hc).2 }
  simp only [bP] at hv
  split at hv
  ·rename_i e
   subst e
   injection hv with hv
   subst hv
   obtain ⟨V,q1,q2⟩:=h1.val _ _ ht
   refine ⟨V,q1,?_⟩
   show RoR E1 k (dY xs n off len) V
   rw [fF hgood]
   rcases q2 with ⟨e1,_,A,rfl⟩|⟨L,c,e1,_⟩
   ·subst e1
    exact ⟨A,0,by simp,by simp,by simp⟩
   ·rw [hL] at e1;cases e1
  ·exact h1.val _ _ hv
 |«at» L =>
  rw [hL] at hB
  obtain ⟨g1,arr,elem,lo,hi,p1,p2,p3,p4,p5,p6⟩:=hB
  have hinj:∀ c k' L',c≠b→ap c M=some k'→σ c=.at L'→L'.g≠L.g:=fun c k' L' hne hc hL' he=>hne (h1.inj c b k' _ L' L hc hM hL' hL he)
  let E2:Env:={ P:=E1.P,w0:=w,old:=fun g=>E1.old g∨g=L.g,fz:=fun g=>E1.fz g∨g=L.g,sub:=fun g h=>h.elim (fun h=>.inl (E1.sub g h)) .inr,kp:=E1.kp }
  have gr:Grow E1 E2 :=
   {P:=rfl,old:=fun g h=>.inl h,fz:=fun g h=>.inl h,w0:=fun g h=>h1.old g h
    new:=fun g h=>by
     rcases h with h|h
     ·exact .inl h
     ·subst h;exact .inr p4
    size:=h1.size,os:=h1.os,tape:=h1.tape,output:=h1.output }
  refine ⟨E2,hg.trans gr,σ,?_,h2,h3,h4⟩
  refine { val:=fun t' v hv=>?_,defers:=h1.defers,tmps:=h1.tmps,blk:=fun c k' hc=>?_,inj:=fun c d x y L1 L2 hc hd=>h1.inj c d x y L1 L2 (less c x hc).2 (less d y hd).2,old:=fun _ _=>rfl,size:=Nat.le_refl _,olds:=fun g hg=>?_,os:=rfl,tape:=rfl,output:=rfl }
  ·simp only [bP] at hv
   split at hv
   ·rename_i e
    subst e
    injection hv with hv
    subst hv
    obtain ⟨V,q1,q2⟩:=h1.val _ _ ht
    refine ⟨V,q1,?_⟩
    show RoR E2 k (dY xs n off len) V
    rw [fF hgood]
    rcases q2 with ⟨e1,_,A,rfl⟩|⟨L',c,e1,rfl,e2,e3,e4⟩
    ·subst e1
     exact ⟨A,0,by simp,by simp,by simp⟩
    ·rw [hL] at e1
     injection e1 with e1
     subst e1
     refine ⟨some ⟨L.g,L.β+off,none⟩,c,by rw [hlen],by rw [hlen];exact e2,fun _=>⟨_,rfl,.inr rfl,fun j hj=>?_⟩⟩
     rw [hlen] at hj
     have hget:xs[off+j]?=some (xs.getD (off+j) 0):=by
      rw [List.getD_eq_getElem?_getD,List.getElem?_eq_getElem (by omega)];rfl
     obtain ⟨v,e5,e6⟩:=p6 (off+j) (.i k (xs.getD (off+j) 0)) (by show (xs[off+j]?).map _=_;rw [hget];rfl)
     simp only [ScR] at e6
     subst e6
     have:((xs.drop off).take len).getD j 0=xs.getD (off+j) 0:=by
      simp [List.getD_eq_getElem?_getD,List.getElem?_take,List.getElem?_drop,hj]
     rw [this,cI]
     show w.cell? _=_
     have hlt:L.β+off+j<L.sz:=by have:=p3;simp only [Blk.len] at this;omega
     have:=p5.1 (L.β+off+j) hlt
     simp [World.cell?,p1,this]
     rw [Nat.add_assoc]
     exact e5
   ·obtain ⟨V,q1,q2⟩:=h1.val _ _ hv
    exact ⟨V,q1,q2.grow gr⟩
  ·obtain ⟨hne,hc'⟩:=less c k' hc
   refine Blk.grow gr (fun l hl hz=>?_) (h1.blk c k' hc')
   rcases hz with hz|hz
   ·have hB':=h1.blk c k' hc'
    rw [hl] at hB'
    obtain ⟨_,_,_,_,_,_,_,_,q4,_⟩:=hB'
    exact q4 hz
   ·exact hinj c k' l hne hc' hl hz
  ·rcases hg with hg|hg
   ·exact Nat.lt_of_lt_of_le (h1.olds g hg) h1.size
   ·subst hg;exact iN p1
theorem bc {U0 n k:Nat} {st':St} {J':Prop} (h1:k<n) (h2:J') (h3:Sub U s U0 st'):jq U0 n k st' J' Q .normal U s:=⟨h1,h2,h3⟩
theorem Tri.split {c:Code} (x:Bool) (ht:x=true→Tri B E c U s Q) (hf:x=false→Tri B E c U s Q):Tri B E c U s Q:=by
 cases x
 ·exact hf rfl
 ·exact ht rfl
theorem ij.ret {P:Program} {rs:List ResultVar} {m:Nat} {r:Ret} (ns:Ren) (C:Prop) (h1:(cm ns r.bs.length && ey ns m)=true) (h3:fq P rs ns r.bs.length s=some (C,r)) (h4:C):ij P rs m r .ret U s:=⟨ns,C,h1,h3,h4⟩
theorem ij.conv {P:Program} {rs:List ResultVar} {m:Nat} {r r':Ret} (h:r=r') (h2:ij P rs m r' .ret U s):ij P rs m r .ret U s:=h ▸ h2
theorem Known.walk {f:FuncId} {fn:Func} {c:Code} {z:Sig1} (hok:B.Ok) (hf:B.P.funcs[f]?=some fn) (hb:fn.body=some c) (hn:(fn.name != "runtime.NumGoroutine")=true) (hnt:fn.ntmps=B.n) (hnb:z.nb≤16) (hm:z.m≤16)
  (h:∀ (E:Env) (args:List AV) (ks:List Blk) (C:Prop) (r:Ret),z.spec args ks=some (C,r)→C→cl args→args.length≤B.n∧Tri B E c 16 ((List.range args.length).zip args,jL 0 ks) (ij B.P fn.results.toList z.m r)):Known B.P B.G f z :=
 ⟨hnb,ld.of_walk hok hf hb hn hnt hm h⟩
theorem Known.same {P:Program} {G:dP} {f:FuncId} {z z':Sig1} (h:Known P G f z) (hnb:z'.nb≤16) (hm:z'.m=z.m) (hs:∀ vs ks C r,z'.spec vs ks=some (C,r)→C→∃ C',z.spec vs ks=some (C',r)∧C'):Known P G f z' :=
 ⟨hnb,fun E w args ks Vs C r h1 h2 h3 h4 h5 h6 h7 h8=>by
  obtain ⟨C',h9,h10⟩:=hs args ks C r h7 h8
  have:=h.pure E w args ks Vs C' r h1 h2 (h3.trans hm) (fun j hj=>h4 j (by omega)) h5 h6 h9 h10
  rw [hm]
  exact this⟩
def orS (s1 s2:List AV→List Blk→Option (Prop × Ret)):List AV→List Blk→Option (Prop × Ret):=fun a b=>match s1 a b with
 |some x=>some x
 |none=>s2 a b
theorem Known.or {P:Program} {G:dP} {f:FuncId} {m nb:Nat} {s1 s2:List AV→List Blk→Option (Prop × Ret)} (h1:Known P G f ⟨m,nb,s1⟩) (h2:Known P G f ⟨m,nb,s2⟩):Known P G f ⟨m,nb,orS s1 s2⟩ where
 nb:=h1.nb
 pure:=fun E w args ks Vs C r hP hG hk hkp hM ha h hC=>by
  simp only [orS] at h
  split at h
  ·rename_i x hx;cases h;exact h1.pure E w args ks Vs C r hP hG hk hkp hM ha hx hC
  ·exact h2.pure E w args ks Vs C r hP hG hk hkp hM ha h hC
theorem bf {a b:Int} (h:(a==b)=true):a=b:=by simpa using h
theorem bX {a b:Int} (h:(a==b)=false):a≠b:=by simpa using h
theorem dO {a b:Int} (h:(a != b)=true):a≠b:=by simpa using h
theorem dB {a b:Int} (h:(a != b)=false):a=b:=by simpa using h
theorem cV {x:Int} (h:-9223372036854775808≤x) (h':x<9223372036854775808):IntKind.wrap .i64 x=x:=by
 unfold IntKind.wrap
 simp only [IntKind.signed,IntKind.bits,if_true,Bool.true_and]
 split <;> rename_i hc <;> simp at hc ⊢ <;> omega
theorem nx {a b:Nat} (h:a+b<9223372036854775808):cO .i64 (a:Int) (b:Int)=((a+b:Nat):Int):=by
 unfold cO;rw [cV (by omega) (by omega)];omega
theorem oV {a b:Nat} (h:a<9223372036854775808):qT .i64 (a:Int) (b:Int)=((a/b:Nat):Int):=by
 unfold qT
 have:Int.tdiv (a:Int) (b:Int)=((a/b:Nat):Int):=by rfl
 have h2:a/b≤a:=Nat.div_le_self a b
 generalize a/b=d at this h2
 rw [this,cV (by omega) (by omega)]
theorem Tri.len {B:Bs} {E:Env} {c:Code} {U:Nat} {s:St} {Q:dH} (b:Nat) {k:IntKind} {n:Nat} {xs:List Int} (h:ap b s.2=some (.ints k n xs)) (q:xs.length=n→Tri B E c U s Q):Tri B E c U s Q:=by
 intro hB a w g
 have g0:=g
 obtain ⟨E',hg',σ,h1,h2⟩:=g
 have hb:=h1.toMemR.blk b _ h
 have hg:xs.length=n:=by
  cases hs:σ b with
  |unset=>rw [hs] at hb;cases hb
  |nil=>rw [hs] at hb;exact hb.2
  |«at» L=>rw [hs] at hb;exact hb.1
 exact q hg hB a w g0
theorem cN {xs:List Int} {n off len B:Nat} (h1:len≤B) (h2:xs.length≤B):(dY xs n off len).length≤B:=by
 unfold dY
 cases Nat.beq len n && Nat.beq off 0
 ·simp only [cond_false,List.length_take,List.length_drop];omega
 ·exact h2
end Go.Vm
namespace Go.Vm
open Go
theorem oo (x:Int):IntKind.wrap .u64 x=x % 18446744073709551616:=by
 simp [IntKind.wrap,IntKind.signed,IntKind.bits]
theorem eK (x:Int):IntKind.wrap .u32 x=x % 4294967296:=by
 simp [IntKind.wrap,IntKind.signed,IntKind.bits]
theorem iJ (x:Int):IntKind.wrap .u8 x=x % 256:=by
 simp [IntKind.wrap,IntKind.signed,IntKind.bits]
theorem jQ (x:Int):0≤IntKind.wrap .u64 x:=by rw [oo];omega
theorem cw (x y:Int):0≤fB .u64 x y:=jQ _
theorem cu (x y:Int):0≤fS .u64 x y:=jQ _
theorem gD {x y:Int} (h:-9223372036854775808≤x+y) (h':x+y<9223372036854775808):cO .i64 x y=x+y:=cV h h'
theorem jH {x y:Int} (h:-9223372036854775808≤x-y) (h':x-y<9223372036854775808):fS .i64 x y=x-y:=cV h h'
theorem cf {x y:Int} (h:-9223372036854775808≤x*y) (h':x*y<9223372036854775808):rE .i64 x y=x*y:=cV h h'
theorem jz (k:IntKind) (x:Int) (n:Nat) (h:n≤k.bits):dz k x (n:Int)=x/2 ^ n:=by
 unfold dz
 have:min ((n:Int)).toNat k.bits=n:=by simp;omega
 rw [this]
 exact Int.fdiv_eq_ediv_of_nonneg _ (by exact Int.le_of_lt (Int.pow_pos (by omega)))
theorem pw (k:IntKind) (x:Int) (n:Nat) (h:n≤k.bits):gR k x (n:Int)=k.wrap (x*2 ^ n):=by
 unfold gR
 have:min ((n:Int)).toNat k.bits=n:=by simp;omega
 rw [this]
where
 pow_dvd {n m:Nat} (h:n≤m):(2:Int) ^ n ∣ 2 ^ m:=⟨2 ^ (m-n),by rw [← Int.pow_add];congr 1;omega⟩
end Go.Vm
namespace Go.Vm
open Go
def E0 (P:Program) (w:World):Env:={ P:=P,w0:=w,old:=fun g=>g<w.heap.size,fz:=fun g=>g<w.heap.size,sub:=fun _ h=>h,kp:=fun _=>.unset }
theorem mG {w:World} {a:Addr} {v:Value} (h:w.cell? a=some v):a.block<w.heap.size:=by
 unfold World.cell? at h
 cases hb:w.heap[a.block]? with
 |none=>simp [hb] at h
 |some o=>exact (Array.getElem?_eq_some_iff.1 hb).1
theorem qn {P:Program} {σ:Sig} {k:IntKind} {w:World} {a:Option Addr} {len cap:Nat} {zs:List Int}
  (h:(a=none∧len=0∧cap=0∧zs=[])∨∃ x,a=some x∧len≤cap∧cap≤maxLen∧zs.length=cap∧(∀ i,i<zs.length→w.cell? (x.add i)=some (.int k (zs.getD i 0)))∧∀ n∈zs,(Lit.int k n).wf=true) :
  AVR (E0 P w) σ (.sc (.ro k (zs.take len))) (.slice a len cap):=by
 rcases h with ⟨rfl,rfl,rfl,rfl⟩|⟨x,rfl,h1,h2,h3,h4,_⟩
 ·exact ⟨none,0,rfl,by simp,by simp⟩
 ·have hl:(zs.take len).length=len:=by simp;omega
  refine ⟨some x,cap,by rw [hl],by rw [hl];exact h1,fun hp=>⟨x,rfl,?_,fun j hj=>?_⟩⟩
  ·have:=mG (h4 0 (by omega))
   rw [cq] at this
   exact this
  ·rw [hl] at hj
   show w.cell? _=_
   rw [h4 j (by omega)]
   simp [List.getD_eq_getElem?_getD,List.getElem?_take,hj]
theorem calls_true {P:Program} {f:FuncId} {z:Sig1} (h:Known P noG f z) (hf:fv P f=true) (w:World) (args:List AV) (Vs:Array Value) (C:Prop) (b:Bool) (ha:cW (AVR (E0 P w) fun _=>.unset) args Vs.toList)
  (hm:z.m=0) (hs:z.spec args []=some (C,⟨.sc (.b b),[]⟩)) (hC:C) (hb:b=true):Calls P f Vs w fun e w'=>e=.returned (.bool true)∧Go.RowKit.Below w.heap.size w w':=by
 have hM:MemR (E0 P w) (fun _=>.unset) [] w :=
  {blk:=fun b k hb=>by cases hb
   inj:=fun b c x y L L' hb=>by cases hb
   old:=fun _ _=>rfl
   size:=Nat.le_refl _
   olds:=fun _ h=>h
   os:=rfl
   tape:=rfl
   output:=rfl }
 have hG:ck (E0 P w) noG:=fun g k xs hg=>by cases hg
 rcases h.pure (E0 P w) w args [] Vs C _ rfl hG hm.symm (fun _ _=>rfl) hM ha hs hC with ⟨_,h1⟩|⟨V,w',h1,_⟩
 ·refine h1.mono fun e w' ⟨V,he,E',σ',hg,_,h2,h3⟩=>?_
  have h4:V=.bool b:=h2
  subst h4 hb
  exact ⟨he,h3.os.trans hg.os,h3.tape.trans hg.tape,h3.output.trans hg.output,Nat.le_trans hg.size h3.size,fun k hk=>(h3.old k (hg.fz k hk)).trans (hg.w0 k hk)⟩
 ·rw [fo hf] at h1
  cases h1
end Go.Vm
namespace Go.Vm
open Go
section
variable {H:Type} {enc:TypeId × Value→H} {P:Program} {w:World} {base:Nat} {spare:Nat→Bool} {held:Bool}
end
def oY (k:IntKind) (w:World) (a:Option Addr) (len cap:Nat) (zs:List Int):Prop :=
 (a=none∧len=0∧cap=0∧zs=[]) ∨
 ∃ x,a=some x∧len≤cap∧cap≤maxLen∧zs.length=cap∧(∀ i,i<zs.length→w.cell? (x.add i)=some (.int k (zs.getD i 0)))∧∀ n∈zs,(Lit.int k n).wf=true
theorem oY.fits {k:IntKind} {w:World} {a:Option Addr} {len cap:Nat} {zs:List Int} (h:oY k w a len cap zs) (n:Nat):∀ x∈zs.take n,k.min≤x∧x≤k.max:=by
 intro x hx
 have hm:=List.mem_of_mem_take hx
 rcases h with ⟨_,_,_,rfl⟩|⟨_,_,_,_,_,_,hw⟩
 ·cases hm
 ·exact (Lit.wf_int_iff _ _).1 (hw x hm)
theorem mV {α:Type} {d:α} {Q:Nat→α→Prop}:∀ {n:Nat},(∀ i,i<n→∃ y,Q i y)→∃ zs:List α,zs.length=n∧∀ i,i<n→Q i (zs.getD i d)
 |0,_=>⟨[],rfl,fun i hi=>absurd hi (Nat.not_lt_zero i)⟩
 |n+1,h=>by
  obtain ⟨zs,h1,h2⟩:=mV (d:=d) (n:=n) fun i hi=>h i (by omega)
  obtain ⟨y,hy⟩:=h n (by omega)
  refine ⟨zs++[y],by simp [h1],fun i hi=>?_⟩
  rw [List.getD_eq_getElem?_getD]
  by_cases e:i<n
  ·rw [List.getElem?_append_left (by omega),← List.getD_eq_getElem?_getD]
   exact h2 i e
  ·have e2:i=n:=by omega
   subst e2
   rw [List.getElem?_append_right (by omega),h1,Nat.sub_self]
   exact hy
def rQ (w:World) (a:Option Addr) (len cap:Nat) (zs:List (List Int)):Prop :=
 (a=none∧len=0∧cap=0∧zs=[]) ∨
 ∃ x,a=some x∧len≤cap∧cap≤maxLen∧zs.length=len∧∀ i,i<len→∃ a' l' c' z',w.cell? (x.add i)=some (.slice a' l' c')∧oY .u8 w a' l' c' z'∧zs.getD i []=z'.take l'
theorem rQ.fits {w:World} {a:Option Addr} {len cap:Nat} {zs:List (List Int)} (h:rQ w a len cap zs):∀ y∈zs,∀ x∈y,IntKind.min .u8≤x∧x≤IntKind.max .u8:=by
 rcases h with ⟨_,_,_,rfl⟩|⟨_,_,h1,h2,h3,h4⟩
 ·exact fun y hy=>by cases hy
 ·intro y hy
  obtain ⟨i,hi⟩:=List.getElem?_of_mem hy
  have hlt:=(List.getElem?_eq_some_iff.1 hi).1
  obtain ⟨a',l',c',z',_,q2,q3⟩:=h4 i (by omega)
  rw [List.getD_eq_getElem?_getD,hi] at q3
  simp only [Option.getD_some] at q3
  subst q3
  exact q2.fits l'
section
variable {H:Type} {enc:TypeId × Value→H} {P:Program} {w:World} {base:Nat} {held:Bool}
theorem lm {t e:TypeId} {k:IntKind} {zs:List Int} {l:Nat} {d:DataW H} {p p':List MemPlace} (ht:P.underlying t=some (.slice e)) (hb:0<P.bytesOf e) (hx:(d,p)=(.slice (Go.ChangeShapes.lits k (zs.take l)) (Go.ChangeShapes.lits k (zs.drop l)),p'))
  (hq:∀ n∈d.weights P t,n≤reachBytes):zs.length≤140737488351232:=by
 obtain rfl:=congrArg Prod.fst hx
 have h:=hq ((Go.ChangeShapes.lits (H:=H) k (zs.take l)).length+(Go.ChangeShapes.lits (H:=H) k (zs.drop l)).length |> (·*P.bytesOf e)) (by simp [DataW.weights,ht])
 simp only [Go.ChangeShapes.lits,List.length_map,List.length_take,List.length_drop] at h
 have h2:min l zs.length+(zs.length-l)=zs.length:=by omega
 rw [h2] at h
 have h3:zs.length*1≤zs.length*P.bytesOf e:=Nat.mul_le_mul_left _ hb
 have h4:reachBytes=140737488351232:=by decide
 omega
theorem iA {e:TypeId}:∀ {l:List (DataW H)} {d:DataW H},d∈l→∀ n∈d.weights P e,n∈DataW.weightsAll P e l
 |x :: l,d,h,n,hn=>by
  simp only [DataW.weightsAll,List.mem_append]
  rcases List.mem_cons.1 h with rfl|h
  ·exact .inl hn
  ·exact .inr (iA h n hn)
end
def rW (w:World) (a:Option Addr) (len cap:Nat) (zs:List ByteArray):Prop :=
 (a=none∧len=0∧cap=0∧zs=[]) ∨
 ∃ x,a=some x∧len≤cap∧cap≤maxLen∧zs.length=cap∧(∀ i,i<zs.length→w.cell? (x.add i)=some (.string (zs.getD i ByteArray.empty)))∧∀ s∈zs,s.size≤maxLen
theorem rW.fits {w:World} {a:Option Addr} {len cap:Nat} {zs:List ByteArray} (h:rW w a len cap zs) (n:Nat):(zs.take n).length≤maxLen∧∀ y∈zs.take n,y.size≤maxLen:=by
 rcases h with ⟨_,_,_,rfl⟩|⟨_,_,h1,h2,h3,h4,h5⟩
 ·simp
 ·refine ⟨by simp only [List.length_take];omega,fun y hy=>h5 y (List.mem_of_mem_take hy)⟩
end Go.Vm
namespace Go.Vm
open Go
section
variable {H:Type} {enc:TypeId × Value→H} {P:Program} {w:World} {base:Nat} {spare:Nat→Bool} {held:Bool}
end
structure LaidI (P:Program) where
 name:String
 g:Nat
 t:TypeId
 e:TypeId
 k:IntKind
 zs:List Int
def LaidI.ok {P:Program} (x:LaidI P):Prop:=P.globalNamed x.name=some x.g∧(P.globals[x.g]?).map (·.type)=some x.t∧P.underlying x.t=some (.array x.zs.length x.e)∧P.underlying x.e=some (.int x.k)∧P.cellsOf x.e=1∧P.cellsOf x.t=x.zs.length
end Go.Vm
namespace Go.Vm
open Go
theorem oc {E:Env} {σ:Sig} {V:Value} (k:IntKind) (h:ScR E σ .nils V):ScR E σ (.ro k []) V:=⟨none,0,h,Nat.le_refl _,fun h=>absurd h (Nat.lt_irrefl _)⟩
theorem Sub.nilRo {U:Nat} {fr:Fr} {M:Mem} (t:Nat) (k:IntKind) (ht:ap t fr=some (.sc .nils)):Sub U (fr,M) U (cd t (.sc (.ro k [])) fr,M):=by
 refine Sub.of1 ?_
 rintro E κ n a w ⟨σ,h1,h2⟩
 refine ⟨σ,{ val:=fun t' v hv=>?_,defers:=h1.defers,tmps:=h1.tmps,toMemR:=h1.toMemR },h2⟩
 simp only [bP] at hv
 split at hv
 ·rename_i e
  subst e
  cases hv
  obtain ⟨V,q1,q2⟩:=h1.val _ _ ht
  exact ⟨V,q1,oc (σ:=σ) k q2⟩
 ·exact h1.val _ _ hv
theorem Sub.nilCell {U : Nat} {fr : Fr} {M : Mem} {l : List Sc} (b j : Nat) (k : IntKind) (hb : ap b M = some (.cells l)) (hj : l[j]? = some .nils) : Sub U (fr, M) U (fr, cd b (.cells (l.set j (.ro k []))) M) := by
  refine Sub.of1 ?_
  rintro E κ n a w ⟨σ, h1, h2⟩
  have key : ∀ L, dk E σ w (.cells l) L → dk E σ w (.cells (l.set j (.ro k []))) L := by
    intro L hB
    cases L with
    | unset => exact hB
    | nil => exact ⟨by simpa [Blk.len] using hB.1, trivial⟩
    | «at» L =>
      obtain ⟨g1, arr, elem, lo, hi, p1, p2, p3, p4, p5, p6⟩ := hB
      refine ⟨trivial, arr, elem, lo, hi, p1, p2, by simpa [Blk.len] using p3, p4, p5, fun i s hs => ?_⟩
      simp only [Blk.get?] at hs
      by_cases e : i = j
      · subst e
        rw [List.getElem?_set_self (by rw [List.getElem?_eq_some_iff] at hj; exact hj.1)] at hs
        cases hs
        obtain ⟨v, q1, q2⟩ := p6 i _ hj
        exact ⟨v, q1, oc k q2⟩
      · rw [List.getElem?_set_ne (Ne.symm e)] at hs
        exact p6 i s hs
  refine ⟨σ, { toFrR := h1.toFrR, tmps := h1.tmps, toMemR := ?_ }, h2⟩
  have less : ∀ c x, ap c (cd b (Blk.cells (l.set j (.ro k []))) M) = some x → (c = b ∧ x = .cells (l.set j (.ro k []))) ∨ ap c M = some x := by
    intro c x hc
    rw [bP] at hc
    split at hc
    · rename_i e; exact .inl ⟨e, by cases hc; rfl⟩
    · exact .inr hc
  exact { blk := fun c x hc => by
            rcases less c x hc with ⟨rfl, rfl⟩ | hc
            · exact key _ (h1.blk _ _ hb)
            · exact h1.blk c x hc
          inj := fun c d x y L L' hc hd => by
            have f : ∀ c x, ap c (cd b (Blk.cells (l.set j (.ro k []))) M) = some x → ∃ x', ap c M = some x' := by
              intro c x hc
              rcases less c x hc with ⟨rfl, rfl⟩ | hc
              · exact ⟨_, hb⟩
              · exact ⟨_, hc⟩
            obtain ⟨x', hx⟩ := f c x hc
            obtain ⟨y', hy⟩ := f d y hd
            exact h1.inj c d x' y' L L' hx hy
          old := h1.old, size := h1.size, olds := h1.olds, os := h1.os, tape := h1.tape, output := h1.output }
end Go.Vm
namespace Go.Vm
open Go
section
variable {E:Env} {σ:Sig} {M:Mem} {w:World}
def fb (o:Nat):Pl→Pl
 |.at L=>.at { L with β:=L.β+o }
 |x=>x
theorem dk.shift {k:Blk} {p:Pl} (h:dk E σ w k p) {o:Nat} (ho:o≤k.len):dk E σ w (k.from o) (fb o p):=by
 cases p with
 |unset=>exact h
 |nil =>
  obtain ⟨f1,f2,_⟩:=Blk.from_get h.2 o
  exact ⟨by rw [f2];have:=h.1;omega,f1⟩
 |«at» L =>
  obtain ⟨g1,arr,elem,lo,hi,p1,p2,p3,p4,p5,p6⟩:=h
  obtain ⟨f1,f2,f3⟩:=Blk.from_get g1 o
  refine ⟨f1,arr,elem,lo,hi,p1,p2,by rw [f2];show L.β+o+_≤L.sz;omega,p4,p5,fun j s hs=>?_⟩
  rw [f3] at hs
  obtain ⟨v,q1,q2⟩:=p6 _ _ hs
  exact ⟨v,by show arr[L.β+o+j]?=_;rw [Nat.add_assoc];exact q1,q2⟩
theorem MemR.add {b:Nat} {p:Pl} {k:Blk} {M':Mem} (h:MemR E σ M w) (hn:σ b=.unset) (hsub:∀ c x,ap c M'=some x→ap c M=some x) (hB:dk E σ w k p)
  (hinj:∀ L,p=.at L→∀ c x L',ap c M'=some x→σ c=.at L'→L'.g≠L.g):MemR E (upd σ b p) (cd b k M') w:=by
 have hx:=cP (σ:=σ) p hn
 have hnot:∀ c x,ap c M'=some x→c≠b:=by
  intro c x hc e
  subst e
  have:=h.blk c x (hsub c x hc)
  rw [hn] at this
  exact this
 refine { blk:=fun c x hc=>?_,inj:=fun c d x y L L' hc hd hL hL' hg=>?_,old:=h.old,size:=h.size,olds:=h.olds,os:=h.os,tape:=h.tape,output:=h.output }
 ·rw [bP] at hc
  by_cases e:c=b
  ·rw [if_pos e] at hc
   injection hc with hc
   subst hc e
   rw [bq]
   exact hB.ext hx
  ·rw [if_neg e] at hc
   rw [bG _ _ e]
   exact (h.blk c x (hsub c x hc)).ext hx
 ·rw [bP] at hc hd
  by_cases e:c=b <;> by_cases e':d=b
  ·omega
  ·exfalso
   rw [if_neg e'] at hd
   rw [e,bq] at hL
   rw [bG _ _ e'] at hL'
   exact hinj L hL d y L' hd hL' hg.symm
  ·exfalso
   rw [if_neg e] at hc
   rw [e',bq] at hL'
   rw [bG _ _ e] at hL
   exact hinj L' hL' c x L hc hL hg
  ·rw [if_neg e] at hc
   rw [if_neg e'] at hd
   rw [bG _ _ e] at hL
   rw [bG _ _ e'] at hL'
   exact h.inj c d x y L L' (hsub c x hc) (hsub d y hd) hL hL' hg
theorem MemR.reblk {b : Nat} {k k' : Blk} (h : MemR E σ M w) (hb : ap b M = some k) (hk : dk E σ w k (σ b) → dk E σ w k' (σ b)) : MemR E σ (cd b k' M) w := by
  have less : ∀ c x, ap c (cd b k' M) = some x → (c = b ∧ x = k') ∨ ap c M = some x := by
    intro c x hc
    rw [bP] at hc
    split at hc
    · rename_i e; exact .inl ⟨e, by cases hc; rfl⟩
    · exact .inr hc
  have f : ∀ c x, ap c (cd b k' M) = some x → ∃ x', ap c M = some x' := by
    intro c x hc
    rcases less c x hc with ⟨rfl, rfl⟩ | hc
    · exact ⟨_, hb⟩
    · exact ⟨_, hc⟩
  exact { blk := fun c x hc => by
            rcases less c x hc with ⟨rfl, rfl⟩ | hc
            · exact hk (h.blk _ _ hb)
            · exact h.blk c x hc
          inj := fun c d x y L L' hc hd => by
            obtain ⟨x', hx⟩ := f c x hc
            obtain ⟨y', hy⟩ := f d y hd
            exact h.inj c d x' y' L L' hx hy
          old := h.old, size := h.size, olds := h.olds, os := h.os, tape := h.tape, output := h.output }
theorem dk.recell {l:List Sc} {j:Nat} {s s':Sc} {p:Pl} (h:dk E σ w (.cells l) p) (hj:l[j]?=some s) (hs:∀ V,ScR E σ s V→ScR E σ s' V):dk E σ w (.cells (l.set j s')) p:=by
 cases p with
 |unset=>exact h
 |nil=>exact ⟨by simpa [Blk.len] using h.1,trivial⟩
 |«at» L =>
  obtain ⟨g1,arr,elem,lo,hi,p1,p2,p3,p4,p5,p6⟩:=h
  refine ⟨trivial,arr,elem,lo,hi,p1,p2,by simpa [Blk.len] using p3,p4,p5,fun i x hx=>?_⟩
  simp only [Blk.get?] at hx
  by_cases e:i=j
  ·subst e
   rw [List.getElem?_set_self (by rw [List.getElem?_eq_some_iff] at hj;exact hj.1)] at hx
   cases hx
   obtain ⟨v,q1,q2⟩:=p6 i _ hj
   exact ⟨v,q1,hs v q2⟩
  ·rw [List.getElem?_set_ne (Ne.symm e)] at hx
   exact p6 i x hx
end
variable {fr:Fr} {M:Mem} {U U':Nat}
theorem FrR.put {E:Env} {σ:Sig} {a:Act} {t:Nat} {v v':AV} (h:FrR E σ fr a) (ht:ap t fr=some v) (hv:∀ V,AVR E σ v V→AVR E σ v' V):FrR E σ (cd t v' fr) a:=by
 refine ⟨fun t' u hu=>?_,h.defers⟩
 rw [bP] at hu
 split at hu
 ·rename_i e
  subst e
  injection hu with hu
  subst hu
  obtain ⟨V,q1,q2⟩:=h.val _ _ ht
  exact ⟨V,q1,hv V q2⟩
 ·exact h.val _ _ hu
theorem Sub.tmp {t:Nat} {v v':AV} (ht:ap t fr=some v) (h:∀ E σ V,AVR E σ v V→AVR E σ v' V):Sub U (fr,M) U (cd t v' fr,M):=by
 refine Sub.of1 ?_
 rintro E κ n a w ⟨σ,h1,h2⟩
 exact ⟨σ,{ toFrR:=h1.toFrR.put ht (h _ _),tmps:=h1.tmps,toMemR:=h1.toMemR },h2⟩
theorem Sub.reblk {b:Nat} {k k':Blk} (hb:ap b M=some k) (hk:∀ E σ w p,dk E σ w k p→dk E σ w k' p):Sub U (fr,M) U (fr,cd b k' M):=by
 refine Sub.of1 ?_
 rintro E κ n a w ⟨σ,h1,h2⟩
 exact ⟨σ,{ toFrR:=h1.toFrR,tmps:=h1.tmps,toMemR:=h1.toMemR.reblk hb (hk _ _ _ _) },h2⟩
theorem lL {κ σ:Sig} {b:Nat} {p:Pl} (h:py κ σ) (hb:16≤b):py κ (upd σ b p):=fun j hj=>by
 rw [bG _ _ (by omega)]
 exact h j hj
theorem jX {σ:Sig} {b:Nat} {p:Pl} (h:∀ m,U≤m→σ m=.unset) (hb:U≤b) (hb':b<U'):∀ m,U'≤m→upd σ b p m=.unset:=fun m hm=>by
 rw [bG _ _ (by omega)]
 exact h m (by omega)
theorem Sub.openC (c j b : Nat) (es : Nat) (k : Blk) {l : List Sc} (hk : k.len = 0 ∧ k.good) (hb : (Nat.ble U b && Nat.blt b U') = true) (hc : ap c M = some (.cells l)) (hj : l[j]? = some .nils) :
    Sub U (fr, M) U' (fr, cd b k (cd c (.cells (l.set j (.sl b 0 0 es none))) M)) := by
  rw [Bool.and_eq_true] at hb
  have hb1 := Nat.le_of_ble_eq_true hb.1
  have hb2 := Nat.le_of_ble_eq_true (show Nat.ble (b + 1) U' = true from hb.2)
  refine Sub.of1 ?_
  rintro E κ n a w ⟨σ, h1, h2, h3, h4⟩
  have hn := h2 b hb1
  refine ⟨upd σ b .nil, ?_, jX h2 hb1 (by omega), lL h3 (by omega), by omega⟩
  have h0 : MemR E σ (cd c (.cells (l.set j (.sl b 0 0 es none))) M) w := h1.toMemR.reblk hc fun hB => hB.recell hj fun V hV => .inl ⟨rfl, .inl rfl, none, hV⟩
  exact { toFrR := h1.toFrR.ext (cP .nil hn)
          tmps := h1.tmps
          toMemR := h0.add hn (fun _ _ h => h) hk fun L hL => by cases hL }
theorem ob {E:Env} {σ:Sig} {b b' off len es:Nat} {cap:Option Nat} {V:Value} (hne:σ b'=.unset) (h:ScR E σ (.sl b off len es cap) V):ScR E (upd σ b' (fb off (σ b))) (.sl b' 0 len es cap) V:=by
 rcases h with ⟨q1,q2,A,rfl⟩|⟨L,c,q1,rfl,q2,q3,q4⟩
 ·exact .inl ⟨q1,q2,A,rfl⟩
 ·refine .inr ⟨{ L with β:=L.β+off },c,by rw [bq,q1];rfl,rfl,q2,q3,?_⟩
  cases cap with
  |none=>exact q4
  |some n=>exact q4
theorem Sub.rebaseC (c j b b':Nat) {off len es:Nat} {cap:Option Nat} {k:Blk} {l:List Sc} (hle:off≤k.len) (hb:(Nat.ble U b' && Nat.blt b' U' && !(Nat.beq c b))=true) (hc:ap c M=some (.cells l)) (hj:l[j]?=some (.sl b off len es cap)) (hM:ap b M=some k) :
  Sub U (fr,M) U' (fr,cd c (.cells (l.set j (.sl b' 0 len es cap))) (cd b' (k.from off) (dE b M))):=by
 rw [Bool.and_eq_true,Bool.and_eq_true] at hb
 have hb1:=Nat.le_of_ble_eq_true hb.1.1
 have hb2:=Nat.le_of_ble_eq_true (show Nat.ble (b'+1) U'=true from hb.1.2)
 have hcb:c≠b:=fun e=>by subst e;rw [iF] at hb;cases hb.2
 refine Sub.of1 ?_
 rintro E κ n a w ⟨σ,h1,h2,h3,h4⟩
 have hn:=h2 b' hb1
 refine ⟨upd σ b' (fb off (σ b)),?_,jX h2 hb1 (by omega),lL h3 (by omega),by omega⟩
 have hx:=cP (σ:=σ) (fb off (σ b)) hn
 have less:∀ c x,ap c (dE b M)=some x→c≠b∧ap c M=some x:=fun c x hc=>by
  rw [cS] at hc
  split at hc
  ·cases hc
  ·rename_i e;exact ⟨e,hc⟩
 have h0:MemR E (upd σ b' (fb off (σ b))) (cd b' (k.from off) (dE b M)) w:=by
  refine h1.toMemR.add hn (fun c x h=>(less c x h).2) ((h1.toMemR.blk b k hM).shift hle) ?_
  intro L hL c x L' hc hL' hg
  cases hb:σ b with
  |unset=>rw [hb] at hL;cases hL
  |nil=>rw [hb] at hL;cases hL
  |«at» L0 =>
   rw [hb] at hL
   injection hL with hL
   subst hL
   exact (less c x hc).1 (h1.inj c b x k L' L0 (less c x hc).2 hM hL' hb hg)
 have hcb':c≠b':=fun e=>by
  subst e
  have:=h1.toMemR.blk c _ hc
  rw [hn] at this
  exact this
 have hc':ap c (cd b' (k.from off) (dE b M))=some (.cells l):=by
  rw [bP,if_neg hcb',cS,if_neg hcb]
  exact hc
 have hcs:upd σ b' (fb off (σ b)) c=σ c:=bG _ _ hcb'
 refine { toFrR:=h1.toFrR.ext hx,tmps:=h1.tmps,toMemR:=h0.reblk hc' fun hB=>?_ }
 have hB0:=h1.toMemR.blk c _ hc
 rw [hcs] at hB ⊢
 cases hp:σ c with
 |unset=>rw [hp] at hB0;exact hB0
 |nil=>rw [hp] at hB0;exact ⟨by simpa [Blk.len] using hB0.1,trivial⟩
 |«at» L =>
  rw [hp] at hB0
  obtain ⟨g1,arr,elem,lo,hi,p1,p2,p3,p4,p5,p6⟩:=hB0
  refine ⟨trivial,arr,elem,lo,hi,p1,p2,by simpa [Blk.len] using p3,p4,p5,fun i x hx'=>?_⟩
  simp only [Blk.get?] at hx'
  by_cases e:i=j
  ·subst e
   rw [List.getElem?_set_self (by rw [List.getElem?_eq_some_iff] at hj;exact hj.1)] at hx'
   cases hx'
   obtain ⟨v,q1,q2⟩:=p6 i _ hj
   exact ⟨v,q1,ob hn q2⟩
  ·rw [List.getElem?_set_ne (Ne.symm e)] at hx'
   obtain ⟨v,q1,q2⟩:=p6 i x hx'
   exact ⟨v,q1,q2.ext hx⟩
def Blk.ro:Blk→Nat→Nat→Sc
 |.ints k n xs,off,len=>.ro k (dY xs n off len)
 |.vec .row xs,off,len=>.rob (gp xs off len)
 |.vec .str xs,off,len=>.ros (gp xs off len)
 |_,_,_=>.nilp
def Blk.roC:Blk→Nat × Nat→Prop
 |.ints _ n _,p=>p.1+p.2≤n
 |.vec .row xs,p=>p.1+p.2≤xs.length
 |.vec .str xs,p=>p.1+p.2≤xs.length
 |_,_=>False
def nj (f:Nat × Nat→Prop):List (Nat × Nat)→Prop
 |[]=>True
 |[p]=>f p
 |p :: r=>f p∧nj f r
theorem jW {f:Nat × Nat→Prop}:∀ {l:List (Nat × Nat)},nj f l→∀ p∈l,f p
 |[],_,p,hp=>by cases hp
 |[q],h,p,hp=>by
  rw [List.mem_singleton] at hp
  subst hp
  exact h
 |q :: q' :: r,h,p,hp=>by
  rcases List.mem_cons.1 hp with rfl|hp
  ·exact h.1
  ·exact jW h.2 p hp
def Sc.occ (b:Nat):Sc→List (Nat × Nat)
 |.sl b' off len 1 _=>bif Nat.beq b' b then [(off,len)] else []
 |_=>[]
def Sc.frz (b:Nat) (k:Blk):Sc→Sc
 |.sl b' off len 1 cap=>bif Nat.beq b' b then k.ro off len else .sl b' off len 1 cap
 |y=>y
def A1.occ (b:Nat):A1→List (Nat × Nat)
 |.sc s=>s.occ b
 |.agg l=>l.flatMap (Sc.occ b)
 |.ints _ _ _=>[]
 |.arr _ _=>[]
def A1.frz (b:Nat) (k:Blk):A1→A1
 |.sc s=>.sc (s.frz b k)
 |.agg l=>.agg (l.map (Sc.frz b k))
 |.ints k n xs=>.ints k n xs
 |.arr v xs=>.arr v xs
def AV.occ (b:Nat):AV→List (Nat × Nat)
 |.sc s=>s.occ b
 |.agg l=>l.flatMap (Sc.occ b)
 |.ints _ _ _=>[]
 |.arr _ _=>[]
 |.tup l=>l.flatMap (A1.occ b)
def AV.frz (b:Nat) (k:Blk):AV→AV
 |.sc s=>.sc (s.frz b k)
 |.agg l=>.agg (l.map (Sc.frz b k))
 |.ints k n xs=>.ints k n xs
 |.arr v xs=>.arr v xs
 |.tup l=>.tup (l.map (A1.frz b k))
def Blk.occ (b:Nat):Blk→List (Nat × Nat)
 |.cells l=>l.flatMap (Sc.occ b)
 |_=>[]
def oW (b:Nat) (k:Blk):Blk→Blk
 |.cells l=>.cells (l.map (Sc.frz b k))
 |x=>x
def no {α:Type} (f:α→α):List (Nat × α)→List (Nat × α)
 |[]=>[]
 |(t,v) :: r=>(t,f v) :: no f r
theorem ej {α:Type} {f:α→α} {t:Nat} {v:α}:∀ {l:List (Nat × α)},ap t (no f l)=some v→∃ u,ap t l=some u∧v=f u
 |[],h=>by cases h
 |(m,u) :: r,h=>by
  simp only [no,ap] at h ⊢
  cases hb:Nat.beq m t
  ·rw [hb] at h;exact ej (l:=r) h
  ·rw [hb] at h;simp only [cond_true,Option.some.injEq] at h ⊢;exact ⟨u,rfl,h.symm⟩
def St.occ (b:Nat) (s:St):List (Nat × Nat):=s.1.flatMap (fun x=>x.2.occ b)++(dE b s.2).flatMap (fun x=>x.2.occ b)
def St.frz (b:Nat) (k:Blk) (s:St):St:=(no (AV.frz b k) s.1,no (oW b k) (dE b s.2))
structure FrzE (E E2:Env) (σ:Sig) (w:World) (b:Nat) (k:Blk):Prop where
 gr:Grow E E2
 cell:∀ off len cap V,ScR E σ (.sl b off len 1 cap) V→off+len≤k.len→∃ A c,V=.slice A len c∧len≤c∧(0<len→∃ ad,A=some ad∧E2.old ad.block∧∀ j,j<len→∃ s v,k.get? (off+j)=some s∧E2.w0.cell? (ad.add j)=some v∧ScR E σ s v)
theorem Blk.ro_R {E E2:Env} {σ:Sig} {w:World} {b:Nat} {k:Blk} (hz:FrzE E E2 σ w b k) (hg:k.good) {off len:Nat} {cap:Option Nat} {V:Value} (h:ScR E σ (.sl b off len 1 cap) V) (hC:k.roC (off,len)):ScR E2 σ (k.ro off len) V:=by
 cases k with
 |cells l=>exact hC.elim
 |ints kk n xs =>
  have hC:off+len≤n:=hC
  have hg:xs.length=n:=hg
  show RoR E2 kk (dY xs n off len) V
  rw [fF hg]
  obtain ⟨A,c,rfl,q1,q2⟩:=hz.cell off len cap V h hC
  have hlen:((xs.drop off).take len).length=len:=by simp;omega
  refine ⟨A,c,by rw [hlen],by rw [hlen];exact q1,fun hp=>?_⟩
  rw [hlen] at hp
  obtain ⟨ad,rfl,o1,o2⟩:=q2 hp
  refine ⟨ad,rfl,o1,fun j hj=>?_⟩
  rw [hlen] at hj
  obtain ⟨s,v,a1,a2,a3⟩:=o2 j hj
  have hget:xs[off+j]?=some (xs.getD (off+j) 0):=by
   rw [List.getD_eq_getElem?_getD,List.getElem?_eq_getElem (by omega)];rfl
  have hs:s=.i kk (xs.getD (off+j) 0):=by
   have:(xs[off+j]?).map (.i kk ·)=some s:=a1
   rw [hget] at this
   injection this with this
   exact this.symm
  subst hs
  have a3':v=.int kk (xs.getD (off+j) 0):=a3
  have:((xs.drop off).take len).getD j 0=xs.getD (off+j) 0:=by
   simp [List.getD_eq_getElem?_getD,List.getElem?_take,List.getElem?_drop,hj]
  rw [this,← a3']
  exact a2
 |vec v xs =>
  cases v with
  |tab=>exact hC.elim
  |row =>
   have hC:off+len≤xs.length:=hC
   show ScR E2 σ (.rob (gp xs off len)) V
   rw [gC]
   obtain ⟨A,c,rfl,q1,q2⟩:=hz.cell off len cap V h hC
   have hlen:((xs.drop off).take len).length=len:=by simp;omega
   refine ⟨A,c,by rw [hlen],by rw [hlen];exact q1,fun hp=>?_⟩
   rw [hlen] at hp
   obtain ⟨ad,rfl,o1,o2⟩:=q2 hp
   refine ⟨ad,rfl,o1,fun j hj=>?_⟩
   rw [hlen] at hj
   obtain ⟨s,v,a1,a2,a3⟩:=o2 j hj
   have hget:xs[off+j]?=some (xs.getD (off+j) []):=by
    rw [List.getD_eq_getElem?_getD,List.getElem?_eq_getElem (by omega)];rfl
   have hs:s=.ro .u8 (xs.getD (off+j) []):=by
    have:(xs[off+j]?).map (VK.sc .row)=some s:=a1
    rw [hget] at this
    injection this with this
    exact this.symm
   subst hs
   have:((xs.drop off).take len).getD j []=xs.getD (off+j) []:=by
    simp [List.getD_eq_getElem?_getD,List.getElem?_take,List.getElem?_drop,hj]
   rw [this]
   exact ⟨v,a2,hz.gr.ro a3⟩
  |str =>
   have hC:off+len≤xs.length:=hC
   show ScR E2 σ (.ros (gp xs off len)) V
   rw [gC]
   obtain ⟨A,c,rfl,q1,q2⟩:=hz.cell off len cap V h hC
   have hlen:((xs.drop off).take len).length=len:=by simp;omega
   refine ⟨A,c,by rw [hlen],by rw [hlen];exact q1,fun hp=>?_⟩
   rw [hlen] at hp
   obtain ⟨ad,rfl,o1,o2⟩:=q2 hp
   refine ⟨ad,rfl,o1,fun j hj=>?_⟩
   rw [hlen] at hj
   obtain ⟨s,v,a1,a2,a3⟩:=o2 j hj
   have hget:xs[off+j]?=some (xs.getD (off+j) ⟨#[]⟩):=by
    rw [List.getD_eq_getElem?_getD,List.getElem?_eq_getElem (by omega)];rfl
   have hs:s=.s (xs.getD (off+j) ⟨#[]⟩):=by
    have:(xs[off+j]?).map (VK.sc .str)=some s:=a1
    rw [hget] at this
    injection this with this
    exact this.symm
   subst hs
   have a3':v=.string (xs.getD (off+j) ⟨#[]⟩):=a3
   have:((xs.drop off).take len).getD j ⟨#[]⟩=xs.getD (off+j) ⟨#[]⟩:=by
    simp [List.getD_eq_getElem?_getD,List.getElem?_take,List.getElem?_drop,hj]
   rw [this,← a3']
   exact a2
section
variable {E E2:Env} {σ:Sig} {w:World} {b:Nat} {k:Blk}
theorem Sc.frz_R (hz:FrzE E E2 σ w b k) (hg:k.good) {s:Sc} {V:Value} (h:ScR E σ s V) (hC:∀ p∈s.occ b,k.roC p):ScR E2 σ (s.frz b k) V:=by
 unfold Sc.frz
 split
 ·rename_i b' off len cap
  cases hb:Nat.beq b' b
  ·exact ScR.grow (s:=.sl b' off len 1 cap) hz.gr h
  ·have e:=Nat.eq_of_beq_eq_true hb
   subst e
   exact Blk.ro_R hz hg h (hC (off,len) (by simp [Sc.occ,iF]))
 ·exact h.grow hz.gr
theorem jy (hz:FrzE E E2 σ w b k) (hg:k.good):∀ {l:List Sc} {m:List Value},cW (ScR E σ) l m→(∀ p∈l.flatMap (Sc.occ b),k.roC p)→cW (ScR E2 σ) (l.map (Sc.frz b k)) m
 |[],[],_,_=>trivial
 |s :: r,V :: m,h,hC=>⟨Sc.frz_R hz hg h.1 fun p hp=>hC p (by simp [hp]),jy hz hg h.2 fun p hp=>hC p (by simp only [List.flatMap_cons,List.mem_append];exact .inr hp)⟩
theorem A1.frz_R (hz:FrzE E E2 σ w b k) (hg:k.good) {v:A1} {V:Value} (h:A1R E σ v V) (hC:∀ p∈v.occ b,k.roC p):A1R E2 σ (v.frz b k) V:=by
 cases v with
 |sc s=>exact Sc.frz_R hz hg h hC
 |agg l=>obtain ⟨arr,e,q⟩:=h;exact ⟨arr,e,jy hz hg q hC⟩
 |arr v xs=>obtain ⟨arr,e,q⟩:=h;exact ⟨arr,e,q.mono fun _ _ h=>h.grow hz.gr⟩
 |ints k n xs=>exact h
theorem mQ (hz:FrzE E E2 σ w b k) (hg:k.good):∀ {l:List A1} {m:List Value},cW (A1R E σ) l m→(∀ p∈l.flatMap (A1.occ b),k.roC p)→cW (A1R E2 σ) (l.map (A1.frz b k)) m
 |[],[],_,_=>trivial
 |s :: r,V :: m,h,hC=>⟨A1.frz_R hz hg h.1 fun p hp=>hC p (by simp [hp]),mQ hz hg h.2 fun p hp=>hC p (by simp only [List.flatMap_cons,List.mem_append];exact .inr hp)⟩
theorem AV.frz_R (hz:FrzE E E2 σ w b k) (hg:k.good) {v:AV} {V:Value} (h:AVR E σ v V) (hC:∀ p∈v.occ b,k.roC p):AVR E2 σ (v.frz b k) V:=by
 cases v with
 |sc s=>exact Sc.frz_R hz hg h hC
 |agg l=>obtain ⟨arr,e,q⟩:=h;exact ⟨arr,e,jy hz hg q hC⟩
 |arr v xs=>obtain ⟨arr,e,q⟩:=h;exact ⟨arr,e,q.mono fun _ _ h=>h.grow hz.gr⟩
 |ints k n xs=>exact h
 |tup l=>obtain ⟨arr,e,q⟩:=h;exact ⟨arr,e,mQ hz hg q hC⟩
theorem qc (hz:FrzE E E2 σ w b k) (hg:k.good) {x:Blk} {p:Pl} (hfz:∀ l,p=.at l→¬ E2.fz l.g) (h:dk E σ w x p) (hC:∀ p∈x.occ b,k.roC p):dk E2 σ w (oW b k x) p:=by
 cases x with
 |ints kk n xs=>exact Blk.grow hz.gr hfz h
 |vec v xs=>exact Blk.grow hz.gr hfz h
 |cells l =>
  have hB:=Blk.grow hz.gr hfz h
  cases p with
  |unset=>exact h
  |nil=>exact ⟨by have:=h.1;simpa [oW,Blk.len] using this,trivial⟩
  |«at» L =>
   obtain ⟨g1,arr,elem,lo,hi,p1,p2,p3,p4,p5,p6⟩:=h
   refine ⟨trivial,arr,elem,lo,hi,p1,p2,by simpa [oW,Blk.len] using p3,hfz L rfl,p5,fun i s hs=>?_⟩
   simp only [oW,Blk.get?,List.getElem?_map,Option.map_eq_some_iff] at hs
   obtain ⟨s0,h0,rfl⟩:=hs
   obtain ⟨v,q1,q2⟩:=p6 i s0 h0
   exact ⟨v,q1,Sc.frz_R hz hg q2 fun p hp=>hC p (List.mem_flatMap.2 ⟨s0,List.mem_of_getElem? h0,hp⟩)⟩
end
theorem Sub.still {s s':St} (b:Nat) (k:Blk) (hM:ap b s.2=some k) (hC:nj k.roC (s.occ b)) (hs:s.frz b k=s'):Sub U s U s':=by
 subst hs
 obtain ⟨fr,M⟩:=s
 have hcond:=jW hC
 rintro E n' a w ⟨E1,hg,σ,h1,h2,h3,h4⟩
 have hB:=h1.toMemR.blk b _ hM
 have hgood:k.good:=ip h1.toMemR hM
 have less:∀ c k',ap c (dE b M)=some k'→c≠b∧ap c M=some k':=by
  intro c k' hc
  rw [cS] at hc
  split at hc
  ·cases hc
  ·rename_i e;exact ⟨e,hc⟩
 have fin:∀ E2,FrzE E1 E2 σ w b k→E2.kp=E1.kp→(∀ c k' L',c≠b→ap c M=some k'→σ c=.at L'→¬ E2.fz L'.g)→(∀ g,E2.fz g→w.heap[g]?=E2.w0.heap[g]?)→E2.w0.heap.size≤w.heap.size→(∀ g,E2.fz g→g<E2.w0.heap.size) →
   w.os=E2.w0.os→w.tape=E2.w0.tape→w.output=E2.w0.output→iE E n' U (St.frz b k (fr,M)) a w:=by
  intro E2 hz hkp hout o1 o2 o3 o4 o5 o6
  refine ⟨E2,hg.trans hz.gr,σ,?_,h2,h3,h4⟩
  refine { val:=fun t v hv=>?_,defers:=h1.defers,tmps:=h1.tmps,blk:=fun c x hc=>?_,inj:=fun c d x y L L' hc hd=>?_,old:=o1,size:=o2,olds:=o3,os:=o4,tape:=o5,output:=o6 }
  ·obtain ⟨u,q1,rfl⟩:=ej hv
   obtain ⟨V,q2,q3⟩:=h1.val _ _ q1
   exact ⟨V,q2,AV.frz_R hz hgood q3 fun p hp=>hcond p (List.mem_append_left _ (List.mem_flatMap.2 ⟨(t,u),di q1,hp⟩))⟩
  ·obtain ⟨u,q1,rfl⟩:=ej hc
   obtain ⟨hne,hc'⟩:=less c u q1
   refine qc hz hgood (fun l hl=>hout c u l hne hc' hl) (h1.toMemR.blk c u hc') fun p hp=>hcond p (List.mem_append_right _ (List.mem_flatMap.2 ⟨(c,u),di q1,hp⟩))
  ·obtain ⟨u,q1,_⟩:=ej hc
   obtain ⟨u',q2,_⟩:=ej hd
   exact h1.inj c d u u' L L' (less c u q1).2 (less d u' q2).2
 cases hL:σ b with
 |unset=>rw [hL] at hB;exact hB.elim
 |nil =>
  rw [hL] at hB
  refine fin E1 ⟨.refl _,fun off len cap V h hle=>?_⟩ rfl (fun c k' L' _ hc hl=>?_) h1.old h1.size h1.olds h1.os h1.tape h1.output
  ·rcases h with ⟨q1,_,A,rfl⟩|⟨L,c,q1,_⟩
   ·subst q1
    exact ⟨A,0,rfl,Nat.le_refl _,fun h=>absurd h (Nat.lt_irrefl _)⟩
   ·rw [hL] at q1;cases q1
  ·have:=h1.toMemR.blk c k' hc
   rw [hl] at this
   obtain ⟨_,_,_,_,_,_,_,_,q4,_⟩:=this
   exact q4
 |«at» L =>
  rw [hL] at hB
  obtain ⟨g1,arr,elem,lo,hi,p1,p2,p3,p4,p5,p6⟩:=hB
  have hinj:∀ c k' L',c≠b→ap c M=some k'→σ c=.at L'→L'.g≠L.g:=fun c k' L' hne hc hL' he=>hne (h1.inj c b k' _ L' L hc hM hL' hL he)
  let E2:Env:={ P:=E1.P,w0:=w,old:=fun g=>E1.old g∨g=L.g,fz:=fun g=>E1.fz g∨g=L.g,sub:=fun g h=>h.elim (fun h=>.inl (E1.sub g h)) .inr,kp:=E1.kp }
  have gr:Grow E1 E2 :=
   {P:=rfl,old:=fun g h=>.inl h,fz:=fun g h=>.inl h,w0:=fun g h=>h1.old g h
    new:=fun g h=>by
     rcases h with h|h
     ·exact .inl h
     ·subst h;exact .inr p4
    size:=h1.size,os:=h1.os,tape:=h1.tape,output:=h1.output }
  refine fin E2 ⟨gr,fun off len cap V h hle=>?_⟩ rfl (fun c k' L' hne hc hl hz=>?_) (fun _ _=>rfl) (Nat.le_refl _) (fun g hg=>?_) rfl rfl rfl
  ·rcases h with ⟨q1,_,A,rfl⟩|⟨L',c,q1,rfl,q2,q3,_⟩
   ·subst q1
    exact ⟨A,0,rfl,Nat.le_refl _,fun h=>absurd h (Nat.lt_irrefl _)⟩
   ·rw [hL] at q1
    injection q1 with q1
    subst q1
    refine ⟨_,c,rfl,q2,fun _=>⟨_,rfl,.inr rfl,fun j hj=>?_⟩⟩
    obtain ⟨s,hs⟩:=Blk.get_some g1 (show off+j<k.len by omega)
    obtain ⟨v,e5,e6⟩:=p6 (off+j) _ hs
    refine ⟨s,v,hs,?_,e6⟩
    rw [cI]
    show w.cell? _=_
    have hlt:L.β+off+j<L.sz:=by omega
    have:=p5.1 (L.β+off+j) hlt
    simp [World.cell?,p1,this]
    rw [Nat.add_assoc]
    exact e5
  ·rcases hz with hz|hz
   ·have hB':=h1.toMemR.blk c k' hc
    rw [hl] at hB'
    obtain ⟨_,_,_,_,_,_,_,_,q4,_⟩:=hB'
    exact q4 hz
   ·exact hinj c k' L' hne hc hl hz
  ·rcases hg with hg|hg
   ·exact Nat.lt_of_lt_of_le (h1.olds g hg) h1.size
   ·subst hg;exact iN p1
end Go.Vm
namespace Go.Vm
open Go
theorem Known.ext {P:Program} {G:dP} {f:FuncId} {fn:Func} {e:Array Value→Sem Value} {spec:List AV→List Blk→Option (Prop × Ret)} (hf:P.funcs[f]?=some fn) (hname:(fn.name== "runtime.NumGoroutine")=false)
  (hb:fn.body.isNone=true) (hn:Extern.findNext fn=none) (he:Extern.find fn=some e)
  (h:∀ (E:Env) (σ:Sig) (args:List AV) (Vs:Array Value) (C:Prop) (r:Ret) (w:World),spec args []=some (C,r)→C→cW (AVR E σ) args Vs.toList→r.bs=[]∧∃ V,(e Vs).run P w=.ok V w∧AVR E σ r.v V):Known P G f ⟨0,0,spec⟩:=by
 refine ⟨Nat.zero_le _,?_⟩
 intro E w args ks Vs C r hP hG hks hkp hM hargs hsp hC
 cases ks with
 |cons _ _=>cases hks
 |nil =>
  obtain ⟨h1,V,h2,h3⟩:=h E E.kp args Vs C r w hsp hC hargs
  refine .inr ⟨V,w,?_,E,E.kp,.refl E,fun _ hj=>absurd hj (by simp),h3,?_⟩
  ·rw [run_callFunc_extern hf hname hb hn he,h2];rfl
  ·rw [h1];exact hM
theorem aC (xs:List Int):(bytesOf xs).size=xs.length:=by simp [bytesOf,ByteArray.size]
end Go.Vm
namespace Go.Vm
open Go
end Go.Vm
namespace Go.Vm
open Go
theorem put_get {a:Act} {t:Nat} {V:Value} (h:t<a.tmps.size):(a.put (some t) V).tmps[t]?=some V:=by
 simp only [Act.put]
 rw [Array.getElem?_setIfInBounds_self]
 simp [h]
theorem qZ {a:Act} {t u:Nat} {V:Value} (h:t≠u):(a.put (some t) V).tmps[u]?=a.tmps[u]?:=by
 simp only [Act.put]
 rw [Array.getElem?_setIfInBounds_ne h]
theorem FrR.put0 {E:Env} {σ:Sig} {fr:Fr} {a:Act} {t:Nat} {V:Value} (h:FrR E σ fr a) (ht:ap t fr=none):FrR E σ fr (a.put (some t) V):=by
 refine ⟨fun u v hu=>?_,h.defers⟩
 obtain ⟨W,h1,h2⟩:=h.val u v hu
 refine ⟨W,?_,h2⟩
 rw [qZ (fun e=>by subst e;rw [ht] at hu;cases hu)]
 exact h1
def ptr (g:Nat):Value:=.pointer (some ⟨g,0,none⟩)
def ItS (t33 g:Nat) (s:St):St:=(cd t33 (.sc (.raw (ptr g))) s.1,s.2)
def lH (E:Env) (n U:Nat) (s:St) (a:Act) (w:World) (g:Nat) (x:ByteArray) (pos:Nat):Prop:=∃ E',Grow E E'∧ma E' E.kp n U s a w∧w.heap[g]?=some (.stringIter x pos)∧¬ E'.fz g
theorem oB {E:Env} {σ:Sig} {M:Mem} {w:World} {g:Nat} {x:ByteArray} {pos:Nat} (h:MemR E σ M w) (hg:w.heap[g]?=some (.stringIter x pos)) {b:Nat} {k:Blk} {L:Loc} (hb:ap b M=some k) (hL:σ b=.at L):L.g≠g:=by
 intro e
 have hB:=h.blk b k hb
 rw [hL] at hB
 obtain ⟨_,arr,elem,lo,hi,q1,_⟩:=hB
 rw [e,hg] at q1
 cases q1
theorem lH.hold {E:Env} {n U:Nat} {s:St} {a:Act} {w:World} {g:Nat} {x:ByteArray} {pos:Nat} (h:lH E n U s a w g x pos) :
  ∃ E1,Grow E E1∧E1.kp=E.kp∧iE E1 n U s a w∧E1.fz g∧¬ E1.old g∧E1.w0.heap[g]?=some (.stringIter x pos)∧¬ E.fz g:=by
 obtain ⟨E',hg,⟨σ,h1,h2,h3,h4⟩,h5,h6⟩:=h
 have hgo:¬ E'.old g:=fun h=>h6 (E'.sub g h)
 have hgE:¬ E.fz g:=fun h=>h6 (hg.fz g h)
 let E1:Env:={ P:=E'.P,w0:=w,old:=E'.old,fz:=fun k=>E'.fz k∨k=g,sub:=fun k h=>.inl (E'.sub k h),kp:=E.kp }
 have gr:Grow E' E1 :=
  {P:=rfl,old:=fun _ h=>h,fz:=fun _ h=>.inl h,w0:=fun k h=>h1.old k h,new:=fun _ h=>.inl h,size:=h1.size,os:=h1.os,tape:=h1.tape,output:=h1.output }
 refine ⟨E1,hg.trans gr,rfl,⟨E1,.refl E1,σ,?_,h2,h3,h4⟩,.inr rfl,hgo,h5,hgE⟩
 refine { toFrR:=h1.toFrR.grow gr,tmps:=h1.tmps,blk:=fun b k hb=>?_,inj:=h1.inj,old:=fun _ _=>rfl,size:=Nat.le_refl _,olds:=fun k hk=>?_,os:=rfl,tape:=rfl,output:=rfl }
 ·refine Blk.grow gr (fun l hl hz=>?_) (h1.blk b k hb)
  rcases hz with hz|hz
  ·have hB:=h1.blk b k hb
   rw [hl] at hB
   obtain ⟨_,_,_,_,_,_,_,_,q4,_⟩:=hB
   exact q4 hz
  ·exact oB h1.toMemR h5 hb hl hz
 ·rcases hk with hk|hk
  ·exact Nat.lt_of_lt_of_le (h1.olds k hk) h1.size
  ·subst hk;exact (Array.getElem?_eq_some_iff.1 h5).1
theorem lH.frame {E:Env} {n U:Nat} {s s':St} {a a':Act} {w:World} {g:Nat} {x:ByteArray} {pos:Nat} (h:lH E n U s a w g x pos) (hM:s'.2=s.2) (hn:a'.tmps.size=a.tmps.size) (hf:∀ E' σ,FrR E' σ s.1 a→FrR E' σ s'.1 a'):lH E n U s' a' w g x pos:=by
 obtain ⟨E',hg,⟨σ,h1,h2,h3,h4⟩,h5,h6⟩:=h
 exact ⟨E',hg,⟨σ,{ toFrR:=hf _ _ h1.toFrR,tmps:=hn.trans h1.tmps,toMemR:=by rw [hM];exact h1.toMemR },h2,h3,h4⟩,h5,h6⟩
theorem lH.val {E:Env} {n U:Nat} {s:St} {a:Act} {w:World} {g:Nat} {x:ByteArray} {pos:Nat} (h:lH E n U s a w g x pos) {t:Nat} {v:Value} (ht:ap t s.1=some (.sc (.raw v))):a.tmps[t]?=some v:=by
 obtain ⟨E',_,⟨σ,h1,_⟩,_⟩:=h
 obtain ⟨V,q1,q2⟩:=h1.val _ _ ht
 rw [q1,show V=v from q2.1]
theorem lH.size {E:Env} {n U:Nat} {s:St} {a:Act} {w:World} {g:Nat} {x:ByteArray} {pos:Nat} (h:lH E n U s a w g x pos):a.tmps.size=n:=by
 obtain ⟨E',_,⟨σ,h1,_⟩,_⟩:=h
 exact h1.tmps
variable {B:Bs} {E:Env} {U:Nat} {s:St} {Q:dH}
def rA (U0 t33 g:Nat) (s0:St) (J:Prop) (Q:dH):dH
 |.normal,U,s=>J∧Sub U s U0 (ItS t33 g s0)
 |e,U,s=>Q e U s
end Go.Vm
namespace Go.Vm
open Go
variable {B:Bs} {E:Env} {U:Nat} {s:St} {Q:dH}
def subP (Q:dH):dH:=fun e U s=>∃ U' s',Sub U s U' s'∧Q e U' s'
theorem Tri.subP {c:Code} (h:Tri B E c U s (subP Q)):Tri B E c U s Q:=by
 intro hB a w g
 refine wp_mono (h hB a w g) ?_
 rintro e a' w' ⟨U',s',h1,U'',s'',h2,h3⟩
 exact ⟨U'',s'',h2 _ _ _ _ h1,h3⟩
theorem oA {e:Exit} {U':Nat} {s':St} (hs:Sub U s U' s') (h:Vm.subP Q e U' s'):Vm.subP Q e U s:=by
 obtain ⟨U'',s'',h1,h2⟩:=h
 exact ⟨U'',s'',hs.trans h1,h2⟩
theorem dm {e:Exit} (h:Q e U s):Vm.subP Q e U s:=⟨U,s,.refl U s,h⟩
theorem ij.nret {P:Program} {rs:List ResultVar} {m:Nat} {r:Ret} (ns:Ren) (C:Prop) (h1:(cm ns r.bs.length && ey ns m)=true) (h3:fq P rs ns r.bs.length s=some (C,r)) (h4:C):ij P rs m r .normal U s:=⟨ns,C,h1,h3,h4⟩
theorem nX (k:IntKind) (n:Nat) (xs:List Int) (o:Nat):(Blk.ints k n xs).from o=.ints k (n-o) (xs.drop o):=by
 show (bif Nat.beq o 0 then _ else _)=_
 cases h:Nat.beq o 0
 ·rfl
 ·rw [Nat.eq_of_beq_eq_true h];rfl
theorem Sub.rebaseCi {U U':Nat} {fr:Fr} {M:Mem} (c j b b':Nat) {off len es m:Nat} {cap:Option Nat} {kd:IntKind} {n:Nat} {xs:List Int} {l:List Sc} (ho:off=m) (hle:m≤n) (hb:(Nat.ble U b' && Nat.blt b' U' && !(Nat.beq c b))=true) (hc:ap c M=some (.cells l)) (hj:l[j]?=some (.sl b off len es cap)) (hM:ap b M=some (.ints kd n xs)) :
  Sub U (fr,M) U' (fr,cd c (.cells (l.set j (.sl b' 0 len es cap))) (cd b' (.ints kd (n-m) (xs.drop m)) (dE b M))):=by
 subst ho
 rw [← nX]
 exact Sub.rebaseC c j b b' hle hb hc hj hM
end Go.Vm
namespace Go.Vm
open Go
structure PP where
 P:Prop
 h:P
def pT:PP:=⟨True,trivial⟩
def pz:PP:=⟨TT,tt⟩
def pa (a b:PP):PP:=⟨a.P∧b.P,a.h,b.h⟩
def pl {P:Prop} (h:P):PP:=⟨P,h⟩
def lo (P:Prop) (h:P:=by first|omega|(rw [cp];omega)|exact cw _ _|exact cu _ _|exact cN (by omega) (by first|omega|(simp only [List.length_append];omega))|(rw [cf (by omega) (by omega)];omega)|decide):PP:=⟨P,h⟩
def lr (P:Prop) (h:P:=by rfl):PP:=⟨P,h⟩
def v1 (r:PP):PP:=pa pz r
def v2 (r:PP):PP:=v1 (v1 r)
def v3 (r:PP):PP:=v1 (v2 r)
def v4 (r:PP):PP:=v1 (v3 r)
def v5 (r:PP):PP:=v1 (v4 r)
def v6 (r:PP):PP:=v1 (v5 r)
def v7 (r:PP):PP:=v1 (v6 r)
def v8 (r:PP):PP:=v1 (v7 r)
def v9 (r:PP):PP:=v1 (v8 r)
def pg {P:Prop} (h:P) (r:PP):PP:=pa (pa pT (pl h)) r
def pu (a r:PP):PP:=pa (pa a pT) r
def pv (a b r:PP):PP:=pa (pa a b) r
variable {B:Bs} {E:Env} {U:Nat} {s:St} {Q:dH}
theorem sq {id:Nat} {ops:Array Oper} {draw:Bool} {d:Code} (hints:List (Nat × AV)) (ms:Option (List Nat)) (kf km:List Nat) (s':St) (U':Nat) (p:PP) (hq:Tri B E d U' s' Q)
  (h:lw B hints U ops ms kf km s=some (p.P,s'):=by kernel_rfl) (hd:ms.isSome=draw:=by rfl) (hU:Nat.ble (U+16*ops.size) U'=true:=by kernel_rfl):Tri B E (.seq (.region id ops draw) d) U s Q :=
 Tri.seq_region hints ms kf km p.P s' U' h hd hU p.h hq
theorem rq {id:Nat} {ops:Array Oper} {draw:Bool} (hints:List (Nat × AV)) (ms:Option (List Nat)) (kf km:List Nat) (s':St) (U':Nat) (p:PP) (hq:Q .normal U' s')
  (h:lw B hints U ops ms kf km s=some (p.P,s'):=by kernel_rfl) (hd:ms.isSome=draw:=by rfl) (hU:Nat.ble (U+16*ops.size) U'=true:=by kernel_rfl):Tri B E (.region id ops draw) U s Q :=
 Tri.region' hints ms kf km p.P s' U' h hd hU p.h hq
def kO (B:Bs) (E:Env) (c:Code) (Q:dH):Nat→dH
 |0,.normal,_,_=>False
 |n+1,.normal,U,s=>Tri B E c U s (kO B E c Q n)
 |_,e,U,s=>Q e U s
theorem nO {c:Code}:∀ (n:Nat) {U:Nat} {s:St},Tri B E c U s (kO B E c Q n)→Fit B E→∀ a w,iE E B.n U s a w→Code.rounds B.P c (fun e a' w'=>∃ U' s',iE E B.n U' s' a' w'∧Q e U' s') (n+1) a w:=by
 intro n
 induction n with
 |zero =>
  intro U s h hB a w g
  refine wp_mono (h hB a w g) ?_
  rintro e a' w' ⟨U',s',h1,h2⟩
  cases e with
  |normal=>exact h2.elim
  |exit id=>exact ⟨U',s',h1,h2⟩
  |goto l=>exact ⟨U',s',h1,h2⟩
  |ret=>exact ⟨U',s',h1,h2⟩
  |panic ch=>exact ⟨U',s',h1,h2⟩
  |outgrown=>exact ⟨U',s',h1,h2⟩
 |succ n ih =>
  intro U s h hB a w g
  refine wp_mono (h hB a w g) ?_
  rintro e a' w' ⟨U',s',h1,h2⟩
  cases e with
  |normal=>exact ih h2 hB a' w' h1
  |exit id=>exact ⟨U',s',h1,h2⟩
  |goto l=>exact ⟨U',s',h1,h2⟩
  |ret=>exact ⟨U',s',h1,h2⟩
  |panic ch=>exact ⟨U',s',h1,h2⟩
  |outgrown=>exact ⟨U',s',h1,h2⟩
theorem Tri.rounds {c:Code} (n:Nat) (h:Tri B E c U s (kO B E c Q n)):Tri B E (.loop c) U s Q :=
 fun hB a w g=>wp_loop_rounds (n+1) (nO n h hB a w g)
class Ends (Q:dH) (Q':outParam dH):Prop where
 h:∀ U s,Q' .ret U s→Q .ret U s
instance {P:Program} {rs:List ResultVar} {m:Nat} {r:Ret}:Ends (ij P rs m r) (ij P rs m r):=⟨fun _ _ h=>h⟩
instance {c:Code} {Q':dH} [Ends Q Q']:Ends (ol B E c Q) Q':=⟨fun U s h=>Ends.h (Q:=Q) U s h⟩
instance {id:Nat} {Q':dH} [Ends Q Q']:Ends (pC id Q) Q':=⟨fun U s h=>Ends.h (Q:=Q) U s h⟩
instance {U0 n k:Nat} {st':St} {J':Prop} {Q':dH} [Ends Q Q']:Ends (jq U0 n k st' J' Q) Q':=⟨fun U s h=>Ends.h (Q:=Q) U s h⟩
instance {Um:Nat} {m:St} {Q':dH} [Ends Q Q']:Ends (mv Um m Q) Q':=⟨fun U s h=>Ends.h (Q:=Q) U s h⟩
instance {U0 t33 g:Nat} {s0:St} {J:Prop} {Q':dH} [Ends Q Q']:Ends (rA U0 t33 g s0 J Q) Q':=⟨fun U s h=>Ends.h (Q:=Q) U s h⟩
instance {c:Code} {n:Nat} {Q':dH} [Ends Q Q']:Ends (kO B E c Q n) Q':=⟨fun U s h=>by cases n <;> exact Ends.h (Q:=Q) U s h⟩
instance {Q':dH} [Ends Q Q']:Ends (subP Q) Q':=⟨fun U s h=>dm (Ends.h (Q:=Q) U s h)⟩
theorem rt {Q':dH} [Ends Q Q'] (h:Q' .ret U s):Q .ret U s:=Ends.h (Q:=Q) U s h
theorem er {P:Program} {rs:List ResultVar} {m:Nat} {r:Ret} (ns:Ren) (p:PP) (h1:(cm ns r.bs.length && ey ns m)=true:=by kernel_rfl) (h3:fq P rs ns r.bs.length s=some (p.P,r):=by kernel_rfl):ij P rs m r .ret U s:=ij.ret ns p.P h1 h3 p.h
theorem en {P:Program} {rs:List ResultVar} {m:Nat} {r:Ret} (ns:Ren) (p:PP) (h1:(cm ns r.bs.length && ey ns m)=true:=by kernel_rfl) (h3:fq P rs ns r.bs.length s=some (p.P,r):=by kernel_rfl):ij P rs m r .normal U s:=ij.nret ns p.P h1 h3 p.h
theorem sn {U':Nat} (ns:Ren) (kf:List Nat) {s'':St} (s':St) (h3:s'=s'':=by simp only [aR,aM]) (h:(cm ns U' && ey ns 16 && Nat.ble 16 U')=true:=by kernel_rfl) (hs:jP ns kf s=some s':=by kernel_rfl):Sub U s U' s'' :=
 (Sub.ren h hs).trans (Sub.of_eq h3)
theorem sp {U':Nat} (ns:Ren) (kf:List Nat) {s':St} (h:(cm ns U' && ey ns 16 && Nat.ble 16 U')=true:=by kernel_rfl) (hs:jP ns kf s=some s':=by kernel_rfl):Sub U s U' s':=Sub.ren h hs
end Go.Vm
namespace Go.Vm
open Go
def rmv {α:Type} (Zs:List Nat):List (Nat × α)→List (Nat × α)
 |[]=>[]
 |(m,v) :: r=>bif Zs.any (Nat.beq m) then rmv Zs r else (m,v) :: rmv Zs r
def Nx (d:Fr) (r:List Nat) (m:Mem) (mr:List Nat) (s:St):St:=(d++rmv r s.1,m++rmv mr s.2)
def kF (s:St):List Nat:=s.1.map (·.1)
def kM (s:St):List Nat:=s.2.map (·.1)
def Mi (b n:Nat) (x:List Int):Nat × Blk:=(b,.ints .u8 n x)
section
variable {B:Bs} {E:Env} {U:Nat} {s:St} {Q:dH}
theorem Xs {id:Nat} {ops:Array Oper} {c:Code} (d:Fr) (r:List Nat) (U':Nat) (p:PP) (hq:Tri B E c U' (Nx d r [] [] s) Q)
  (h:lw B [] U ops none (kF (Nx d r [] [] s)) (kM (Nx d r [] [] s)) s=some (p.P,Nx d r [] [] s):=by kernel_rfl) (hU:Nat.ble (U+16*ops.size) U'=true:=by kernel_rfl):Tri B E (.seq (.region id ops false) c) U s Q :=
 sq [] none _ _ _ U' p hq h rfl hU
class NEnd (Q:dH) (U0 n k:outParam Nat) (st':outParam St) (J':outParam Prop):Prop where
 h:∀ U s,k<n→J'→Sub U s U0 st'→Q .normal U s
instance {U0 n k:Nat} {st':St} {J':Prop} {Q:dH}:NEnd (jq U0 n k st' J' Q) U0 n k st' J':=⟨fun _ _ h1 h2 h3=>⟨h1,h2,h3⟩⟩
instance {U0 n k id:Nat} {st':St} {J':Prop} {Q:dH} [NEnd Q U0 n k st' J']:NEnd (pC id Q) U0 n k st' J':=⟨fun U s h1 h2 h3=>NEnd.h (Q:=Q) U s h1 h2 h3⟩
theorem Xa {c:Operand} {x:Bool} {d e:Code} (ht:x=true→Tri B E d U s Q) (hf:x=false→Tri B E e U s Q) (hc:ev B.G s.1 c=some (.sc (.b x)):=by rfl):Tri B E (.cond c d e) U s Q:=Tri.cond hc ht hf
theorem Xb {c:Operand} {P:Prop} {i:Decidable P} {d e:Code} (ht:decide P=true→P→Tri B E d U s Q) (hf:decide P=false→¬ P→Tri B E e U s Q) (hc:ev B.G s.1 c=some (.sc (.b (decide P))):=by rfl):Tri B E (.cond c d e) U s Q :=
 Tri.cond hc (fun h=>ht h (of_decide_eq_true h)) (fun h=>hf h (of_decide_eq_false h))
end
structure KL (P:Program) (G:dP) where
 l:Lib
 h:iU P G l
section
variable {P:Program} {G:dP}
def Zn:KL P G:=⟨[],trivial⟩
def Zc {f:FuncId} {z:Sig1} (K:Known P G f z) (nm:Nat) (ps:List Pass) (ms fs:List Nat) (r:KL P G):KL P G:=⟨⟨f,nm,ps,ms,fs,z,false⟩ :: r.l,⟨K,r.h⟩⟩
def Zs {f:FuncId} {z:Sig1} (K:Known P G f z) (nm:Nat) (ps:List Pass) (ms fs:List Nat) (r:KL P G):KL P G:=⟨⟨f,nm,ps,ms,fs,z,true⟩ :: r.l,⟨K,r.h⟩⟩
def Zv {f:FuncId} {z:Sig1} (K:Known P G f z) (nm n:Nat) (r:KL P G):KL P G:=⟨⟨f,nm,List.replicate n .val,[],[],z,false⟩ :: r.l,⟨K,r.h⟩⟩
def Zb (n:Nat) (r:KL P G):Bs:={ P:=P,G:=G,tab:=lN r.l,n:=n }
theorem Xw {f:FuncId} {z:Sig1} {c:Code} (fn:Func) (n:Nat) (r:KL P G) (hmix:P.follows .mixedOrders=true)
  (h:∀ (E:Env) (args:List AV) (ks:List Blk) (C:Prop) (r':Ret),z.spec args ks=some (C,r')→C→cl args→Nat.ble args.length n=true∧Tri (Zb n r) E c 16 ((List.range args.length).zip args,jL 0 ks) (ij P fn.results.toList z.m r'))
  (hf:P.funcs[f]?=some fn:=by kernel_rfl) (hb:fn.body=some c:=by rfl) (hn:(fn.name != "runtime.NumGoroutine")=true:=by kernel_rfl) (hnt:fn.ntmps=n:=by kernel_rfl) (hnb:z.nb≤16:=by decide) (hm:z.m≤16:=by decide):Known P G f z :=
 Known.walk (B:=Zb n r) ⟨qL r.h,hmix⟩ hf hb hn hnt hnb hm fun E a k C r' q1 q2 q3=>⟨Nat.le_of_ble_eq_true (h E a k C r' q1 q2 q3).1,(h E a k C r' q1 q2 q3).2⟩
end
def Yi (i:Int) (n:Nat) (h:0≤i∧i<((n:Nat):Int):=by first|omega|(rw [cp];omega)|exact cw _ _|exact cu _ _|exact cN (by omega) (by first|omega|(simp only [List.length_append];omega))|(rw [cf (by omega) (by omega)];omega)|decide):PP:=⟨0≤i∧i<((n:Nat):Int),h⟩
def Yj (i n:Nat) (h:i<n:=by first|omega|(rw [cp];omega)|exact cw _ _|exact cu _ _|exact cN (by omega) (by first|omega|(simp only [List.length_append];omega))|(rw [cf (by omega) (by omega)];omega)|decide):PP:=⟨0≤((i:Nat):Int)∧((i:Nat):Int)<((n:Nat):Int),by omega⟩
def Yl (a b:Nat) (h:a<b:=by first|omega|(rw [cp];omega)|exact cw _ _|exact cu _ _|exact cN (by omega) (by first|omega|(simp only [List.length_append];omega))|(rw [cf (by omega) (by omega)];omega)|decide):PP:=⟨a<b,h⟩
def Ye (a b:Nat) (h:a≤b:=by first|omega|(rw [cp];omega)|exact cw _ _|exact cu _ _|exact cN (by omega) (by first|omega|(simp only [List.length_append];omega))|(rw [cf (by omega) (by omega)];omega)|decide):PP:=⟨a≤b,h⟩
def Yw (n:Nat):PP:=⟨0+n≤n,by omega⟩
def Yr {α:Type} (x:α):PP:=⟨x=x,rfl⟩
def Yp (a b:Nat) (h:a+b<9223372036854775808:=by omega):PP:=⟨cO .i64 (a:Int) (b:Int)=((a+b:Nat):Int),nx h⟩
def Yn (i:Int) (h:i≠0:=by first|omega|(rw [cp];omega)|exact cw _ _|exact cu _ _|exact cN (by omega) (by first|omega|(simp only [List.length_append];omega))|(rw [cf (by omega) (by omega)];omega)|decide):PP:=⟨i≠0,h⟩
def Y0 (i:Int) (h:0≤i:=by first|omega|(rw [cp];omega)|exact cw _ _|exact cu _ _|exact cN (by omega) (by first|omega|(simp only [List.length_append];omega))|(rw [cf (by omega) (by omega)];omega)|decide):PP:=⟨0≤i,h⟩
def Yz (n:Nat):PP:=pa pT ⟨n=n,rfl⟩
def Ys (a b:Nat) (h:a<b:=by first|omega|(rw [cp];omega)|exact cw _ _|exact cu _ _|exact cN (by omega) (by first|omega|(simp only [List.length_append];omega))|(rw [cf (by omega) (by omega)];omega)|decide):PP:=pa ⟨a<b,h⟩ ⟨1=1,rfl⟩
def Yc (i:Nat):(n:Nat)→(k:Nat)→(h:Nat.ble (i+n) k=true)→PP
 |0,_,_=>pT
 |n+1,k,h=>pa (pa ⟨i<k,by have:=Nat.le_of_ble_eq_true h;omega⟩ ⟨1=1,rfl⟩) (Yc (i+1) n k (by have:=Nat.le_of_ble_eq_true h;exact Nat.ble_eq_true_of_le (by omega)))
def Yb (n:Nat):PP:=Yc 0 n n (Nat.ble_eq_true_of_le (by omega))
def Yf (n:Nat) (h:n*1≤16777216:=by decide):PP:=pa (Yb n) (pa ⟨n*1≤16777216,h⟩ ⟨1=1,rfl⟩)
def YN (C:PP) (y n k m:Nat) (h1:n*y≤140737488355328:=by first|omega|(rw [cp];omega)|exact cw _ _|exact cu _ _|exact cN (by omega) (by first|omega|(simp only [List.length_append];omega))|(rw [cf (by omega) (by omega)];omega)|decide) (h0:n≤140737488355328:=by first|omega|(rw [cp];omega)|exact cw _ _|exact cu _ _|exact cN (by omega) (by first|omega|(simp only [List.length_append];omega))|(rw [cf (by omega) (by omega)];omega)|decide) (h2:k=m*1:=by first|omega|(rw [cp];omega)|exact cw _ _|exact cu _ _|exact cN (by omega) (by first|omega|(simp only [List.length_append];omega))|(rw [cf (by omega) (by omega)];omega)|decide):PP :=
 pa (pa (pa C ⟨1=1,rfl⟩) (pa ⟨0<1,Nat.one_pos⟩ (pa ⟨n*y≤140737488355328,h1⟩ ⟨n≤140737488355328,h0⟩))) ⟨k=m*1,h2⟩
def Ya (C:PP) (y n k m len k0:Nat) (h1:n*y≤140737488355328:=by first|omega|(rw [cp];omega)|exact cw _ _|exact cu _ _|exact cN (by omega) (by first|omega|(simp only [List.length_append];omega))|(rw [cf (by omega) (by omega)];omega)|decide) (h0:n≤140737488355328:=by first|omega|(rw [cp];omega)|exact cw _ _|exact cu _ _|exact cN (by omega) (by first|omega|(simp only [List.length_append];omega))|(rw [cf (by omega) (by omega)];omega)|decide) (h2:k=m*1:=by first|omega|(rw [cp];omega)|exact cw _ _|exact cu _ _|exact cN (by omega) (by first|omega|(simp only [List.length_append];omega))|(rw [cf (by omega) (by omega)];omega)|decide) (h3:0+len*1=k0:=by first|omega|(rw [cp];omega)|exact cw _ _|exact cu _ _|exact cN (by omega) (by first|omega|(simp only [List.length_append];omega))|(rw [cf (by omega) (by omega)];omega)|decide):PP :=
 pa (YN C y n k m h1 h0 h2) (pa ⟨1=1,rfl⟩ ⟨0+len*1=k0,h3⟩)
end Go.Vm
namespace Go.Vm
open Go
theorem cM:Go.Proofs.Try.prog.follows .mixedOrders=true:=by kernel_rfl
def pO:List AV→List Blk→Option (Prop × Ret)
 |[.sc (.ro .u8 p0)],[]=>some (True,⟨.sc (.p 0 0),[some (.cells [.ro .u8 p0,.b false])]⟩)
 |_,_=>none
theorem qu:Known Go.Proofs.Try.prog noG 31 ⟨0,1,pO⟩:=by
 refine Xw Go.Proofs.Try.f31 6 Zn cM <|fun E args ks C r h hC hlen=>?_
 simp only at h
 unfold pO at h
 split at h
 rotate_left
 cases h
 rename_i p0
 cases h
 simp only [cl] at hlen
 refine ⟨rfl,?_⟩
 exact Tri.sub (Sub.of_eq (show _=([(0,.sc (.ro .u8 p0))],[]) from rfl)) <|sq [] none [0] [] ([(0,.sc (.ro .u8 p0))],[]) 32 (v1 pT) <|sq [] none [2] [64] ([(2,.sc (.p 64 0))],[(64,.cells [.ro .u8 p0,.b false])]) 96 (v1 (pu (pa (Ys 0 2) pT) (v2 pT))) <|Tri.ret <|rt <|er [(64,0)] pz
def cz (p0:List Int) (p1:Bool) (p2:Int):List Int :=
 (p0.drop 0).take (((p2).toNat)-0)
def dR (p0:List Int) (p1:Bool) (p2:Int):List Int :=
 (p0.drop ((p2).toNat)).take (p0.length-((p2).toNat))
def ka:List AV→List Blk→Option (Prop × Ret)
 |[.sc (.p 0 0),.sc (.i .i64 p2)],[.cells [.ro .u8 p0,.b p1]]=>some (((p1=false)∧(((decide ((p2:Int)>((p0.length:Nat):Int)))=false)∧((0:Int)≤p2))),⟨.sc (.ro .u8 (cz p0 p1 p2)),[some (.cells [.ro .u8 (dR p0 p1 p2),.b p1])]⟩)
 |_,_=>none
theorem oU:Known Go.Proofs.Try.prog noG 42 ⟨1,0,ka⟩:=by
 refine Xw Go.Proofs.Try.f42 48 Zn cM <|fun E args ks C r h hC hlen=>?_
 simp only at h
 unfold ka at h
 split at h
 rotate_left
 cases h
 rename_i p2 p0 p1
 cases h
 simp only [cl] at hlen
 have hG0:=hC.1
 have hG1:=hC.2.1
 have hG1':=of_decide_eq_false hG1
 have hC:=hC.2.2
 refine ⟨rfl,?_⟩
 refine Tri.sub (Sub.of_eq (show _=([(0,.sc (.p 0 0)),(1,.sc (.i .i64 p2))],[(0,.cells [.ro .u8 p0,.b p1])]) from rfl)) <|sq [] none [0,1] [0] ([(0,.sc (.p 0 0)),(1,.sc (.i .i64 p2))],[(0,.cells [.ro .u8 p0,.b p1])]) 32 (v1 pT) <|Tri.seq <|sq [(14,qb false)] none [22,0,1] [0] ([(22,.sc (.b (decide ((p2:Int)>((p0.length:Nat):Int))))),(0,.sc (.p 0 0)),(1,.sc (.i .i64 p2))],[(0,.cells [.ro .u8 p0,.b p1])]) 304 (v6 (pu (Yl 1 2) (v1 (pg hG0 (v4 (pu (Yl 0 2) (v3 pT))))))) <|Tri.cond (x:=(decide ((p2:Int)>((p0.length:Nat):Int)))) (by kernel_rfl) (fun h=>absurd (h.symm.trans hG1) (by decide)) (fun h=>?_)
 exact Tri.skip <|sq [] none [5,0,1] [0] ([(5,.sc (.ro .u8 ((p0.drop 0).take (((p2).toNat)-0)))),(0,.sc (.p 0 0)),(1,.sc (.i .i64 p2))],[(0,.cells [.ro .u8 p0,.b p1])]) 432 (v3 (pu (Yl 0 2) (v2 (pu (lo ((0:Int)≤0∧(0:Int)≤p2∧(p2:Int)≤p2∧(p2:Int)≤(p0.length:Int))) (v1 pT))))) <|sq [] none [5] [0] ([(5,.sc (.ro .u8 ((p0.drop 0).take (((p2).toNat)-0))))],[(0,.cells [.ro .u8 ((p0.drop ((p2).toNat)).take (p0.length-((p2).toNat))),.b p1])]) 592 (v4 (pu (Yl 0 2) (v1 (pu (lo ((0:Int)≤p2∧(p2:Int)≤((p0.length:Nat):Int)∧((p0.length:Nat):Int)≤(p0.length:Int))) (v2 (pu (Ys 0 2) pT)))))) <|sq [] none [4] [0] ([(4,.sc (.ro .u8 ((p0.drop 0).take (((p2).toNat)-0))))],[(0,.cells [.ro .u8 ((p0.drop ((p2).toNat)).take (p0.length-((p2).toNat))),.b p1])]) 624 (v2 pT) <|Tri.ret <|rt <|er [(0,0)] pz
theorem eB {p0:List Int} {p1:Bool} {p2:Int} (h:(decide ((p2:Int)>((p0.length:Nat):Int)))=false) (h0:0≤p2):((cz p0 p1 p2).length:Int)=p2:=by
 have:=of_decide_eq_false h
 unfold cz
 simp only [List.length_take,List.length_drop]
 omega
def lR:List AV→List Blk→Option (Prop × Ret)
 |[.sc (.p 0 0),.sc (.i .i64 p2)],[.cells [.ro .u8 p0,.b p1]]=>some (((p1=false)∧(((decide ((p2:Int)>((p0.length:Nat):Int)))=true)∧True)),⟨.sc (.nils),[some (.cells [.ro .u8 ([]:List Int),.b true])]⟩)
 |_,_=>none
theorem pG:Known Go.Proofs.Try.prog noG 42 ⟨1,0,lR⟩:=by
 refine Xw Go.Proofs.Try.f42 48 Zn cM <|fun E args ks C r h hC hlen=>?_
 simp only at h
 unfold lR at h
 split at h
 rotate_left
 cases h
 rename_i p2 p0 p1
 cases h
 simp only [cl] at hlen
 have hG0:=hC.1
 have hG1:=hC.2.1
 have hG1':=of_decide_eq_true hG1
 have hC:=hC.2.2
 refine ⟨rfl,?_⟩
 refine Tri.sub (Sub.of_eq (show _=([(0,.sc (.p 0 0)),(1,.sc (.i .i64 p2))],[(0,.cells [.ro .u8 p0,.b p1])]) from rfl)) <|sq [] none [0,1] [0] ([(0,.sc (.p 0 0)),(1,.sc (.i .i64 p2))],[(0,.cells [.ro .u8 p0,.b p1])]) 32 (v1 pT) <|Tri.seq <|sq [(14,qb false)] none [22,0,1] [0] ([(22,.sc (.b (decide ((p2:Int)>((p0.length:Nat):Int))))),(0,.sc (.p 0 0)),(1,.sc (.i .i64 p2))],[(0,.cells [.ro .u8 p0,.b p1])]) 304 (v6 (pu (Yl 1 2) (v1 (pg hG0 (v4 (pu (Yl 0 2) (v3 pT))))))) <|Tri.cond (x:=(decide ((p2:Int)>((p0.length:Nat):Int)))) (by kernel_rfl) (fun h=>?_) (fun h=>absurd (h.symm.trans hG1) (by decide))
 exact Tri.seq <|sq [] none [24,0] [0] ([(24,.sc (.b true)),(0,.sc (.p 0 0))],[(0,.cells [.ro .u8 p0,.b p1])]) 336 (v2 pT) <|Tri.cond_true (by kernel_rfl) <|rq [] none [] [0] ([],[(0,.cells [.nils,.b true])]) 464 (v4 (pu (Ys 1 2) (v2 (pu (Ys 0 2) pT)))) <|sq [] none [4] [0] ([(4,.sc (.nils))],[(0,.cells [.nils,.b true])]) 480 (v1 pT) <|Tri.sub (Sub.nilCell (l:=[.nils,.b true]) 0 0 .u8 (by kernel_rfl) (by kernel_rfl)) <|Tri.ret <|rt <|er [(0,0)] pz
def jb:List AV→List Blk→Option (Prop × Ret)
 |[.sc (.p 0 0),.sc (.i .i64 p2)],[.cells [.ro .u8 p0,.b p1]]=>some (((p1=true)∧True),⟨.sc (.nils),[some (.cells [.ro .u8 ([]:List Int),.b true])]⟩)
 |_,_=>none
theorem nc:Known Go.Proofs.Try.prog noG 42 ⟨1,0,jb⟩:=by
 refine Xw Go.Proofs.Try.f42 48 Zn cM <|fun E args ks C r h hC hlen=>?_
 simp only at h
 unfold jb at h
 split at h
 rotate_left
 cases h
 rename_i p2 p0 p1
 cases h
 simp only [cl] at hlen
 have hG0:=hC.1
 have hC:=hC.2
 refine ⟨rfl,?_⟩
 exact Tri.sub (Sub.of_eq (show _=([(0,.sc (.p 0 0)),(1,.sc (.i .i64 p2))],[(0,.cells [.ro .u8 p0,.b p1])]) from rfl)) <|sq [] none [0,1] [0] ([(0,.sc (.p 0 0)),(1,.sc (.i .i64 p2))],[(0,.cells [.ro .u8 p0,.b p1])]) 32 (v1 pT) <|Tri.seq <|sq [(14,qb true)] none [22,0,1] [0] ([(22,.sc (.b true)),(0,.sc (.p 0 0)),(1,.sc (.i .i64 p2))],[(0,.cells [.ro .u8 p0,.b p1])]) 304 (v6 (pu (Yl 1 2) (v1 (pg hG0 (v8 pT))))) <|Tri.cond_true (by kernel_rfl) <|Tri.seq <|sq [] none [24,0] [0] ([(24,.sc (.b true)),(0,.sc (.p 0 0))],[(0,.cells [.ro .u8 p0,.b p1])]) 336 (v2 pT) <|Tri.cond_true (by kernel_rfl) <|rq [] none [] [0] ([],[(0,.cells [.nils,.b true])]) 464 (v4 (pu (Ys 1 2) (v2 (pu (Ys 0 2) pT)))) <|sq [] none [4] [0] ([(4,.sc (.nils))],[(0,.cells [.nils,.b true])]) 480 (v1 pT) <|Tri.sub (Sub.nilCell (l:=[.nils,.b true]) 0 0 .u8 (by kernel_rfl) (by kernel_rfl)) <|Tri.ret <|rt <|er [(0,0)] pz
def bZ (p0:List Int) (p1:Bool) (p2:Int):List Int :=
 (sel p1 ([]:List Int) (sel (decide ((p2:Int)>((p0.length:Nat):Int))) ([]:List Int) ((p0.drop 0).take (((p2).toNat)-0))))
def bm (p0:List Int) (p1:Bool) (p2:Int):List Int :=
 (sel p1 ([]:List Int) (sel (decide ((p2:Int)>((p0.length:Nat):Int))) ([]:List Int) ((p0.drop ((p2).toNat)).take (p0.length-((p2).toNat)))))
def bk (p0:List Int) (p1:Bool) (p2:Int):Bool :=
 (sel p1 true (sel (decide ((p2:Int)>((p0.length:Nat):Int))) true p1))
def mH:List AV→List Blk→Option (Prop × Ret)
 |[.sc (.p 0 0),.sc (.i .i64 p2)],[.cells [.ro .u8 p0,.b p1]]=>some (((0:Int)≤p2),⟨.sc (.ro .u8 (bZ p0 p1 p2)),[some (.cells [.ro .u8 (bm p0 p1 p2),.b (bk p0 p1 p2)])]⟩)
 |_,_=>none
theorem kN:Known Go.Proofs.Try.prog noG 42 ⟨1,0,mH⟩:=by
 refine Xw Go.Proofs.Try.f42 48 Zn cM <|fun E args ks C r h hC hlen=>?_
 simp only at h
 unfold mH at h
 split at h
 rotate_left
 cases h
 rename_i p2 p0 p1
 cases h
 simp only [cl] at hlen
 refine ⟨rfl,?_⟩
 refine Tri.sub (Sub.of_eq (show _=([(0,.sc (.p 0 0)),(1,.sc (.i .i64 p2))],[(0,.cells [.ro .u8 p0,.b p1])]) from rfl)) <|sq [] none [0,1] [0] ([(0,.sc (.p 0 0)),(1,.sc (.i .i64 p2))],[(0,.cells [.ro .u8 p0,.b p1])]) 32 (v1 pT) <|Tri.seq <|Tri.split p1 (fun h1=>?_) (fun h1=>?_)
 exact sq [(14,qb true)] none [22,0,1] [0] ([(22,.sc (.b true)),(0,.sc (.p 0 0)),(1,.sc (.i .i64 p2))],[(0,.cells [.ro .u8 p0,.b p1])]) 304 (v6 (pu (Yl 1 2) (v1 (pg h1 (v8 pT))))) <|Tri.cond_true (by kernel_rfl) <|Tri.seq <|sq [] none [24,0] [0] ([(24,.sc (.b true)),(0,.sc (.p 0 0))],[(0,.cells [.ro .u8 p0,.b p1])]) 336 (v2 pT) <|Tri.cond_true (by kernel_rfl) <|rq [] none [] [0] ([],[(0,.cells [.nils,.b true])]) 464 (v4 (pu (Ys 1 2) (v2 (pu (Ys 0 2) pT)))) <|sq [] none [4] [0] ([(4,.sc (.nils))],[(0,.cells [.nils,.b true])]) 480 (v1 pT) <|Tri.sub (Sub.nilRo 4 .u8 (by kernel_rfl)) <|Tri.sub (Sub.nilCell (l:=[.nils,.b true]) 0 0 .u8 (by kernel_rfl) (by kernel_rfl)) <|Tri.ret <|rt <|ij.conv (r':=⟨.sc (.ro .u8 ([]:List Int)),[some (.cells [.ro .u8 ([]:List Int),.b true])]⟩) (by simp only [bZ,bm,bk,h1,aR,aM]) <|er [(0,0)] pz
 refine sq [(14,qb false)] none [22,0,1] [0] ([(22,.sc (.b (decide ((p2:Int)>((p0.length:Nat):Int))))),(0,.sc (.p 0 0)),(1,.sc (.i .i64 p2))],[(0,.cells [.ro .u8 p0,.b p1])]) 304 (v6 (pu (Yl 1 2) (v1 (pg h1 (v4 (pu (Yl 0 2) (v3 pT))))))) <|Xb (fun h2 h2'=>?_) (fun h2 h2'=>?_)
 exact Tri.seq <|sq [] none [24,0] [0] ([(24,.sc (.b true)),(0,.sc (.p 0 0))],[(0,.cells [.ro .u8 p0,.b p1])]) 336 (v2 pT) <|Tri.cond_true (by kernel_rfl) <|rq [] none [] [0] ([],[(0,.cells [.nils,.b true])]) 464 (v4 (pu (Ys 1 2) (v2 (pu (Ys 0 2) pT)))) <|sq [] none [4] [0] ([(4,.sc (.nils))],[(0,.cells [.nils,.b true])]) 480 (v1 pT) <|Tri.sub (Sub.nilRo 4 .u8 (by kernel_rfl)) <|Tri.sub (Sub.nilCell (l:=[.nils,.b true]) 0 0 .u8 (by kernel_rfl) (by kernel_rfl)) <|Tri.ret <|rt <|ij.conv (r':=⟨.sc (.ro .u8 ([]:List Int)),[some (.cells [.ro .u8 ([]:List Int),.b true])]⟩) (by simp only [bZ,bm,bk,h1,h2,aR,aM]) <|er [(0,0)] pz
 exact Tri.skip <|sq [] none [5,0,1] [0] ([(5,.sc (.ro .u8 ((p0.drop 0).take (((p2).toNat)-0)))),(0,.sc (.p 0 0)),(1,.sc (.i .i64 p2))],[(0,.cells [.ro .u8 p0,.b p1])]) 432 (v3 (pu (Yl 0 2) (v2 (pu (lo ((0:Int)≤0∧(0:Int)≤p2∧(p2:Int)≤p2∧(p2:Int)≤(p0.length:Int))) (v1 pT))))) <|sq [] none [5] [0] ([(5,.sc (.ro .u8 ((p0.drop 0).take (((p2).toNat)-0))))],[(0,.cells [.ro .u8 ((p0.drop ((p2).toNat)).take (p0.length-((p2).toNat))),.b p1])]) 592 (v4 (pu (Yl 0 2) (v1 (pu (lo ((0:Int)≤p2∧(p2:Int)≤((p0.length:Nat):Int)∧((p0.length:Nat):Int)≤(p0.length:Int))) (v2 (pu (Ys 0 2) pT)))))) <|sq [] none [4] [0] ([(4,.sc (.ro .u8 ((p0.drop 0).take (((p2).toNat)-0))))],[(0,.cells [.ro .u8 ((p0.drop ((p2).toNat)).take (p0.length-((p2).toNat))),.b p1])]) 624 (v2 pT) <|Tri.ret <|rt <|ij.conv (r':=⟨.sc (.ro .u8 ((p0.drop 0).take (((p2).toNat)-0))),[some (.cells [.ro .u8 ((p0.drop ((p2).toNat)).take (p0.length-((p2).toNat))),.b p1])]⟩) (by simp only [bZ,bm,bk,h1,h2,aR,aM]) <|er [(0,0)] pz
theorem jF (p0:List Int) (p1:Bool) (p2:Int):(bZ p0 p1 p2).length≤p2.toNat:=by
 unfold bZ
 cases p1
 ·simp only [aM]
  cases (decide ((p2:Int)>((p0.length:Nat):Int)))
  ·simp only [aM,List.length_take,List.length_drop];omega
  ·simp only [aR,List.length_nil];omega
 ·simp only [aR,List.length_nil];omega
def bu (p0:List Int) (p1:Bool):Int :=
 (sel p1 0 (sel (decide ((1:Int)>((p0.length:Nat):Int))) 0 ((cz p0 p1 1).getD 0 0)))
def bA (p0:List Int) (p1:Bool):List Int :=
 (sel p1 ([]:List Int) (sel (decide ((1:Int)>((p0.length:Nat):Int))) ([]:List Int) (dR p0 p1 1)))
def bB (p0:List Int) (p1:Bool):Bool :=
 (sel p1 true (sel (decide ((1:Int)>((p0.length:Nat):Int))) true p1))
def oh:List AV→List Blk→Option (Prop × Ret)
 |[.sc (.p 0 0)],[.cells [.ro .u8 p0,.b p1]]=>some (True,⟨.sc (.i .u8 (bu p0 p1)),[some (.cells [.ro .u8 (bA p0 p1),.b (bB p0 p1)])]⟩)
 |_,_=>none
theorem oK:Known Go.Proofs.Try.prog noG 32 ⟨1,0,oh⟩:=by
 refine Xw Go.Proofs.Try.f32 11 (Zc nc 48 [.io,.val] [] [0] <|Zc pG 144 [.io,.val] [] [0] <|Zc oU 240 [.io,.val] [] [0] <|Zn) cM <|fun E args ks C r h hC hlen=>?_
 simp only at h
 unfold oh at h
 split at h
 rotate_left
 cases h
 rename_i p0 p1
 cases h
 simp only [cl] at hlen
 refine ⟨rfl,?_⟩
 refine Tri.sub (Sub.of_eq (show _=([(0,.sc (.p 0 0))],[(0,.cells [.ro .u8 p0,.b p1])]) from rfl)) <|sq [] none [0] [0] ([(0,.sc (.p 0 0))],[(0,.cells [.ro .u8 p0,.b p1])]) 32 (v1 pT) <|Tri.seq <|Tri.split p1 (fun h1=>?_) (fun h1=>?_)
 exact sq [] none [3] [0] ([(3,.sc (.nils))],[(0,.cells [.ro .u8 ([]:List Int),.b true])]) 80 (v1 (pu (pa pT (pa (pl h1) pT)) (v1 pT))) <|sq [] none [7,3] [0] ([(7,.sc (.b false)),(3,.sc (.nils))],[(0,.cells [.ro .u8 ([]:List Int),.b true])]) 112 (v2 pT) <|Tri.cond_false (by kernel_rfl) <|Tri.skip <|sq [] none [2] [0] ([(2,.sc (.i .u8 0))],[(0,.cells [.ro .u8 ([]:List Int),.b true])]) 128 (v1 pT) <|Tri.ret <|rt <|ij.conv (r':=⟨.sc (.i .u8 0),[some (.cells [.ro .u8 ([]:List Int),.b true])]⟩) (by simp only [bu,bA,bB,h1,aR,aM]) <|er [(0,0)] pz
 refine Tri.sub (Sub.up (U':=128) (by decide)) <|Tri.split (decide ((1:Int)>((p0.length:Nat):Int))) (fun h2=>?_) (fun h2=>?_)
 have h2':=of_decide_eq_true h2
 exact sq [] none [3] [0] ([(3,.sc (.nils))],[(0,.cells [.ro .u8 ([]:List Int),.b true])]) 176 (v1 (pu (pa pT (pa (pl h1) (pa (pl h2) pT))) (v1 pT))) <|sq [] none [7,3] [0] ([(7,.sc (.b false)),(3,.sc (.nils))],[(0,.cells [.ro .u8 ([]:List Int),.b true])]) 208 (v2 pT) <|Tri.cond_false (by kernel_rfl) <|Tri.skip <|sq [] none [2] [0] ([(2,.sc (.i .u8 0))],[(0,.cells [.ro .u8 ([]:List Int),.b true])]) 224 (v1 pT) <|Tri.ret <|rt <|ij.conv (r':=⟨.sc (.i .u8 0),[some (.cells [.ro .u8 ([]:List Int),.b true])]⟩) (by simp only [bu,bA,bB,h1,h2,aR,aM]) <|er [(0,0)] pz
 have h2':=of_decide_eq_false h2
 refine Tri.sub (Sub.up (U':=224) (by decide)) <|sq [] none [3] [0] ([(3,.sc (.ro .u8 (cz p0 p1 1)))],[(0,.cells [.ro .u8 (dR p0 p1 1),.b p1])]) 272 (v1 (pu (pa pT (pa (pl h1) (pa (pl h2) (pl (show (0:Int)≤1 from by first|omega|(have hq:=eB (p0:=p0) (p1:=p1) (p2:=1) (by assumption) (by decide);omega)|decide))))) (v1 pT))) ?_
 refine sq [] none [7,3] [0] ([(7,.sc (.b true)),(3,.sc (.ro .u8 (cz p0 p1 1)))],[(0,.cells [.ro .u8 (dR p0 p1 1),.b p1])]) 304 (v1 (pu (pl (show 0<(cz p0 p1 1).length from by first|omega|(have hq:=eB (p0:=p0) (p1:=p1) (p2:=1) (by assumption) (by decide);omega)|decide)) pT)) ?_
 refine Tri.cond_true (by kernel_rfl) <|sq [] none [2] [0] ([(2,.sc (.i .u8 ((cz p0 p1 1).getD 0 0)))],[(0,.cells [.ro .u8 (dR p0 p1 1),.b p1])]) 368 (v1 (pu (pl (show (0:Int)≤0∧0<((cz p0 p1 1).length:Int) from by first|omega|(have hq:=eB (p0:=p0) (p1:=p1) (p2:=1) (by assumption) (by decide);omega)|decide)) (pu (pl (show 0<(cz p0 p1 1).length from by first|omega|(have hq:=eB (p0:=p0) (p1:=p1) (p2:=1) (by assumption) (by decide);omega)|decide)) (v1 pT)))) ?_
 exact Tri.ret <|rt <|ij.conv (r':=⟨.sc (.i .u8 ((cz p0 p1 1).getD 0 0)),[some (.cells [.ro .u8 (dR p0 p1 1),.b p1])]⟩) (by simp only [bu,bA,bB,h1,h2,aR,aM]) <|er [(0,0)] pz
def bd (p0:List Int) (p1:Bool):Bool :=
 (((bu p0 p1):Int) != 0)
def aO (p0:List Int) (p1:Bool):List Int :=
 (bA p0 p1)
def aP (p0:List Int) (p1:Bool):Bool :=
 (bB p0 p1)
def nw:List AV→List Blk→Option (Prop × Ret)
 |[.sc (.p 0 0)],[.cells [.ro .u8 p0,.b p1]]=>some (True,⟨.sc (.b (bd p0 p1)),[some (.cells [.ro .u8 (aO p0 p1),.b (aP p0 p1)])]⟩)
 |_,_=>none
theorem qv:Known Go.Proofs.Try.prog noG 46 ⟨1,0,nw⟩:=by
 refine Xw Go.Proofs.Try.f46 6 (Zc oK 48 [.io] [] [0] <|Zn) cM <|fun E args ks C r h hC hlen=>?_
 simp only at h
 unfold nw at h
 split at h
 rotate_left
 cases h
 rename_i p0 p1
 cases h
 simp only [cl] at hlen
 refine ⟨rfl,?_⟩
 exact Tri.sub (Sub.of_eq (show _=([(0,.sc (.p 0 0))],[(0,.cells [.ro .u8 p0,.b p1])]) from rfl)) <|sq [] none [0] [0] ([(0,.sc (.p 0 0))],[(0,.cells [.ro .u8 p0,.b p1])]) 32 (v1 pT) <|sq [] none [2] [0] ([(2,.sc (.b (((bu p0 p1):Int) != 0)))],[(0,.cells [.ro .u8 (bA p0 p1),.b (bB p0 p1)])]) 96 (v1 (pu pz (v2 pT))) <|Tri.ret <|rt <|er [(0,0)] pz
def fC (p0:List Int) (p1:Bool):Bool :=
 (!p1)
def rM:List AV→List Blk→Option (Prop × Ret)
 |[.sc (.p 0 0)],[.cells [.ro .u8 p0,.b p1]]=>some (True,⟨.sc (.b (fC p0 p1)),[some (.cells [.ro .u8 p0,.b p1])]⟩)
 |_,_=>none
theorem qg:Known Go.Proofs.Try.prog noG 36 ⟨1,0,rM⟩:=by
 refine Xw Go.Proofs.Try.f36 12 Zn cM <|fun E args ks C r h hC hlen=>?_
 simp only at h
 unfold rM at h
 split at h
 rotate_left
 cases h
 rename_i p0 p1
 cases h
 simp only [cl] at hlen
 refine ⟨rfl,?_⟩
 exact Tri.sub (Sub.of_eq (show _=([(0,.sc (.p 0 0))],[(0,.cells [.ro .u8 p0,.b p1])]) from rfl)) <|sq [] none [0] [0] ([(0,.sc (.p 0 0))],[(0,.cells [.ro .u8 p0,.b p1])]) 32 (v1 pT) <|sq [] none [2] [0] ([(2,.sc (.b (!p1)))],[(0,.cells [.ro .u8 p0,.b p1])]) 192 (v6 (pu (Yl 1 2) (v3 pT))) <|Tri.ret <|rt <|er [(0,0)] pz
def dG (p0:List Int) (p1:Bool):Bool :=
 (sel (fC p0 p1) ((((p0.length:Nat):Int):Int)==0) false)
def qC:List AV→List Blk→Option (Prop × Ret)
 |[.sc (.p 0 0)],[.cells [.ro .u8 p0,.b p1]]=>some (True,⟨.sc (.b (dG p0 p1)),[some (.cells [.ro .u8 p0,.b p1])]⟩)
 |_,_=>none
theorem hI:Known Go.Proofs.Try.prog noG 44 ⟨1,0,qC⟩:=by
 refine Xw Go.Proofs.Try.f44 13 (Zc qg 48 [.io] [] [0] <|Zn) cM <|fun E args ks C r h hC hlen=>?_
 simp only at h
 unfold qC at h
 split at h
 rotate_left
 cases h
 rename_i p0 p1
 cases h
 simp only [cl] at hlen
 refine ⟨rfl,?_⟩
 refine Tri.sub (Sub.of_eq (show _=([(0,.sc (.p 0 0))],[(0,.cells [.ro .u8 p0,.b p1])]) from rfl)) <|sq [] none [0] [0] ([(0,.sc (.p 0 0))],[(0,.cells [.ro .u8 p0,.b p1])]) 32 (v1 pT) <|Tri.split (fC p0 p1) (fun h1=>?_) (fun h1=>?_)
 exact sq [(5,qb true)] none [2] [0] ([(2,.sc (.b ((((p0.length:Nat):Int):Int)==0)))],[(0,.cells [.ro .u8 p0,.b p1])]) 208 (v1 (pu pz (pg h1 (v3 (pu (Yl 0 2) (v4 pT)))))) <|Tri.ret <|rt <|ij.conv (r':=⟨.sc (.b ((((p0.length:Nat):Int):Int)==0)),[some (.cells [.ro .u8 p0,.b p1])]⟩) (by simp only [dG,h1,aR,aM]) <|er [(0,0)] pz
 exact sq [(5,qb false)] none [2] [0] ([(2,.sc (.b false))],[(0,.cells [.ro .u8 p0,.b p1])]) 208 (v1 (pu pz (pg h1 (v8 pT)))) <|Tri.ret <|rt <|ij.conv (r':=⟨.sc (.b false),[some (.cells [.ro .u8 p0,.b p1])]⟩) (by simp only [dG,h1,aR,aM]) <|er [(0,0)] pz
def eY (p0:List Int) (p1:Bool) (k0:Nat) (z0:Int):Int :=
 (iOr .u32 (gR .u32 z0 8) (IntKind.wrap .u32 ((bZ p0 p1 4).getD k0 0)))
def ai (p0:List Int) (p1:Bool):Int :=
 (itr (eY p0 p1) ((bZ p0 p1 4).length) 0)
def aD (p0:List Int) (p1:Bool):List Int :=
 (bm p0 p1 4)
def aE (p0:List Int) (p1:Bool):Bool :=
 (bk p0 p1 4)
def qM:List AV→List Blk→Option (Prop × Ret)
 |[.sc (.p 0 0)],[.cells [.ro .u8 p0,.b p1]]=>some (True,⟨.sc (.i .u32 (ai p0 p1)),[some (.cells [.ro .u8 (aD p0 p1),.b (aE p0 p1)])]⟩)
 |_,_=>none
theorem ff:Known Go.Proofs.Try.prog noG 35 ⟨1,0,qM⟩:=by
 refine Xw Go.Proofs.Try.f35 20 (Zc kN 64 [.io,.val] [] [0] <|Zn) cM <|fun E args ks C r h hC hlen=>?_
 simp only at h
 unfold qM at h
 split at h
 rotate_left
 cases h
 rename_i p0 p1
 cases h
 simp only [cl] at hlen
 have hf0:(bZ p0 p1 4).length≤4:=jF p0 p1 4
 refine ⟨rfl,?_⟩
 refine Tri.sub (Sub.of_eq (show _=([(0,.sc (.p 0 0))],[(0,.cells [.ro .u8 p0,.b p1])]) from rfl)) <|sq [] none [0] [0] ([(0,.sc (.p 0 0))],[(0,.cells [.ro .u8 p0,.b p1])]) 32 (v1 pT) <|sq [] none [3,0] [0] ([(3,.sc (.i .u32 0)),(0,.sc (.p 0 0))],[(0,.cells [.ro .u8 p0,.b p1])]) 48 (v1 pT) <|Tri.seq <|sq [] none [9,8,7,3] [0] ([(9,.sc (.i .i64 0)),(8,.sc (.i .i64 (((bZ p0 p1 4).length:Nat):Int))),(7,.sc (.ro .u8 (bZ p0 p1 4))),(3,.sc (.i .u32 0))],[(0,.cells [.ro .u8 (bm p0 p1 4),.b (bk p0 p1 4)])]) 112 (v1 (pu (pa pT (Y0 4)) (v2 pT))) <|Tri.block <|Tri.count 112 ((bZ p0 p1 4).length) (eY p0 p1) 0 (fun k0 z0=>True) (fun k0 z0=>([(9,.sc (.i .i64 ((k0:Nat):Int))),(8,.sc (.i .i64 (((bZ p0 p1 4).length:Nat):Int))),(7,.sc (.ro .u8 (bZ p0 p1 4))),(3,.sc (.i .u32 z0))],[(0,.cells [.ro .u8 (bm p0 p1 4),.b (bk p0 p1 4)])])) trivial (Sub.of_eq (by kernel_rfl)) <|fun k0 z0 hk0 hz0 hJ0=>sq [] none [10,9,8,7,3] [0] ([(10,.sc (.b (decide ((((k0:Nat):Int):Int)<(((bZ p0 p1 4).length:Nat):Int))))),(9,.sc (.i .i64 ((k0:Nat):Int))),(8,.sc (.i .i64 (((bZ p0 p1 4).length:Nat):Int))),(7,.sc (.ro .u8 (bZ p0 p1 4))),(3,.sc (.i .u32 z0))],[(0,.cells [.ro .u8 (bm p0 p1 4),.b (bk p0 p1 4)])]) 128 (v1 pT) <|Tri.seq <|Xb (fun h1 h1'=>?_) (fun h1 h1'=>?_)
 refine Tri.skip <|Tri.seq <|Tri.block <|sq [] none [5,9,8,7,3] [0] ([(5,.sc (.i .u8 ((bZ p0 p1 4).getD k0 0))),(9,.sc (.i .i64 ((k0:Nat):Int))),(8,.sc (.i .i64 (((bZ p0 p1 4).length:Nat):Int))),(7,.sc (.ro .u8 (bZ p0 p1 4))),(3,.sc (.i .u32 z0))],[(0,.cells [.ro .u8 (bm p0 p1 4),.b (bk p0 p1 4)])]) 176 (pu (Yj k0 ((bZ p0 p1 4).length)) (pu (Yl k0 ((bZ p0 p1 4).length)) (v1 pT))) <|rq [] none [3,9,8,7] [0] ([(3,.sc (.i .u32 (iOr .u32 (gR .u32 z0 8) (IntKind.wrap .u32 ((bZ p0 p1 4).getD k0 0))))),(9,.sc (.i .i64 ((k0:Nat):Int))),(8,.sc (.i .i64 (((bZ p0 p1 4).length:Nat):Int))),(7,.sc (.ro .u8 (bZ p0 p1 4)))],[(0,.cells [.ro .u8 (bm p0 p1 4),.b (bk p0 p1 4)])]) 272 (v1 (pu (Y0 8) (v4 pT))) <|rq [(18,qi ((k0+1:Nat):Int))] none [9,3,8,7] [0] ([(9,.sc (.i .i64 ((k0+1:Nat):Int))),(3,.sc (.i .u32 (iOr .u32 (gR .u32 z0 8) (IntKind.wrap .u32 ((bZ p0 p1 4).getD k0 0))))),(8,.sc (.i .i64 (((bZ p0 p1 4).length:Nat):Int))),(7,.sc (.ro .u8 (bZ p0 p1 4)))],[(0,.cells [.ro .u8 (bm p0 p1 4),.b (bk p0 p1 4)])]) 304 (pv pT (Yp k0 1) (v1 pT)) <|?_
 repeat (refine br ?_)
 exact bc (by omega) trivial <|sp [(0,0)] [9,8,7,3]
 refine Tri.exit <|?_
 have hend0:k0=((bZ p0 p1 4).length):=by (have:=of_decide_eq_false h1;omega)
 subst hend0;subst hz0
 exact sq [] none [2] [0] ([(2,.sc (.i .u32 (itr (eY p0 p1) ((bZ p0 p1 4).length) 0)))],[(0,.cells [.ro .u8 (bm p0 p1 4),.b (bk p0 p1 4)])]) 160 (v2 pT) <|Tri.ret <|rt <|er [(0,0)] pz
theorem dv (p0:List Int) (p1:Bool):0≤ai p0 p1∧ai p0 p1<4294967296:=by
 have h0:∀ n,0≤itr (eY p0 p1) n 0∧itr (eY p0 p1) n 0<4294967296:=by
  intro n
  cases n with
  |zero=>rw [dN];decide
  |succ k=>rw [cy];unfold eY iOr;rw [eK];omega
 exact h0 _
theorem lB (p0:List Int) (p1:Bool):0≤IntKind.wrap .i64 (ai p0 p1):=by
 have:=dv p0 p1
 rw [cV (by omega) (by omega)]
 exact this.1
def bI (p0:List Int) (p1:Bool):ByteArray :=
 (sel (decide (((ai p0 p1):Int)>16384)) (⟨#[]⟩:ByteArray) (bytesOf (bZ (aD p0 p1) (aE p0 p1) (IntKind.wrap .i64 (ai p0 p1)))))
def aA (p0:List Int) (p1:Bool):List Int :=
 (sel (decide (((ai p0 p1):Int)>16384)) (bm (aD p0 p1) (aE p0 p1) 1073741824) (bm (aD p0 p1) (aE p0 p1) (IntKind.wrap .i64 (ai p0 p1))))
def aB (p0:List Int) (p1:Bool):Bool :=
 (sel (decide (((ai p0 p1):Int)>16384)) (bk (aD p0 p1) (aE p0 p1) 1073741824) (bk (aD p0 p1) (aE p0 p1) (IntKind.wrap .i64 (ai p0 p1))))
def pK:List AV→List Blk→Option (Prop × Ret)
 |[.sc (.p 0 0)],[.cells [.ro .u8 p0,.b p1]]=>some (True,⟨.sc (.s (bI p0 p1)),[some (.cells [.ro .u8 (aA p0 p1),.b (aB p0 p1)])]⟩)
 |_,_=>none
theorem kG:Known Go.Proofs.Try.prog noG 43 ⟨1,0,pK⟩:=by
 refine Xw Go.Proofs.Try.f43 15 (Zc ff 48 [.io] [] [0] <|Zc kN 128 [.io,.val] [] [0] <|Zc kN 160 [.io,.val] [] [0] <|Zn) cM <|fun E args ks C r h hC hlen=>?_
 simp only at h
 unfold pK at h
 split at h
 rotate_left
 cases h
 rename_i p0 p1
 cases h
 simp only [cl] at hlen
 refine ⟨rfl,?_⟩
 refine Tri.sub (Sub.of_eq (show _=([(0,.sc (.p 0 0))],[(0,.cells [.ro .u8 p0,.b p1])]) from rfl)) <|sq [] none [0] [0] ([(0,.sc (.p 0 0))],[(0,.cells [.ro .u8 p0,.b p1])]) 32 (v1 pT) <|sq [] none [3,0] [0] ([(3,.sc (.i .u32 (ai p0 p1))),(0,.sc (.p 0 0))],[(0,.cells [.ro .u8 (aD p0 p1),.b (aE p0 p1)])]) 80 (v1 (pu pz (v1 pT))) <|Tri.seq <|sq [] none [7,3,0] [0] ([(7,.sc (.b (decide (((ai p0 p1):Int)>16384)))),(3,.sc (.i .u32 (ai p0 p1))),(0,.sc (.p 0 0))],[(0,.cells [.ro .u8 (aD p0 p1),.b (aE p0 p1)])]) 112 (v2 pT) <|Xb (fun h1 h1'=>?_) (fun h1 h1'=>?_)
 refine sq [] none [] [0] ([],[(0,.cells [.ro .u8 (bm (aD p0 p1) (aE p0 p1) 1073741824),.b (bk (aD p0 p1) (aE p0 p1) 1073741824)])]) 144 (v1 (pu (pa pT (pl (show (0:Int)≤1073741824 from by first|omega|exact lB _ _|decide))) pT)) ?_
 exact sq [] none [2] [0] ([(2,.sc (.s (⟨#[]⟩:ByteArray)))],[(0,.cells [.ro .u8 (bm (aD p0 p1) (aE p0 p1) 1073741824),.b (bk (aD p0 p1) (aE p0 p1) 1073741824)])]) 160 (v1 pT) <|Tri.ret <|rt <|ij.conv (r':=⟨.sc (.s (⟨#[]⟩:ByteArray)),[some (.cells [.ro .u8 (bm (aD p0 p1) (aE p0 p1) 1073741824),.b (bk (aD p0 p1) (aE p0 p1) 1073741824)])]⟩) (by simp only [bI,aA,aB,h1,aR,aM]) <|er [(0,0)] pz
 refine Tri.skip <|sq [] none [2] [0] ([(2,.sc (.s (bytesOf (bZ (aD p0 p1) (aE p0 p1) (IntKind.wrap .i64 (ai p0 p1))))))],[(0,.cells [.ro .u8 (bm (aD p0 p1) (aE p0 p1) (IntKind.wrap .i64 (ai p0 p1))),.b (bk (aD p0 p1) (aE p0 p1) (IntKind.wrap .i64 (ai p0 p1)))])]) 208 (v3 (pu (pa pT (pl (show (0:Int)≤(IntKind.wrap .i64 (ai p0 p1)) from by first|omega|exact lB _ _|decide))) (v2 pT))) ?_
 exact Tri.ret <|rt <|ij.conv (r':=⟨.sc (.s (bytesOf (bZ (aD p0 p1) (aE p0 p1) (IntKind.wrap .i64 (ai p0 p1))))),[some (.cells [.ro .u8 (bm (aD p0 p1) (aE p0 p1) (IntKind.wrap .i64 (ai p0 p1))),.b (bk (aD p0 p1) (aE p0 p1) (IntKind.wrap .i64 (ai p0 p1)))])]⟩) (by simp only [bI,aA,aB,h1,aR,aM]) <|er [(0,0)] pz
theorem kj (p0:List Int) (p1:Bool):(bI p0 p1).size≤16384:=by
 unfold bI
 cases h:(decide (((ai p0 p1):Int)>16384))
 ·have h0:=of_decide_eq_false h
  have h1:=dv p0 p1
  have h2:=jF (aD p0 p1) (aE p0 p1) (IntKind.wrap .i64 (ai p0 p1))
  rw [cV (by omega) (by omega)] at h2 ⊢
  rw [aM]
  have h3:∀ xs:List Int,(bytesOf xs).size=xs.length:=fun xs=>by simp [bytesOf,ByteArray.size]
  rw [h3]
  omega
 ·rw [aR];decide
end Go.Vm
namespace Go.Vm
open Go
def cJ (p0:Nat) (p2:List Int) (p3:Int):List Int :=
 p2++[(IntKind.wrap .u8 (dz .u32 p3 24)),(IntKind.wrap .u8 (dz .u32 p3 16)),(IntKind.wrap .u8 (dz .u32 p3 8)),(IntKind.wrap .u8 p3)]
def nz:List AV→List Blk→Option (Prop × Ret)
 |[.sc (.sl 0 0 p0 1 none),.sc (.i .u32 p3)],[.ints .u8 p1 p2]=>some (((p0=p1)∧(p0≤1000000000)),⟨.sc (.sl 1 0 (p0+4) 1 none),[none,some (.ints .u8 (p0+4) (cJ p0 p2 p3))]⟩)
 |_,_=>none
theorem ec:Known Go.Proofs.Try.prog noG 29 ⟨1,1,nz⟩:=by
 refine Xw Go.Proofs.Try.f29 19 Zn cM <|fun E args ks C r h hC hlen=>?_
 simp only at h
 unfold nz at h
 split at h
 rotate_left
 cases h
 rename_i p0 p3 p1 p2
 cases h
 simp only [cl] at hlen
 obtain ⟨hEp1,hC⟩:=hC
 subst hEp1
 refine ⟨rfl,?_⟩
 exact Tri.sub (Sub.of_eq (show _=([(0,.sc (.sl 0 0 p0 1 none)),(1,.sc (.i .u32 p3))],[(0,.ints .u8 p0 p2)]) from rfl)) <|sq [] none [0,1] [0] ([(0,.sc (.sl 0 0 p0 1 none)),(1,.sc (.i .u32 p3))],[(0,.ints .u8 p0 p2)]) 32 (v1 pT) <|sq [] none [4] [240] ([(4,.sc (.sl 240 0 (p0+4) 1 none))],[(240,.ints .u8 (p0+4) (p2++[(IntKind.wrap .u8 (dz .u32 p3 24)),(IntKind.wrap .u8 (dz .u32 p3 16)),(IntKind.wrap .u8 (dz .u32 p3 8)),(IntKind.wrap .u8 p3)]))]) 272 (v2 (pu (Y0 24) (v2 (pu (Y0 16) (v2 (pu (Y0 8) (v3 (pu (Yf 4) (pu (Ya (Yw 4) 1 (p0+4) 4 4 p0 p0) (v1 pT)))))))))) <|Tri.ret <|rt <|er [(240,1)] pz
def gF (p0:Nat) (p2:List Int) (p3:Int):List Int :=
 dY (p2++[(IntKind.wrap .u8 (dz .u32 p3 24)),(IntKind.wrap .u8 (dz .u32 p3 16)),(IntKind.wrap .u8 (dz .u32 p3 8)),(IntKind.wrap .u8 p3)]) (p0+4) 0 (p0+4)
def mN:List AV→List Blk→Option (Prop × Ret)
 |[.sc (.sl 0 0 p0 1 none),.sc (.i .u32 p3)],[.ints .u8 p1 p2]=>some (((p0=p1)∧(p0≤1000000000)),⟨.sc (.ro .u8 (gF p0 p2 p3)),[none]⟩)
 |_,_=>none
theorem kB:Known Go.Proofs.Try.prog noG 29 ⟨1,0,mN⟩:=by
 refine Xw Go.Proofs.Try.f29 19 Zn cM <|fun E args ks C r h hC hlen=>?_
 simp only at h
 unfold mN at h
 split at h
 rotate_left
 cases h
 rename_i p0 p3 p1 p2
 cases h
 simp only [cl] at hlen
 obtain ⟨hEp1,hC⟩:=hC
 subst hEp1
 refine ⟨rfl,?_⟩
 refine Tri.sub (Sub.of_eq (show _=([(0,.sc (.sl 0 0 p0 1 none)),(1,.sc (.i .u32 p3))],[(0,.ints .u8 p0 p2)]) from rfl)) <|sq [] none [0,1] [0] ([(0,.sc (.sl 0 0 p0 1 none)),(1,.sc (.i .u32 p3))],[(0,.ints .u8 p0 p2)]) 32 (v1 pT) <|sq [] none [4] [240] ([(4,.sc (.sl 240 0 (p0+4) 1 none))],[(240,.ints .u8 (p0+4) (p2++[(IntKind.wrap .u8 (dz .u32 p3 24)),(IntKind.wrap .u8 (dz .u32 p3 16)),(IntKind.wrap .u8 (dz .u32 p3 8)),(IntKind.wrap .u8 p3)]))]) 272 (v2 (pu (Y0 24) (v2 (pu (Y0 16) (v2 (pu (Y0 8) (v3 (pu (Yf 4) (pu (Ya (Yw 4) 1 (p0+4) 4 4 p0 p0) (v1 pT)))))))))) <|Tri.sub (Sub.still (s':=([(4,.sc (.ro .u8 (dY (p2++[(IntKind.wrap .u8 (dz .u32 p3 24)),(IntKind.wrap .u8 (dz .u32 p3 16)),(IntKind.wrap .u8 (dz .u32 p3 8)),(IntKind.wrap .u8 p3)]) (p0+4) 0 (p0+4))))],[])) 240 (.ints .u8 (p0+4) (p2++[(IntKind.wrap .u8 (dz .u32 p3 24)),(IntKind.wrap .u8 (dz .u32 p3 16)),(IntKind.wrap .u8 (dz .u32 p3 8)),(IntKind.wrap .u8 p3)])) (by kernel_rfl) (show 0+(p0+4)≤p0+4 from by first|omega|(rw [cp];omega)|exact cw _ _|exact cu _ _|exact cN (by omega) (by first|omega|(simp only [List.length_append];omega))|decide) (by kernel_rfl)) ?_
 exact Tri.ret <|rt <|er [] pz
def eo (p0:Nat) (p2:List Int) (p3:ByteArray):List Int :=
 (cJ p0 p2 (IntKind.wrap .u32 ((p3.size:Nat):Int)))++(bt p3)
def mu:List AV→List Blk→Option (Prop × Ret)
 |[.sc (.sl 0 0 p0 1 none),.sc (.s p3)],[.ints .u8 p1 p2]=>some (((p0=p1)∧(p0≤1000000000∧p3.size≤1000000000)),⟨.sc (.sl 1 0 ((p0+4)+p3.size) 1 none),[none,some (.ints .u8 ((p0+4)+p3.size) (eo p0 p2 p3))]⟩)
 |_,_=>none
theorem kC:Known Go.Proofs.Try.prog noG 30 ⟨1,1,mu⟩:=by
 refine Xw Go.Proofs.Try.f30 12 (Zc ec 96 [.io,.val] [] [0] <|Zn) cM <|fun E args ks C r h hC hlen=>?_
 simp only at h
 unfold mu at h
 split at h
 rotate_left
 cases h
 rename_i p0 p3 p1 p2
 cases h
 simp only [cl] at hlen
 obtain ⟨hEp1,hC⟩:=hC
 subst hEp1
 refine ⟨rfl,?_⟩
 exact Tri.sub (Sub.of_eq (show _=([(0,.sc (.sl 0 0 p0 1 none)),(1,.sc (.s p3))],[(0,.ints .u8 p0 p2)]) from rfl)) <|sq [] none [0,1] [0] ([(0,.sc (.sl 0 0 p0 1 none)),(1,.sc (.s p3))],[(0,.ints .u8 p0 p2)]) 32 (v1 pT) <|sq [] none [4] [128] ([(4,.sc (.sl 128 0 ((p0+4)+p3.size) 1 none))],[(128,.ints .u8 ((p0+4)+p3.size) ((cJ p0 p2 (IntKind.wrap .u32 ((p3.size:Nat):Int)))++(bt p3)))]) 160 (v4 (pu (pa pT (pa (Yr p0) (Ye p0 1000000000))) (v1 (pu (Ya pT 1 ((p0+4)+p3.size) p3.size p3.size (p0+4) (p0+4)) (v1 pT))))) <|Tri.ret <|rt <|er [(128,1)] pz
def eV (p0:Nat) (p2:List Int) (p3:ByteArray):List Int :=
 dY ((cJ p0 p2 (IntKind.wrap .u32 ((p3.size:Nat):Int)))++(bt p3)) ((p0+4)+p3.size) 0 ((p0+4)+p3.size)
def kq:List AV→List Blk→Option (Prop × Ret)
 |[.sc (.sl 0 0 p0 1 none),.sc (.s p3)],[.ints .u8 p1 p2]=>some (((p0=p1)∧(p0≤1000000000∧p3.size≤1000000000)),⟨.sc (.ro .u8 (eV p0 p2 p3)),[none]⟩)
 |_,_=>none
theorem iy:Known Go.Proofs.Try.prog noG 30 ⟨1,0,kq⟩:=by
 refine Xw Go.Proofs.Try.f30 12 (Zc ec 96 [.io,.val] [] [0] <|Zn) cM <|fun E args ks C r h hC hlen=>?_
 simp only at h
 unfold kq at h
 split at h
 rotate_left
 cases h
 rename_i p0 p3 p1 p2
 cases h
 simp only [cl] at hlen
 obtain ⟨hEp1,hC⟩:=hC
 subst hEp1
 refine ⟨rfl,?_⟩
 refine Tri.sub (Sub.of_eq (show _=([(0,.sc (.sl 0 0 p0 1 none)),(1,.sc (.s p3))],[(0,.ints .u8 p0 p2)]) from rfl)) <|sq [] none [0,1] [0] ([(0,.sc (.sl 0 0 p0 1 none)),(1,.sc (.s p3))],[(0,.ints .u8 p0 p2)]) 32 (v1 pT) <|sq [] none [4] [128] ([(4,.sc (.sl 128 0 ((p0+4)+p3.size) 1 none))],[(128,.ints .u8 ((p0+4)+p3.size) ((cJ p0 p2 (IntKind.wrap .u32 ((p3.size:Nat):Int)))++(bt p3)))]) 160 (v4 (pu (pa pT (pa (Yr p0) (Ye p0 1000000000))) (v1 (pu (Ya pT 1 ((p0+4)+p3.size) p3.size p3.size (p0+4) (p0+4)) (v1 pT))))) <|Tri.sub (Sub.still (s':=([(4,.sc (.ro .u8 (dY ((cJ p0 p2 (IntKind.wrap .u32 ((p3.size:Nat):Int)))++(bt p3)) ((p0+4)+p3.size) 0 ((p0+4)+p3.size))))],[])) 128 (.ints .u8 ((p0+4)+p3.size) ((cJ p0 p2 (IntKind.wrap .u32 ((p3.size:Nat):Int)))++(bt p3))) (by kernel_rfl) (show 0+((p0+4)+p3.size)≤(p0+4)+p3.size from by first|omega|(rw [cp];omega)|exact cw _ _|exact cu _ _|exact cN (by omega) (by first|omega|(simp only [List.length_append];omega))|decide) (by kernel_rfl)) ?_
 exact Tri.ret <|rt <|er [] pz
def iP (p0:Nat) (p2:List Int) (p3:Bool):List Int :=
 (sel p3 (p2++[1]) (p2++[0]))
def mX:List AV→List Blk→Option (Prop × Ret)
 |[.sc (.sl 0 0 p0 1 none),.sc (.b p3)],[.ints .u8 p1 p2]=>some (((p0=p1)∧(p0≤1000000000)),⟨.sc (.sl 1 0 (p0+1) 1 none),[none,some (.ints .u8 (p0+1) (iP p0 p2 p3))]⟩)
 |_,_=>none
theorem pU:Known Go.Proofs.Try.prog noG 45 ⟨1,1,mX⟩:=by
 refine Xw Go.Proofs.Try.f45 12 Zn cM <|fun E args ks C r h hC hlen=>?_
 simp only at h
 unfold mX at h
 split at h
 rotate_left
 cases h
 rename_i p0 p3 p1 p2
 cases h
 simp only [cl] at hlen
 obtain ⟨hEp1,hC⟩:=hC
 subst hEp1
 refine ⟨rfl,?_⟩
 refine Tri.sub (Sub.of_eq (show _=([(0,.sc (.sl 0 0 p0 1 none)),(1,.sc (.b p3))],[(0,.ints .u8 p0 p2)]) from rfl)) <|sq [] none [0,1] [0] ([(0,.sc (.sl 0 0 p0 1 none)),(1,.sc (.b p3))],[(0,.ints .u8 p0 p2)]) 32 (v1 pT) <|Tri.seq <|sq [] none [5,0] [0] ([(5,.sc (.b p3)),(0,.sc (.sl 0 0 p0 1 none))],[(0,.ints .u8 p0 p2)]) 48 (v1 pT) <|Xa (fun h1=>?_) (fun h1=>?_)
 exact sq [] none [4] [80] ([(4,.sc (.sl 80 0 (p0+1) 1 none))],[(80,.ints .u8 (p0+1) (p2++[1]))]) 112 (v1 (pu (Yf 1) (pu (Ya (Yw 1) 1 (p0+1) 1 1 p0 p0) (v1 pT)))) <|Tri.ret <|rt <|ij.conv (r':=⟨.sc (.sl 1 0 (p0+1) 1 none),[none,some (.ints .u8 (p0+1) (p2++[1]))]⟩) (by simp only [iP,h1,aR,aM]) <|er [(80,1)] pz
 exact Tri.skip <|sq [] none [4] [80] ([(4,.sc (.sl 80 0 (p0+1) 1 none))],[(80,.ints .u8 (p0+1) (p2++[0]))]) 112 (v1 (pu (Yf 1) (pu (Ya (Yw 1) 1 (p0+1) 1 1 p0 p0) (v1 pT)))) <|Tri.ret <|rt <|ij.conv (r':=⟨.sc (.sl 1 0 (p0+1) 1 none),[none,some (.ints .u8 (p0+1) (p2++[0]))]⟩) (by simp only [iP,h1,aR,aM]) <|er [(80,1)] pz
end Go.Vm
namespace Go.Vm
open Go
structure Ch where
 server:Bool
 state:Int
 peer:Int
 window:Int
 most:Int
 room:Int
 wait:List Int
 got:List Int
 ready:Bool
 e0:Bool
 e1:Bool
 c0:Bool
 c1:Bool
 out:List (List Int)
def chC (a b c:Nat) (p:Ch):Blk:=.cells [.b p.server,.i .i64 p.state,.i .u32 p.peer,.i .i64 p.window,.i .i64 p.most,.i .i64 p.room,.sl a 0 p.wait.length 1 none,.sl b 0 p.got.length 1 none,.b p.ready,.b p.e0,.b p.e1,.b p.c0,.b p.c1,.sl c 0 p.out.length 1 none]
def an (n1 n2 n3 m1 m2:Nat) (p:Ch):Prop:=n1=p.wait.length∧n2=p.got.length∧n3=p.out.length∧m1=p.wait.length∧m2=p.got.length
theorem aV (p:Ch):an p.wait.length p.got.length p.out.length p.wait.length p.got.length p:=⟨rfl,rfl,rfl,rfl,rfl⟩
theorem nE {a:Nat} {w m:Int} (hw:0≤w) (hm:0≤m):bU (bU ((a:Nat):Int) w) m=((min (min a w.toNat) m.toNat:Nat):Int):=by
 unfold bU
 split <;> split <;> omega
def cn (p:Ch):Prop:=(0≤p.window∧p.window≤2147483647)∧(0≤p.most∧p.most≤512)∧(0<p.window→0<p.most)∧p.out.length+p.wait.length≤1000000000
def bl (N:Nat) (p:Ch):Prop:=(0≤p.window∧p.window≤2147483647)∧(0≤p.most∧p.most≤512)∧(0<p.window→0<p.most)∧(p.out.length+p.wait.length≤N∧p.got.length≤N)∧(p.state=2→0<p.most)
def ct (p:Ch):Nat:=min p.wait.length p.window.toNat
def cb (p:Ch):Nat:=sel p.c0 0 ((ct p+p.most.toNat-1)/p.most.toNat)
def fA (p:Ch) (k:Nat) (z:Ch):Prop:=z.wait=p.wait.drop (min (k*p.most.toNat) (ct p))∧z.window=p.window-((min (k*p.most.toNat) (ct p):Nat):Int)∧z.most=p.most∧z.c0=p.c0∧z.out.length+z.wait.length≤p.out.length+p.wait.length
theorem mn {p:Ch}:fA p 0 p:=by
 unfold fA
 rw [Nat.zero_mul,Nat.zero_min]
 exact ⟨rfl,by omega,rfl,rfl,Nat.le_refl _⟩
theorem eX {p z:Ch} {k:Nat} (h:cn p) (hJ:fA p k z):(0≤z.window∧z.window≤2147483647)∧(0≤z.most∧z.most≤512)∧z.wait.length≤1000000000∧z.out.length≤1000000000:=by
 obtain ⟨⟨a1,a2⟩,⟨a3,a4⟩,a5,a6⟩:=h
 obtain ⟨b1,b2,b3,b4,b5⟩:=hJ
 have hm:min (k*p.most.toNat) (ct p)≤p.window.toNat:=Nat.le_trans (Nat.min_le_right _ _) (Nat.min_le_right _ _)
 refine ⟨⟨by omega,by omega⟩,by rw [b3];exact ⟨a3,a4⟩,by omega,by omega⟩
theorem gn {p z:Ch} {k:Nat} (h:cn p) (hJ:fA p k z) (h1:(0:Int)<(z.wait.length:Int)) (h2:0<z.window) (h3:z.c0=false):(0<p.most.toNat∧k*p.most.toNat<ct p)∧k<cb p:=by
 obtain ⟨⟨a1,a2⟩,⟨a3,a4⟩,a5,a6⟩:=h
 obtain ⟨b1,b2,b3,b4,b5⟩:=hJ
 rw [b1,List.length_drop] at h1
 rw [b2] at h2
 rw [b4] at h3
 have hM:ct p=min p.wait.length p.window.toNat:=rfl
 have hs:min (k*p.most.toNat) (ct p)<ct p:=by omega
 have hk:k*p.most.toNat<ct p:=by omega
 have hq:0<p.most:=a5 (by omega)
 refine ⟨⟨by omega,hk⟩,?_⟩
 unfold cb
 rw [h3,aM]
 refine (Nat.le_div_iff_mul_le (by omega)).2 ?_
 rw [Nat.succ_mul]
 omega
theorem oM {p z:Ch} {k:Nat} (h:cn p) (hJ:fA p k z) (h1:(decide ((((z.wait.length:Nat):Int):Int)>0))=true) (h2:(decide ((z.window:Int)>0))=true) (h3:(!z.c0)=true):k<cb p :=
 (gn h hJ (of_decide_eq_true h1) (of_decide_eq_true h2) (by cases hc:z.c0;rfl;rw [hc] at h3;cases h3)).2
theorem eH {p z:Ch} {k:Nat} (h:cn p) (hJ:fA p k z) (hk:k≤cb p) (h1:(decide ((((z.wait.length:Nat):Int):Int)>0))=false∨(decide ((z.window:Int)>0))=false∨(!z.c0)=false):k=cb p:=by
 obtain ⟨⟨a1,a2⟩,⟨a3,a4⟩,a5,a6⟩:=h
 obtain ⟨b1,b2,b3,b4,b5⟩:=hJ
 have hM:ct p=min p.wait.length p.window.toNat:=rfl
 unfold cb at hk ⊢
 cases hc:p.c0
 ·rw [hc] at hk
  rw [aM] at hk ⊢
  have hs:ct p≤min (k*p.most.toNat) (ct p):=by
   rcases h1 with h1|h1|h1
   ·have h1':=of_decide_eq_false h1
    rw [b1,List.length_drop] at h1'
    omega
   ·have h1':=of_decide_eq_false h1
    rw [b2] at h1'
    omega
   ·rw [b4,hc] at h1;cases h1
  rcases Nat.eq_zero_or_pos p.most.toNat with hq|hq
  ·rw [hq,Nat.div_zero] at hk ⊢
   omega
  ·have hlt:(ct p+p.most.toNat-1)/p.most.toNat<k+1:=by
    refine (Nat.div_lt_iff_lt_mul hq).2 ?_
    rw [Nat.succ_mul]
    omega
   omega
 ·rw [hc] at hk
  rw [aR] at hk ⊢
  omega
def aG (p0:Bool):Ch :=
 ({server:=p0,state:=0,peer:=0,window:=0,most:=0,room:=0,wait:=([]:List Int),got:=([]:List Int),ready:=false,e0:=false,e1:=false,c0:=false,c1:=false,out:=([]:List (List Int))}:Ch)
def qH:List AV→List Blk→Option (Prop × Ret)
 |[.sc (.b p0)],[]=>some (True,⟨.sc (.p 0 0),[some (chC 1 2 3 (aG p0)),some (.ints .u8 ((aG p0).wait.length) ((aG p0).wait)),some (.ints .u8 ((aG p0).got.length) ((aG p0).got)),some (.vec .row ((aG p0).out))]⟩)
 |_,_=>none
theorem ml:Known Go.Proofs.Try.prog noG 9 ⟨0,4,qH⟩:=by
 refine Xw Go.Proofs.Try.f9 6 Zn cM <|fun E args ks C r h hC hlen=>?_
 simp only at h
 unfold qH at h
 split at h
 rotate_left
 cases h
 rename_i p0
 cases h
 simp only [cl] at hlen
 refine ⟨rfl,?_⟩
 refine Tri.sub (Sub.of_eq (show _=([(0,.sc (.b p0))],[]) from rfl)) <|sq [] none [0] [] ([(0,.sc (.b p0))],[]) 32 (v1 pT) <|sq [] none [2] [64] ([(2,.sc (.p 64 0))],[(64,.cells [.b p0,.i .i64 0,.i .u32 0,.i .i64 0,.i .i64 0,.i .i64 0,.nils,.nils,.b false,.b false,.b false,.b false,.b false,.nils])]) 96 (v1 (pu (pa (Ys 0 14) pT) (v2 pT))) <|Tri.sub (Sub.openC (U:=96) (U':=112) 64 6 96 1 (.ints .u8 0 ([]:List Int)) (l:=[.b p0,.i .i64 0,.i .u32 0,.i .i64 0,.i .i64 0,.i .i64 0,.nils,.nils,.b false,.b false,.b false,.b false,.b false,.nils]) ⟨rfl,rfl⟩ (by decide) (by kernel_rfl) (by kernel_rfl)) <|Tri.sub (Sub.of_eq (congrArg (fun (qq:Nat)=>(([(2,.sc (.p 64 0))],[(96,.ints .u8 qq ([]:List Int)),(64,.cells [.b p0,.i .i64 0,.i .u32 0,.i .i64 0,.i .i64 0,.i .i64 0,.sl 96 0 qq 1 none,.nils,.b false,.b false,.b false,.b false,.b false,.nils])]):St)) (show 0=([]:List Int).length from by simp only [List.length_append,List.length_drop,List.length_cons,List.length_nil,Nat.zero_add,Nat.sub_zero,Nat.reduceAdd,bV]))) ?_
 show Tri _ _ _ _ ([(2,.sc (.p 64 0))],[(96,.ints .u8 (([]:List Int).length) ([]:List Int)),(64,.cells [.b p0,.i .i64 0,.i .u32 0,.i .i64 0,.i .i64 0,.i .i64 0,.sl 96 0 (([]:List Int).length) 1 none,.nils,.b false,.b false,.b false,.b false,.b false,.nils])]) _
 refine Tri.sub (Sub.openC (U:=112) (U':=128) 64 7 112 1 (.ints .u8 0 ([]:List Int)) (l:=[.b p0,.i .i64 0,.i .u32 0,.i .i64 0,.i .i64 0,.i .i64 0,.sl 96 0 (([]:List Int).length) 1 none,.nils,.b false,.b false,.b false,.b false,.b false,.nils]) ⟨rfl,rfl⟩ (by decide) (by kernel_rfl) (by kernel_rfl)) <|Tri.sub (Sub.of_eq (congrArg (fun (qq:Nat)=>(([(2,.sc (.p 64 0))],[(112,.ints .u8 qq ([]:List Int)),(64,.cells [.b p0,.i .i64 0,.i .u32 0,.i .i64 0,.i .i64 0,.i .i64 0,.sl 96 0 (([]:List Int).length) 1 none,.sl 112 0 qq 1 none,.b false,.b false,.b false,.b false,.b false,.nils]),(96,.ints .u8 (([]:List Int).length) ([]:List Int))]):St)) (show 0=([]:List Int).length from by simp only [List.length_append,List.length_drop,List.length_cons,List.length_nil,Nat.zero_add,Nat.sub_zero,Nat.reduceAdd,bV]))) ?_
 show Tri _ _ _ _ ([(2,.sc (.p 64 0))],[(112,.ints .u8 (([]:List Int).length) ([]:List Int)),(64,.cells [.b p0,.i .i64 0,.i .u32 0,.i .i64 0,.i .i64 0,.i .i64 0,.sl 96 0 (([]:List Int).length) 1 none,.sl 112 0 (([]:List Int).length) 1 none,.b false,.b false,.b false,.b false,.b false,.nils]),(96,.ints .u8 (([]:List Int).length) ([]:List Int))]) _
 refine Tri.sub (Sub.openC (U:=128) (U':=144) 64 13 128 1 (.vec .row ([]:List (List Int))) (l:=[.b p0,.i .i64 0,.i .u32 0,.i .i64 0,.i .i64 0,.i .i64 0,.sl 96 0 (([]:List Int).length) 1 none,.sl 112 0 (([]:List Int).length) 1 none,.b false,.b false,.b false,.b false,.b false,.nils]) ⟨rfl,trivial⟩ (by decide) (by kernel_rfl) (by kernel_rfl)) <|Tri.sub (Sub.of_eq (congrArg (fun (qq:Nat)=>(([(2,.sc (.p 64 0))],[(128,.vec .row ([]:List (List Int))),(64,.cells [.b p0,.i .i64 0,.i .u32 0,.i .i64 0,.i .i64 0,.i .i64 0,.sl 96 0 (([]:List Int).length) 1 none,.sl 112 0 (([]:List Int).length) 1 none,.b false,.b false,.b false,.b false,.b false,.sl 128 0 qq 1 none]),(112,.ints .u8 (([]:List Int).length) ([]:List Int)),(96,.ints .u8 (([]:List Int).length) ([]:List Int))]):St)) (show 0=([]:List (List Int)).length from by simp only [List.length_append,List.length_drop,List.length_cons,List.length_nil,Nat.zero_add,Nat.sub_zero,Nat.reduceAdd,bV]))) ?_
 show Tri _ _ _ _ ([(2,.sc (.p 64 0))],[(128,.vec .row ([]:List (List Int))),(64,.cells [.b p0,.i .i64 0,.i .u32 0,.i .i64 0,.i .i64 0,.i .i64 0,.sl 96 0 (([]:List Int).length) 1 none,.sl 112 0 (([]:List Int).length) 1 none,.b false,.b false,.b false,.b false,.b false,.sl 128 0 (([]:List (List Int)).length) 1 none]),(112,.ints .u8 (([]:List Int).length) ([]:List Int)),(96,.ints .u8 (([]:List Int).length) ([]:List Int))]) _
 exact Tri.ret <|rt <|er [(64,0),(96,1),(112,2),(128,3)] pz
def bp (p0:Ch):Ch :=
 ({p0 with out:=([]:List (List Int))}:Ch)
def cA (p0:Ch):List (List Int) :=
 p0.out
def oF (p0:Ch) (y0_n1:Nat) (y0_n2:Nat) (y0_n3:Nat) (y0_m1:Nat) (y0_m2:Nat) :Option (Prop × Ret) :=
 some ((an y0_n1 y0_n2 y0_n3 y0_m1 y0_m2 p0∧True),⟨.sc (.sl 7 0 p0.out.length 1 none),[some (chC 4 5 6 (bp p0)),none,none,none,some (.ints .u8 ((bp p0).wait.length) ((bp p0).wait)),some (.ints .u8 ((bp p0).got.length) ((bp p0).got)),some (.vec .row ((bp p0).out)),some (.vec .row (cA p0))]⟩)
def qF:List AV→List Blk→Option (Prop × Ret)
 |[.sc (.p 0 0)],[.cells [.b y0_server,.i .i64 y0_state,.i .u32 y0_peer,.i .i64 y0_window,.i .i64 y0_most,.i .i64 y0_room,.sl 1 0 y0_n1 1 none,.sl 2 0 y0_n2 1 none,.b y0_ready,.b y0_e0,.b y0_e1,.b y0_c0,.b y0_c1,.sl 3 0 y0_n3 1 none],.ints .u8 y0_m1 y0_wait,.ints .u8 y0_m2 y0_got,.vec .row y0_out]=>oF ⟨y0_server,y0_state,y0_peer,y0_window,y0_most,y0_room,y0_wait,y0_got,y0_ready,y0_e0,y0_e1,y0_c0,y0_c1,y0_out⟩ y0_n1 y0_n2 y0_n3 y0_m1 y0_m2
 |_,_=>none
theorem rI:Known Go.Proofs.Try.prog noG 16 ⟨4,4,qF⟩:=by
 refine Xw Go.Proofs.Try.f16 14 Zn cM <|fun E args ks C r h hC hlen=>?_
 simp only at h
 unfold qF at h
 split at h
 rotate_left
 cases h
 rename_i y0_server y0_state y0_peer y0_window y0_most y0_room y0_n1 y0_n2 y0_ready y0_e0 y0_e1 y0_c0 y0_c1 y0_n3 y0_m1 y0_wait y0_m2 y0_got y0_out
 generalize hp0:(⟨y0_server,y0_state,y0_peer,y0_window,y0_most,y0_room,y0_wait,y0_got,y0_ready,y0_e0,y0_e1,y0_c0,y0_c1,y0_out⟩:Ch)=p0 at h
 obtain rfl:y0_server=p0.server:=by rw [← hp0]
 obtain rfl:y0_state=p0.state:=by rw [← hp0]
 obtain rfl:y0_peer=p0.peer:=by rw [← hp0]
 obtain rfl:y0_window=p0.window:=by rw [← hp0]
 obtain rfl:y0_most=p0.most:=by rw [← hp0]
 obtain rfl:y0_room=p0.room:=by rw [← hp0]
 obtain rfl:y0_wait=p0.wait:=by rw [← hp0]
 obtain rfl:y0_got=p0.got:=by rw [← hp0]
 obtain rfl:y0_ready=p0.ready:=by rw [← hp0]
 obtain rfl:y0_e0=p0.e0:=by rw [← hp0]
 obtain rfl:y0_e1=p0.e1:=by rw [← hp0]
 obtain rfl:y0_c0=p0.c0:=by rw [← hp0]
 obtain rfl:y0_c1=p0.c1:=by rw [← hp0]
 obtain rfl:y0_out=p0.out:=by rw [← hp0]
 clear hp0
 unfold oF at h
 cases h
 obtain ⟨⟨rfl,rfl,rfl,rfl,rfl⟩,hC⟩:=hC
 simp only [cl] at hlen
 refine ⟨rfl,?_⟩
 refine Tri.sub (Sub.of_eq (show _=([(0,.sc (.p 0 0))],[(0,chC 1 2 3 p0),(1,.ints .u8 p0.wait.length p0.wait),(2,.ints .u8 p0.got.length p0.got),(3,.vec .row p0.out)]) from rfl)) <|Tri.subP <|sq [] none [0] [0,1,2,3] ([(0,.sc (.p 0 0))],[(0,chC 1 2 3 p0),(1,.ints .u8 p0.wait.length p0.wait),(2,.ints .u8 p0.got.length p0.got),(3,.vec .row p0.out)]) 32 (v1 pT) <|Tri.seq <|sq [] none [5,0] [0,1,2,3] ([(5,.sc (.b false)),(0,.sc (.p 0 0))],[(0,chC 1 2 3 p0),(1,.ints .u8 p0.wait.length p0.wait),(2,.ints .u8 p0.got.length p0.got),(3,.vec .row p0.out)]) 64 (v2 pT) <|Tri.cond_false (by kernel_rfl) <|Tri.skip <|sq [] none [3,0] [0,1,2,3] ([(3,.sc (.sl 3 0 p0.out.length 1 none)),(0,.sc (.p 0 0))],[(0,chC 1 2 3 p0),(1,.ints .u8 p0.wait.length p0.wait),(2,.ints .u8 p0.got.length p0.got),(3,.vec .row p0.out)]) 144 (v3 (pu (Yl 13 14) (v1 pT))) <|sq [] none [3] [0,1,2,3] ([(3,.sc (.sl 3 0 p0.out.length 1 none))],[(0,.cells [.b p0.server,.i .i64 p0.state,.i .u32 p0.peer,.i .i64 p0.window,.i .i64 p0.most,.i .i64 p0.room,.sl 1 0 p0.wait.length 1 none,.sl 2 0 p0.got.length 1 none,.b p0.ready,.b p0.e0,.b p0.e1,.b p0.c0,.b p0.c1,.nils]),(1,.ints .u8 p0.wait.length p0.wait),(2,.ints .u8 p0.got.length p0.got),(3,.vec .row p0.out)]) 208 (v3 (pu (Ys 13 14) pT)) <|Tri.sub (Sub.openC (U:=208) (U':=224) 0 13 208 1 (.vec .row ([]:List (List Int))) (l:=[.b p0.server,.i .i64 p0.state,.i .u32 p0.peer,.i .i64 p0.window,.i .i64 p0.most,.i .i64 p0.room,.sl 1 0 p0.wait.length 1 none,.sl 2 0 p0.got.length 1 none,.b p0.ready,.b p0.e0,.b p0.e1,.b p0.c0,.b p0.c1,.nils]) ⟨rfl,trivial⟩ (by decide) (by kernel_rfl) (by kernel_rfl)) <|Tri.sub (Sub.of_eq (congrArg (fun (qq:Nat)=>(([(3,.sc (.sl 3 0 p0.out.length 1 none))],[(208,.vec .row ([]:List (List Int))),(0,.cells [.b p0.server,.i .i64 p0.state,.i .u32 p0.peer,.i .i64 p0.window,.i .i64 p0.most,.i .i64 p0.room,.sl 1 0 p0.wait.length 1 none,.sl 2 0 p0.got.length 1 none,.b p0.ready,.b p0.e0,.b p0.e1,.b p0.c0,.b p0.c1,.sl 208 0 qq 1 none]),(1,.ints .u8 p0.wait.length p0.wait),(2,.ints .u8 p0.got.length p0.got),(3,.vec .row p0.out)]):St)) (show 0=([]:List (List Int)).length from by simp only [List.length_append,List.length_drop,List.length_cons,List.length_nil,Nat.zero_add,Nat.sub_zero,Nat.reduceAdd,bV]))) ?_
 show Tri _ _ _ _ ([(3,.sc (.sl 3 0 p0.out.length 1 none))],[(208,.vec .row ([]:List (List Int))),(0,.cells [.b p0.server,.i .i64 p0.state,.i .u32 p0.peer,.i .i64 p0.window,.i .i64 p0.most,.i .i64 p0.room,.sl 1 0 p0.wait.length 1 none,.sl 2 0 p0.got.length 1 none,.b p0.ready,.b p0.e0,.b p0.e1,.b p0.c0,.b p0.c1,.sl 208 0 (([]:List (List Int)).length) 1 none]),(1,.ints .u8 p0.wait.length p0.wait),(2,.ints .u8 p0.got.length p0.got),(3,.vec .row p0.out)]) _
 exact sq [] none [2] [208,0,1,2,3] ([(2,.sc (.sl 3 0 p0.out.length 1 none))],[(208,.vec .row ([]:List (List Int))),(0,.cells [.b p0.server,.i .i64 p0.state,.i .u32 p0.peer,.i .i64 p0.window,.i .i64 p0.most,.i .i64 p0.room,.sl 1 0 p0.wait.length 1 none,.sl 2 0 p0.got.length 1 none,.b p0.ready,.b p0.e0,.b p0.e1,.b p0.c0,.b p0.c1,.sl 208 0 (([]:List (List Int)).length) 1 none]),(1,.ints .u8 p0.wait.length p0.wait),(2,.ints .u8 p0.got.length p0.got),(3,.vec .row p0.out)]) 256 (v2 pT) <|Tri.ret <|rt <|er [(0,0),(1,4),(2,5),(208,6),(3,7)] pz
def gO (p0:Ch):Int :=
 p0.state
def lO (p0:Ch) (y0_n1:Nat) (y0_n2:Nat) (y0_n3:Nat) (y0_m1:Nat) (y0_m2:Nat) :Option (Prop × Ret) :=
 some ((an y0_n1 y0_n2 y0_n3 y0_m1 y0_m2 p0∧True),⟨.sc (.i .i64 (gO p0)),[some (chC 1 2 3 p0),some (.ints .u8 p0.wait.length p0.wait),some (.ints .u8 p0.got.length p0.got),some (.vec .row p0.out)]⟩)
def nA:List AV→List Blk→Option (Prop × Ret)
 |[.sc (.p 0 0)],[.cells [.b y0_server,.i .i64 y0_state,.i .u32 y0_peer,.i .i64 y0_window,.i .i64 y0_most,.i .i64 y0_room,.sl 1 0 y0_n1 1 none,.sl 2 0 y0_n2 1 none,.b y0_ready,.b y0_e0,.b y0_e1,.b y0_c0,.b y0_c1,.sl 3 0 y0_n3 1 none],.ints .u8 y0_m1 y0_wait,.ints .u8 y0_m2 y0_got,.vec .row y0_out]=>lO ⟨y0_server,y0_state,y0_peer,y0_window,y0_most,y0_room,y0_wait,y0_got,y0_ready,y0_e0,y0_e1,y0_c0,y0_c1,y0_out⟩ y0_n1 y0_n2 y0_n3 y0_m1 y0_m2
 |_,_=>none
theorem mg:Known Go.Proofs.Try.prog noG 17 ⟨4,0,nA⟩:=by
 refine Xw Go.Proofs.Try.f17 9 Zn cM <|fun E args ks C r h hC hlen=>?_
 simp only at h
 unfold nA at h
 split at h
 rotate_left
 cases h
 rename_i y0_server y0_state y0_peer y0_window y0_most y0_room y0_n1 y0_n2 y0_ready y0_e0 y0_e1 y0_c0 y0_c1 y0_n3 y0_m1 y0_wait y0_m2 y0_got y0_out
 generalize hp0:(⟨y0_server,y0_state,y0_peer,y0_window,y0_most,y0_room,y0_wait,y0_got,y0_ready,y0_e0,y0_e1,y0_c0,y0_c1,y0_out⟩:Ch)=p0 at h
 obtain rfl:y0_server=p0.server:=by rw [← hp0]
 obtain rfl:y0_state=p0.state:=by rw [← hp0]
 obtain rfl:y0_peer=p0.peer:=by rw [← hp0]
 obtain rfl:y0_window=p0.window:=by rw [← hp0]
 obtain rfl:y0_most=p0.most:=by rw [← hp0]
 obtain rfl:y0_room=p0.room:=by rw [← hp0]
 obtain rfl:y0_wait=p0.wait:=by rw [← hp0]
 obtain rfl:y0_got=p0.got:=by rw [← hp0]
 obtain rfl:y0_ready=p0.ready:=by rw [← hp0]
 obtain rfl:y0_e0=p0.e0:=by rw [← hp0]
 obtain rfl:y0_e1=p0.e1:=by rw [← hp0]
 obtain rfl:y0_c0=p0.c0:=by rw [← hp0]
 obtain rfl:y0_c1=p0.c1:=by rw [← hp0]
 obtain rfl:y0_out=p0.out:=by rw [← hp0]
 clear hp0
 unfold lO at h
 cases h
 obtain ⟨⟨rfl,rfl,rfl,rfl,rfl⟩,hC⟩:=hC
 simp only [cl] at hlen
 refine ⟨rfl,?_⟩
 exact Tri.sub (Sub.of_eq (show _=([(0,.sc (.p 0 0))],[(0,chC 1 2 3 p0),(1,.ints .u8 p0.wait.length p0.wait),(2,.ints .u8 p0.got.length p0.got),(3,.vec .row p0.out)]) from rfl)) <|Tri.subP <|sq [] none [0] [0,1,2,3] ([(0,.sc (.p 0 0))],[(0,chC 1 2 3 p0),(1,.ints .u8 p0.wait.length p0.wait),(2,.ints .u8 p0.got.length p0.got),(3,.vec .row p0.out)]) 32 (v1 pT) <|Tri.seq <|sq [] none [4,0] [0,1,2,3] ([(4,.sc (.b false)),(0,.sc (.p 0 0))],[(0,chC 1 2 3 p0),(1,.ints .u8 p0.wait.length p0.wait),(2,.ints .u8 p0.got.length p0.got),(3,.vec .row p0.out)]) 64 (v2 pT) <|Tri.cond_false (by kernel_rfl) <|Tri.skip <|sq [] none [2] [0,1,2,3] ([(2,.sc (.i .i64 p0.state))],[(0,chC 1 2 3 p0),(1,.ints .u8 p0.wait.length p0.wait),(2,.ints .u8 p0.got.length p0.got),(3,.vec .row p0.out)]) 144 (v3 (pu (Yl 1 14) (v1 pT))) <|Tri.ret <|rt <|er [(0,0),(1,1),(2,2),(3,3)] pz
def fc (p0:Ch):Bool :=
 p0.ready
def lF (p0:Ch) (y0_n1:Nat) (y0_n2:Nat) (y0_n3:Nat) (y0_m1:Nat) (y0_m2:Nat) :Option (Prop × Ret) :=
 some ((an y0_n1 y0_n2 y0_n3 y0_m1 y0_m2 p0∧True),⟨.sc (.b (fc p0)),[some (chC 1 2 3 p0),some (.ints .u8 p0.wait.length p0.wait),some (.ints .u8 p0.got.length p0.got),some (.vec .row p0.out)]⟩)
def mt:List AV→List Blk→Option (Prop × Ret)
 |[.sc (.p 0 0)],[.cells [.b y0_server,.i .i64 y0_state,.i .u32 y0_peer,.i .i64 y0_window,.i .i64 y0_most,.i .i64 y0_room,.sl 1 0 y0_n1 1 none,.sl 2 0 y0_n2 1 none,.b y0_ready,.b y0_e0,.b y0_e1,.b y0_c0,.b y0_c1,.sl 3 0 y0_n3 1 none],.ints .u8 y0_m1 y0_wait,.ints .u8 y0_m2 y0_got,.vec .row y0_out]=>lF ⟨y0_server,y0_state,y0_peer,y0_window,y0_most,y0_room,y0_wait,y0_got,y0_ready,y0_e0,y0_e1,y0_c0,y0_c1,y0_out⟩ y0_n1 y0_n2 y0_n3 y0_m1 y0_m2
 |_,_=>none
theorem nC:Known Go.Proofs.Try.prog noG 18 ⟨4,0,mt⟩:=by
 refine Xw Go.Proofs.Try.f18 11 Zn cM <|fun E args ks C r h hC hlen=>?_
 simp only at h
 unfold mt at h
 split at h
 rotate_left
 cases h
 rename_i y0_server y0_state y0_peer y0_window y0_most y0_room y0_n1 y0_n2 y0_ready y0_e0 y0_e1 y0_c0 y0_c1 y0_n3 y0_m1 y0_wait y0_m2 y0_got y0_out
 generalize hp0:(⟨y0_server,y0_state,y0_peer,y0_window,y0_most,y0_room,y0_wait,y0_got,y0_ready,y0_e0,y0_e1,y0_c0,y0_c1,y0_out⟩:Ch)=p0 at h
 obtain rfl:y0_server=p0.server:=by rw [← hp0]
 obtain rfl:y0_state=p0.state:=by rw [← hp0]
 obtain rfl:y0_peer=p0.peer:=by rw [← hp0]
 obtain rfl:y0_window=p0.window:=by rw [← hp0]
 obtain rfl:y0_most=p0.most:=by rw [← hp0]
 obtain rfl:y0_room=p0.room:=by rw [← hp0]
 obtain rfl:y0_wait=p0.wait:=by rw [← hp0]
 obtain rfl:y0_got=p0.got:=by rw [← hp0]
 obtain rfl:y0_ready=p0.ready:=by rw [← hp0]
 obtain rfl:y0_e0=p0.e0:=by rw [← hp0]
 obtain rfl:y0_e1=p0.e1:=by rw [← hp0]
 obtain rfl:y0_c0=p0.c0:=by rw [← hp0]
 obtain rfl:y0_c1=p0.c1:=by rw [← hp0]
 obtain rfl:y0_out=p0.out:=by rw [← hp0]
 clear hp0
 unfold lF at h
 cases h
 obtain ⟨⟨rfl,rfl,rfl,rfl,rfl⟩,hC⟩:=hC
 simp only [cl] at hlen
 refine ⟨rfl,?_⟩
 exact Tri.sub (Sub.of_eq (show _=([(0,.sc (.p 0 0))],[(0,chC 1 2 3 p0),(1,.ints .u8 p0.wait.length p0.wait),(2,.ints .u8 p0.got.length p0.got),(3,.vec .row p0.out)]) from rfl)) <|Tri.subP <|sq [] none [0] [0,1,2,3] ([(0,.sc (.p 0 0))],[(0,chC 1 2 3 p0),(1,.ints .u8 p0.wait.length p0.wait),(2,.ints .u8 p0.got.length p0.got),(3,.vec .row p0.out)]) 32 (v1 pT) <|sq [] none [2] [0,1,2,3] ([(2,.sc (.b p0.ready))],[(0,chC 1 2 3 p0),(1,.ints .u8 p0.wait.length p0.wait),(2,.ints .u8 p0.got.length p0.got),(3,.vec .row p0.out)]) 176 (v6 (pu (Yl 8 14) (v2 pT))) <|Tri.ret <|rt <|er [(0,0),(1,1),(2,2),(3,3)] pz
def bQ (p0:Ch):Int :=
 ((p0.wait.length:Nat):Int)
def jC (p0:Ch) (y0_n1:Nat) (y0_n2:Nat) (y0_n3:Nat) (y0_m1:Nat) (y0_m2:Nat) :Option (Prop × Ret) :=
 some ((an y0_n1 y0_n2 y0_n3 y0_m1 y0_m2 p0∧True),⟨.sc (.i .i64 (bQ p0)),[some (chC 1 2 3 p0),some (.ints .u8 p0.wait.length p0.wait),some (.ints .u8 p0.got.length p0.got),some (.vec .row p0.out)]⟩)
def ji:List AV→List Blk→Option (Prop × Ret)
 |[.sc (.p 0 0)],[.cells [.b y0_server,.i .i64 y0_state,.i .u32 y0_peer,.i .i64 y0_window,.i .i64 y0_most,.i .i64 y0_room,.sl 1 0 y0_n1 1 none,.sl 2 0 y0_n2 1 none,.b y0_ready,.b y0_e0,.b y0_e1,.b y0_c0,.b y0_c1,.sl 3 0 y0_n3 1 none],.ints .u8 y0_m1 y0_wait,.ints .u8 y0_m2 y0_got,.vec .row y0_out]=>jC ⟨y0_server,y0_state,y0_peer,y0_window,y0_most,y0_room,y0_wait,y0_got,y0_ready,y0_e0,y0_e1,y0_c0,y0_c1,y0_out⟩ y0_n1 y0_n2 y0_n3 y0_m1 y0_m2
 |_,_=>none
theorem eG:Known Go.Proofs.Try.prog noG 24 ⟨4,0,ji⟩:=by
 refine Xw Go.Proofs.Try.f24 10 Zn cM <|fun E args ks C r h hC hlen=>?_
 simp only at h
 unfold ji at h
 split at h
 rotate_left
 cases h
 rename_i y0_server y0_state y0_peer y0_window y0_most y0_room y0_n1 y0_n2 y0_ready y0_e0 y0_e1 y0_c0 y0_c1 y0_n3 y0_m1 y0_wait y0_m2 y0_got y0_out
 generalize hp0:(⟨y0_server,y0_state,y0_peer,y0_window,y0_most,y0_room,y0_wait,y0_got,y0_ready,y0_e0,y0_e1,y0_c0,y0_c1,y0_out⟩:Ch)=p0 at h
 obtain rfl:y0_server=p0.server:=by rw [← hp0]
 obtain rfl:y0_state=p0.state:=by rw [← hp0]
 obtain rfl:y0_peer=p0.peer:=by rw [← hp0]
 obtain rfl:y0_window=p0.window:=by rw [← hp0]
 obtain rfl:y0_most=p0.most:=by rw [← hp0]
 obtain rfl:y0_room=p0.room:=by rw [← hp0]
 obtain rfl:y0_wait=p0.wait:=by rw [← hp0]
 obtain rfl:y0_got=p0.got:=by rw [← hp0]
 obtain rfl:y0_ready=p0.ready:=by rw [← hp0]
 obtain rfl:y0_e0=p0.e0:=by rw [← hp0]
 obtain rfl:y0_e1=p0.e1:=by rw [← hp0]
 obtain rfl:y0_c0=p0.c0:=by rw [← hp0]
 obtain rfl:y0_c1=p0.c1:=by rw [← hp0]
 obtain rfl:y0_out=p0.out:=by rw [← hp0]
 clear hp0
 unfold jC at h
 cases h
 obtain ⟨⟨rfl,rfl,rfl,rfl,rfl⟩,hC⟩:=hC
 simp only [cl] at hlen
 refine ⟨rfl,?_⟩
 exact Tri.sub (Sub.of_eq (show _=([(0,.sc (.p 0 0))],[(0,chC 1 2 3 p0),(1,.ints .u8 p0.wait.length p0.wait),(2,.ints .u8 p0.got.length p0.got),(3,.vec .row p0.out)]) from rfl)) <|Tri.subP <|sq [] none [0] [0,1,2,3] ([(0,.sc (.p 0 0))],[(0,chC 1 2 3 p0),(1,.ints .u8 p0.wait.length p0.wait),(2,.ints .u8 p0.got.length p0.got),(3,.vec .row p0.out)]) 32 (v1 pT) <|Tri.seq <|sq [] none [4,0] [0,1,2,3] ([(4,.sc (.b false)),(0,.sc (.p 0 0))],[(0,chC 1 2 3 p0),(1,.ints .u8 p0.wait.length p0.wait),(2,.ints .u8 p0.got.length p0.got),(3,.vec .row p0.out)]) 64 (v2 pT) <|Tri.cond_false (by kernel_rfl) <|Tri.skip <|sq [] none [2] [0,1,2,3] ([(2,.sc (.i .i64 ((p0.wait.length:Nat):Int)))],[(0,chC 1 2 3 p0),(1,.ints .u8 p0.wait.length p0.wait),(2,.ints .u8 p0.got.length p0.got),(3,.vec .row p0.out)]) 160 (v3 (pu (Yl 6 14) (v2 pT))) <|Tri.ret <|rt <|er [(0,0),(1,1),(2,2),(3,3)] pz
def da (p0:Ch) (p1:List Int):Ch :=
 ({p0 with out:=p0.out++[p1]}:Ch)
def nl (p0:Ch) (y0_n1:Nat) (y0_n2:Nat) (y0_n3:Nat) (y0_m1:Nat) (y0_m2:Nat) (p1:List Int):Option (Prop × Ret) :=
 some ((an y0_n1 y0_n2 y0_n3 y0_m1 y0_m2 p0∧(p0.out.length≤1000000000)),⟨.tup [],[some (chC 4 5 6 (da p0 p1)),none,none,none,some (.ints .u8 ((da p0 p1).wait.length) ((da p0 p1).wait)),some (.ints .u8 ((da p0 p1).got.length) ((da p0 p1).got)),some (.vec .row ((da p0 p1).out))]⟩)
def qD:List AV→List Blk→Option (Prop × Ret)
 |[.sc (.p 0 0),.sc (.ro .u8 p1)],[.cells [.b y0_server,.i .i64 y0_state,.i .u32 y0_peer,.i .i64 y0_window,.i .i64 y0_most,.i .i64 y0_room,.sl 1 0 y0_n1 1 none,.sl 2 0 y0_n2 1 none,.b y0_ready,.b y0_e0,.b y0_e1,.b y0_c0,.b y0_c1,.sl 3 0 y0_n3 1 none],.ints .u8 y0_m1 y0_wait,.ints .u8 y0_m2 y0_got,.vec .row y0_out]=>nl ⟨y0_server,y0_state,y0_peer,y0_window,y0_most,y0_room,y0_wait,y0_got,y0_ready,y0_e0,y0_e1,y0_c0,y0_c1,y0_out⟩ y0_n1 y0_n2 y0_n3 y0_m1 y0_m2 p1
 |_,_=>none
theorem fe:Known Go.Proofs.Try.prog noG 28 ⟨4,3,qD⟩:=by
 refine Xw Go.Proofs.Try.f28 14 Zn cM <|fun E args ks C r h hC hlen=>?_
 simp only at h
 unfold qD at h
 split at h
 rotate_left
 cases h
 rename_i p1 y0_server y0_state y0_peer y0_window y0_most y0_room y0_n1 y0_n2 y0_ready y0_e0 y0_e1 y0_c0 y0_c1 y0_n3 y0_m1 y0_wait y0_m2 y0_got y0_out
 generalize hp0:(⟨y0_server,y0_state,y0_peer,y0_window,y0_most,y0_room,y0_wait,y0_got,y0_ready,y0_e0,y0_e1,y0_c0,y0_c1,y0_out⟩:Ch)=p0 at h
 obtain rfl:y0_server=p0.server:=by rw [← hp0]
 obtain rfl:y0_state=p0.state:=by rw [← hp0]
 obtain rfl:y0_peer=p0.peer:=by rw [← hp0]
 obtain rfl:y0_window=p0.window:=by rw [← hp0]
 obtain rfl:y0_most=p0.most:=by rw [← hp0]
 obtain rfl:y0_room=p0.room:=by rw [← hp0]
 obtain rfl:y0_wait=p0.wait:=by rw [← hp0]
 obtain rfl:y0_got=p0.got:=by rw [← hp0]
 obtain rfl:y0_ready=p0.ready:=by rw [← hp0]
 obtain rfl:y0_e0=p0.e0:=by rw [← hp0]
 obtain rfl:y0_e1=p0.e1:=by rw [← hp0]
 obtain rfl:y0_c0=p0.c0:=by rw [← hp0]
 obtain rfl:y0_c1=p0.c1:=by rw [← hp0]
 obtain rfl:y0_out=p0.out:=by rw [← hp0]
 clear hp0
 unfold nl at h
 cases h
 obtain ⟨⟨rfl,rfl,rfl,rfl,rfl⟩,hC⟩:=hC
 simp only [cl] at hlen
 refine ⟨rfl,?_⟩
 refine Tri.sub (Sub.of_eq (show _=([(0,.sc (.p 0 0)),(1,.sc (.ro .u8 p1))],[(0,chC 1 2 3 p0),(1,.ints .u8 p0.wait.length p0.wait),(2,.ints .u8 p0.got.length p0.got),(3,.vec .row p0.out)]) from rfl)) <|Tri.subP <|rq [] none [] [0,128,1,2] ([],[(0,.cells [.b p0.server,.i .i64 p0.state,.i .u32 p0.peer,.i .i64 p0.window,.i .i64 p0.most,.i .i64 p0.room,.sl 1 0 p0.wait.length 1 none,.sl 2 0 p0.got.length 1 none,.b p0.ready,.b p0.e0,.b p0.e1,.b p0.c0,.b p0.c1,.sl 128 0 (p0.out.length+1) 1 none]),(128,.vec .row (p0.out++[p1])),(1,.ints .u8 p0.wait.length p0.wait),(2,.ints .u8 p0.got.length p0.got)]) 192 (v4 (pu (Yl 13 14) (v1 (pu (Yf 1) (pu (Ya (Yw 1) 24 (p0.out.length+1) 1 1 p0.out.length p0.out.length) (v2 (pu (Ys 13 14) pT))))))) <|?_
 show subP _ _ _ _
 refine oA (Sub.of_eq (congrArg (fun (qq:Nat)=>(([],[(0,.cells [.b p0.server,.i .i64 p0.state,.i .u32 p0.peer,.i .i64 p0.window,.i .i64 p0.most,.i .i64 p0.room,.sl 1 0 p0.wait.length 1 none,.sl 2 0 p0.got.length 1 none,.b p0.ready,.b p0.e0,.b p0.e1,.b p0.c0,.b p0.c1,.sl 128 0 qq 1 none]),(128,.vec .row (p0.out++[p1])),(1,.ints .u8 p0.wait.length p0.wait),(2,.ints .u8 p0.got.length p0.got)]):St)) (show p0.out.length+1=(p0.out++[p1]).length from by simp only [List.length_append,List.length_drop,List.length_cons,List.length_nil,Nat.zero_add,Nat.sub_zero,Nat.reduceAdd,bV]))) ?_
 show subP _ _ _ ([],[(0,.cells [.b p0.server,.i .i64 p0.state,.i .u32 p0.peer,.i .i64 p0.window,.i .i64 p0.most,.i .i64 p0.room,.sl 1 0 p0.wait.length 1 none,.sl 2 0 p0.got.length 1 none,.b p0.ready,.b p0.e0,.b p0.e1,.b p0.c0,.b p0.c1,.sl 128 0 ((p0.out++[p1]).length) 1 none]),(128,.vec .row (p0.out++[p1])),(1,.ints .u8 p0.wait.length p0.wait),(2,.ints .u8 p0.got.length p0.got)])
 exact dm <|en [(0,0),(1,4),(2,5),(128,6)] pT
theorem ab (p:Ch) (q:List Int):(da p q).out.length=p.out.length+1:=by
 show (p.out++[q]).length=_
 rw [List.length_append]
 rfl
def lQ (p0:Ch) (p1:Int):List Int :=
 (cJ 1 [p1] p0.peer)
def qG (p0:Ch) (y0_n1:Nat) (y0_n2:Nat) (y0_n3:Nat) (y0_m1:Nat) (y0_m2:Nat) (p1:Int):Option (Prop × Ret) :=
 some ((an y0_n1 y0_n2 y0_n3 y0_m1 y0_m2 p0∧True),⟨.sc (.sl 4 0 (1+4) 1 none),[some (chC 1 2 3 p0),some (.ints .u8 p0.wait.length p0.wait),some (.ints .u8 p0.got.length p0.got),some (.vec .row p0.out),some (.ints .u8 (1+4) (lQ p0 p1))]⟩)
def rG:List AV→List Blk→Option (Prop × Ret)
 |[.sc (.p 0 0),.sc (.i .u8 p1)],[.cells [.b y0_server,.i .i64 y0_state,.i .u32 y0_peer,.i .i64 y0_window,.i .i64 y0_most,.i .i64 y0_room,.sl 1 0 y0_n1 1 none,.sl 2 0 y0_n2 1 none,.b y0_ready,.b y0_e0,.b y0_e1,.b y0_c0,.b y0_c1,.sl 3 0 y0_n3 1 none],.ints .u8 y0_m1 y0_wait,.ints .u8 y0_m2 y0_got,.vec .row y0_out]=>qG ⟨y0_server,y0_state,y0_peer,y0_window,y0_most,y0_room,y0_wait,y0_got,y0_ready,y0_e0,y0_e1,y0_c0,y0_c1,y0_out⟩ y0_n1 y0_n2 y0_n3 y0_m1 y0_m2 p1
 |_,_=>none
theorem pb:Known Go.Proofs.Try.prog noG 40 ⟨4,1,rG⟩:=by
 refine Xw Go.Proofs.Try.f40 12 (Zc ec 128 [.io,.val] [] [48] <|Zn) cM <|fun E args ks C r h hC hlen=>?_
 simp only at h
 unfold rG at h
 split at h
 rotate_left
 cases h
 rename_i p1 y0_server y0_state y0_peer y0_window y0_most y0_room y0_n1 y0_n2 y0_ready y0_e0 y0_e1 y0_c0 y0_c1 y0_n3 y0_m1 y0_wait y0_m2 y0_got y0_out
 generalize hp0:(⟨y0_server,y0_state,y0_peer,y0_window,y0_most,y0_room,y0_wait,y0_got,y0_ready,y0_e0,y0_e1,y0_c0,y0_c1,y0_out⟩:Ch)=p0 at h
 obtain rfl:y0_server=p0.server:=by rw [← hp0]
 obtain rfl:y0_state=p0.state:=by rw [← hp0]
 obtain rfl:y0_peer=p0.peer:=by rw [← hp0]
 obtain rfl:y0_window=p0.window:=by rw [← hp0]
 obtain rfl:y0_most=p0.most:=by rw [← hp0]
 obtain rfl:y0_room=p0.room:=by rw [← hp0]
 obtain rfl:y0_wait=p0.wait:=by rw [← hp0]
 obtain rfl:y0_got=p0.got:=by rw [← hp0]
 obtain rfl:y0_ready=p0.ready:=by rw [← hp0]
 obtain rfl:y0_e0=p0.e0:=by rw [← hp0]
 obtain rfl:y0_e1=p0.e1:=by rw [← hp0]
 obtain rfl:y0_c0=p0.c0:=by rw [← hp0]
 obtain rfl:y0_c1=p0.c1:=by rw [← hp0]
 obtain rfl:y0_out=p0.out:=by rw [← hp0]
 clear hp0
 unfold qG at h
 cases h
 obtain ⟨⟨rfl,rfl,rfl,rfl,rfl⟩,hC⟩:=hC
 simp only [cl] at hlen
 refine ⟨rfl,?_⟩
 exact Tri.sub (Sub.of_eq (show _=([(0,.sc (.p 0 0)),(1,.sc (.i .u8 p1))],[(0,chC 1 2 3 p0),(1,.ints .u8 p0.wait.length p0.wait),(2,.ints .u8 p0.got.length p0.got),(3,.vec .row p0.out)]) from rfl)) <|Tri.subP <|sq [] none [0,1] [0,1,2,3] ([(0,.sc (.p 0 0)),(1,.sc (.i .u8 p1))],[(0,chC 1 2 3 p0),(1,.ints .u8 p0.wait.length p0.wait),(2,.ints .u8 p0.got.length p0.got),(3,.vec .row p0.out)]) 32 (v1 pT) <|sq [] none [4] [128,0,1,2,3] ([(4,.sc (.sl 128 0 (1+4) 1 none))],[(128,.ints .u8 (1+4) (cJ 1 [p1] p0.peer)),(0,chC 1 2 3 p0),(1,.ints .u8 p0.wait.length p0.wait),(2,.ints .u8 p0.got.length p0.got),(3,.vec .row p0.out)]) 160 (v1 (pu (Yf 1) (v3 (pu (Yl 2 14) (pu (pa pT (pa (Yr 1) (Ye 1 1000000000))) (v1 pT)))))) <|Tri.ret <|rt <|er [(0,0),(1,1),(2,2),(3,3),(128,4)] pz
def hH (p0:Ch) (p1:Int):List Int :=
 dY (cJ 1 [p1] p0.peer) (1+4) 0 (1+4)
def pB (p0:Ch) (y0_n1:Nat) (y0_n2:Nat) (y0_n3:Nat) (y0_m1:Nat) (y0_m2:Nat) (p1:Int):Option (Prop × Ret) :=
 some ((an y0_n1 y0_n2 y0_n3 y0_m1 y0_m2 p0∧True),⟨.sc (.ro .u8 (hH p0 p1)),[some (chC 1 2 3 p0),some (.ints .u8 p0.wait.length p0.wait),some (.ints .u8 p0.got.length p0.got),some (.vec .row p0.out)]⟩)
def qP:List AV→List Blk→Option (Prop × Ret)
 |[.sc (.p 0 0),.sc (.i .u8 p1)],[.cells [.b y0_server,.i .i64 y0_state,.i .u32 y0_peer,.i .i64 y0_window,.i .i64 y0_most,.i .i64 y0_room,.sl 1 0 y0_n1 1 none,.sl 2 0 y0_n2 1 none,.b y0_ready,.b y0_e0,.b y0_e1,.b y0_c0,.b y0_c1,.sl 3 0 y0_n3 1 none],.ints .u8 y0_m1 y0_wait,.ints .u8 y0_m2 y0_got,.vec .row y0_out]=>pB ⟨y0_server,y0_state,y0_peer,y0_window,y0_most,y0_room,y0_wait,y0_got,y0_ready,y0_e0,y0_e1,y0_c0,y0_c1,y0_out⟩ y0_n1 y0_n2 y0_n3 y0_m1 y0_m2 p1
 |_,_=>none
theorem mm:Known Go.Proofs.Try.prog noG 40 ⟨4,0,qP⟩:=by
 refine Xw Go.Proofs.Try.f40 12 (Zc ec 128 [.io,.val] [] [48] <|Zn) cM <|fun E args ks C r h hC hlen=>?_
 simp only at h
 unfold qP at h
 split at h
 rotate_left
 cases h
 rename_i p1 y0_server y0_state y0_peer y0_window y0_most y0_room y0_n1 y0_n2 y0_ready y0_e0 y0_e1 y0_c0 y0_c1 y0_n3 y0_m1 y0_wait y0_m2 y0_got y0_out
 generalize hp0:(⟨y0_server,y0_state,y0_peer,y0_window,y0_most,y0_room,y0_wait,y0_got,y0_ready,y0_e0,y0_e1,y0_c0,y0_c1,y0_out⟩:Ch)=p0 at h
 obtain rfl:y0_server=p0.server:=by rw [← hp0]
 obtain rfl:y0_state=p0.state:=by rw [← hp0]
 obtain rfl:y0_peer=p0.peer:=by rw [← hp0]
 obtain rfl:y0_window=p0.window:=by rw [← hp0]
 obtain rfl:y0_most=p0.most:=by rw [← hp0]
 obtain rfl:y0_room=p0.room:=by rw [← hp0]
 obtain rfl:y0_wait=p0.wait:=by rw [← hp0]
 obtain rfl:y0_got=p0.got:=by rw [← hp0]
 obtain rfl:y0_ready=p0.ready:=by rw [← hp0]
 obtain rfl:y0_e0=p0.e0:=by rw [← hp0]
 obtain rfl:y0_e1=p0.e1:=by rw [← hp0]
 obtain rfl:y0_c0=p0.c0:=by rw [← hp0]
 obtain rfl:y0_c1=p0.c1:=by rw [← hp0]
 obtain rfl:y0_out=p0.out:=by rw [← hp0]
 clear hp0
 unfold pB at h
 cases h
 obtain ⟨⟨rfl,rfl,rfl,rfl,rfl⟩,hC⟩:=hC
 simp only [cl] at hlen
 refine ⟨rfl,?_⟩
 refine Tri.sub (Sub.of_eq (show _=([(0,.sc (.p 0 0)),(1,.sc (.i .u8 p1))],[(0,chC 1 2 3 p0),(1,.ints .u8 p0.wait.length p0.wait),(2,.ints .u8 p0.got.length p0.got),(3,.vec .row p0.out)]) from rfl)) <|Tri.subP <|sq [] none [0,1] [0,1,2,3] ([(0,.sc (.p 0 0)),(1,.sc (.i .u8 p1))],[(0,chC 1 2 3 p0),(1,.ints .u8 p0.wait.length p0.wait),(2,.ints .u8 p0.got.length p0.got),(3,.vec .row p0.out)]) 32 (v1 pT) <|sq [] none [4] [128,0,1,2,3] ([(4,.sc (.sl 128 0 (1+4) 1 none))],[(128,.ints .u8 (1+4) (cJ 1 [p1] p0.peer)),(0,chC 1 2 3 p0),(1,.ints .u8 p0.wait.length p0.wait),(2,.ints .u8 p0.got.length p0.got),(3,.vec .row p0.out)]) 160 (v1 (pu (Yf 1) (v3 (pu (Yl 2 14) (pu (pa pT (pa (Yr 1) (Ye 1 1000000000))) (v1 pT)))))) <|Tri.sub (Sub.still (s':=([(4,.sc (.ro .u8 (dY (cJ 1 [p1] p0.peer) (1+4) 0 (1+4))))],[(0,chC 1 2 3 p0),(1,.ints .u8 p0.wait.length p0.wait),(2,.ints .u8 p0.got.length p0.got),(3,.vec .row p0.out)])) 128 (.ints .u8 (1+4) (cJ 1 [p1] p0.peer)) (by kernel_rfl) (show 0+(1+4)≤1+4 from by first|omega|(dsimp only;omega)|decide|(simp only [ab];omega)) (by kernel_rfl)) ?_
 exact Tri.ret <|rt <|er [(0,0),(1,1),(2,2),(3,3)] pz
def bv (p0:Ch):Ch :=
 (da ({p0 with state:=1,room:=4096}:Ch) (gF ((((1+4)+(⟨#[115,101,115,115,105,111,110]⟩:ByteArray).size)+4)+4) (cJ (((1+4)+(⟨#[115,101,115,115,105,111,110]⟩:ByteArray).size)+4) (cJ ((1+4)+(⟨#[115,101,115,115,105,111,110]⟩:ByteArray).size) (eo 1 [90] (⟨#[115,101,115,115,105,111,110]⟩:ByteArray)) 0) 4096) 512))
def dW (p0:Ch):Int :=
 (sel p0.server 8 (sel ((p0.state:Int) != 0) 8 0))
def aF (p0:Ch):Ch :=
 (sel p0.server p0 (sel ((p0.state:Int) != 0) p0 (bv p0)))
def kg (p0:Ch) (y0_n1:Nat) (y0_n2:Nat) (y0_n3:Nat) (y0_m1:Nat) (y0_m2:Nat) :Option (Prop × Ret) :=
 some ((an y0_n1 y0_n2 y0_n3 y0_m1 y0_m2 p0∧(p0.out.length≤1000000000)),⟨.sc (.i .i64 (dW p0)),[some (chC 4 5 6 (aF p0)),none,none,none,some (.ints .u8 ((aF p0).wait.length) ((aF p0).wait)),some (.ints .u8 ((aF p0).got.length) ((aF p0).got)),some (.vec .row ((aF p0).out))]⟩)
def mf:List AV→List Blk→Option (Prop × Ret)
 |[.sc (.p 0 0)],[.cells [.b y0_server,.i .i64 y0_state,.i .u32 y0_peer,.i .i64 y0_window,.i .i64 y0_most,.i .i64 y0_room,.sl 1 0 y0_n1 1 none,.sl 2 0 y0_n2 1 none,.b y0_ready,.b y0_e0,.b y0_e1,.b y0_c0,.b y0_c1,.sl 3 0 y0_n3 1 none],.ints .u8 y0_m1 y0_wait,.ints .u8 y0_m2 y0_got,.vec .row y0_out]=>kg ⟨y0_server,y0_state,y0_peer,y0_window,y0_most,y0_room,y0_wait,y0_got,y0_ready,y0_e0,y0_e1,y0_c0,y0_c1,y0_out⟩ y0_n1 y0_n2 y0_n3 y0_m1 y0_m2
 |_,_=>none
theorem mw:Known Go.Proofs.Try.prog noG 10 ⟨4,3,mf⟩:=by
 refine Xw Go.Proofs.Try.f10 31 (Zc fe 496 [.io,.ro .u8] [] [0,1,2,3] <|Zc ec 448 [.io,.val] [] [432] <|Zc ec 464 [.io,.val] [] [448] <|Zc kB 480 [.io,.val] [] [464] <|Zc kC 432 [.io,.val] [] [416] <|Zn) cM <|fun E args ks C r h hC hlen=>?_
 simp only at h
 unfold mf at h
 split at h
 rotate_left
 cases h
 rename_i y0_server y0_state y0_peer y0_window y0_most y0_room y0_n1 y0_n2 y0_ready y0_e0 y0_e1 y0_c0 y0_c1 y0_n3 y0_m1 y0_wait y0_m2 y0_got y0_out
 generalize hp0:(⟨y0_server,y0_state,y0_peer,y0_window,y0_most,y0_room,y0_wait,y0_got,y0_ready,y0_e0,y0_e1,y0_c0,y0_c1,y0_out⟩:Ch)=p0 at h
 obtain rfl:y0_server=p0.server:=by rw [← hp0]
 obtain rfl:y0_state=p0.state:=by rw [← hp0]
 obtain rfl:y0_peer=p0.peer:=by rw [← hp0]
 obtain rfl:y0_window=p0.window:=by rw [← hp0]
 obtain rfl:y0_most=p0.most:=by rw [← hp0]
 obtain rfl:y0_room=p0.room:=by rw [← hp0]
 obtain rfl:y0_wait=p0.wait:=by rw [← hp0]
 obtain rfl:y0_got=p0.got:=by rw [← hp0]
 obtain rfl:y0_ready=p0.ready:=by rw [← hp0]
 obtain rfl:y0_e0=p0.e0:=by rw [← hp0]
 obtain rfl:y0_e1=p0.e1:=by rw [← hp0]
 obtain rfl:y0_c0=p0.c0:=by rw [← hp0]
 obtain rfl:y0_c1=p0.c1:=by rw [← hp0]
 obtain rfl:y0_out=p0.out:=by rw [← hp0]
 clear hp0
 unfold kg at h
 cases h
 obtain ⟨⟨rfl,rfl,rfl,rfl,rfl⟩,hC⟩:=hC
 simp only [cl] at hlen
 refine ⟨rfl,?_⟩
 refine Tri.sub (Sub.of_eq (show _=([(0,.sc (.p 0 0))],[(0,chC 1 2 3 p0),(1,.ints .u8 p0.wait.length p0.wait),(2,.ints .u8 p0.got.length p0.got),(3,.vec .row p0.out)]) from rfl)) <|Tri.subP <|sq [] none [0] [0,1,2,3] ([(0,.sc (.p 0 0))],[(0,chC 1 2 3 p0),(1,.ints .u8 p0.wait.length p0.wait),(2,.ints .u8 p0.got.length p0.got),(3,.vec .row p0.out)]) 32 (v1 pT) <|Tri.seq <|Tri.split p0.server (fun h1=>?_) (fun h1=>?_)
 exact sq [(11,qb true)] none [17,0] [0,1,2,3] ([(17,.sc (.b true)),(0,.sc (.p 0 0))],[(0,chC 1 2 3 p0),(1,.ints .u8 p0.wait.length p0.wait),(2,.ints .u8 p0.got.length p0.got),(3,.vec .row p0.out)]) 272 (v6 (pu (Yl 0 14) (v1 (pg h1 (v6 pT))))) <|Tri.cond_true (by kernel_rfl) <|sq [] none [2] [0,1,2,3] ([(2,.sc (.i .i64 8))],[(0,chC 1 2 3 p0),(1,.ints .u8 p0.wait.length p0.wait),(2,.ints .u8 p0.got.length p0.got),(3,.vec .row p0.out)]) 288 (v1 pT) <|Tri.ret <|rt <|ij.conv (r':=⟨.sc (.i .i64 8),[some (chC 4 5 6 p0),none,none,none,some (.ints .u8 p0.wait.length p0.wait),some (.ints .u8 p0.got.length p0.got),some (.vec .row p0.out)]⟩) (by simp only [chC,dW,aF,h1,aR,aM]) <|er [(0,0),(1,4),(2,5),(3,6)] pz
 refine sq [(11,qb false)] none [17,0] [0,1,2,3] ([(17,.sc (.b ((p0.state:Int) != 0))),(0,.sc (.p 0 0))],[(0,chC 1 2 3 p0),(1,.ints .u8 p0.wait.length p0.wait),(2,.ints .u8 p0.got.length p0.got),(3,.vec .row p0.out)]) 272 (v6 (pu (Yl 0 14) (v1 (pg h1 (v3 (pu (Yl 1 14) (v2 pT))))))) <|Xa (fun h2=>?_) (fun h2=>?_)
 have h2':=dO h2
 exact sq [] none [2] [0,1,2,3] ([(2,.sc (.i .i64 8))],[(0,chC 1 2 3 p0),(1,.ints .u8 p0.wait.length p0.wait),(2,.ints .u8 p0.got.length p0.got),(3,.vec .row p0.out)]) 288 (v1 pT) <|Tri.ret <|rt <|ij.conv (r':=⟨.sc (.i .i64 8),[some (chC 4 5 6 p0),none,none,none,some (.ints .u8 p0.wait.length p0.wait),some (.ints .u8 p0.got.length p0.got),some (.vec .row p0.out)]⟩) (by simp only [chC,dW,aF,h1,h2,aR,aM]) <|er [(0,0),(1,4),(2,5),(3,6)] pz
 have h2':=dB h2
 exact Tri.skip <|sq [] none [0] [0,1,2,3] ([(0,.sc (.p 0 0))],[(0,.cells [.b p0.server,.i .i64 1,.i .u32 p0.peer,.i .i64 p0.window,.i .i64 p0.most,.i .i64 4096,.sl 1 0 p0.wait.length 1 none,.sl 2 0 p0.got.length 1 none,.b p0.ready,.b p0.e0,.b p0.e1,.b p0.c0,.b p0.c1,.sl 3 0 p0.out.length 1 none]),(1,.ints .u8 p0.wait.length p0.wait),(2,.ints .u8 p0.got.length p0.got),(3,.vec .row p0.out)]) 400 (v4 (pu (Ys 1 14) (v2 (pu (Ys 5 14) pT)))) <|sq [] none [] [498,497,496,0] ([],[(498,.vec .row ((bv p0).out)),(497,.ints .u8 ((bv p0).got.length) ((bv p0).got)),(496,.ints .u8 ((bv p0).wait.length) ((bv p0).wait)),(0,chC 496 497 498 (bv p0))]) 512 (v1 (pu (Yf 1) (pu (pa pT (pa (Yr 1) (lo (1≤1000000000∧(⟨#[115,101,115,115,105,111,110]⟩:ByteArray).size≤1000000000)))) (pu (pa pT (pa (Yr ((1+4)+(⟨#[115,101,115,115,105,111,110]⟩:ByteArray).size)) (Ye ((1+4)+(⟨#[115,101,115,115,105,111,110]⟩:ByteArray).size) 1000000000))) (pu (pa pT (pa (Yr (((1+4)+(⟨#[115,101,115,115,105,111,110]⟩:ByteArray).size)+4)) (Ye (((1+4)+(⟨#[115,101,115,115,105,111,110]⟩:ByteArray).size)+4) 1000000000))) (pu (pa pT (pa (Yr ((((1+4)+(⟨#[115,101,115,115,105,111,110]⟩:ByteArray).size)+4)+4)) (Ye ((((1+4)+(⟨#[115,101,115,115,105,111,110]⟩:ByteArray).size)+4)+4) 1000000000))) (pu (pa pz (pa (pl (show an (({p0 with state:=1,room:=4096}:Ch).wait.length) (({p0 with state:=1,room:=4096}:Ch).got.length) (({p0 with state:=1,room:=4096}:Ch).out.length) (({p0 with state:=1,room:=4096}:Ch).wait.length) (({p0 with state:=1,room:=4096}:Ch).got.length) ({p0 with state:=1,room:=4096}:Ch) from aV _)) (Ye (({p0 with state:=1,room:=4096}:Ch).out.length) 1000000000))) pT))))))) <|sq [] none [2] [498,497,496,0] ([(2,.sc (.i .i64 0))],[(498,.vec .row ((bv p0).out)),(497,.ints .u8 ((bv p0).got.length) ((bv p0).got)),(496,.ints .u8 ((bv p0).wait.length) ((bv p0).wait)),(0,chC 496 497 498 (bv p0))]) 528 (v1 pT) <|Tri.ret <|rt <|ij.conv (r':=⟨.sc (.i .i64 0),[some (chC 4 5 6 (bv p0)),none,none,none,some (.ints .u8 ((bv p0).wait.length) ((bv p0).wait)),some (.ints .u8 ((bv p0).got.length) ((bv p0).got)),some (.vec .row ((bv p0).out))]⟩) (by simp only [chC,dW,aF,h1,h2,aR,aM]) <|er [(0,0),(496,4),(497,5),(498,6)] pz
end Go.Vm
namespace Go.Vm
open Go
def ah (z0:Ch):Ch :=
 (da z0 (eV (1+4) (lQ z0 94) (bytesOf ((z0.wait.drop 0).take ((min (min z0.wait.length ((z0.window).toNat)) ((z0.most).toNat))-0)))))
def dj (k0:Nat) (z0:Ch):Ch :=
 ({(ah z0) with window:=(fS .i64 ((ah z0).window) ((min (min z0.wait.length ((z0.window).toNat)) ((z0.most).toNat):Nat):Int)),wait:=((ah z0).wait).drop (min (min z0.wait.length ((z0.window).toNat)) ((z0.most).toNat))}:Ch)
def cF (p0:Ch):Ch :=
 (itr (dj) (cb p0) p0)
theorem iq {p z:Ch} {k:Nat} (h:cn p) (hJ:fA p k z) (h1:(decide ((((z.wait.length:Nat):Int):Int)>0))=true) (h2:(decide ((z.window:Int)>0))=true) (h3:(!z.c0)=true):fA p (k+1) (dj k z):=by
 obtain ⟨⟨hq,hk⟩,_⟩:=gn h hJ (of_decide_eq_true h1) (of_decide_eq_true h2) (by cases hc:z.c0;rfl;rw [hc] at h3;cases h3)
 obtain ⟨f1,f2,f3,f4⟩:=eX h hJ
 obtain ⟨⟨a1,a2⟩,⟨a3,a4⟩,a5,a6⟩:=h
 obtain ⟨b1,b2,b3,b4,b5⟩:=hJ
 have hM:ct p=min p.wait.length p.window.toNat:=rfl
 have hl:z.wait.length=p.wait.length-k*p.most.toNat:=by rw [b1,List.length_drop];omega
 have hn:min (k*p.most.toNat) (ct p)+min (min z.wait.length z.window.toNat) z.most.toNat=min ((k+1)*p.most.toNat) (ct p):=by
  rw [b3,Nat.succ_mul]
  omega
 refine ⟨?_,?_,b3,b4,?_⟩
 ·show z.wait.drop _=_
  rw [← hn,← List.drop_drop,← b1]
 ·show fS .i64 z.window _=_
  rw [jH (by omega) (by omega),← hn]
  omega
 ·show (z.out++[_]).length+(z.wait.drop _).length≤_
  rw [List.length_append,List.length_drop]
  show _+1+_≤_
  rw [b3]
  omega
theorem nZ (z:Ch):(ah z).wait=z.wait∧(ah z).window=z.window:=⟨rfl,rfl⟩
def mb (p0:Ch) (y0_n1:Nat) (y0_n2:Nat) (y0_n3:Nat) (y0_m1:Nat) (y0_m2:Nat) :Option (Prop × Ret) :=
 some ((an y0_n1 y0_n2 y0_n3 y0_m1 y0_m2 p0∧(cn p0)),⟨.tup [],[some (chC 4 5 6 (cF p0)),none,none,none,some (.ints .u8 ((cF p0).wait.length) ((cF p0).wait)),some (.ints .u8 ((cF p0).got.length) ((cF p0).got)),some (.vec .row ((cF p0).out))]⟩)
def oP:List AV→List Blk→Option (Prop × Ret)
 |[.sc (.p 0 0)],[.cells [.b y0_server,.i .i64 y0_state,.i .u32 y0_peer,.i .i64 y0_window,.i .i64 y0_most,.i .i64 y0_room,.sl 1 0 y0_n1 1 none,.sl 2 0 y0_n2 1 none,.b y0_ready,.b y0_e0,.b y0_e1,.b y0_c0,.b y0_c1,.sl 3 0 y0_n3 1 none],.ints .u8 y0_m1 y0_wait,.ints .u8 y0_m2 y0_got,.vec .row y0_out]=>mb ⟨y0_server,y0_state,y0_peer,y0_window,y0_most,y0_room,y0_wait,y0_got,y0_ready,y0_e0,y0_e1,y0_c0,y0_c1,y0_out⟩ y0_n1 y0_n2 y0_n3 y0_m1 y0_m2
 |_,_=>none
theorem pL:Known Go.Proofs.Try.prog noG 38 ⟨4,3,oP⟩:=by
 refine Xw Go.Proofs.Try.f38 67 (Zc fe 784 [.io,.ro .u8] [] [0,16,17,18] <|Zc iy 768 [.io,.val] [] [640] <|Zs pb 640 [.io,.val] [] [0,16,17,18] <|Zn) cM <|fun E args ks C r h hC hlen=>?_
 simp only at h
 unfold oP at h
 split at h
 rotate_left
 cases h
 rename_i y0_server y0_state y0_peer y0_window y0_most y0_room y0_n1 y0_n2 y0_ready y0_e0 y0_e1 y0_c0 y0_c1 y0_n3 y0_m1 y0_wait y0_m2 y0_got y0_out
 generalize hp0:(⟨y0_server,y0_state,y0_peer,y0_window,y0_most,y0_room,y0_wait,y0_got,y0_ready,y0_e0,y0_e1,y0_c0,y0_c1,y0_out⟩:Ch)=p0 at h
 obtain rfl:y0_server=p0.server:=by rw [← hp0]
 obtain rfl:y0_state=p0.state:=by rw [← hp0]
 obtain rfl:y0_peer=p0.peer:=by rw [← hp0]
 obtain rfl:y0_window=p0.window:=by rw [← hp0]
 obtain rfl:y0_most=p0.most:=by rw [← hp0]
 obtain rfl:y0_room=p0.room:=by rw [← hp0]
 obtain rfl:y0_wait=p0.wait:=by rw [← hp0]
 obtain rfl:y0_got=p0.got:=by rw [← hp0]
 obtain rfl:y0_ready=p0.ready:=by rw [← hp0]
 obtain rfl:y0_e0=p0.e0:=by rw [← hp0]
 obtain rfl:y0_e1=p0.e1:=by rw [← hp0]
 obtain rfl:y0_c0=p0.c0:=by rw [← hp0]
 obtain rfl:y0_c1=p0.c1:=by rw [← hp0]
 obtain rfl:y0_out=p0.out:=by rw [← hp0]
 clear hp0
 unfold mb at h
 cases h
 obtain ⟨⟨rfl,rfl,rfl,rfl,rfl⟩,hC⟩:=hC
 simp only [cl] at hlen
 refine ⟨rfl,?_⟩
 refine Tri.sub (Sub.of_eq (show _=([(0,.sc (.p 0 0))],[(0,chC 1 2 3 p0),(1,.ints .u8 p0.wait.length p0.wait),(2,.ints .u8 p0.got.length p0.got),(3,.vec .row p0.out)]) from rfl)) <|Tri.subP <|Tri.block <|Tri.sub (Sub.ren (U:=16) (U':=32) (ns:=[(0,0),(1,16),(2,17),(3,18)]) (kf:=[0]) (s':=([(0,.sc (.p 0 0))],[(0,chC 16 17 18 p0),(16,.ints .u8 p0.wait.length p0.wait),(17,.ints .u8 p0.got.length p0.got),(18,.vec .row p0.out)])) (by kernel_rfl) (by kernel_rfl)) <|Tri.count 32 (cb p0) (dj) p0 (fun k0 z0=>fA p0 k0 z0) (fun k0 z0=>([(0,.sc (.p 0 0))],[(0,chC 16 17 18 z0),(16,.ints .u8 z0.wait.length z0.wait),(17,.ints .u8 z0.got.length z0.got),(18,.vec .row z0.out)])) mn (Sub.of_eq (by kernel_rfl)) <|fun k0 z0 hk0 hz0 hJ0=>?_
 obtain ⟨⟨hz1,hz2⟩,⟨hz3,hz4⟩,hz5,hz6⟩:=eX hC hJ0
 obtain ⟨hw1,hw2⟩:=nZ z0
 refine Tri.seq <|Tri.split (decide ((((z0.wait.length:Nat):Int):Int)>0)) (fun h1=>?_) (fun h1=>?_)
 have h1':=of_decide_eq_true h1
 refine Tri.split (decide ((z0.window:Int)>0)) (fun h2=>?_) (fun h2=>?_)
 have h2':=of_decide_eq_true h2
 refine sq [(9,qb true),(16,qb true)] none [23,0] [0,16,17,18] ([(23,.sc (.b (!z0.c0))),(0,.sc (.p 0 0))],[(0,chC 16 17 18 z0),(16,.ints .u8 z0.wait.length z0.wait),(17,.ints .u8 z0.got.length z0.got),(18,.vec .row z0.out)]) 368 (v3 (pu (pl (show 6<14 from by first|omega|decide|(rw [hw1];omega)|(rw [aC,List.length_take,List.length_drop];omega)|exact ⟨by decide,by rw [aC,List.length_take,List.length_drop];omega⟩)) (v2 (pg h1 (v3 (pu (pl (show 3<14 from by first|omega|decide|(rw [hw1];omega)|(rw [aC,List.length_take,List.length_drop];omega)|exact ⟨by decide,by rw [aC,List.length_take,List.length_drop];omega⟩)) (v2 (pg h2 (v3 (pu (pl (show (0:Int)≤0∧0<((2:Nat):Int) from by first|omega|decide|(rw [hw1];omega)|(rw [aC,List.length_take,List.length_drop];omega)|exact ⟨by decide,by rw [aC,List.length_take,List.length_drop];omega⟩)) (pu (pl (show 11<14 from by first|omega|decide|(rw [hw1];omega)|(rw [aC,List.length_take,List.length_drop];omega)|exact ⟨by decide,by rw [aC,List.length_take,List.length_drop];omega⟩)) (v2 pT)))))))))))) ?_
 refine Xa (fun h3=>?_) (fun h3=>?_)
 refine Tri.skip <|Tri.block <|sq [(37,qi ((min (min z0.wait.length ((z0.window).toNat)) ((z0.most).toNat):Nat):Int))] (some [0,1,3,7,15,0,32,96,224,0,512,1536,3584,8191,16383]) [2,0] [0,16,17,18] ([(2,.sc (.i .i64 ((min (min z0.wait.length ((z0.window).toNat)) ((z0.most).toNat):Nat):Int))),(0,.sc (.p 0 0))],[(0,chC 16 17 18 z0),(16,.ints .u8 z0.wait.length z0.wait),(17,.ints .u8 z0.got.length z0.got),(18,.vec .row z0.out)]) 608 (v3 (pu (pl (show 6<14 from by first|omega|decide|(rw [hw1];omega)|(rw [aC,List.length_take,List.length_drop];omega)|exact ⟨by decide,by rw [aC,List.length_take,List.length_drop];omega⟩)) (v4 (pu (pl (show 3<14 from by first|omega|decide|(rw [hw1];omega)|(rw [aC,List.length_take,List.length_drop];omega)|exact ⟨by decide,by rw [aC,List.length_take,List.length_drop];omega⟩)) (v3 (pu (pl (show 4<14 from by first|omega|decide|(rw [hw1];omega)|(rw [aC,List.length_take,List.length_drop];omega)|exact ⟨by decide,by rw [aC,List.length_take,List.length_drop];omega⟩)) (pv pT (pl (show (bU (bU ((z0.wait.length:Nat):Int) z0.window) z0.most)=((min (min z0.wait.length ((z0.window).toNat)) ((z0.most).toNat):Nat):Int) from (nE (by omega) (by omega)))) (v1 pT)))))))) ?_
 refine sq [] (some [0,0,2,0,8,24,56,0,248,504,1022,2047]) [2,0] [786,785,784,0] ([(2,.sc (.i .i64 ((min (min z0.wait.length ((z0.window).toNat)) ((z0.most).toNat):Nat):Int))),(0,.sc (.p 0 0))],[(786,.vec .row ((ah z0).out)),(785,.ints .u8 ((ah z0).got.length) ((ah z0).got)),(784,.ints .u8 ((ah z0).wait.length) ((ah z0).wait)),(0,chC 784 785 786 (ah z0))]) 800 (v2 (pu (pa (pa pT (pa (pl (show an z0.wait.length z0.got.length z0.out.length z0.wait.length z0.got.length z0 from aV _)) pT)) (lr (([some (chC 16 17 18 z0),some (.ints .u8 z0.wait.length z0.wait),some (.ints .u8 z0.got.length z0.got),some (.vec .row z0.out)]:List (Option Blk))=[some (chC 16 17 18 z0),some (.ints .u8 z0.wait.length z0.wait),some (.ints .u8 z0.got.length z0.got),some (.vec .row z0.out)]))) (v3 (pu (pl (show 6<14 from by first|omega|decide|(rw [hw1];omega)|(rw [aC,List.length_take,List.length_drop];omega)|exact ⟨by decide,by rw [aC,List.length_take,List.length_drop];omega⟩)) (v1 (pu (pl (show (0:Int)≤0∧(0:Int)≤((min (min z0.wait.length ((z0.window).toNat)) ((z0.most).toNat):Nat):Int)∧((min (min z0.wait.length ((z0.window).toNat)) ((z0.most).toNat):Nat):Int)≤((z0.wait.length:Nat):Int) from by first|omega|decide|(rw [hw1];omega)|(rw [aC,List.length_take,List.length_drop];omega)|exact ⟨by decide,by rw [aC,List.length_take,List.length_drop];omega⟩)) (pu (pl (show 0+((min (min z0.wait.length ((z0.window).toNat)) ((z0.most).toNat))-0)≤z0.wait.length from by first|omega|decide|(rw [hw1];omega)|(rw [aC,List.length_take,List.length_drop];omega)|exact ⟨by decide,by rw [aC,List.length_take,List.length_drop];omega⟩)) (pu (pa pT (pa (Yr (1+4)) (pl (show (1+4)≤1000000000∧(bytesOf ((z0.wait.drop 0).take ((min (min z0.wait.length ((z0.window).toNat)) ((z0.most).toNat))-0))).size≤1000000000 from by first|omega|decide|(rw [hw1];omega)|(rw [aC,List.length_take,List.length_drop];omega)|exact ⟨by decide,by rw [aC,List.length_take,List.length_drop];omega⟩)))) (pu (pa pz (pa (pl (show an z0.wait.length z0.got.length z0.out.length z0.wait.length z0.got.length z0 from aV _)) (pl (show z0.out.length≤1000000000 from by first|omega|decide|(rw [hw1];omega)|(rw [aC,List.length_take,List.length_drop];omega)|exact ⟨by decide,by rw [aC,List.length_take,List.length_drop];omega⟩)))) pT))))))))) ?_
 refine sq [] none [2,0] [0,786,785,784] ([(2,.sc (.i .i64 ((min (min z0.wait.length ((z0.window).toNat)) ((z0.most).toNat):Nat):Int))),(0,.sc (.p 0 0))],[(0,.cells [.b ((ah z0).server),.i .i64 ((ah z0).state),.i .u32 ((ah z0).peer),.i .i64 ((ah z0).window),.i .i64 ((ah z0).most),.i .i64 ((ah z0).room),.sl 784 (0+((min (min z0.wait.length ((z0.window).toNat)) ((z0.most).toNat))*1)) (((ah z0).wait.length)-(min (min z0.wait.length ((z0.window).toNat)) ((z0.most).toNat))) 1 none,.sl 785 0 ((ah z0).got.length) 1 none,.b ((ah z0).ready),.b ((ah z0).e0),.b ((ah z0).e1),.b ((ah z0).c0),.b ((ah z0).c1),.sl 786 0 ((ah z0).out.length) 1 none]),(786,.vec .row ((ah z0).out)),(785,.ints .u8 ((ah z0).got.length) ((ah z0).got)),(784,.ints .u8 ((ah z0).wait.length) ((ah z0).wait))]) 960 (v4 (pu (pl (show 6<14 from by first|omega|decide|(rw [hw1];omega)|(rw [aC,List.length_take,List.length_drop];omega)|exact ⟨by decide,by rw [aC,List.length_take,List.length_drop];omega⟩)) (v1 (pu (pl (show (0:Int)≤((min (min z0.wait.length ((z0.window).toNat)) ((z0.most).toNat):Nat):Int)∧(((min (min z0.wait.length ((z0.window).toNat)) ((z0.most).toNat):Nat):Int):Int)≤(((ah z0).wait.length:Nat):Int)∧(((ah z0).wait.length:Nat):Int)≤(((ah z0).wait.length:Nat):Int) from by first|omega|decide|(rw [hw1];omega)|(rw [aC,List.length_take,List.length_drop];omega)|exact ⟨by decide,by rw [aC,List.length_take,List.length_drop];omega⟩)) (v2 (pu (pa (pl (show 6<14 from by first|omega|decide|(rw [hw1];omega)|(rw [aC,List.length_take,List.length_drop];omega)|exact ⟨by decide,by rw [aC,List.length_take,List.length_drop];omega⟩)) (Yr 1)) pT)))))) ?_
 refine Tri.sub (Sub.rebaseCi (U:=960) (U':=976) 0 6 784 960 (l:=[.b ((ah z0).server),.i .i64 ((ah z0).state),.i .u32 ((ah z0).peer),.i .i64 ((ah z0).window),.i .i64 ((ah z0).most),.i .i64 ((ah z0).room),.sl 784 (0+((min (min z0.wait.length ((z0.window).toNat)) ((z0.most).toNat))*1)) (((ah z0).wait.length)-(min (min z0.wait.length ((z0.window).toNat)) ((z0.most).toNat))) 1 none,.sl 785 0 ((ah z0).got.length) 1 none,.b ((ah z0).ready),.b ((ah z0).e0),.b ((ah z0).e1),.b ((ah z0).c0),.b ((ah z0).c1),.sl 786 0 ((ah z0).out.length) 1 none]) (kd:=.u8) (n:=(ah z0).wait.length) (xs:=(ah z0).wait) (len:=((ah z0).wait.length)-(min (min z0.wait.length ((z0.window).toNat)) ((z0.most).toNat))) (es:=1) (cap:=none) (show 0+((min (min z0.wait.length ((z0.window).toNat)) ((z0.most).toNat))*1)=min (min z0.wait.length ((z0.window).toNat)) ((z0.most).toNat) by omega) (show min (min z0.wait.length ((z0.window).toNat)) ((z0.most).toNat)≤(ah z0).wait.length from by first|omega|decide|(rw [hw1];omega)|(rw [aC,List.length_take,List.length_drop];omega)|exact ⟨by decide,by rw [aC,List.length_take,List.length_drop];omega⟩) (by decide) (by kernel_rfl) (by kernel_rfl) (by kernel_rfl)) ?_
 refine Tri.sub (Sub.of_eq (congrArg (fun (qq:Nat)=>(([(2,.sc (.i .i64 ((min (min z0.wait.length ((z0.window).toNat)) ((z0.most).toNat):Nat):Int))),(0,.sc (.p 0 0))],[(0,.cells [.b ((ah z0).server),.i .i64 ((ah z0).state),.i .u32 ((ah z0).peer),.i .i64 ((ah z0).window),.i .i64 ((ah z0).most),.i .i64 ((ah z0).room),.sl 960 0 qq 1 none,.sl 785 0 ((ah z0).got.length) 1 none,.b ((ah z0).ready),.b ((ah z0).e0),.b ((ah z0).e1),.b ((ah z0).c0),.b ((ah z0).c1),.sl 786 0 ((ah z0).out.length) 1 none]),(960,.ints .u8 qq (((ah z0).wait).drop (min (min z0.wait.length ((z0.window).toNat)) ((z0.most).toNat)))),(786,.vec .row ((ah z0).out)),(785,.ints .u8 ((ah z0).got.length) ((ah z0).got))]):St)) (show ((ah z0).wait.length)-(min (min z0.wait.length ((z0.window).toNat)) ((z0.most).toNat))=(((ah z0).wait).drop (min (min z0.wait.length ((z0.window).toNat)) ((z0.most).toNat))).length from by simp only [List.length_append,List.length_drop,List.length_cons,List.length_nil,Nat.zero_add,Nat.sub_zero,Nat.reduceAdd,bV]))) ?_
 show Tri _ _ _ _ ([(2,.sc (.i .i64 ((min (min z0.wait.length ((z0.window).toNat)) ((z0.most).toNat):Nat):Int))),(0,.sc (.p 0 0))],[(0,.cells [.b ((ah z0).server),.i .i64 ((ah z0).state),.i .u32 ((ah z0).peer),.i .i64 ((ah z0).window),.i .i64 ((ah z0).most),.i .i64 ((ah z0).room),.sl 960 0 ((((ah z0).wait).drop (min (min z0.wait.length ((z0.window).toNat)) ((z0.most).toNat))).length) 1 none,.sl 785 0 ((ah z0).got.length) 1 none,.b ((ah z0).ready),.b ((ah z0).e0),.b ((ah z0).e1),.b ((ah z0).c0),.b ((ah z0).c1),.sl 786 0 ((ah z0).out.length) 1 none]),(960,.ints .u8 ((((ah z0).wait).drop (min (min z0.wait.length ((z0.window).toNat)) ((z0.most).toNat))).length) (((ah z0).wait).drop (min (min z0.wait.length ((z0.window).toNat)) ((z0.most).toNat)))),(786,.vec .row ((ah z0).out)),(785,.ints .u8 ((ah z0).got.length) ((ah z0).got))]) _
 refine rq [] none [0] [0,960,786,785] ([(0,.sc (.p 0 0))],[(0,.cells [.b ((ah z0).server),.i .i64 ((ah z0).state),.i .u32 ((ah z0).peer),.i .i64 (fS .i64 ((ah z0).window) ((min (min z0.wait.length ((z0.window).toNat)) ((z0.most).toNat):Nat):Int)),.i .i64 ((ah z0).most),.i .i64 ((ah z0).room),.sl 960 0 ((((ah z0).wait).drop (min (min z0.wait.length ((z0.window).toNat)) ((z0.most).toNat))).length) 1 none,.sl 785 0 ((ah z0).got.length) 1 none,.b ((ah z0).ready),.b ((ah z0).e0),.b ((ah z0).e1),.b ((ah z0).c0),.b ((ah z0).c1),.sl 786 0 ((ah z0).out.length) 1 none]),(960,.ints .u8 ((((ah z0).wait).drop (min (min z0.wait.length ((z0.window).toNat)) ((z0.most).toNat))).length) (((ah z0).wait).drop (min (min z0.wait.length ((z0.window).toNat)) ((z0.most).toNat)))),(786,.vec .row ((ah z0).out)),(785,.ints .u8 ((ah z0).got.length) ((ah z0).got))]) 1120 (v3 (pu (pl (show 3<14 from by first|omega|decide|(rw [hw1];omega)|(rw [aC,List.length_take,List.length_drop];omega)|exact ⟨by decide,by rw [aC,List.length_take,List.length_drop];omega⟩)) (v4 (pu (pa (pl (show 3<14 from by first|omega|decide|(rw [hw1];omega)|(rw [aC,List.length_take,List.length_drop];omega)|exact ⟨by decide,by rw [aC,List.length_take,List.length_drop];omega⟩)) (Yr 1)) pT)))) ?_
 repeat (refine br ?_)
 exact bc (oM hC hJ0 (by assumption) (by assumption) (by assumption)) (iq hC hJ0 (by assumption) (by assumption) (by assumption)) <|sp [(0,0),(960,16),(785,17),(786,18)] [0]
 refine Tri.exit <|?_
 have hend0:k0=(cb p0):=by exact (eH hC hJ0 (by omega) (by first|exact .inl (by assumption)|exact .inr (.inl (by assumption))|exact .inr (.inr (by assumption))))
 subst hend0;subst hz0
 show subP _ _ _ _
 exact dm <|en [(0,0),(16,4),(17,5),(18,6)] pT
 have h2':=of_decide_eq_false h2
 refine sq [(9,qb true),(16,qb false)] none [23,0] [0,16,17,18] ([(23,.sc (.b false)),(0,.sc (.p 0 0))],[(0,chC 16 17 18 z0),(16,.ints .u8 z0.wait.length z0.wait),(17,.ints .u8 z0.got.length z0.got),(18,.vec .row z0.out)]) 368 (v3 (pu (pl (show 6<14 from by first|omega|decide|(rw [hw1];omega)|(rw [aC,List.length_take,List.length_drop];omega)|exact ⟨by decide,by rw [aC,List.length_take,List.length_drop];omega⟩)) (v2 (pg h1 (v3 (pu (pl (show 3<14 from by first|omega|decide|(rw [hw1];omega)|(rw [aC,List.length_take,List.length_drop];omega)|exact ⟨by decide,by rw [aC,List.length_take,List.length_drop];omega⟩)) (v2 (pg h2 (v7 pT))))))))) ?_
 refine Tri.cond_false (by kernel_rfl) <|Tri.exit <|?_
 have hend0:k0=(cb p0):=by exact (eH hC hJ0 (by omega) (by first|exact .inl (by assumption)|exact .inr (.inl (by assumption))|exact .inr (.inr (by assumption))))
 subst hend0;subst hz0
 show subP _ _ _ _
 exact dm <|en [(0,0),(16,4),(17,5),(18,6)] pT
 have h1':=of_decide_eq_false h1
 refine sq [(9,qb false)] none [23,0] [0,16,17,18] ([(23,.sc (.b false)),(0,.sc (.p 0 0))],[(0,chC 16 17 18 z0),(16,.ints .u8 z0.wait.length z0.wait),(17,.ints .u8 z0.got.length z0.got),(18,.vec .row z0.out)]) 368 (v3 (pu (pl (show 6<14 from by first|omega|decide|(rw [hw1];omega)|(rw [aC,List.length_take,List.length_drop];omega)|exact ⟨by decide,by rw [aC,List.length_take,List.length_drop];omega⟩)) (v2 (pg h1 (v5 (v9 pT)))))) ?_
 refine Tri.cond_false (by kernel_rfl) <|Tri.exit <|?_
 have hend0:k0=(cb p0):=by exact (eH hC hJ0 (by omega) (by first|exact .inl (by assumption)|exact .inr (.inl (by assumption))|exact .inr (.inr (by assumption))))
 subst hend0;subst hz0
 show subP _ _ _ _
 exact dm <|en [(0,0),(16,4),(17,5),(18,6)] pT
def cK (p0:Ch) (p1:List Int):Ch :=
 (cF ({p0 with wait:=p0.wait++p1}:Ch))
def dt (p0:Ch) (p1:List Int):Int :=
 (sel ((p0.state:Int) != 2) 8 (sel (!p0.ready) 8 (sel p0.e0 8 (sel p0.c0 8 0))))
def bh (p0:Ch) (p1:List Int):Ch :=
 (sel ((p0.state:Int) != 2) p0 (sel (!p0.ready) p0 (sel p0.e0 p0 (sel p0.c0 p0 (cK p0 p1)))))
def mJ (p0:Ch) (y0_n1:Nat) (y0_n2:Nat) (y0_n3:Nat) (y0_m1:Nat) (y0_m2:Nat) (p1:List Int):Option (Prop × Ret) :=
 some ((an y0_n1 y0_n2 y0_n3 y0_m1 y0_m2 p0∧(cn p0∧p0.out.length+p0.wait.length+p1.length≤1000000000)),⟨.sc (.i .i64 (dt p0 p1)),[some (chC 4 5 6 (bh p0 p1)),none,none,none,some (.ints .u8 ((bh p0 p1).wait.length) ((bh p0 p1).wait)),some (.ints .u8 ((bh p0 p1).got.length) ((bh p0 p1).got)),some (.vec .row ((bh p0 p1).out))]⟩)
def ng:List AV→List Blk→Option (Prop × Ret)
 |[.sc (.p 0 0),.sc (.ro .u8 p1)],[.cells [.b y0_server,.i .i64 y0_state,.i .u32 y0_peer,.i .i64 y0_window,.i .i64 y0_most,.i .i64 y0_room,.sl 1 0 y0_n1 1 none,.sl 2 0 y0_n2 1 none,.b y0_ready,.b y0_e0,.b y0_e1,.b y0_c0,.b y0_c1,.sl 3 0 y0_n3 1 none],.ints .u8 y0_m1 y0_wait,.ints .u8 y0_m2 y0_got,.vec .row y0_out]=>mJ ⟨y0_server,y0_state,y0_peer,y0_window,y0_most,y0_room,y0_wait,y0_got,y0_ready,y0_e0,y0_e1,y0_c0,y0_c1,y0_out⟩ y0_n1 y0_n2 y0_n3 y0_m1 y0_m2 p1
 |_,_=>none
theorem ot:Known Go.Proofs.Try.prog noG 19 ⟨4,3,ng⟩:=by
 refine Xw Go.Proofs.Try.f19 46 (Zc pL 688 [.io] [] [0,608,2,3] <|Zn) cM <|fun E args ks C r h hC hlen=>?_
 simp only at h
 unfold ng at h
 split at h
 rotate_left
 cases h
 rename_i p1 y0_server y0_state y0_peer y0_window y0_most y0_room y0_n1 y0_n2 y0_ready y0_e0 y0_e1 y0_c0 y0_c1 y0_n3 y0_m1 y0_wait y0_m2 y0_got y0_out
 generalize hp0:(⟨y0_server,y0_state,y0_peer,y0_window,y0_most,y0_room,y0_wait,y0_got,y0_ready,y0_e0,y0_e1,y0_c0,y0_c1,y0_out⟩:Ch)=p0 at h
 obtain rfl:y0_server=p0.server:=by rw [← hp0]
 obtain rfl:y0_state=p0.state:=by rw [← hp0]
 obtain rfl:y0_peer=p0.peer:=by rw [← hp0]
 obtain rfl:y0_window=p0.window:=by rw [← hp0]
 obtain rfl:y0_most=p0.most:=by rw [← hp0]
 obtain rfl:y0_room=p0.room:=by rw [← hp0]
 obtain rfl:y0_wait=p0.wait:=by rw [← hp0]
 obtain rfl:y0_got=p0.got:=by rw [← hp0]
 obtain rfl:y0_ready=p0.ready:=by rw [← hp0]
 obtain rfl:y0_e0=p0.e0:=by rw [← hp0]
 obtain rfl:y0_e1=p0.e1:=by rw [← hp0]
 obtain rfl:y0_c0=p0.c0:=by rw [← hp0]
 obtain rfl:y0_c1=p0.c1:=by rw [← hp0]
 obtain rfl:y0_out=p0.out:=by rw [← hp0]
 clear hp0
 unfold mJ at h
 cases h
 obtain ⟨⟨rfl,rfl,rfl,rfl,rfl⟩,hC⟩:=hC
 simp only [cl] at hlen
 refine ⟨rfl,?_⟩
 refine Tri.sub (Sub.of_eq (show _=([(0,.sc (.p 0 0)),(1,.sc (.ro .u8 p1))],[(0,chC 1 2 3 p0),(1,.ints .u8 p0.wait.length p0.wait),(2,.ints .u8 p0.got.length p0.got),(3,.vec .row p0.out)]) from rfl)) <|Tri.subP <|sq [] none [0,1] [0,1,2,3] ([(0,.sc (.p 0 0)),(1,.sc (.ro .u8 p1))],[(0,chC 1 2 3 p0),(1,.ints .u8 p0.wait.length p0.wait),(2,.ints .u8 p0.got.length p0.got),(3,.vec .row p0.out)]) 32 (v1 pT) <|Tri.seq <|Tri.split ((p0.state:Int) != 2) (fun h1=>?_) (fun h1=>?_)
 have h1':=dO h1
 exact sq [(14,qb true)] none [34,0,1] [0,1,2,3] ([(34,.sc (.b true)),(0,.sc (.p 0 0)),(1,.sc (.ro .u8 p1))],[(0,chC 1 2 3 p0),(1,.ints .u8 p0.wait.length p0.wait),(2,.ints .u8 p0.got.length p0.got),(3,.vec .row p0.out)]) 512 (v6 (pu (Yl 1 14) (v2 (pg h1 (v2 (v9 (v9 pT))))))) <|Tri.cond_true (by kernel_rfl) <|sq [] none [4] [0,1,2,3] ([(4,.sc (.i .i64 8))],[(0,chC 1 2 3 p0),(1,.ints .u8 p0.wait.length p0.wait),(2,.ints .u8 p0.got.length p0.got),(3,.vec .row p0.out)]) 528 (v1 pT) <|Tri.ret <|rt <|ij.conv (r':=⟨.sc (.i .i64 8),[some (chC 4 5 6 p0),none,none,none,some (.ints .u8 p0.wait.length p0.wait),some (.ints .u8 p0.got.length p0.got),some (.vec .row p0.out)]⟩) (by simp only [chC,dt,bh,h1,aR,aM]) <|er [(0,0),(1,4),(2,5),(3,6)] pz
 have h1':=dB h1
 refine Tri.split (!p0.ready) (fun h2=>?_) (fun h2=>?_)
 exact sq [(14,qb false),(21,qb true)] none [34,0,1] [0,1,2,3] ([(34,.sc (.b true)),(0,.sc (.p 0 0)),(1,.sc (.ro .u8 p1))],[(0,chC 1 2 3 p0),(1,.ints .u8 p0.wait.length p0.wait),(2,.ints .u8 p0.got.length p0.got),(3,.vec .row p0.out)]) 512 (v6 (pu (Yl 1 14) (v2 (pg h1 (v3 (pu (Yl 8 14) (v2 (pg h2 (v4 (v9 pT)))))))))) <|Tri.cond_true (by kernel_rfl) <|sq [] none [4] [0,1,2,3] ([(4,.sc (.i .i64 8))],[(0,chC 1 2 3 p0),(1,.ints .u8 p0.wait.length p0.wait),(2,.ints .u8 p0.got.length p0.got),(3,.vec .row p0.out)]) 528 (v1 pT) <|Tri.ret <|rt <|ij.conv (r':=⟨.sc (.i .i64 8),[some (chC 4 5 6 p0),none,none,none,some (.ints .u8 p0.wait.length p0.wait),some (.ints .u8 p0.got.length p0.got),some (.vec .row p0.out)]⟩) (by simp only [chC,dt,bh,h1,h2,aR,aM]) <|er [(0,0),(1,4),(2,5),(3,6)] pz
 refine Tri.split p0.e0 (fun h3=>?_) (fun h3=>?_)
 exact sq [(14,qb false),(21,qb false),(28,qb true)] none [34,0,1] [0,1,2,3] ([(34,.sc (.b true)),(0,.sc (.p 0 0)),(1,.sc (.ro .u8 p1))],[(0,chC 1 2 3 p0),(1,.ints .u8 p0.wait.length p0.wait),(2,.ints .u8 p0.got.length p0.got),(3,.vec .row p0.out)]) 512 (v6 (pu (Yl 1 14) (v2 (pg h1 (v3 (pu (Yl 8 14) (v2 (pg h2 (v3 (pu (Yi 0 2) (pu (Yl 9 14) (v1 (pg h3 (v6 pT)))))))))))))) <|Tri.cond_true (by kernel_rfl) <|sq [] none [4] [0,1,2,3] ([(4,.sc (.i .i64 8))],[(0,chC 1 2 3 p0),(1,.ints .u8 p0.wait.length p0.wait),(2,.ints .u8 p0.got.length p0.got),(3,.vec .row p0.out)]) 528 (v1 pT) <|Tri.ret <|rt <|ij.conv (r':=⟨.sc (.i .i64 8),[some (chC 4 5 6 p0),none,none,none,some (.ints .u8 p0.wait.length p0.wait),some (.ints .u8 p0.got.length p0.got),some (.vec .row p0.out)]⟩) (by simp only [chC,dt,bh,h1,h2,h3,aR,aM]) <|er [(0,0),(1,4),(2,5),(3,6)] pz
 refine sq [(14,qb false),(21,qb false),(28,qb false)] none [34,0,1] [0,1,2,3] ([(34,.sc (.b p0.c0)),(0,.sc (.p 0 0)),(1,.sc (.ro .u8 p1))],[(0,chC 1 2 3 p0),(1,.ints .u8 p0.wait.length p0.wait),(2,.ints .u8 p0.got.length p0.got),(3,.vec .row p0.out)]) 512 (v6 (pu (Yl 1 14) (v2 (pg h1 (v3 (pu (Yl 8 14) (v2 (pg h2 (v3 (pu (Yi 0 2) (pu (Yl 9 14) (v1 (pg h3 (v3 (pu (Yi 0 2) (pu (Yl 11 14) (v1 pT))))))))))))))))) <|Xa (fun h4=>?_) (fun h4=>?_)
 exact sq [] none [4] [0,1,2,3] ([(4,.sc (.i .i64 8))],[(0,chC 1 2 3 p0),(1,.ints .u8 p0.wait.length p0.wait),(2,.ints .u8 p0.got.length p0.got),(3,.vec .row p0.out)]) 528 (v1 pT) <|Tri.ret <|rt <|ij.conv (r':=⟨.sc (.i .i64 8),[some (chC 4 5 6 p0),none,none,none,some (.ints .u8 p0.wait.length p0.wait),some (.ints .u8 p0.got.length p0.got),some (.vec .row p0.out)]⟩) (by simp only [chC,dt,bh,h1,h2,h3,h4,aR,aM]) <|er [(0,0),(1,4),(2,5),(3,6)] pz
 refine Tri.skip <|sq [] none [0] [0,608,2,3] ([(0,.sc (.p 0 0))],[(0,.cells [.b p0.server,.i .i64 p0.state,.i .u32 p0.peer,.i .i64 p0.window,.i .i64 p0.most,.i .i64 p0.room,.sl 608 0 (p0.wait.length+p1.length) 1 none,.sl 2 0 p0.got.length 1 none,.b p0.ready,.b p0.e0,.b p0.e1,.b p0.c0,.b p0.c1,.sl 3 0 p0.out.length 1 none]),(608,.ints .u8 (p0.wait.length+p1.length) (p0.wait++p1)),(2,.ints .u8 p0.got.length p0.got),(3,.vec .row p0.out)]) 672 (v4 (pu (Yl 6 14) (v1 (pu (Ya pT 1 (p0.wait.length+p1.length) p1.length p1.length p0.wait.length p0.wait.length) (v2 (pu (Ys 6 14) pT)))))) <|Tri.sub (Sub.of_eq (congrArg (fun (qq:Nat)=>(([(0,.sc (.p 0 0))],[(0,.cells [.b p0.server,.i .i64 p0.state,.i .u32 p0.peer,.i .i64 p0.window,.i .i64 p0.most,.i .i64 p0.room,.sl 608 0 qq 1 none,.sl 2 0 p0.got.length 1 none,.b p0.ready,.b p0.e0,.b p0.e1,.b p0.c0,.b p0.c1,.sl 3 0 p0.out.length 1 none]),(608,.ints .u8 qq (p0.wait++p1)),(2,.ints .u8 p0.got.length p0.got),(3,.vec .row p0.out)]):St)) (show p0.wait.length+p1.length=(p0.wait++p1).length from by simp only [List.length_append,List.length_drop,List.length_cons,List.length_nil,Nat.zero_add,Nat.sub_zero,Nat.reduceAdd,bV]))) ?_
 show Tri _ _ _ _ ([(0,.sc (.p 0 0))],[(0,.cells [.b p0.server,.i .i64 p0.state,.i .u32 p0.peer,.i .i64 p0.window,.i .i64 p0.most,.i .i64 p0.room,.sl 608 0 ((p0.wait++p1).length) 1 none,.sl 2 0 p0.got.length 1 none,.b p0.ready,.b p0.e0,.b p0.e1,.b p0.c0,.b p0.c1,.sl 3 0 p0.out.length 1 none]),(608,.ints .u8 ((p0.wait++p1).length) (p0.wait++p1)),(2,.ints .u8 p0.got.length p0.got),(3,.vec .row p0.out)]) _
 exact sq [] none [] [690,689,688,0] ([],[(690,.vec .row ((cK p0 p1).out)),(689,.ints .u8 ((cK p0 p1).got.length) ((cK p0 p1).got)),(688,.ints .u8 ((cK p0 p1).wait.length) ((cK p0 p1).wait)),(0,chC 688 689 690 (cK p0 p1))]) 704 (v1 (pu (pa pT (pa (pl (show an (({p0 with wait:=p0.wait++p1}:Ch).wait.length) (({p0 with wait:=p0.wait++p1}:Ch).got.length) (({p0 with wait:=p0.wait++p1}:Ch).out.length) (({p0 with wait:=p0.wait++p1}:Ch).wait.length) (({p0 with wait:=p0.wait++p1}:Ch).got.length) ({p0 with wait:=p0.wait++p1}:Ch) from aV _)) (pl (show cn ({p0 with wait:=p0.wait++p1}:Ch) from ⟨hC.1.1,hC.1.2.1,hC.1.2.2.1,by show p0.out.length+(p0.wait++p1).length≤_;rw [List.length_append];omega⟩)))) pT)) <|sq [] none [4] [690,689,688,0] ([(4,.sc (.i .i64 0))],[(690,.vec .row ((cK p0 p1).out)),(689,.ints .u8 ((cK p0 p1).got.length) ((cK p0 p1).got)),(688,.ints .u8 ((cK p0 p1).wait.length) ((cK p0 p1).wait)),(0,chC 688 689 690 (cK p0 p1))]) 720 (v1 pT) <|Tri.ret <|rt <|ij.conv (r':=⟨.sc (.i .i64 0),[some (chC 4 5 6 (cK p0 p1)),none,none,none,some (.ints .u8 ((cK p0 p1).wait.length) ((cK p0 p1).wait)),some (.ints .u8 ((cK p0 p1).got.length) ((cK p0 p1).got)),some (.vec .row ((cK p0 p1).out))]⟩) (by simp only [chC,dt,bh,h1,h2,h3,h4,aR,aM]) <|er [(0,0),(688,4),(689,5),(690,6)] pz
end Go.Vm
end
