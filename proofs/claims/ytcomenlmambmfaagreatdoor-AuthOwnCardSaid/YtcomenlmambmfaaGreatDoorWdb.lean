/- A part of a proof (pack3): the small machine that walks the program, the walks of its functions, and what they compute in plain. -/
import Derived.Test.YtcomenlmambmfaaGreatDoorWda
import Derived.Below
import Derived.OpenShut
import Derived.DataShut
import Derived.ChangeSlices
import Derived.SliceStrings
import Derived.LaidMore
import Derived.Lib.Bytealg
import Derived.Lib.Join
import Derived.Laws.RangeAny
import Derived.LoopN
import Derived.Shelf.Strings.OnBuilder
import Derived.Test.YtcomenlmambmfaaGreatDoorProg
import Derived.Test.YtcomenlmambmfaaGreatDoorChecked
import Derived.Test.YtcomenlmambmfaaGreatDoorRows
import Derived.Stop.Joined
set_option maxHeartbeats 2000000
set_option maxRecDepth 100000
set_option linter.unusedVariables false
set_option linter.unusedSimpArgs false
noncomputable section
namespace Go.Vm
open Go
def Sc.plain:Sc→Bool
 |.p _ _|.sl _ _ _ _ _|.b _|.i _ _|.s _|.nilp|.nils=>true
 |_=>false
def A1.plain:A1→Bool
 |.sc s=>s.plain
 |.agg l=>l.all Sc.plain
 |.ints _ _ _=>true
 |.arr .str _=>true
 |.arr _ _=>false
def AV.plain:AV→Bool
 |.sc s=>s.plain
 |.agg l=>l.all Sc.plain
 |.ints _ _ _=>true
 |.arr .str _=>true
 |.arr _ _=>false
 |.tup l=>l.all A1.plain
def Blk.plain:Blk→Bool
 |.ints _ _ _=>true
 |.cells l=>l.all Sc.plain
 |.vec .str _=>true
 |.vec _ _=>false
def OBlk.plain:Option Blk→Bool
 |none=>true
 |some k=>k.plain
def Ret.plain (r:Ret):Bool:=r.v.plain && r.bs.all OBlk.plain
def Sc.own0:Sc→Bool
 |.b _|.i _ _|.s _|.nilp|.nils=>true
 |_=>false
inductive Pass where
 |val
 |ro (k:IntKind)
 |rob
 |ros
 |io
theorem bJ {xs:List Int} {n:Nat} (h:xs.length=n):aH xs n 0 n=xs:=by
 rw [kL h,List.drop_zero,List.take_of_length_le (by omega)]
def pk {α:Type} (xs:List α) (off len:Nat):List α:=bif Nat.beq off 0 then xs.take len else (xs.drop off).take len
theorem ny {α:Type} (xs:List α) (off len:Nat):pk xs off len=(xs.drop off).take len:=by
 unfold pk
 cases hb:Nat.beq off 0
 ·rfl
 ·have h:=Nat.eq_of_beq_eq_true hb
  subst h
  rfl
def pV (b:Nat):List Nat→List Blk→Option Blk
 |m :: ms,k :: ks=>bif Nat.beq m b then some k else pV b ms ks
 |_,_=>none
def FH (k:IntKind) (ms:List Nat) (ks:List Blk):Sc→Option (Prop × List Int)
 |.ro k' xs=>if k'=k then some (True,xs) else none
 |.nils=>some (True,[])
 |.sl b off len 1 _=>match pV b ms ks with
  |some (.ints k' n xs)=>if k'=k then some (off+len≤n,aH xs n off len) else none
  |some (.cells [])=>some (len=0,[])
  |_=>none
 |_=>none
def ry (ms:List Nat) (ks:List Blk):List Sc→Option (Prop × List (List Int))
 |[]=>some (True,[])
 |s :: r=>match FH .u8 ms ks s,ry ms ks r with
  |some (C,xs),some (C',xss)=>some (C∧C',xs :: xss)
  |_,_=>none
def bT (ns:Ren) (ms:List Nat) (ks:List Blk):List Pass→List AV→Option (Prop × List AV)
 |[],[]=>some (True,[])
 |.ro k :: ps,.sc s :: r=>match FH k ms ks s,bT ns ms ks ps r with
  |some (C,xs),some (C',vs)=>some (C∧C',.sc (.ro k xs) :: vs)
  |_,_=>none
 |.rob :: ps,.sc (.rob xs) :: r=>(match bT ns ms ks ps r with
  |some (C,vs)=>some (C,.sc (.rob xs) :: vs)
  |none=>none)
 |.rob :: ps,.sc (.sl b off len es _) :: r=>match pV b ms ks with
  |some (.cells l)=>(match ry ms ks ((l.drop off).take len),bT ns ms ks ps r with
   |some (C0,xss),some (C,vs)=>bif Nat.beq es 1 then some ((off+len≤l.length∧C0)∧C,.sc (.rob xss) :: vs) else none
   |_,_=>none)
  |some (.vec .row xs)=>(match bT ns ms ks ps r with
   |some (C,vs)=>bif Nat.beq es 1 then some ((off+len≤xs.length)∧C,.sc (.rob (pk xs off len)) :: vs) else none
   |_=>none)
  |_=>none
 |.rob :: ps,.sc .nils :: r=>(match bT ns ms ks ps r with
  |some (C,vs)=>some (C,.sc (.rob []) :: vs)
  |none=>none)
 |.ros :: ps,.sc (.ros xs) :: r=>(match bT ns ms ks ps r with
  |some (C,vs)=>some (C,.sc (.ros xs) :: vs)
  |none=>none)
 |.ros :: ps,.sc .nils :: r=>(match bT ns ms ks ps r with
  |some (C,vs)=>some (C,.sc (.ros []) :: vs)
  |none=>none)
 |.ros :: ps,.sc (.sl b off len es _) :: r=>match pV b ms ks with
  |some (.vec .str xs)=>(match bT ns ms ks ps r with
   |some (C,vs)=>bif Nat.beq es 1 then some ((off+len≤xs.length)∧C,.sc (.ros (pk xs off len)) :: vs) else none
   |_=>none)
  |some (.cells l)=>(match VK.unL .str ((l.drop off).take len),bT ns ms ks ps r with
   |some xs,some (C,vs)=>bif Nat.beq es 1 then some ((off+len≤l.length)∧C,.sc (.ros xs) :: vs) else none
   |_,_=>none)
  |_=>none
 |.val :: ps,.sc s :: r=>(match s.own0,bT ns ms ks ps r with
  |true,some (C,vs)=>some (C,.sc s :: vs)
  |_,_=>none)
 |.val :: ps,.ints k n xs :: r=>(match bT ns ms ks ps r with
  |some (C,vs)=>some (C,.ints k n xs :: vs)
  |none=>none)
 |.io :: ps,v :: r=>(match v.ren ns,bT ns ms ks ps r with
  |some v',some (C,vs)=>some (C,v' :: vs)
  |_,_=>none)
 |_,_=>none
def tI (ns:Ren):List Blk→Option (List Blk)
 |[]=>some []
 |k :: r=>match k.ren ns,tI ns r with
  |some k',some r'=>some (k' :: r')
  |_,_=>none
def upB (up:Ren):List (Option Blk)→Option (List (Option Blk))
 |[]=>some []
 |none :: r=>(match upB up r with
  |some r'=>some (none :: r')
  |none=>none)
 |some k :: r=>match k.ren up,upB up r with
  |some k',some r'=>some (some k' :: r')
  |_,_=>none
def iJ (fs:List Nat):Ren:=fs.zip (List.range fs.length)
def upN (fs:List Nat) (nm nb:Nat):Ren:=(List.range (fs.length+nb)).zip (fs++(List.range nb).map (nm+·))
def big:Nat:=1000000000000
def qb (ps:List Pass) (ms fs:List Nat) (nb:Nat) (spec:List AV→List Blk→Option (Prop × Ret)) (args:List AV) (nm:Nat):Option Deed :=
 bif dc (iJ fs) big && dc (upN fs nm nb) big && ms.all (fun b=>!fs.any (Nat.beq b)) then
  some { rd:=ms++fs,wr:=fs++(List.range nb).map (nm+·),go:=fun ks =>
   match bT (iJ fs) ms (ks.take ms.length) ps args,tI (iJ fs) (ks.drop ms.length) with
   |some (C,vs),some ks'=>(match spec vs ks' with
    |some (C',r)=>(match r.v.ren (upN fs nm nb),upB (upN fs nm nb) r.bs with
     |some v,some bs=>bif Nat.beq r.bs.length (fs.length+nb) && (ms.isEmpty || r.plain) then some (C∧C',v,bs) else none
     |_,_=>none)
    |none=>none)
   |_,_=>none }
 else none
section
variable {E E0 E':Env} {σ σ':Sig} {nm nb:Nat}
theorem yK (ho:∀ g,E0.old g→E'.old g) (hw:E'.w0=E0.w0) {k:IntKind} {xs:List Int} {V:Value} (h:RoR E0 k xs V):RoR E' k xs V:=by
 obtain ⟨A,c,q1,q2,q3⟩:=h
 refine ⟨A,c,q1,q2,fun hpos=>?_⟩
 obtain ⟨ad,r1,r2,r3⟩:=q3 hpos
 exact ⟨ad,r1,ho _ r2,fun j hj=>by rw [hw];exact r3 j hj⟩
theorem Sc.env {pl:Bool} (ho:pl=false→∀ g,E0.old g→E'.old g) (hw:E'.w0=E0.w0):∀ {s:Sc} {V:Value},(pl=true→s.plain=true)→ScR E0 σ s V→ScR E' σ s V:=by
 intro s V hp h
 cases pl with
 |true =>
  have:=hp rfl
  cases s <;> first|exact h|exact Bool.noConfusion (show false=true from this)
 |false =>
  have ho:=ho rfl
  cases s with
  |b _|i _ _|s _|nilp|nils|raw _|p _ _|sl _ _ _ _ _|clo _ _ _=>exact h
  |ro k xs=>exact yK ho hw h
  |ros xs =>
   obtain ⟨A,c,q1,q2,q3⟩:=h
   refine ⟨A,c,q1,q2,fun hpos=>?_⟩
   obtain ⟨ad,r1,r2,r3⟩:=q3 hpos
   exact ⟨ad,r1,ho _ r2,fun j hj=>by rw [hw];exact r3 j hj⟩
  |rob xs =>
   obtain ⟨A,c,q1,q2,q3⟩:=h
   refine ⟨A,c,q1,q2,fun hpos=>?_⟩
   obtain ⟨ad,r1,r2,r3⟩:=q3 hpos
   refine ⟨ad,r1,ho _ r2,fun j hj=>?_⟩
   obtain ⟨v,e1,e2⟩:=r3 j hj
   exact ⟨v,by rw [hw];exact e1,yK ho hw e2⟩
  |rp k xs j =>
   obtain ⟨ad,q1,q2,q3⟩:=h
   exact ⟨ad,q1,ho _ q2,fun j hj=>by rw [hw];exact q3 j hj⟩
  |rps x =>
   obtain ⟨ad,q1,q2,q3⟩:=h
   exact ⟨ad,q1,ho _ q2,by rw [hw];exact q3⟩
  |rpb xs =>
   obtain ⟨ad,v,q1,q2,q3,q4⟩:=h
   exact ⟨ad,v,q1,ho _ q2,by rw [hw];exact q3,yK ho hw q4⟩
theorem uc {pl:Bool} (ho:pl=false→∀ g,E0.old g→E'.old g) (hw:E'.w0=E0.w0):∀ {l:List Sc} {m:List Value},(pl=true→l.all Sc.plain=true)→eB (ScR E0 σ) l m→eB (ScR E' σ) l m
 |[],[],_,_=>trivial
 |x :: r,V :: m,hp,h=>⟨Sc.env ho hw (fun q=>by have:=hp q;simp only [List.all_cons,Bool.and_eq_true] at this;exact this.1) h.1,
   uc ho hw (fun q=>by have:=hp q;simp only [List.all_cons,Bool.and_eq_true] at this;exact this.2) h.2⟩
theorem xm {pl:Bool} (ho:pl=false→∀ g,E0.old g→E'.old g) (hw:E'.w0=E0.w0) {v:VK}:∀ {xs:List v.T} {m:List Value},(pl=true→v=.str)→eB (ScR E0 σ) (xs.map v.sc) m→eB (ScR E' σ) (xs.map v.sc) m
 |[],[],_,_=>trivial
 |x :: r,V :: m,hp,h=>⟨Sc.env ho hw (fun q=>by have:=hp q;subst this;rfl) h.1,xm ho hw hp h.2⟩
theorem A1.env {pl:Bool} (ho:pl=false→∀ g,E0.old g→E'.old g) (hw:E'.w0=E0.w0) {v:A1} {V:Value} (hp:pl=true→v.plain=true) (h:A1R E0 σ v V):A1R E' σ v V:=by
 cases v with
 |sc s=>exact Sc.env ho hw hp h
 |agg l=>obtain ⟨arr,e,q⟩:=h;exact ⟨arr,e,uc ho hw hp q⟩
 |arr v xs=>obtain ⟨arr,e,q⟩:=h;exact ⟨arr,e,xm ho hw (fun q=>by have:=hp q;cases v <;> first|rfl|exact Bool.noConfusion (show false=true from this)) q⟩
 |ints k n xs=>exact h
theorem zJ {pl:Bool} (ho:pl=false→∀ g,E0.old g→E'.old g) (hw:E'.w0=E0.w0):∀ {l:List A1} {m:List Value},(pl=true→l.all A1.plain=true)→eB (A1R E0 σ) l m→eB (A1R E' σ) l m
 |[],[],_,_=>trivial
 |x :: r,V :: m,hp,h=>⟨A1.env ho hw (fun q=>by have:=hp q;simp only [List.all_cons,Bool.and_eq_true] at this;exact this.1) h.1,
   zJ ho hw (fun q=>by have:=hp q;simp only [List.all_cons,Bool.and_eq_true] at this;exact this.2) h.2⟩
theorem AV.env {pl:Bool} (ho:pl=false→∀ g,E0.old g→E'.old g) (hw:E'.w0=E0.w0) {v:AV} {V:Value} (hp:pl=true→v.plain=true) (h:AVR E0 σ v V):AVR E' σ v V:=by
 cases v with
 |sc s=>exact Sc.env ho hw hp h
 |agg l=>obtain ⟨arr,e,q⟩:=h;exact ⟨arr,e,uc ho hw hp q⟩
 |arr v xs=>obtain ⟨arr,e,q⟩:=h;exact ⟨arr,e,xm ho hw (fun q=>by have:=hp q;cases v <;> first|rfl|exact Bool.noConfusion (show false=true from this)) q⟩
 |ints k n xs=>exact h
 |tup l=>obtain ⟨arr,e,q⟩:=h;exact ⟨arr,e,zJ ho hw hp q⟩
theorem Blk.env {pl:Bool} (ho:pl=false→∀ g,E0.old g→E'.old g) (hw:E'.w0=E0.w0) (hz:∀ g,¬ E0.fz g→¬ E'.fz g) {k:Blk} {L:Pl} {w:World} (hp:pl=true→k.plain=true) (h:je E0 σ w k L):je E' σ w k L:=by
 cases L with
 |unset=>exact h
 |nil=>exact h
 |«at» L =>
  obtain ⟨g1,arr,elem,lo,hi,q1,q2,q3,q4,q5,q6⟩:=h
  refine ⟨g1,arr,elem,lo,hi,q1,q2,q3,hz _ q4,q5,fun j s hs=>?_⟩
  obtain ⟨v,e1,e2⟩:=q6 j s hs
  refine ⟨v,e1,Sc.env ho hw (fun q=>?_) e2⟩
  have:=hp q
  cases k with
  |ints kk n xs =>
   simp only [Blk.get?,Option.map_eq_some_iff] at hs
   obtain ⟨_,_,rfl⟩:=hs
   rfl
  |cells l =>
   simp only [Blk.plain,List.all_eq_true] at this
   exact this s (List.mem_of_getElem? hs)
  |vec v l =>
   simp only [Blk.get?,Option.map_eq_some_iff] at hs
   obtain ⟨x,_,rfl⟩:=hs
   cases v with
   |str=>rfl
   |row=>simp [Blk.plain] at this
   |tab=>simp [Blk.plain] at this
theorem jX {M:Mem}:∀ {l m:List Nat} {ks:List Blk},bE M (l++m)=some ks→bE M l=some (ks.take l.length)∧bE M m=some (ks.drop l.length)
 |[],m,ks,h=>⟨by simp [bE],by simpa using h⟩
 |b :: l,m,ks,h=>by
  simp only [List.cons_append,bE] at h ⊢
  cases hb:am b M with
  |none=>simp [hb] at h
  |some k =>
   simp only [hb] at h ⊢
   cases hr:bE M (l++m) with
   |none=>simp [hr] at h
   |some ks' =>
    simp only [hr,Option.some.injEq] at h
    subst h
    obtain ⟨h1,h2⟩:=jX hr
    exact ⟨by simp [h1],by simpa using h2⟩
theorem jL {M:Mem}:∀ {l:List Nat} {ks:List Blk},bE M l=some ks→l.length=ks.length∧∀ (j b:Nat),l[j]?=some b→∃ k,ks[j]?=some k∧am b M=some k
 |[],ks,h=>by
  simp only [bE,Option.some.injEq] at h
  subst h
  exact ⟨rfl,fun j b hb=>by simp at hb⟩
 |x :: l,ks,h=>by
  simp only [bE] at h
  cases hb:am x M with
  |none=>simp [hb] at h
  |some k =>
   simp only [hb] at h
   cases hr:bE M l with
   |none=>simp [hr] at h
   |some ks' =>
    simp only [hr,Option.some.injEq] at h
    subst h
    obtain ⟨h1,h2⟩:=jL hr
    refine ⟨by simp [h1],fun j b hj=>?_⟩
    cases j with
    |zero =>
     simp only [List.getElem?_cons_zero,Option.some.injEq] at hj
     subst hj
     exact ⟨k,rfl,hb⟩
    |succ j =>
     simp only [List.getElem?_cons_succ] at hj ⊢
     exact h2 j b hj
theorem tN {b:Nat}:∀ {ms:List Nat} {ks:List Blk} {k:Blk},pV b ms ks=some k→∃ j:Nat,ms[j]?=some b∧ks[j]?=some k
 |[],ks,k,h=>by cases ks <;> cases h
 |m :: ms,[],k,h=>by cases h
 |m :: ms,x :: ks,k,h=>by
  simp only [pV] at h
  by_cases e:m=b
  ·subst e
   simp only [qz,cond_true,Option.some.injEq] at h
   exact ⟨0,rfl,by rw [h];rfl⟩
  ·simp only [ow e,cond_false] at h
   obtain ⟨j,h1,h2⟩:=tN h
   exact ⟨j+1,by simpa using h1,by simpa using h2⟩
theorem nH {M:Mem} {ms:List Nat} {ks:List Blk} (hl:bE M ms=some ks) {b:Nat} {k:Blk} (h:pV b ms ks=some k):am b M=some k∧b∈ms:=by
 obtain ⟨j,h1,h2⟩:=tN h
 obtain ⟨k',h3,h4⟩:=(jL hl).2 j b h1
 rw [h2] at h3
 injection h3 with h3
 subst h3
 exact ⟨h4,List.mem_of_getElem? h1⟩
theorem qF {w:World} {g:Nat} {o:Obj} (h:w.heap[g]?=some o):g<w.heap.size:=(Array.getElem?_eq_some_iff.1 h).1
theorem rH {M:Mem} {w:World} (hM:MemR E σ M w) {b:Nat} {k:Blk} (h:am b M=some k):k.good:=by
 have hB:=hM.blk b _ h
 revert hB
 cases σ b with
 |unset=>intro h;exact h.elim
 |nil=>intro h;exact h.2
 |«at» L=>intro h;exact h.1
def rU (σ:Sig) (fs:List Nat) (g:Nat):Prop:=∃ b∈fs,∃ L,σ b=.at L∧L.g=g
def pQ (E:Env) (σ:Sig) (w:World) (fs:List Nat) (lent:Bool) (κ:Sig):Env :=
 {P:=E.P,w0:=w,old:=fun g=>(E.old g∨(lent=true∧¬ E.fz g))∧(g<w.heap.size∧¬ rU σ fs g),fz:=fun g=>g<w.heap.size∧¬ rU σ fs g,sub:=fun _ h=>h.2,kp:=κ }
section
variable {M:Mem} {w:World} {fs ms:List Nat} {kfs kms:List Blk} {lent:Bool} {κ:Sig}
theorem ur (hfs:bE M fs=some kfs) {b:Nat} (hb:b∈fs):∃ k,am b M=some k:=by
 obtain ⟨j,hj⟩:=List.mem_iff_getElem?.1 hb
 obtain ⟨k,_,h⟩:=(jL hfs).2 j b hj
 exact ⟨k,h⟩
theorem Br (hM:MemR E σ M w) (hfs:bE M fs=some kfs) {g:Nat} (hg:E.fz g):g<w.heap.size∧¬ rU σ fs g:=by
 refine ⟨Nat.lt_of_lt_of_le (hM.olds g hg) hM.size,?_⟩
 rintro ⟨b,hb,L,hL,rfl⟩
 obtain ⟨k,hk⟩:=ur hfs hb
 have hB:=hM.blk b k hk
 rw [hL] at hB
 obtain ⟨_,arr,elem,lo,hi,_,_,_,q4,_⟩:=hB
 exact q4 hg
theorem AE (hM:MemR E σ M w) (hfs:bE M fs=some kfs):Grow E (pQ E σ w fs lent κ) where
 P:=rfl
 old g hg:=⟨.inl hg,Br hM hfs (E.sub g hg)⟩
 fz g hg:=Br hM hfs hg
 w0 g hg:=hM.old g hg
 new g hg:=by
  rcases hg.1 with h|h
  ·exact .inl h
  ·exact .inr h.2
 size:=hM.size
 os:=hM.os
 tape:=hM.tape
 output:=hM.output
theorem yQ (hM:MemR E σ M w) (hfs:bE M fs=some kfs) (hd:∀ b∈ms,b ∉ fs) {b:Nat} {k:Blk} {L:Loc} (hb:am b M=some k) (hms:b∈ms) (hL:σ b=.at L):L.g<w.heap.size∧¬ rU σ fs L.g∧¬ E.fz L.g:=by
 have hB:=hM.blk b k hb
 rw [hL] at hB
 have hB':=hB
 obtain ⟨_,arr,elem,lo,hi,q1,_,_,q4,_⟩:=hB
 refine ⟨qF q1,?_,q4⟩
 rintro ⟨c,hc,L',hL',he⟩
 obtain ⟨k',hk'⟩:=ur hfs hc
 have:=hM.inj c b k' k L' L hk' hb hL' hL he
 subst this
 exact hd c hms hc
theorem Et (hM:MemR E σ M w) (hfs:bE M fs=some kfs) (hl:bE M ms=some kms) (hd:∀ b∈ms,b ∉ fs) (hlent:ms≠[]→lent=true) {k:IntKind} {s:Sc} {C:Prop} {xs:List Int} {V:Value}
  (h:FH k ms kms s=some (C,xs)) (hC:C) (hV:ScR E σ s V):RoR (pQ E σ w fs lent κ) k xs V:=by
 unfold FH at h
 split at h
 ·split at h
  ·rename_i hk
   subst hk
   simp only [Option.some.injEq,Prod.mk.injEq] at h
   obtain ⟨_,rfl⟩:=h
   exact (AE hM hfs).ro hV
  ·cases h
 ·simp only [Option.some.injEq,Prod.mk.injEq] at h
  obtain ⟨_,rfl⟩:=h
  have h4:V=.slice none 0 0:=hV
  exact ⟨none,0,h4,by simp,by simp⟩
 ·rename_i b off len cap
  split at h
  ·rename_i k' n zs hz
   split at h
   ·rename_i hk
    subst hk
    simp only [Option.some.injEq,Prod.mk.injEq] at h
    obtain ⟨rfl,rfl⟩:=h
    obtain ⟨hblk,hmem⟩:=nH hl hz
    have hg0:zs.length=n:=rH hM hblk
    rw [kL hg0]
    have hC:off+len≤n:=hC
    rcases hV with ⟨q1,_,A,rfl⟩|⟨L,c,hL,rfl,q1,q2,q3⟩
    ·subst q1
     exact ⟨A,0,by simp,by simp,by simp⟩
    ·obtain ⟨o1,o2,o3⟩:=yQ hM hfs hd hblk hmem hL
     have hB:=hM.blk b _ hblk
     rw [hL] at hB
     obtain ⟨g1,arr,elem,lo,hi,p1,p2,p3,p4,p5,p6⟩:=hB
     simp only [Blk.good] at g1
     have hlen:((zs.drop off).take len).length=len:=by simp;omega
     refine ⟨some ⟨L.g,L.β+off,none⟩,c,by rw [hlen],by rw [hlen];exact q1,fun _=>⟨_,rfl,⟨.inr ⟨hlent (List.ne_nil_of_mem hmem),o3⟩,o1,o2⟩,fun j hj=>?_⟩⟩
     rw [hlen] at hj
     have hget:zs[off+j]?=some (zs.getD (off+j) 0):=by
      rw [List.getD_eq_getElem?_getD,List.getElem?_eq_getElem (by omega)];rfl
     obtain ⟨v,e3,e4⟩:=p6 (off+j) (.i k' (zs.getD (off+j) 0)) (by show (zs[off+j]?).map _=_;rw [hget];rfl)
     simp only [ScR] at e4
     subst e4
     have:((zs.drop off).take len).getD j 0=zs.getD (off+j) 0:=by
      simp [List.getD_eq_getElem?_getD,List.getElem?_take,List.getElem?_drop,hj]
     rw [this,cv]
     show w.cell? _=_
     have hlt:L.β+off+j<L.sz:=by have:=p3;simp only [Blk.len] at this;omega
     have:=p5.1 (L.β+off+j) hlt
     simp [World.cell?,p1,this]
     rw [Nat.add_assoc]
     exact e3
   ·cases h
  ·rename_i hz
   simp only [Option.some.injEq,Prod.mk.injEq] at h
   obtain ⟨rfl,rfl⟩:=h
   rcases hV with ⟨q1,_,A,rfl⟩|⟨L,c,hL,rfl,q1,q2,q3⟩
   ·exact ⟨A,0,by simp,by simp,by simp⟩
   ·have hC:len=0:=hC
    subst hC
    exact ⟨_,c,rfl,by simp,by simp⟩
  ·cases h
 ·cases h
theorem wY (hM:MemR E σ M w) (hfs:bE M fs=some kfs) (hl:bE M ms=some kms) (hd:∀ b∈ms,b ∉ fs) (hlent:ms≠[]→lent=true):∀ {l:List Sc} {C:Prop} {xss:List (List Int)},
  ry ms kms l=some (C,xss)→C→xss.length=l.length∧∀ j s,l[j]?=some s→∀ V,ScR E σ s V→RoR (pQ E σ w fs lent κ) .u8 (xss.getD j []) V
 |[],C,xss,h,hC=>by
  simp only [ry,Option.some.injEq,Prod.mk.injEq] at h
  obtain ⟨_,rfl⟩:=h
  exact ⟨rfl,fun j s hs=>by simp at hs⟩
 |s :: r,C,xss,h,hC=>by
  simp only [ry] at h
  split at h
  ·rename_i C1 xs C2 xss' h1 h2
   simp only [Option.some.injEq,Prod.mk.injEq] at h
   obtain ⟨rfl,rfl⟩:=h
   obtain ⟨i1,i2⟩:=wY hM hfs hl hd hlent h2 hC.2
   refine ⟨by simp [i1],fun j s' hs V hV=>?_⟩
   cases j with
   |zero =>
    simp only [List.getElem?_cons_zero,Option.some.injEq] at hs
    subst hs
    simpa using Et hM hfs hl hd hlent h1 hC.1 hV
   |succ j=>simpa using i2 j s' (by simpa using hs) V hV
  ·cases h
theorem xO (hM:MemR E σ M w) (hfs:bE M fs=some kfs) (hl:bE M ms=some kms) (hd:∀ b∈ms,b ∉ fs) (hlent:ms≠[]→lent=true) {b off len:Nat} {cap:Option Nat} {k:Blk} {V:Value}
  (hz:pV b ms kms=some k) (hC:off+len≤k.len) (hV:ScR E σ (.sl b off len 1 cap) V) :
  ∃ A c,V=.slice A len c∧len≤c∧(0<len→∃ ad,A=some ad∧(pQ E σ w fs lent κ).old ad.block∧∀ j,j<len→∃ s v,k.get? (off+j)=some s∧w.cell? (ad.add j)=some v∧ScR E σ s v):=by
 obtain ⟨hblk,hmem⟩:=nH hl hz
 have hB:=hM.blk b _ hblk
 rcases hV with ⟨q1,_,A,rfl⟩|⟨L,c,hL,rfl,q1,q2,q3⟩
 ·subst q1
  exact ⟨A,0,rfl,Nat.le_refl _,fun h=>absurd h (Nat.lt_irrefl _)⟩
 ·obtain ⟨o1,o2,o3⟩:=yQ hM hfs hd hblk hmem hL
  rw [hL] at hB
  obtain ⟨g1,arr,elem,lo,hi,p1,p2,p3,p4,p5,p6⟩:=hB
  refine ⟨_,c,rfl,q1,fun _=>⟨_,rfl,⟨.inr ⟨hlent (List.ne_nil_of_mem hmem),o3⟩,o1,o2⟩,fun j hj=>?_⟩⟩
  obtain ⟨s,hs⟩:=Blk.get_some g1 (show off+j<k.len by omega)
  obtain ⟨v,e3,e4⟩:=p6 (off+j) _ hs
  refine ⟨s,v,hs,?_,e4⟩
  rw [cv]
  have hlt:L.β+off+j<L.sz:=by omega
  have:=p5.1 (L.β+off+j) hlt
  simp [World.cell?,p1,this]
  rw [Nat.add_assoc]
  exact e3
theorem IY (hM:MemR E σ M w) (hfs:bE M fs=some kfs) (hl:bE M ms=some kms) (hd:∀ b∈ms,b ∉ fs) (hlent:ms≠[]→lent=true) {ns:Ren} {U:Nat} (hns:dc ns U=true) :
  ∀ {ps:List Pass} {args vs:List AV} {m:List Value} {C:Prop},bT ns ms kms ps args=some (C,vs)→C→eB (AVR E σ) args m→eB (AVR (pQ E σ w fs lent (cr σ ns)) (cr σ ns)) vs m:=by
 intro ps
 induction ps with
 |nil =>
  intro args vs m C h2 hC h3
  cases args with
  |nil =>
   simp only [bT,Option.some.injEq,Prod.mk.injEq] at h2
   obtain ⟨_,rfl⟩:=h2
   cases m with
   |nil=>trivial
   |cons _ _=>exact h3.elim
  |cons _ _=>simp [bT] at h2
 |cons p ps ih =>
  intro args vs m C h2 hC h3
  cases args with
  |nil=>cases p <;> simp [bT] at h2
  |cons v r =>
   cases m with
   |nil=>exact h3.elim
   |cons V m =>
    have hg:=AE (lent:=lent) (κ:=cr σ ns) hM hfs
    cases p with
    |val =>
     cases v with
     |sc s =>
      simp only [bT] at h2
      split at h2
      ·rename_i C' vs' e1 e2
       simp only [Option.some.injEq,Prod.mk.injEq] at h2
       obtain ⟨rfl,rfl⟩:=h2
       refine ⟨?_,ih e2 hC h3.2⟩
       have h4:=h3.1
       cases s <;> first|exact h4|exact Bool.noConfusion (show false=true from e1)
      ·cases h2
     |ints k n xs =>
      simp only [bT] at h2
      split at h2
      ·rename_i C' vs' e2
       simp only [Option.some.injEq,Prod.mk.injEq] at h2
       obtain ⟨rfl,rfl⟩:=h2
       exact ⟨h3.1,ih e2 hC h3.2⟩
      ·cases h2
     |agg l=>simp [bT] at h2
     |arr v xs=>simp [bT] at h2
     |tup l=>simp [bT] at h2
    |ro k =>
     cases v with
     |ints _ _ _=>simp [bT] at h2
     |agg l=>simp [bT] at h2
     |arr v xs=>simp [bT] at h2
     |tup l=>simp [bT] at h2
     |sc s =>
      simp only [bT] at h2
      split at h2
      ·rename_i C1 xs C2 vs' e1 e2
       simp only [Option.some.injEq,Prod.mk.injEq] at h2
       obtain ⟨rfl,rfl⟩:=h2
       exact ⟨Et hM hfs hl hd hlent e1 hC.1 h3.1,ih e2 hC.2 h3.2⟩
      ·cases h2
    |io =>
     have h2':(match v.ren ns,bT ns ms kms ps r with
      |some v',some (C,vs)=>some (C,v' :: vs)
      |_,_=>none)=some (C,vs):=by
      cases v <;> simpa only [bT] using h2
     split at h2'
     ·rename_i v' C' vs' e1 e2
      simp only [Option.some.injEq,Prod.mk.injEq] at h2'
      obtain ⟨rfl,rfl⟩:=h2'
      exact ⟨(AV.ren_R hns e1 h3.1).grow hg,ih e2 hC h3.2⟩
     ·cases h2'
    |rob =>
     cases v with
     |ints _ _ _=>simp [bT] at h2
     |agg l=>simp [bT] at h2
     |arr v xs=>simp [bT] at h2
     |tup l=>simp [bT] at h2
     |sc s =>
      cases s with
      |rob xs =>
       simp only [bT] at h2
       split at h2
       ·rename_i C' vs' e2
        simp only [Option.some.injEq,Prod.mk.injEq] at h2
        obtain ⟨rfl,rfl⟩:=h2
        exact ⟨AVR.grow (v:=.sc (.rob xs)) (σ:=cr σ ns) hg h3.1,ih e2 hC h3.2⟩
       ·cases h2
      |sl b off len es cap =>
       simp only [bT] at h2
       split at h2
       ·rename_i l hz
        split at h2
        ·rename_i C0 xss C' vs' e1 e2
         cases hes:Nat.beq es 1
         ·simp [hes] at h2
         ·simp only [hes,cond_true,Option.some.injEq,Prod.mk.injEq] at h2
          obtain ⟨rfl,rfl⟩:=h2
          have hes1:=Nat.eq_of_beq_eq_true hes
          subst hes1
          refine ⟨?_,ih e2 hC.2 h3.2⟩
          obtain ⟨hle,hC0⟩:=hC.1
          obtain ⟨hblk,hmem⟩:=nH hl hz
          obtain ⟨i1,i2⟩:=wY (κ:=cr σ ns) hM hfs hl hd hlent e1 hC0
          have hll:((l.drop off).take len).length=len:=by simp;omega
          rw [hll] at i1
          have hB:=hM.blk b _ hblk
          rcases h3.1 with ⟨q1,_,A,rfl⟩|⟨L,c,hL,rfl,q1,q2,q3⟩
          ·exact ⟨A,0,by simp [i1,q1],by simp [i1,q1],by simp [i1,q1]⟩
          ·obtain ⟨o1,o2,o3⟩:=yQ hM hfs hd hblk hmem hL
           rw [hL] at hB
           obtain ⟨g1,arr,elem,lo,hi,p1,p2,p3,p4,p5,p6⟩:=hB
           refine ⟨some ⟨L.g,L.β+off,none⟩,c,by rw [i1],by rw [i1];exact q1,fun _=>⟨_,rfl,⟨.inr ⟨hlent (List.ne_nil_of_mem hmem),o3⟩,o1,o2⟩,fun j hj=>?_⟩⟩
           rw [i1] at hj
           have hget:l[off+j]?=some (l[off+j]'(by omega)):=List.getElem?_eq_getElem _
           obtain ⟨v,e3,e4⟩:=p6 (off+j) _ hget
           refine ⟨v,?_,i2 j (l[off+j]'(by omega)) (by simp [List.getElem?_take,List.getElem?_drop,hj,hget]) v e4⟩
           rw [cv]
           show w.cell? _=_
           have hlt:L.β+off+j<L.sz:=by have:=p3;simp only [Blk.len] at this;omega
           have:=p5.1 (L.β+off+j) hlt
           simp [World.cell?,p1,this]
           rw [Nat.add_assoc]
           exact e3
        ·cases h2
       ·rename_i xs hz
        split at h2
        ·rename_i C' vs' e2
         cases hes:Nat.beq es 1
         ·simp [hes] at h2
         ·simp only [hes,cond_true,Option.some.injEq,Prod.mk.injEq] at h2
          obtain ⟨rfl,rfl⟩:=h2
          have hes1:=Nat.eq_of_beq_eq_true hes
          subst hes1
          refine ⟨?_,ih e2 hC.2 h3.2⟩
          have hle:off+len≤xs.length:=hC.1
          rw [ny]
          have hll:((xs.drop off).take len).length=len:=by simp;omega
          obtain ⟨A,c,rfl,q1,q2⟩:=xO (κ:=cr σ ns) hM hfs hl hd hlent hz hC.1 h3.1
          refine ⟨A,c,by rw [hll],by rw [hll];exact q1,fun hp=>?_⟩
          rw [hll] at hp
          obtain ⟨ad,rfl,o1,o2⟩:=q2 hp
          refine ⟨ad,rfl,o1,fun j hj=>?_⟩
          rw [hll] at hj
          obtain ⟨s,v,a1,a2,a3⟩:=o2 j hj
          have hget:xs[off+j]?=some (xs.getD (off+j) []):=by
           rw [List.getD_eq_getElem?_getD,List.getElem?_eq_getElem (by omega)];rfl
          have hs:s=.ro .u8 (xs.getD (off+j) []):=by
           have:(xs[off+j]?).map (VK.sc .row)=some s:=a1
           rw [hget] at this
           injection this with this
           exact this.symm
          subst hs
          have:((xs.drop off).take len).getD j []=xs.getD (off+j) []:=by
           simp [List.getD_eq_getElem?_getD,List.getElem?_take,List.getElem?_drop,hj]
          rw [this]
          exact ⟨v,a2,hg.ro a3⟩
        ·cases h2
       ·cases h2
      |nils =>
       simp only [bT] at h2
       split at h2
       ·rename_i C' vs' e2
        simp only [Option.some.injEq,Prod.mk.injEq] at h2
        obtain ⟨rfl,rfl⟩:=h2
        exact ⟨⟨none,0,h3.1,Nat.le_refl _,fun h=>absurd h (Nat.lt_irrefl _)⟩,ih e2 hC h3.2⟩
       ·cases h2
      |_=>simp [bT] at h2
    |ros =>
     cases v with
     |ints _ _ _=>simp [bT] at h2
     |agg l=>simp [bT] at h2
     |arr v xs=>simp [bT] at h2
     |tup l=>simp [bT] at h2
     |sc s =>
      cases s with
      |ros xs =>
       simp only [bT] at h2
       split at h2
       ·rename_i C' vs' e2
        simp only [Option.some.injEq,Prod.mk.injEq] at h2
        obtain ⟨rfl,rfl⟩:=h2
        exact ⟨AVR.grow (v:=.sc (.ros xs)) (σ:=cr σ ns) hg h3.1,ih e2 hC h3.2⟩
       ·cases h2
      |nils =>
       simp only [bT] at h2
       split at h2
       ·rename_i C' vs' e2
        simp only [Option.some.injEq,Prod.mk.injEq] at h2
        obtain ⟨rfl,rfl⟩:=h2
        exact ⟨⟨none,0,h3.1,Nat.le_refl _,fun h=>absurd h (Nat.lt_irrefl _)⟩,ih e2 hC h3.2⟩
       ·cases h2
      |sl b off len es cap =>
       simp only [bT] at h2
       split at h2
       ·rename_i xs hz
        split at h2
        ·rename_i C' vs' e2
         cases hes:Nat.beq es 1
         ·simp [hes] at h2
         ·simp only [hes,cond_true,Option.some.injEq,Prod.mk.injEq] at h2
          obtain ⟨rfl,rfl⟩:=h2
          have hes1:=Nat.eq_of_beq_eq_true hes
          subst hes1
          refine ⟨?_,ih e2 hC.2 h3.2⟩
          have hle:off+len≤xs.length:=hC.1
          rw [ny]
          have hll:((xs.drop off).take len).length=len:=by simp;omega
          obtain ⟨A,c,rfl,q1,q2⟩:=xO (κ:=cr σ ns) hM hfs hl hd hlent hz hC.1 h3.1
          refine ⟨A,c,by rw [hll],by rw [hll];exact q1,fun hp=>?_⟩
          rw [hll] at hp
          obtain ⟨ad,rfl,o1,o2⟩:=q2 hp
          refine ⟨ad,rfl,o1,fun j hj=>?_⟩
          rw [hll] at hj
          obtain ⟨s,v,a1,a2,a3⟩:=o2 j hj
          have hget:xs[off+j]?=some (xs.getD (off+j) ⟨#[]⟩):=by
           rw [List.getD_eq_getElem?_getD,List.getElem?_eq_getElem (by omega)];rfl
          have hs:s=.s (xs.getD (off+j) ⟨#[]⟩):=by
           have:(xs[off+j]?).map (VK.sc .str)=some s:=a1
           rw [hget] at this
           injection this with this
           exact this.symm
          subst hs
          have:((xs.drop off).take len).getD j ⟨#[]⟩=xs.getD (off+j) ⟨#[]⟩:=by
           simp [List.getD_eq_getElem?_getD,List.getElem?_take,List.getElem?_drop,hj]
          rw [this]
          have a3':v=.string (xs.getD (off+j) ⟨#[]⟩):=a3
          rw [← a3']
          exact a2
        ·cases h2
       ·rename_i l hz
        split at h2
        ·rename_i xs C' vs' e1 e2
         cases hes:Nat.beq es 1
         ·simp [hes] at h2
         ·simp only [hes,cond_true,Option.some.injEq,Prod.mk.injEq] at h2
          obtain ⟨rfl,rfl⟩:=h2
          have hes1:=Nat.eq_of_beq_eq_true hes
          subst hes1
          refine ⟨?_,ih e2 hC.2 h3.2⟩
          have hle:off+len≤l.length:=hC.1
          have hll:xs.length=len:=by rw [VK.unL_len e1];simp;omega
          obtain ⟨A,c,rfl,q1,q2⟩:=xO (κ:=cr σ ns) hM hfs hl hd hlent hz hC.1 h3.1
          refine ⟨A,c,by rw [hll],by rw [hll];exact q1,fun hp=>?_⟩
          rw [hll] at hp
          obtain ⟨ad,rfl,o1,o2⟩:=q2 hp
          refine ⟨ad,rfl,o1,fun j hj=>?_⟩
          rw [hll] at hj
          obtain ⟨s,v,a1,a2,a3⟩:=o2 j hj
          have hx:xs[j]?=some (xs.getD j ⟨#[]⟩):=by
           rw [List.getD_eq_getElem?_getD,List.getElem?_eq_getElem (by omega)];rfl
          obtain ⟨s',b1,b2⟩:=VK.unL_get e1 hx
          have hs:s'=s:=by
           have c1:l[off+j]?=some s:=a1
           rw [List.getElem?_take,if_pos hj,List.getElem?_drop,c1] at b1
           injection b1 with b1
           exact b1.symm
          subst hs
          have a3':v=.string (xs.getD j ⟨#[]⟩):=VK.un_R b2 a3
          rw [← a3']
          exact a2
        ·cases h2
       ·cases h2
      |_=>simp [bT] at h2
theorem rE {ns:Ren}:∀ {ks ks':List Blk},tI ns ks=some ks'→ks'.length=ks.length∧∀ (j:Nat) (k':Blk),ks'[j]?=some k'→∃ k,ks[j]?=some k∧k.ren ns=some k'
 |[],ks',h=>by
  simp only [tI,Option.some.injEq] at h
  subst h
  exact ⟨rfl,fun j k' hk=>by simp at hk⟩
 |k :: r,ks',h=>by
  simp only [tI] at h
  split at h
  ·rename_i k1 r1 h1 h2
   simp only [Option.some.injEq] at h
   subst h
   obtain ⟨i1,i2⟩:=rE h2
   refine ⟨by simp [i1],fun j k' hk=>?_⟩
   cases j with
   |zero =>
    simp only [List.getElem?_cons_zero,Option.some.injEq] at hk
    subst hk
    exact ⟨k,rfl,h1⟩
   |succ j=>exact i2 j k' (by simpa using hk)
  ·cases h
theorem yA {up:Ren}:∀ {l l':List (Option Blk)},upB up l=some l'→l'.length=l.length∧∀ (j:Nat) (k':Blk),l'[j]?=some (some k')→∃ k,l[j]?=some (some k)∧k.ren up=some k'
 |[],l',h=>by
  simp only [upB,Option.some.injEq] at h
  subst h
  exact ⟨rfl,fun j k' hk=>by simp at hk⟩
 |none :: r,l',h=>by
  simp only [upB] at h
  split at h
  ·rename_i r1 h2
   simp only [Option.some.injEq] at h
   subst h
   obtain ⟨i1,i2⟩:=yA h2
   refine ⟨by simp [i1],fun j k' hk=>?_⟩
   cases j with
   |zero=>simp at hk
   |succ j=>exact i2 j k' (by simpa using hk)
  ·cases h
 |some k :: r,l',h=>by
  simp only [upB] at h
  split at h
  ·rename_i k1 r1 h1 h2
   simp only [Option.some.injEq] at h
   subst h
   obtain ⟨i1,i2⟩:=yA h2
   refine ⟨by simp [i1],fun j k' hk=>?_⟩
   cases j with
   |zero =>
    simp only [List.getElem?_cons_zero,Option.some.injEq] at hk
    subst hk
    exact ⟨k,rfl,h1⟩
   |succ j=>exact i2 j k' (by simpa using hk)
  ·cases h
theorem As {i:Nat}:∀ {l:List Blk} {b:Nat} {k:Blk},am b (sJ i l)=some k→∃ j,b=i+j∧l[j]?=some k
 |l,b,k,h=>by
  induction l generalizing i with
  |nil=>cases h
  |cons x r ih =>
   simp only [sJ,am] at h
   by_cases e:i=b
   ·subst e
    simp only [qz,cond_true,Option.some.injEq] at h
    exact ⟨0,rfl,by simp [h]⟩
   ·simp only [ow e,cond_false] at h
    obtain ⟨j,h1,h2⟩:=ih h
    exact ⟨j+1,by omega,by simpa using h2⟩
theorem Dt {i:Nat}:∀ {l:List (Option Blk)} {j:Nat} {k:Blk},l[j]?=some (some k)→am (i+j) (pt i l)=some k
 |l,j,k,h=>by
  induction l generalizing i j with
  |nil=>simp at h
  |cons x r ih =>
   cases j with
   |zero =>
    simp only [List.getElem?_cons_zero,Option.some.injEq] at h
    subst h
    simp [pt,am,qz]
   |succ j =>
    have:=ih (i:=i+1) (j:=j) (by simpa using h)
    rw [show i+(j+1)=i+1+j by omega]
    cases x with
    |none=>exact this
    |some y =>
     simp only [pt,am]
     have e:i≠i+1+j:=by omega
     simp only [ow e,cond_false]
     exact this
theorem ta {M':Mem} {c:Nat} {k:Blk} (hk:am c M'=some k):∀ {ns:List Nat} {ks:List (Option Blk)} {M:Mem},cI ns ks M=some M'→(∃ i:Nat,ns[i]?=some c∧ks[i]?=some (some k))∨(c ∉ ns∧am c M=some k)
 |[],[],M,h=>by
  simp only [cI,Option.some.injEq] at h
  subst h
  exact .inr ⟨by simp,hk⟩
 |[],_ :: _,M,h=>by simp [cI] at h
 |_ :: _,[],M,h=>by simp [cI] at h
 |b :: r,x :: ks,M,h=>by
  simp only [cI] at h
  rcases ta hk h with ⟨i,h1,h2⟩|⟨h1,h2⟩
  ·exact .inl ⟨i+1,by simpa using h1,by simpa using h2⟩
  ·cases x with
   |none =>
    simp only [put0,ee] at h2
    split at h2
    ·cases h2
    ·rename_i e
     exact .inr ⟨by simp only [List.mem_cons,not_or];exact ⟨e,h1⟩,h2⟩
   |some y =>
    simp only [put0,bY] at h2
    split at h2
    ·rename_i e
     injection h2 with h2
     exact .inl ⟨0,by simp [e],by simp [h2]⟩
    ·rename_i e
     exact .inr ⟨by simp only [List.mem_cons,not_or];exact ⟨e,h1⟩,h2⟩
theorem mN {j b:Nat} (h:fs[j]?=some b):(b,j)∈iJ fs:=by
 have hj:=(List.getElem?_eq_some_iff.1 h).1
 refine List.mem_iff_getElem?.2 ⟨j,?_⟩
 unfold iJ
 rw [List.getElem?_zip_eq_some]
 exact ⟨h,by rw [List.getElem?_range hj]⟩
theorem Fl {j c:Nat}:(j,c)∈upN fs nm nb↔(fs++(List.range nb).map (nm+·))[j]?=some c:=by
 unfold upN
 constructor
 ·intro h
  obtain ⟨i,hi⟩:=List.mem_iff_getElem?.1 h
  rw [List.getElem?_zip_eq_some] at hi
  obtain ⟨h1,h2⟩:=hi
  have hi':=(List.getElem?_eq_some_iff.1 h1).1
  simp only [List.length_range] at hi'
  rw [List.getElem?_range hi'] at h1
  injection h1 with h1
  subst h1
  exact h2
 ·intro h
  have hj:=(List.getElem?_eq_some_iff.1 h).1
  simp only [List.length_append,List.length_map,List.length_range] at hj
  refine List.mem_iff_getElem?.2 ⟨j,?_⟩
  rw [List.getElem?_zip_eq_some]
  exact ⟨by rw [List.getElem?_range hj],h⟩
theorem vl {j c:Nat} (h:(fs++(List.range nb).map (nm+·))[j]?=some c):(j<fs.length∧fs[j]?=some c)∨(fs.length≤j∧j-fs.length<nb∧c=nm+(j-fs.length)):=by
 by_cases hj:j<fs.length
 ·rw [List.getElem?_append_left hj] at h
  exact .inl ⟨hj,h⟩
 ·rw [List.getElem?_append_right (by omega)] at h
  simp only [List.getElem?_map,Option.map_eq_some_iff] at h
  obtain ⟨i,h1,h2⟩:=h
  have h3:=(List.getElem?_eq_some_iff.1 h1).1
  simp only [List.length_range] at h3
  rw [List.getElem?_range h3] at h1
  injection h1 with h1
  subst h1
  exact .inr ⟨by omega,h3,h2.symm⟩
theorem Hq (hM:MemR E σ M w) (hfs:bE M fs=some kfs) {ks':List Blk} (hns:dc (iJ fs) big=true) (hdn:tI (iJ fs) kfs=some ks') :
  MemR (pQ E σ w fs lent (cr σ (iJ fs))) (cr σ (iJ fs)) (sJ 0 ks') w:=by
 obtain ⟨l1,l2⟩:=rE hdn
 obtain ⟨f1,f2⟩:=jL hfs
 have at1:∀ b k',am b (sJ 0 ks')=some k'→∃ c k,fs[b]?=some c∧am c M=some k∧k.ren (iJ fs)=some k'∧cr σ (iJ fs) b=σ c:=by
  intro b k' hb
  obtain ⟨j,rfl,hj⟩:=As hb
  obtain ⟨k,e1,e2⟩:=l2 j k' hj
  have hlt:=(List.getElem?_eq_some_iff.1 e1).1
  have hc:fs[j]?=some (fs[j]'(by omega)):=List.getElem?_eq_getElem _
  obtain ⟨k2,e3,e4⟩:=f2 j _ hc
  rw [e1] at e3
  injection e3 with e3
  subst e3
  have hmem:=mN hc
  rw [Nat.zero_add]
  exact ⟨_,k,hc,e4,e2,jb hns (eF hns hmem).2.2⟩
 refine { blk:=?_,inj:=?_,old:=fun _ _=>rfl,size:=Nat.le_refl _,olds:=fun g hg=>hg.1,os:=rfl,tape:=rfl,output:=rfl }
 ·intro b k' hb
  obtain ⟨c,k,e1,e2,e3,e4⟩:=at1 b k' hb
  rw [e4]
  have hB:=Blk.ren_R hns e3 (hM.blk c k e2)
  refine Blk.grow (AE hM hfs) (fun l hl hz=>?_) hB
  exact hz.2 ⟨c,List.mem_of_getElem? e1,l,hl,rfl⟩
 ·intro b c x y L L' hb hc hL hL' hg
  obtain ⟨b1,k1,e1,e2,e3,e4⟩:=at1 b x hb
  obtain ⟨c1,k2,e5,e6,e7,e8⟩:=at1 c y hc
  have:=hM.inj b1 c1 k1 k2 L L' e2 e6 (e4 ▸ hL) (e8 ▸ hL') hg
  subst this
  have h1:=(eF hns (mN e1)).2.2
  have h2:=(eF hns (mN e5)).2.2
  rw [h1] at h2
  injection h2
def zT (E E0 E1:Env) (lent:Bool):Env :=
 {P:=E.P,w0:=E1.w0,old:=fun g=>(if lent=true then E.old g else E1.old g)∧(E.fz g∨(E1.fz g∧¬ E0.fz g)),fz:=fun g=>E.fz g∨(E1.fz g∧¬ E0.fz g),sub:=fun _ h=>h.2,kp:=E.kp }
def mi (σ σ':Sig) (up:Ren):Sig:=fun c=>match cr σ' up c with
 |.unset=>σ c
 |x=>x
theorem AT {E1:Env} (hg:Grow E E0) (hg':Grow E0 E1) (hl:lent=false→∀ g,E0.old g→E.old g):Grow E (zT E E0 E1 lent) where
 P:=rfl
 old g h:=⟨by split;exact h;exact hg'.old g (hg.old g h),.inl (E.sub g h)⟩
 fz g h:=.inl h
 w0 g h:=(hg'.w0 g (hg.fz g h)).trans (hg.w0 g h)
 new g h:=by
  cases hb:lent with
  |true =>
   have h1:=h.1
   rw [if_pos hb] at h1
   exact .inl h1
  |false =>
   have h1:=h.1
   rw [if_neg (by rw [hb];decide)] at h1
   rcases hg'.new g h1 with h2|h2
   ·exact .inl (hl hb g h2)
   ·exact .inr fun h3=>h2 (hg.fz g h3)
 size:=Nat.le_trans hg.size hg'.size
 os:=hg'.os.trans hg.os
 tape:=hg'.tape.trans hg.tape
 output:=hg'.output.trans hg.output
theorem Cw {E1:Env} (hg:Grow E E0) (hg':Grow E0 E1) (hl:lent=false→∀ g,E0.old g→E.old g):lent=false→∀ g,E1.old g→(zT E E0 E1 lent).old g:=by
 intro hb g h
 refine ⟨by rw [if_neg (by rw [hb];decide)];exact h,?_⟩
 rcases hg'.new g h with h2|h2
 ·exact .inl (E.sub g (hl hb g h2))
 ·exact .inr ⟨E1.sub g h,h2⟩
theorem sI {P:Program} {G:eN} {f:FuncId} {ps:List Pass} {ms fs:List Nat} {nb:Nat} {spec:List AV→List Blk→Option (Prop × Ret)} (hnb:nb≤16) (h:xK P G f fs.length spec):nV P G f (qb ps ms fs nb spec):=by
 intro E σ M w args Vs nm A C v M' hP hG hM hargs hn hA hrun hC
 unfold qb at hA
 cases hck:dc (iJ fs) big && dc (upN fs nm nb) big && ms.all (fun b=>!fs.any (Nat.beq b))
 ·simp [hck] at hA
 simp only [hck,cond_true,Option.some.injEq] at hA
 subst hA
 simp only [Bool.and_eq_true] at hck
 obtain ⟨⟨hns,hup⟩,hdis⟩:=hck
 have hd:∀ b∈ms,b ∉ fs:=by
  intro b hb hf
  rw [List.all_eq_true] at hdis
  have h1:=hdis b hb
  have h2:fs.any (Nat.beq b)=true:=List.any_eq_true.2 ⟨b,hf,qz b⟩
  rw [h2] at h1
  cases h1
 unfold Deed.run at hrun
 simp only at hrun
 split at hrun
 ·cases hrun
 rename_i ks hks
 obtain ⟨hl,hfs⟩:=jX hks
 split at hrun
 ·cases hrun
 rename_i C1 v1 cs hgo
 split at hrun
 ·cases hrun
 rename_i M1 hput
 simp only [Option.some.injEq,Prod.mk.injEq] at hrun
 obtain ⟨rfl,rfl,rfl⟩:=hrun
 split at hgo
 rotate_left
 ·cases hgo
 rename_i C2 vs ks' hlend hdown
 split at hgo
 rotate_left
 ·cases hgo
 rename_i C3 r hspec
 split at hgo
 rotate_left
 ·cases hgo
 rename_i v2 bs hv2 hbs
 cases hpl:Nat.beq r.bs.length (fs.length+nb) && (ms.isEmpty || r.plain)
 ·simp [hpl] at hgo
 simp only [hpl,cond_true,Option.some.injEq,Prod.mk.injEq] at hgo
 obtain ⟨rfl,rfl,rfl⟩:=hgo
 simp only [Bool.and_eq_true] at hpl
 obtain ⟨hlen,hpl⟩:=hpl
 have hlen:=Nat.eq_of_beq_eq_true hlen
 have hplain:(!ms.isEmpty)=true→r.plain=true:=by
  intro q
  rw [Bool.or_eq_true] at hpl
  rcases hpl with h1|h1
  ·rw [h1] at q;cases q
  ·exact h1
 have hlent:ms≠[]→(!ms.isEmpty)=true:=by
  intro q
  cases ms with
  |nil=>exact absurd rfl q
  |cons _ _=>rfl
 have hg0:Grow E (pQ E σ w fs (!ms.isEmpty) (cr σ (iJ fs))):=AE hM hfs
 have hargs0:=IY hM hfs hl hd hlent hns hlend hC.1 hargs
 have hM0:=Hq (lent:=!ms.isEmpty) hM hfs hns hdown
 have hkl:ks'.length=fs.length:=by
  rw [(rE hdown).1]
  exact ((jL hfs).1).symm
 have hkp:∀ j,fs.length≤j→cr σ (iJ fs) j=.unset:=by
  intro j hj
  unfold cr
  split
  ·rename_i b hb
   have hmem:=iF hb
   unfold ln at hmem
   obtain ⟨p,hp,he⟩:=List.mem_map.1 hmem
   simp only [Prod.mk.injEq] at he
   obtain ⟨rfl,rfl⟩:=he
   obtain ⟨i,hi⟩:=List.mem_iff_getElem?.1 hp
   unfold iJ at hi
   rw [List.getElem?_zip_eq_some] at hi
   have h3:=(List.getElem?_eq_some_iff.1 hi.2).1
   simp only [List.length_range] at h3
   have h4:=hi.2
   rw [List.getElem?_range h3] at h4
   injection h4 with h4
   omega
  ·rfl
 generalize hE0:pQ E σ w fs (!ms.isEmpty) (cr σ (iJ fs))=E0 at *
 have hE0kp:E0.kp=cr σ (iJ fs):=by rw [← hE0];rfl
 have hE0fz:∀ g,E0.fz g↔(g<w.heap.size∧¬ rU σ fs g):=by intro g;rw [← hE0];exact Iff.rfl
 have hE0old:(!ms.isEmpty)=false→∀ g,E0.old g→E.old g:=by
  intro q g hg
  rw [← hE0] at hg
  rcases hg.1 with h1|h1
  ·exact h1
  ·rw [q] at h1;cases h1.1
 have hE0w:E0.w0=w:=by rw [← hE0];rfl
 refine (h E0 w vs ks' Vs C3 r (hg0.P.trans hP) (hG.grow hg0) hkl (fun j hj=>by rw [hE0kp];exact hkp j hj) (by rw [hE0kp];exact hM0) (by rw [hE0kp];exact hargs0) hspec hC.2).mono ?_
 rintro V w' ⟨E1,σ',hg1,hk,r1,r2⟩
 rw [hE0kp] at hk
 have gr:=AT (lent:=!ms.isEmpty) hg0 hg1 hE0old
 have bo:=Cw (lent:=!ms.isEmpty) hg0 hg1 hE0old
 generalize hup':upN fs nm nb=up at *
 have upm:∀ {j c:Nat},(j,c)∈up↔(fs++(List.range nb).map (nm+·))[j]?=some c:=by
  intro j c
  rw [← hup']
  exact Fl
 have sg1:∀ {j c:Nat},(j,c)∈up→cr σ' up c=σ' j:=fun hm=>jb hup (eF hup hm).2.2
 have sg0:∀ c,(∀ j,(j,c) ∉ up)→cr σ' up c=.unset:=by
  intro c hc
  unfold cr
  split
  ·rename_i b hb
   have hmem:=iF hb
   unfold ln at hmem
   obtain ⟨p,hp,he⟩:=List.mem_map.1 hmem
   simp only [Prod.mk.injEq] at he
   obtain ⟨rfl,rfl⟩:=he
   exact absurd hp (hc p.1)
  ·rfl
 have feet_sig:∀ {j c:Nat},fs[j]?=some c→σ' j=σ c∨σ' j=.unset:=by
  intro j c hc
  have hj:=(List.getElem?_eq_some_iff.1 hc).1
  rcases hk j hj with h1|h1
  ·refine .inl ?_
   rw [h1]
   exact jb hns (eF hns (mN hc)).2.2
  ·exact .inr h1
 have same:∀ c,¬ (nm≤c∧c<nm+16)→mi σ σ' up c=σ c:=by
  intro c hc
  unfold mi
  by_cases he:∃ j,(j,c)∈up
  ·obtain ⟨j,hj⟩:=he
   rw [sg1 hj]
   rcases vl (upm.1 hj) with ⟨q1,q2⟩|⟨q1,q2,q3⟩
   ·rcases feet_sig q2 with h1|h1
    ·rw [h1]
     cases σ c <;> rfl
    ·rw [h1]
   ·omega
  ·rw [sg0 c fun j hj=>he ⟨j,hj⟩]
 have hx:Ext σ (mi σ σ' up):=by
  intro c hc
  by_cases hr:nm≤c∧c<nm+16
  ·exact absurd (hn c hr.1 hr.2) hc
  ·exact same c hr
 have hx':Ext (cr σ' up) (mi σ σ' up):=by
  intro c hc
  unfold mi
  cases hs:cr σ' up c with
  |unset=>exact absurd hs hc
  |nil=>rfl
  |«at» L=>rfl
 have rp:(!ms.isEmpty)=true→r.v.plain=true∧r.bs.all OBlk.plain=true:=by
  intro q
  have:=hplain q
  unfold Ret.plain at this
  rw [Bool.and_eq_true] at this
  exact this
 refine ⟨zT E E0 E1 (!ms.isEmpty),mi σ σ' up,gr,hx,same,?_,?_⟩
 ·exact (AV.ren_R hup hv2 (AV.env bo rfl (fun q=>(rp q).1) r1)).ext hx'
 have hcase:∀ c k,am c M1=some k→(∃ j k0,(j,c)∈up∧am j (pt 0 r.bs)=some k0∧r.bs[j]?=some (some k0)∧k0.ren up=some k)∨(c ∉ fs∧am c M=some k):=by
  intro c k hck
  rcases ta hck hput with ⟨i,h1,h2⟩|⟨h1,h2⟩
  ·obtain ⟨k0,h3,h4⟩:=(yA hbs).2 i k h2
   refine .inl ⟨i,k0,upm.2 h1,?_,h3,h4⟩
   have:=Dt (i:=0) h3
   simpa using this
  ·exact .inr ⟨fun hf=>h1 (List.mem_append_left _ hf),h2⟩
 have hzz:∀ g,¬ E1.fz g→¬ (zT E E0 E1 (!ms.isEmpty)).fz g:=by
  intro g h1 h2
  rcases h2 with h2|h2
  ·exact h1 (hg1.fz g (hg0.fz g h2))
  ·exact h1 h2.1
 have other:∀ c k,c ∉ fs→am c M=some k→∀ L,σ c=.at L→E0.fz L.g:=by
  intro c k hcf hc L hL
  have hB:=hM.blk c k hc
  rw [hL] at hB
  obtain ⟨_,arr,elem,lo,hi,q1,_⟩:=hB
  refine (hE0fz _).2 ⟨qF q1,?_⟩
  rintro ⟨b,hb,L',hL',he⟩
  obtain ⟨kb,hkb⟩:=ur hfs hb
  have:=hM.inj b c kb k L' L hkb hc hL' hL he
  subst this
  exact hcf hb
 have heap':∀ g,E0.fz g→w'.heap[g]?=w.heap[g]?:=by
  intro g hg
  rw [r2.old g (hg1.fz g hg),hg1.w0 g hg,hE0w]
 have notnew:∀ c k,c ∉ fs→am c M=some k→(∀ j,(j,c) ∉ up)∨σ c=.unset:=by
  intro c k hcf hc
  by_cases he:∃ j,(j,c)∈up
  ·obtain ⟨j,hj⟩:=he
   rcases vl (upm.1 hj) with ⟨q1,q2⟩|⟨q1,q2,q3⟩
   ·exact absurd (List.mem_of_getElem? q2) hcf
   ·exact .inr (hn c (by omega) (by omega))
  ·exact .inl fun j hj=>he ⟨j,hj⟩
 refine { blk:=?_,inj:=?_,old:=?_,size:=?_,olds:=?_,os:=?_,tape:=?_,output:=?_ }
 ·intro c k hck
  rcases hcase c k hck with ⟨j,k0,h1,h2,h3,h4⟩|⟨h1,h2⟩
  ·have hB:=r2.blk j k0 h2
   have hp:(!ms.isEmpty)=true→k0.plain=true:=by
    intro q
    have:=(rp q).2
    rw [List.all_eq_true] at this
    exact this _ (List.mem_of_getElem? h3)
   have hB2:=Blk.ren_R hup h4 (Blk.env bo rfl hzz hp hB)
   have hne:σ' j≠.unset:=by intro e;rw [e] at hB;exact hB
   have e1:mi σ σ' up c=σ' j:=by
    rw [hx' c (by rw [sg1 h1];exact hne),sg1 h1]
   rw [e1]
   exact hB2.ext hx'
  ·have hB:=hM.blk c k h2
   have hne:σ c≠.unset:=by intro e;rw [e] at hB;exact hB
   rw [hx c hne]
   refine je.ext hx (je.same (w:=w) (fun L hL=>heap' _ (other c k h1 h2 L hL)) (Blk.grow gr (fun L hL hz=>?_) hB))
   have ho:=other c k h1 h2 L hL
   rcases hz with hz|hz
   ·rw [hL] at hB
    obtain ⟨_,arr,elem,lo,hi,_,_,_,q4,_⟩:=hB
    exact q4 hz
   ·exact hz.2 ho
 ·intro b c x y L L' hb hc hL hL' hg
  have newL:∀ c k,(∃ j k0,(j,c)∈up∧am j (pt 0 r.bs)=some k0∧r.bs[j]?=some (some k0)∧k0.ren up=some k)→∀ L,mi σ σ' up c=.at L→∃ j k0,(j,c)∈up∧am j (pt 0 r.bs)=some k0∧σ' j=.at L∧¬ E1.fz L.g:=by
   rintro c k ⟨j,k0,h1,h2,h3,h4⟩ L hL
   have hB:=r2.blk j k0 h2
   have hne:σ' j≠.unset:=by intro e;rw [e] at hB;exact hB
   have e1:mi σ σ' up c=σ' j:=by
    rw [hx' c (by rw [sg1 h1];exact hne),sg1 h1]
   rw [e1] at hL
   rw [hL] at hB
   obtain ⟨_,arr,elem,lo,hi,_,_,_,q4,_⟩:=hB
   exact ⟨j,k0,h1,h2,hL,q4⟩
  have oldL:∀ c k,c ∉ fs→am c M=some k→∀ L,mi σ σ' up c=.at L→σ c=.at L∧E1.fz L.g:=by
   intro c k h1 h2 L hL
   have hB:=hM.blk c k h2
   have hne:σ c≠.unset:=by intro e;rw [e] at hB;exact hB
   rw [hx c hne] at hL
   exact ⟨hL,hg1.fz _ (other c k h1 h2 L hL)⟩
  rcases hcase b x hb with h1|⟨h1,h2⟩
  ·obtain ⟨j,k0,p1,p2,p3,p4⟩:=newL b x h1 L hL
   rcases hcase c y hc with h3|⟨h3,h4⟩
   ·obtain ⟨i,k1,q1,q2,q3,q4⟩:=newL c y h3 L' hL'
    have:=r2.inj j i k0 k1 L L' p2 q2 p3 q3 hg
    subst this
    have e1:=(eF hup p1).2.2
    have e2:=(eF hup q1).2.2
    rw [e1] at e2
    injection e2
   ·obtain ⟨q1,q2⟩:=oldL c y h3 h4 L' hL'
    exact absurd (hg ▸ q2) p4
  ·obtain ⟨p1,p2⟩:=oldL b x h1 h2 L hL
   rcases hcase c y hc with h3|⟨h3,h4⟩
   ·obtain ⟨i,k1,q1,q2,q3,q4⟩:=newL c y h3 L' hL'
    exact absurd (hg ▸ p2) q4
   ·obtain ⟨q1,q2⟩:=oldL c y h3 h4 L' hL'
    exact hM.inj b c x y L L' h2 h4 p1 q1 hg
 ·intro g hg
  rcases hg with hg|hg
  ·exact r2.old g (hg1.fz g (hg0.fz g hg))
  ·exact r2.old g hg.1
 ·exact r2.size
 ·intro g hg
  rcases hg with hg|hg
  ·exact r2.olds g (hg1.fz g (hg0.fz g hg))
  ·exact r2.olds g hg.1
 ·exact r2.os
 ·exact r2.tape
 ·exact r2.output
end
end
end Go.Vm
namespace Go.Vm
open Go
structure Sig1 where
 m:Nat
 nb:Nat
 spec:List AV→List Blk→Option (Prop × Ret)
structure Known (P:Program) (G:eN) (f:FuncId) (z:Sig1):Prop where
 nb:z.nb≤16
 pure:xK P G f z.m z.spec
abbrev TT:Prop:=True∧True
theorem tt:TT:=⟨trivial,trivial⟩
theorem nh {M N:Mem} (h:∀ b,am b N=am b M):∀ l:List Nat,bE N l=bE M l
 |[]=>rfl
 |b :: r=>by rw [bE,bE,h b,nh h r]
theorem pL:∀ (ws:List Nat) (cs:List (Option Blk)) {M N M':Mem},(∀ b,am b N=am b M)→cI ws cs M=some M'→∃ N',cI ws cs N=some N'∧∀ b,am b N'=am b M'
 |[],[],M,N,M',h,hp=>by
  simp only [cI,Option.some.injEq] at hp
  subst hp
  exact ⟨N,rfl,h⟩
 |b :: ws,c :: cs,M,N,M',h,hp=>by
  rw [cI] at hp ⊢
  refine pL ws cs (M:=put0 b c M) (fun d=>?_) hp
  cases c with
  |none=>show am d (fm b N)=am d (fm b M);rw [ee,ee,h d]
  |some k=>show am d (fk b k N)=am d (fk b k M);rw [bY,bY,h d]
 |[],_ :: _,_,_,_,_,hp=>by simp [cI] at hp
 |_ :: _,[],_,_,_,_,hp=>by simp [cI] at hp
theorem pX (ns:List Nat) (cs:List (Option Blk)):∀ {ws:List Nat} {ks:List Blk} {M:Mem},bE M ws=some ks→∃ N,(∀ b,am b N=am b M)∧cI (ws++ns) (ks.map some++cs) M=cI ns cs N
 |[],ks,M,h=>by
  simp only [bE,Option.some.injEq] at h
  subst h
  exact ⟨M,fun _=>rfl,rfl⟩
 |b :: ws,ks,M,h=>by
  rw [bE] at h
  split at h
  ·cases h
  rename_i k hk
  split at h
  ·cases h
  rename_i ks' hks
  simp only [Option.some.injEq] at h
  subst h
  have same:∀ d,am d (fk b k M)=am d M:=fun d=>by
   rw [bY]
   split
   ·rename_i e;rw [e,hk]
   ·rfl
  obtain ⟨N,h1,h2⟩:=pX ns cs (ws:=ws) (ks:=ks') (M:=fk b k M) (by rw [nh same,hks])
  exact ⟨N,fun d=>(h1 d).trans (same d),h2⟩
def Di (ps:List Pass) (ms fs:List Nat) (nb:Nat) (spec:List AV→List Blk→Option (Prop × Ret)) (args:List AV) (nm:Nat):Option Deed :=
 match qb ps ms fs nb spec args nm with
 |none=>none
 |some A=>some { rd:=A.rd,wr:=(List.range nb).map (nm+·),go:=fun ks=>match A.go ks with
  |some (C,v,bs)=>some (C∧bs.take fs.length=(ks.drop ms.length).map some,v,bs.drop fs.length)
  |none=>none }
theorem xk {P:Program} {G:eN} {f:FuncId} {ps:List Pass} {ms fs:List Nat} {nb:Nat} {spec:List AV→List Blk→Option (Prop × Ret)} (h:nV P G f (qb ps ms fs nb spec)):nV P G f (Di ps ms fs nb spec):=by
 intro E σ M w args Vs nm A C v M' hP hG hM hargs hn hA hrun hC
 unfold Di at hA
 split at hA
 ·cases hA
 rename_i A0 hA0
 simp only [Option.some.injEq] at hA
 subst hA
 unfold Deed.run at hrun
 simp only at hrun
 split at hrun
 ·cases hrun
 rename_i ks hks
 split at hrun
 ·cases hrun
 rename_i C1 v1 cs hgo
 split at hrun
 ·cases hrun
 rename_i M1 hput
 simp only [Option.some.injEq,Prod.mk.injEq] at hrun
 obtain ⟨rfl,rfl,rfl⟩:=hrun
 split at hgo
 rotate_left
 ·cases hgo
 rename_i C0 v0 bs hgo0
 simp only [Option.some.injEq,Prod.mk.injEq] at hgo
 obtain ⟨rfl,rfl,rfl⟩:=hgo
 have hw:A0.rd=ms++fs∧A0.wr=fs++(List.range nb).map (nm+·):=by
  unfold qb at hA0
  cases hck:dc (iJ fs) big && dc (upN fs nm nb) big && ms.all (fun b=>!fs.any (Nat.beq b))
  ·simp [hck] at hA0
  simp only [hck,cond_true,Option.some.injEq] at hA0
  subst hA0
  exact ⟨rfl,rfl⟩
 have hks':=hks
 rw [hw.1] at hks'
 obtain ⟨_,hfs⟩:=jX hks'
 have hb:bs=(ks.drop ms.length).map some++bs.drop fs.length:=by rw [← hC.2,List.take_append_drop]
 obtain ⟨N,hN,e⟩:=pX ((List.range nb).map (nm+·)) (bs.drop fs.length) hfs
 obtain ⟨N',hN',hl⟩:=pL _ _ hN hput
 have run:A0.run M=some (C0,v0,N'):=by
  unfold Deed.run
  rw [hks]
  simp only
  rw [hgo0]
  simp only
  rw [hw.2,hb,e,hN']
 refine (h E σ M w args Vs nm A0 C0 v0 N' hP hG hM hargs hn hA0 run hC.1).mono ?_
 rintro V w' ⟨E',σ',q1,q2,q3,q4,q5⟩
 exact ⟨E',σ',q1,q2,q3,q4,q5.less fun b k hb=>by rw [hl b];exact hb⟩
structure Site where
 f:FuncId
 nm:Nat
 ps:List Pass
 ms:List Nat
 fs:List Nat
 z:Sig1
 see:Bool
abbrev Lib:=List Site
def wb:Lib→Tab
 |[],_,_,_=>none
 |x :: r,f,args,nm=>bif Nat.beq x.f f && Nat.beq x.nm nm then (bif Nat.beq x.fs.length x.z.m then (bif x.see then Di x.ps x.ms x.fs x.z.nb x.z.spec args nm else qb x.ps x.ms x.fs x.z.nb x.z.spec args nm) else none) else wb r f args nm
def rB (P:Program) (G:eN):Lib→Prop
 |[]=>True
 |x :: r=>Known P G x.f x.z∧rB P G r
theorem HR {P:Program} {G:eN}:∀ {l:Lib},rB P G l→pR P G (wb l)
 |[],_,f,args,nm,A,hA=>by simp [wb] at hA
 |x :: r,h,f,args,nm,A,hA=>by
  unfold wb at hA
  cases hb:Nat.beq x.f f && Nat.beq x.nm nm
  ·rw [hb] at hA
   exact HR h.2 f args nm A hA
  ·rw [hb,cond_true] at hA
   cases hm:Nat.beq x.fs.length x.z.m
   ·rw [hm] at hA;cases hA
   ·rw [hm,cond_true] at hA
    rw [Bool.and_eq_true] at hb
    have e1:=Nat.eq_of_beq_eq_true hb.1
    have e2:=Nat.eq_of_beq_eq_true hm
    subst e1
    have h0:nV P G x.f (qb x.ps x.ms x.fs x.z.nb x.z.spec):=sI h.1.nb (e2 ▸ h.1.pure)
    cases hs:x.see
    ·rw [hs,cond_false] at hA
     exact ⟨_,h0,hA⟩
    ·rw [hs,cond_true] at hA
     exact ⟨_,xk h0,hA⟩
variable {B:Bs} {E:Env} {U:Nat} {s:St} {Q:ep}
theorem Tri.seq_region {id:Nat} {ops:Array Oper} {draw:Bool} {d:Code} (hints:List (Nat × AV)) (ms:Option (List Nat)) (kf km:List Nat) (C:Prop) (s':St) (U':Nat) (h:oP B hints U ops ms kf km s=some (C,s')) (hd:ms.isSome=draw)
  (hU:Nat.ble (U+16*ops.size) U'=true) (hC:C) (hq:Tri B E d U' s' Q):Tri B E (.seq (.region id ops draw) d) U s Q :=
 Tri.seq (Tri.region (Q:=Ea B E d Q) h hd hU hC hq)
theorem Tri.region' {id:Nat} {ops:Array Oper} {draw:Bool} (hints:List (Nat × AV)) (ms:Option (List Nat)) (kf km:List Nat) (C:Prop) (s':St) (U':Nat) (h:oP B hints U ops ms kf km s=some (C,s')) (hd:ms.isSome=draw)
  (hU:Nat.ble (U+16*ops.size) U'=true) (hC:C) (hq:Q .normal U' s'):Tri B E (.region id ops draw) U s Q :=
 Tri.region h hd hU hC hq
theorem rr {id:Nat} {ops:Array Oper} {draw:Bool} (hints:List (Nat × AV)) (ms:Option (List Nat)) (kf km:List Nat) (C:Prop) (s':St) (U':Nat) (hC:C) (hq:Q .normal U' s')
  (h:oP B hints U ops ms kf km s=some (C,s'):=by kernel_rfl) (hd:ms.isSome=draw:=by rfl) (hU:Nat.ble (U+16*ops.size) U'=true:=by kernel_rfl):Tri B E (.region id ops draw) U s Q :=
 Tri.region' hints ms kf km C s' U' h hd hU hC hq
def sE (U0 n k:Nat) (st':St) (J':Prop) (Q:ep):ep
 |.normal,U,s=>k<n∧J'∧Sub U s U0 st'
 |e,U,s=>Q e U s
theorem Tri.count {α:Type} {c:Code} (U0:Nat) (n:Nat) (f:Nat→α→α) (x0:α) (J:Nat→α→Prop) (st:Nat→α→St) (hJ:J 0 x0) (h0:Sub U s U0 (st 0 x0))
  (round:∀ k x,k≤n→x=itr f k x0→J k x→Tri B E c U0 (st k x) (sE U0 n k (st (k+1) (f k x)) (J (k+1) (f k x)) Q)):Tri B E (.loop c) U s Q:=by
 refine Tri.loop (U0:=U0) (fun k=>n-k) (fun k=>k≤n∧J k (itr f k x0)) (fun k=>st k (itr f k x0)) 0 ⟨Nat.zero_le _,by show J 0 (itr f 0 x0);rw [bB];exact hJ⟩ (by show Sub U s U0 (st 0 (itr f 0 x0));rw [bB];exact h0) ?_
 rintro k ⟨h1,h2⟩
 refine (round k _ h1 rfl h2).mono ?_
 intro e U' s' hq
 cases e with
 |normal =>
  obtain ⟨q1,q2,q3⟩:=hq
  exact ⟨k+1,(by show n-(k+1)<n-k;omega),⟨by omega,by show J (k+1) (itr f (k+1) x0);rw [aq];exact q2⟩,by show Sub _ _ U0 (st (k+1) (itr f (k+1) x0));rw [aq];exact q3⟩
 |exit id=>exact hq
 |goto l=>exact hq
 |ret=>exact hq
 |panic ch=>exact hq
 |outgrown=>exact hq
def aW (S:Nat→Bool):Nat→Nat
 |0=>0
 |n+1=>bif Nat.blt (aW S n) n then aW S n else bif S n then n else n+1
theorem ak {k n:Nat} (h:k<n):Nat.blt k n=true:=by rw [Nat.blt_eq];exact h
theorem lp (n:Nat):Nat.blt n n=false:=by
 cases h:Nat.blt n n
 ·rfl
 ·rw [Nat.blt_eq] at h
  exact absurd h (Nat.lt_irrefl n)
theorem lR {S:Nat→Bool}:∀ {n:Nat},(∀ j,j<n→S j=false)→aW S n=n
 |0,_=>rfl
 |n+1,h=>by
  rw [aW,lR (fun j hj=>h j (by omega)),lp,h n (by omega)]
  rfl
theorem ah {S:Nat→Bool} {k:Nat}:∀ {n:Nat},k<n→(∀ j,j<k→S j=false)→S k=true→aW S n=k
 |0,h,_,_=>absurd h (by omega)
 |n+1,h,hl,hk=>by
  by_cases hn:k<n
  ·rw [aW,ah hn hl hk,ak hn];rfl
  ·have e:k=n:=by omega
   subst e
   rw [aW,lR hl,lp,hk];rfl
theorem qY (S:Nat→Bool):∀ n,aW S n≤n
 |0=>Nat.le_refl _
 |n+1=>by
  rw [aW]
  cases h:Nat.blt (aW S n) n
  ·cases S n <;> simp
  ·have:=qY S n;simp only [cond_true];omega
theorem ke {S:Nat→Bool} {k:Nat} (h:∀ j,j<k→S j=false) (hk:S k=false):∀ j,j<k+1→S j=false:=by
 intro j hj
 by_cases e:j=k
 ·subst e;exact hk
 ·exact h j (by omega)
theorem pe {id:Nat} (h:Q .normal U s):DS id Q .normal U s:=h
theorem Sub.openNil {fr:Fr} {M:Mem} {U U':Nat} (t b es:Nat) (k:IntKind) (cap:Option Nat) (hcap:cap=none∨cap=some 0) (hb:U≤b) (hb':b<U') (ht:am t fr=some (.sc .nils)) (hM:am b M=none) :
  Sub U (fr,M) U' (fk t (.sc (.sl b 0 0 es cap)) fr,fk b (.ints k 0 []) M):=by
 apply Sub.of1
 rintro E κ n a w ⟨σ,h1,h2,h3,h4⟩
 refine ⟨fun m=>if m=b then .nil else σ m,?_,fun m hm=>?_,fun j hj=>?_,by omega⟩
 ·have hx:Ext σ (fun m=>if m=b then .nil else σ m):=by
   intro m hm
   have:m≠b:=fun e=>hm (by rw [e];exact h2 b hb)
   simp only [if_neg this]
  refine { val:=fun t' v hv=>?_,defers:=h1.defers,tmps:=h1.tmps,blk:=fun c k' hc=>?_,inj:=fun c d x y L L' hc hd hL hL' hg=>?_,old:=h1.old,size:=h1.size,olds:=h1.olds,os:=h1.os,tape:=h1.tape,output:=h1.output }
  ·simp only [bY] at hv
   split at hv
   ·rename_i e
    subst e
    injection hv with hv
    subst hv
    obtain ⟨V,q1,q2⟩:=h1.val _ _ ht
    exact ⟨V,q1,.inl ⟨rfl,hcap,none,q2⟩⟩
   ·obtain ⟨V,q1,q2⟩:=h1.val _ _ hv
    exact ⟨V,q1,q2.ext hx⟩
  ·simp only [bY] at hc
   split at hc
   ·rename_i e
    subst e
    injection hc with hc
    subst hc
    simp only [if_true]
    exact ⟨rfl,rfl⟩
   ·rename_i e
    simp only [if_neg e]
    have:=h1.blk c k' hc
    revert this
    cases σ c with
    |unset=>intro h;exact h
    |nil=>intro h;exact h
    |«at» L =>
     rintro ⟨g1,arr,elem,lo,hi,p1,p2,p3,p4,p5,p6⟩
     exact ⟨g1,arr,elem,lo,hi,p1,p2,p3,p4,p5,fun j s hs=>let ⟨v,q1,q2⟩:=p6 j s hs;⟨v,q1,q2.ext hx⟩⟩
  ·simp only [bY] at hc hd
   split at hc
   ·rename_i e
    simp only [if_pos e] at hL
    cases hL
   ·rename_i e
    simp only [if_neg e] at hL
    split at hd
    ·rename_i e'
     simp only [if_pos e'] at hL'
     cases hL'
    ·rename_i e'
     simp only [if_neg e'] at hL'
     exact h1.inj c d x y L L' hc hd hL hL' hg
 ·have:m≠b:=by omega
  simp only [if_neg this]
  exact h2 m (by omega)
 ·have:j≠b:=by omega
  simp only [if_neg this]
  exact h3 j hj
theorem Sub.freeze {fr:Fr} {M:Mem} {U:Nat} (t b off len n:Nat) (cap:Option Nat) (k:IntKind) (xs:List Int) (ht:am t fr=some (.sc (.sl b off len 1 cap))) (hM:am b M=some (.ints k n xs)) (hle:off+len≤n) :
  Sub U (fr,M) U (fk t (.sc (.ro k (aH xs n off len))) fr,fm b M):=by
 rintro E n' a w ⟨E1,hg,σ,h1,h2,h3,h4⟩
 have hB:=h1.blk b _ hM
 have hgood:xs.length=n:=rH h1.toMemR hM
 have hlen:((xs.drop off).take len).length=len:=by simp;omega
 have less:∀ c k',am c (fm b M)=some k'→c≠b∧am c M=some k':=by
  intro c k' hc
  rw [ee] at hc
  split at hc
  ·cases hc
  ·rename_i e;exact ⟨e,hc⟩
 cases hL:σ b with
 |unset=>rw [hL] at hB;exact hB.elim
 |nil =>
  rw [hL] at hB
  have hn:n=0:=hB.1
  refine ⟨E1,hg,σ,?_,h2,h3,h4⟩
  refine { val:=fun t' v hv=>?_,defers:=h1.defers,tmps:=h1.tmps,toMemR:=MemR.less h1.toMemR fun c k' hc=>(less c k' hc).2 }
  simp only [bY] at hv
  split at hv
  ·rename_i e
   subst e
   injection hv with hv
   subst hv
   obtain ⟨V,q1,q2⟩:=h1.val _ _ ht
   refine ⟨V,q1,?_⟩
   show RoR E1 k (aH xs n off len) V
   rw [kL hgood]
   rcases q2 with ⟨e1,_,A,rfl⟩|⟨L,c,e1,_⟩
   ·subst e1
    exact ⟨A,0,by simp,by simp,by simp⟩
   ·rw [hL] at e1;cases e1
  ·exact h1.val _ _ hv
 |«at» L =>
  rw [hL] at hB
  obtain ⟨g1,arr,elem,lo,hi,p1,p2,p3,p4,p5,p6⟩:=hB
  have hinj:∀ c k' L',c≠b→am c M=some k'→σ c=.at L'→L'.g≠L.g:=fun c k' L' hne hc hL' he=>hne (h1.inj c b k' _ L' L hc hM hL' hL he)
  let E2:Env:={ P:=E1.P,w0:=w,old:=fun g=>E1.old g∨g=L.g,fz:=fun g=>E1.fz g∨g=L.g,sub:=fun g h=>h.elim (fun h=>.inl (E1.sub g h)) .inr,kp:=E1.kp }
  have gr:Grow E1 E2 :=
   {P:=rfl,old:=fun g h=>.inl h,fz:=fun g h=>.inl h,w0:=fun g h=>h1.old g h
    new:=fun g h=>by
     rcases h with h|h
     ·exact .inl h
     ·subst h;exact .inr p4
    size:=h1.size,os:=h1.os,tape:=h1.tape,output:=h1.output }
  refine ⟨E2,hg.trans gr,σ,?_,h2,h3,h4⟩
  refine { val:=fun t' v hv=>?_,defers:=h1.defers,tmps:=h1.tmps,blk:=fun c k' hc=>?_,inj:=fun c d x y L1 L2 hc hd=>h1.inj c d x y L1 L2 (less c x hc).2 (less d y hd).2,old:=fun _ _=>rfl,size:=Nat.le_refl _,olds:=fun g hg=>?_,os:=rfl,tape:=rfl,output:=rfl }
  ·simp only [bY] at hv
   split at hv
   ·rename_i e
    subst e
    injection hv with hv
    subst hv
    obtain ⟨V,q1,q2⟩:=h1.val _ _ ht
    refine ⟨V,q1,?_⟩
    show RoR E2 k (aH xs n off len) V
    rw [kL hgood]
    rcases q2 with ⟨e1,_,A,rfl⟩|⟨L',c,e1,rfl,e2,e3,e4⟩
    ·subst e1
     exact ⟨A,0,by simp,by simp,by simp⟩
    ·rw [hL] at e1
     injection e1 with e1
     subst e1
     refine ⟨some ⟨L.g,L.β+off,none⟩,c,by rw [hlen],by rw [hlen];exact e2,fun _=>⟨_,rfl,.inr rfl,fun j hj=>?_⟩⟩
     rw [hlen] at hj
     have hget:xs[off+j]?=some (xs.getD (off+j) 0):=by
      rw [List.getD_eq_getElem?_getD,List.getElem?_eq_getElem (by omega)];rfl
     obtain ⟨v,e5,e6⟩:=p6 (off+j) (.i k (xs.getD (off+j) 0)) (by show (xs[off+j]?).map _=_;rw [hget];rfl)
     simp only [ScR] at e6
     subst e6
     have:((xs.drop off).take len).getD j 0=xs.getD (off+j) 0:=by
      simp [List.getD_eq_getElem?_getD,List.getElem?_take,List.getElem?_drop,hj]
     rw [this,cv]
     show w.cell? _=_
     have hlt:L.β+off+j<L.sz:=by have:=p3;simp only [Blk.len] at this;omega
     have:=p5.1 (L.β+off+j) hlt
     simp [World.cell?,p1,this]
     rw [Nat.add_assoc]
     exact e5
   ·obtain ⟨V,q1,q2⟩:=h1.val _ _ hv
    exact ⟨V,q1,q2.grow gr⟩
  ·obtain ⟨hne,hc'⟩:=less c k' hc
   refine Blk.grow gr (fun l hl hz=>?_) (h1.blk c k' hc')
   rcases hz with hz|hz
   ·have hB':=h1.blk c k' hc'
    rw [hl] at hB'
    obtain ⟨_,_,_,_,_,_,_,_,q4,_⟩:=hB'
    exact q4 hz
   ·exact hinj c k' l hne hc' hl hz
  ·rcases hg with hg|hg
   ·exact Nat.lt_of_lt_of_le (h1.olds g hg) h1.size
   ·subst hg;exact qF p1
theorem mf {U0 n k:Nat} {st':St} {J':Prop} (h1:k<n) (h2:J') (h3:Sub U s U0 st'):sE U0 n k st' J' Q .normal U s:=⟨h1,h2,h3⟩
theorem Tri.split {c:Code} (x:Bool) (ht:x=true→Tri B E c U s Q) (hf:x=false→Tri B E c U s Q):Tri B E c U s Q:=by
 cases x
 ·exact hf rfl
 ·exact ht rfl
theorem oo.ret {P:Program} {rs:List ResultVar} {m:Nat} {r:Ret} (ns:Ren) (C:Prop) (h1:(dc ns r.bs.length && ib ns m)=true) (h3:kh P rs ns r.bs.length s=some (C,r)) (h4:C):oo P rs m r .ret U s:=⟨ns,C,h1,h3,h4⟩
theorem oo.conv {P:Program} {rs:List ResultVar} {m:Nat} {r r':Ret} (h:r=r') (h2:oo P rs m r' .ret U s):oo P rs m r .ret U s:=h ▸ h2
theorem Known.walk {f:FuncId} {fn:Func} {c:Code} {z:Sig1} (hok:B.Ok) (hf:B.P.funcs[f]?=some fn) (hb:fn.body=some c) (hn:(fn.name != "runtime.NumGoroutine")=true) (hnt:fn.ntmps=B.n) (hnb:z.nb≤16) (hm:z.m≤16)
  (h:∀ (E:Env) (args:List AV) (ks:List Blk) (C:Prop) (r:Ret),z.spec args ks=some (C,r)→C→bI args→args.length≤B.n∧Tri B E c 16 ((List.range args.length).zip args,sJ 0 ks) (oo B.P fn.results.toList z.m r)):Known B.P B.G f z :=
 ⟨hnb,xK.of_walk hok hf hb hn hnt hm h⟩
theorem Known.same {P:Program} {G:eN} {f:FuncId} {z z':Sig1} (h:Known P G f z) (hnb:z'.nb≤16) (hm:z'.m=z.m) (hs:∀ vs ks C r,z'.spec vs ks=some (C,r)→C→∃ C',z.spec vs ks=some (C',r)∧C'):Known P G f z' :=
 ⟨hnb,fun E w args ks Vs C r h1 h2 h3 h4 h5 h6 h7 h8=>by
  obtain ⟨C',h9,h10⟩:=hs args ks C r h7 h8
  have:=h.pure E w args ks Vs C' r h1 h2 (h3.trans hm) (fun j hj=>h4 j (by omega)) h5 h6 h9 h10
  rw [hm]
  exact this⟩
def orS (s1 s2:List AV→List Blk→Option (Prop × Ret)):List AV→List Blk→Option (Prop × Ret):=fun a b=>match s1 a b with
 |some x=>some x
 |none=>s2 a b
theorem Known.or {P:Program} {G:eN} {f:FuncId} {m nb:Nat} {s1 s2:List AV→List Blk→Option (Prop × Ret)} (h1:Known P G f ⟨m,nb,s1⟩) (h2:Known P G f ⟨m,nb,s2⟩):Known P G f ⟨m,nb,orS s1 s2⟩ where
 nb:=h1.nb
 pure:=fun E w args ks Vs C r hP hG hk hkp hM ha h hC=>by
  simp only [orS] at h
  split at h
  ·rename_i x hx;cases h;exact h1.pure E w args ks Vs C r hP hG hk hkp hM ha hx hC
  ·exact h2.pure E w args ks Vs C r hP hG hk hkp hM ha h hC
theorem dA {a b:Int} (h:(a==b)=true):a=b:=by simpa using h
theorem cZ {a b:Int} (h:(a==b)=false):a≠b:=by simpa using h
theorem di {a b:Int} (h:(a != b)=true):a≠b:=by simpa using h
theorem bz {a b:Int} (h:(a != b)=false):a=b:=by simpa using h
theorem bm {x:Int} (h:-9223372036854775808≤x) (h':x<9223372036854775808):IntKind.wrap .i64 x=x:=by
 unfold IntKind.wrap
 simp only [IntKind.signed,IntKind.bits,if_true,Bool.true_and]
 split <;> rename_i hc <;> simp at hc ⊢ <;> omega
theorem BZ {a b:Nat} (h:a+b<9223372036854775808):aN .i64 (a:Int) (b:Int)=((a+b:Nat):Int):=by
 unfold aN;rw [bm (by omega) (by omega)];omega
theorem vF {a b:Nat} (h:a*b<9223372036854775808):bS .i64 (a:Int) (b:Int)=((a*b:Nat):Int):=by
 unfold bS
 have:(a:Int)*(b:Int)=((a*b:Nat):Int):=by simp
 rw [this,bm (by omega) (by omega)]
theorem gY {a b:Nat} (h:b≤a) (h':a<9223372036854775808):ag .i64 (a:Int) (b:Int)=((a-b:Nat):Int):=by
 unfold ag;rw [bm (by omega) (by omega)];omega
theorem dH {a b:Nat} (h:a<9223372036854775808):iu .i64 (a:Int) (b:Int)=((a/b:Nat):Int):=by
 unfold iu
 have:Int.tdiv (a:Int) (b:Int)=((a/b:Nat):Int):=by rfl
 have h2:a/b≤a:=Nat.div_le_self a b
 generalize a/b=d at this h2
 rw [this,bm (by omega) (by omega)]
theorem eK {a b:Nat}:br (a:Int) (b:Int)=((a % b:Nat):Int):=rfl
theorem Tri.len {B:Bs} {E:Env} {c:Code} {U:Nat} {s:St} {Q:ep} (b:Nat) {k:IntKind} {n:Nat} {xs:List Int} (h:am b s.2=some (.ints k n xs)) (q:xs.length=n→Tri B E c U s Q):Tri B E c U s Q:=by
 intro hB a w g
 have g0:=g
 obtain ⟨E',hg',σ,h1,h2⟩:=g
 have hb:=h1.toMemR.blk b _ h
 have hg:xs.length=n:=by
  cases hs:σ b with
  |unset=>rw [hs] at hb;cases hb
  |nil=>rw [hs] at hb;exact hb.2
  |«at» L=>rw [hs] at hb;exact hb.1
 exact q hg hB a w g0
theorem bV {xs:List Int} {n off len B:Nat} (h1:len≤B) (h2:xs.length≤B):(aH xs n off len).length≤B:=by
 unfold aH
 cases Nat.beq len n && Nat.beq off 0
 ·simp only [cond_false,List.length_take,List.length_drop];omega
 ·exact h2
theorem DM (a b:Nat):sF (a:Int) (b:Int)=((min a b:Nat):Int):=by unfold sF;split <;> omega
theorem lT {a:Nat} (h:a<9223372036854775808):ag .i64 (a:Int) 1=(a:Int)-1-((0:Nat):Int):=by
 unfold ag;rw [bm (by omega) (by omega)];omega
theorem jh {a k:Nat} (h:a<9223372036854775808) (h':k<9223372036854775807):ag .i64 ((a:Int)-1-(k:Int)) 1=(a:Int)-1-((k+1:Nat):Int):=by
 unfold ag;rw [bm (by omega) (by omega)];omega
theorem il {a k:Nat} (h:k+1≤a):(a:Int)-1-(k:Int)=((a-1-k:Nat):Int):=by omega
def ei (x y c:Int):Int:=(x+y+c) % 18446744073709551616
def eg (x y c:Int):Int:=(x+y+c)/18446744073709551616
def oc:List AV→List Blk→Option (Prop × Ret)
 |[.sc (.i .u64 x),.sc (.i .u64 y),.sc (.i .u64 c)],[]=>some (0≤x∧0≤y∧0≤c∧c≤1,⟨.tup [.sc (.i .u64 (ei x y c)),.sc (.i .u64 (eg x y c))],[]⟩)
 |_,_=>none
theorem vI {P:Program} {G:eN} {f:FuncId} {fn:Func} (hf:P.funcs[f]?=some fn) (hname:(fn.name== "runtime.NumGoroutine")=false)
  (hb:fn.body.isNone=true) (hn:Extern.findNext fn=none) (he:Extern.find fn=some add64Entry):Known P G f ⟨0,0,oc⟩:=by
 refine ⟨by decide,?_⟩
 ·intro E w args ks Vs C r hP hG hks hkp hM hargs hsp hC
  simp only at hsp
  unfold oc at hsp
  split at hsp
  ·rename_i x y c
   cases hsp
   refine .inr ⟨_,w,?_,E,E.kp,.refl E,fun _ hj=>absurd hj (by simp),⟨#[.int .u64 (ei x y c),.int .u64 (eg x y c)],rfl,rfl,rfl,trivial⟩,hM⟩
   rw [run_callFunc_extern hf hname hb hn he]
   have hVs:Vs=#[.int .u64 x,.int .u64 y,.int .u64 c]:=by
    obtain ⟨l⟩:=Vs
    match l,hargs with
    |[a,b,d],⟨h1,h2,h3,_⟩ =>
     have e1:a=.int .u64 x:=h1
     have e2:b=.int .u64 y:=h2
     have e3:d=.int .u64 c:=h3
     subst e1 e2 e3
     rfl
   subst hVs
   obtain ⟨c1,c2,c3,c4⟩:=hC
   rw [run_add64 x y c c1 c2 c3 c4]
   rfl
  ·cases hsp
def gL (x y c:Int):Int:=(x-y-c) % 18446744073709551616
def cy (x y c:Int):Int:=if x<y+c then 1 else 0
def ot:List AV→List Blk→Option (Prop × Ret)
 |[.sc (.i .u64 x),.sc (.i .u64 y),.sc (.i .u64 c)],[]=>some ((0≤x∧x<18446744073709551616)∧(0≤y∧y<18446744073709551616)∧0≤c∧c≤1,⟨.tup [.sc (.i .u64 (gL x y c)),.sc (.i .u64 (cy x y c))],[]⟩)
 |_,_=>none
theorem vM {P:Program} {G:eN} {f:FuncId} {fn:Func} {e:Array Value→Sem Value} (hf:P.funcs[f]?=some fn) (hname:(fn.name== "runtime.NumGoroutine")=false)
  (hb:fn.body.isNone=true) (hn:Extern.findNext fn=none) (he:Extern.find fn=some e)
  (hrun:∀ (x y:Nat) (w:World),(e #[.int .u64 x,.int .u64 y,.int .u64 (0:Nat)]).run P w=.ok (.tuple #[.int .u64 (((x+18446744073709551616-y-0) % 18446744073709551616:Nat):Int),.int .u64 ((if x<y+0 then 1 else 0:Nat):Int)]) w ∧
   (e #[.int .u64 x,.int .u64 y,.int .u64 (1:Nat)]).run P w=.ok (.tuple #[.int .u64 (((x+18446744073709551616-y-1) % 18446744073709551616:Nat):Int),.int .u64 ((if x<y+1 then 1 else 0:Nat):Int)]) w):Known P G f ⟨0,0,ot⟩:=by
 refine ⟨by decide,?_⟩
 ·intro E w args ks Vs C r hP hG hks hkp hM hargs hsp hC
  simp only at hsp
  unfold ot at hsp
  split at hsp
  ·rename_i x y c
   cases hsp
   refine .inr ⟨_,w,?_,E,E.kp,.refl E,fun _ hj=>absurd hj (by simp),⟨#[.int .u64 (gL x y c),.int .u64 (cy x y c)],rfl,rfl,rfl,trivial⟩,hM⟩
   rw [run_callFunc_extern hf hname hb hn he]
   have hVs:Vs=#[.int .u64 x,.int .u64 y,.int .u64 c]:=by
    obtain ⟨l⟩:=Vs
    match l,hargs with
    |[a,b,d],⟨h1,h2,h3,_⟩ =>
     have e1:a=.int .u64 x:=h1
     have e2:b=.int .u64 y:=h2
     have e3:d=.int .u64 c:=h3
     subst e1 e2 e3
     rfl
   subst hVs
   obtain ⟨⟨c1,c2⟩,⟨c3,c4⟩,c5,c6⟩:=hC
   obtain ⟨a,rfl⟩:=Int.eq_ofNat_of_zero_le c1
   obtain ⟨b,rfl⟩:=Int.eq_ofNat_of_zero_le c3
   have hc:c=((0:Nat):Int)∨c=((1:Nat):Int):=by omega
   have s1:∀ k:Nat,k≤1→(((a+18446744073709551616-b-k) % 18446744073709551616:Nat):Int)=gL a b k:=by
    intro k hk
    unfold gL
    omega
   have s2:∀ k:Nat,((if a<b+k then 1 else 0:Nat):Int)=cy a b k:=by
    intro k
    unfold cy
    split <;> split <;> omega
   rcases hc with rfl|rfl
   ·rw [(hrun a b w).1,s1 0 (by decide),s2 0]
    rfl
   ·rw [(hrun a b w).2,s1 1 (by decide),s2 1]
    rfl
  ·cases hsp
end Go.Vm
namespace Go.Vm
open Go
theorem eV (x:Int):IntKind.wrap .u64 x=x % 18446744073709551616:=by
 simp [IntKind.wrap,IntKind.signed,IntKind.bits]
theorem lf (x:Int):IntKind.wrap .u32 x=x % 4294967296:=by
 simp [IntKind.wrap,IntKind.signed,IntKind.bits]
theorem et (x:Int):IntKind.wrap .u8 x=x % 256:=by
 simp [IntKind.wrap,IntKind.signed,IntKind.bits]
theorem sm (x:Int):0≤IntKind.wrap .u64 x:=by rw [eV];omega
theorem eP (x y:Int):0≤ai .u64 x y:=sm _
theorem eR (x y:Int):0≤ag .u64 x y:=sm _
theorem eC (x y:Int):aN .u64 x y=(x+y) % 18446744073709551616:=eV _
theorem wS (x y:Int):ag .u64 x y=(x-y) % 18446744073709551616:=eV _
theorem kU (x y:Int):bS .u64 x y=(x*y) % 18446744073709551616:=eV _
theorem bq {x y:Int} (h:-9223372036854775808≤x+y) (h':x+y<9223372036854775808):aN .i64 x y=x+y:=bm h h'
theorem ce {x y:Int} (h:-9223372036854775808≤x-y) (h':x-y<9223372036854775808):ag .i64 x y=x-y:=bm h h'
theorem cR {x y:Int} (h:-9223372036854775808≤x*y) (h':x*y<9223372036854775808):bS .i64 x y=x*y:=bm h h'
theorem fi (k:IntKind) (x:Int) (n:Nat) (h:n≤k.bits):aa k x (n:Int)=x/2 ^ n:=by
 unfold aa
 have:min ((n:Int)).toNat k.bits=n:=by simp;omega
 rw [this]
 exact Int.fdiv_eq_ediv_of_nonneg _ (by exact Int.le_of_lt (Int.pow_pos (by omega)))
theorem lG (k:IntKind) (x:Int) (n:Nat) (h:n≤k.bits):cu k x (n:Int)=k.wrap (x*2 ^ n):=by
 unfold cu
 have:min ((n:Int)).toNat k.bits=n:=by simp;omega
 rw [this]
theorem mR (x:Int) (n:Nat) (h:n≤64):ai .u64 x (2 ^ n-1:Nat)=x % 2 ^ n:=by
 unfold ai
 rw [eV]
 show (((BitVec.ofInt 64 x &&& BitVec.ofInt 64 ((2 ^ n-1:Nat):Int)).toNat:Nat):Int) % 18446744073709551616=x % 2 ^ n
 rw [BitVec.toNat_and]
 have h2:(BitVec.ofInt 64 ((2 ^ n-1:Nat):Int)).toNat=2 ^ n-1:=by
  rw [BitVec.ofInt_natCast,BitVec.toNat_ofNat]
  exact Nat.mod_eq_of_lt (by have:=Nat.pow_le_pow_right (n:=2) (by omega) h;have:0<2 ^ n:=Nat.pow_pos (by omega);omega)
 rw [h2,Nat.and_two_pow_sub_one_eq_mod]
 have h3:((BitVec.ofInt 64 x).toNat:Int)=x % 18446744073709551616:=by
  rw [BitVec.toNat_ofInt]
  have:0≤x % ((2 ^ 64:Nat):Int):=Int.emod_nonneg _ (by simp)
  rw [Int.toNat_of_nonneg this]
  rfl
 have h4:(((BitVec.ofInt 64 x).toNat % 2 ^ n:Nat):Int)=x % 2 ^ n:=by
  rw [Int.natCast_emod,h3]
  have h5:((2 ^ n:Nat):Int)=(2:Int) ^ n:=by simp
  rw [h5]
  apply Int.emod_emod_of_dvd
  have:(18446744073709551616:Int)=2 ^ 64:=by rfl
  rw [this]
  exact pow_dvd h
 rw [h4]
 apply Int.emod_eq_of_lt
 ·exact Int.emod_nonneg _ (by have:(0:Int)<2 ^ n:=Int.pow_pos (by omega);omega)
 ·have h6:(0:Int)<2 ^ n:=Int.pow_pos (by omega)
  have h7:=Int.emod_lt_of_pos x h6
  have h8:(2:Int) ^ n≤2 ^ 64:=by
   have:=Nat.pow_le_pow_right (n:=2) (by omega) h
   have h9:(((2 ^ n:Nat)):Int)≤((2 ^ 64:Nat):Int):=by exact_mod_cast this
   simpa using h9
  have:(18446744073709551616:Int)=2 ^ 64:=by rfl
  omega
where
 pow_dvd {n m:Nat} (h:n≤m):(2:Int) ^ n ∣ 2 ^ m:=⟨2 ^ (m-n),by rw [← Int.pow_add];congr 1;omega⟩
def lH (x y:Int):Int:=x*y/18446744073709551616
def fZ (x y:Int):Int:=x*y % 18446744073709551616
theorem cM {xs:List Int} {i j:Nat} {v d:Int} (h:i≠j):(xs.set i v).getD j d=xs.getD j d:=by
 simp [List.getD_eq_getElem?_getD,List.getElem?_set,h]
theorem cz {xs:List Int} {i:Nat} {v d:Int} (h:i<xs.length):(xs.set i v).getD i d=v:=by
 simp [List.getD_eq_getElem?_getD,List.getElem?_set,h]
theorem uT {x y:Int} (hx:0≤x) (hy:0≤y):0≤lH x y:=Int.ediv_nonneg (Int.mul_nonneg hx hy) (by omega)
theorem DV (x y:Int) (hx:0≤x) (hx':x<18446744073709551616) (hy:0≤y) (hy':y<18446744073709551616) :
  (aN .u64 (aN .u64 (bS .u64 (aa .u64 x 32) (aa .u64 y 32)) (aa .u64 (aN .u64 (bS .u64 (aa .u64 x 32) (ai .u64 y 4294967295)) (aa .u64 (bS .u64 (ai .u64 x 4294967295) (ai .u64 y 4294967295)) 32)) 32)) (aa .u64 (aN .u64 (ai .u64 (aN .u64 (bS .u64 (aa .u64 x 32) (ai .u64 y 4294967295)) (aa .u64 (bS .u64 (ai .u64 x 4294967295) (ai .u64 y 4294967295)) 32)) 4294967295) (bS .u64 (ai .u64 x 4294967295) (aa .u64 y 32))) 32))=lH x y:=by
 have s:∀ z:Int,aa .u64 z 32=z/4294967296:=fun z=>fi .u64 z 32 (by decide)
 have m:∀ z:Int,ai .u64 z 4294967295=z % 4294967296:=fun z=>mR z 32 (by decide)
 simp only [s,m,eC,kU,lH]
 have ex:x=x/4294967296*4294967296+x % 4294967296:=by omega
 have ey:y=y/4294967296*4294967296+y % 4294967296:=by omega
 have h1:0≤x/4294967296∧x/4294967296≤4294967295:=by omega
 have h2:0≤x % 4294967296∧x % 4294967296≤4294967295:=by omega
 have h3:0≤y/4294967296∧y/4294967296≤4294967295:=by omega
 have h4:0≤y % 4294967296∧y % 4294967296≤4294967295:=by omega
 generalize x/4294967296=x1 at *
 generalize x % 4294967296=x0 at *
 generalize y/4294967296=y1 at *
 generalize y % 4294967296=y0 at *
 have bound:∀ u v:Int,0≤u∧u≤4294967295→0≤v∧v≤4294967295→0≤u*v∧u*v≤18446744065119617025:=by
  intro u v hu hv
  refine ⟨Int.mul_nonneg hu.1 hv.1,?_⟩
  have:=Int.mul_le_mul hu.2 hv.2 hv.1 (by omega)
  simpa using this
 have b1:=bound x1 y1 h1 h3
 have b2:=bound x1 y0 h1 h4
 have b3:=bound x0 y1 h2 h3
 have b4:=bound x0 y0 h2 h4
 have exy:x*y=x1*y1*18446744073709551616+(x1*y0+x0*y1)*4294967296+x0*y0:=by
  rw [ex,ey];grind
 rw [exy]
 clear exy ex ey bound
 generalize x1*y1=a at *
 generalize x1*y0=b at *
 generalize x0*y1=c at *
 generalize x0*y0=d at *
 omega
end Go.Vm
namespace Go.Vm
open Go
def E0 (P:Program) (w:World):Env:={ P:=P,w0:=w,old:=fun g=>g<w.heap.size,fz:=fun g=>g<w.heap.size,sub:=fun _ h=>h,kp:=fun _=>.unset }
theorem tq {w:World} {a:Addr} {v:Value} (h:w.cell? a=some v):a.block<w.heap.size:=by
 unfold World.cell? at h
 cases hb:w.heap[a.block]? with
 |none=>simp [hb] at h
 |some o=>exact (Array.getElem?_eq_some_iff.1 hb).1
theorem ro_row {P:Program} {σ:Sig} {k:IntKind} {w:World} {a:Option Addr} {len cap:Nat} {zs:List Int}
  (h:(a=none∧len=0∧cap=0∧zs=[])∨∃ x,a=some x∧len≤cap∧cap≤maxLen∧zs.length=cap∧(∀ i,i<zs.length→w.cell? (x.add i)=some (.int k (zs.getD i 0)))∧∀ n∈zs,(Lit.int k n).wf=true) :
  AVR (E0 P w) σ (.sc (.ro k (zs.take len))) (.slice a len cap):=by
 rcases h with ⟨rfl,rfl,rfl,rfl⟩|⟨x,rfl,h1,h2,h3,h4,_⟩
 ·exact ⟨none,0,rfl,by simp,by simp⟩
 ·have hl:(zs.take len).length=len:=by simp;omega
  refine ⟨some x,cap,by rw [hl],by rw [hl];exact h1,fun hp=>⟨x,rfl,?_,fun j hj=>?_⟩⟩
  ·have:=tq (h4 0 (by omega))
   rw [fG] at this
   exact this
  ·rw [hl] at hj
   show w.cell? _=_
   rw [h4 j (by omega)]
   simp [List.getD_eq_getElem?_getD,List.getElem?_take,hj]
end Go.Vm
namespace Go.Vm
open Go
section
variable {H:Type} {enc:TypeId × Value→H} {P:Program} {w:World} {base:Nat} {spare:Nat→Bool} {held:Bool}
end
def RowI (k:IntKind) (w:World) (a:Option Addr) (len cap:Nat) (zs:List Int):Prop :=
 (a=none∧len=0∧cap=0∧zs=[]) ∨
 ∃ x,a=some x∧len≤cap∧cap≤maxLen∧zs.length=cap∧(∀ i,i<zs.length→w.cell? (x.add i)=some (.int k (zs.getD i 0)))∧∀ n∈zs,(Lit.int k n).wf=true
theorem RowI.fits {k:IntKind} {w:World} {a:Option Addr} {len cap:Nat} {zs:List Int} (h:RowI k w a len cap zs) (n:Nat):∀ x∈zs.take n,k.min≤x∧x≤k.max:=by
 intro x hx
 have hm:=List.mem_of_mem_take hx
 rcases h with ⟨_,_,_,rfl⟩|⟨_,_,_,_,_,_,hw⟩
 ·cases hm
 ·exact (Lit.wf_int_iff _ _).1 (hw x hm)
theorem ze {α:Type} {d:α} {Q:Nat→α→Prop}:∀ {n:Nat},(∀ i,i<n→∃ y,Q i y)→∃ zs:List α,zs.length=n∧∀ i,i<n→Q i (zs.getD i d)
 |0,_=>⟨[],rfl,fun i hi=>absurd hi (Nat.not_lt_zero i)⟩
 |n+1,h=>by
  obtain ⟨zs,h1,h2⟩:=ze (d:=d) (n:=n) fun i hi=>h i (by omega)
  obtain ⟨y,hy⟩:=h n (by omega)
  refine ⟨zs++[y],by simp [h1],fun i hi=>?_⟩
  rw [List.getD_eq_getElem?_getD]
  by_cases e:i<n
  ·rw [List.getElem?_append_left (by omega),← List.getD_eq_getElem?_getD]
   exact h2 i e
  ·have e2:i=n:=by omega
   subst e2
   rw [List.getElem?_append_right (by omega),h1,Nat.sub_self]
   exact hy
def RowB (w:World) (a:Option Addr) (len cap:Nat) (zs:List (List Int)):Prop :=
 (a=none∧len=0∧cap=0∧zs=[]) ∨
 ∃ x,a=some x∧len≤cap∧cap≤maxLen∧zs.length=len∧∀ i,i<len→∃ a' l' c' z',w.cell? (x.add i)=some (.slice a' l' c')∧RowI .u8 w a' l' c' z'∧zs.getD i []=z'.take l'
theorem RowB.fits {w:World} {a:Option Addr} {len cap:Nat} {zs:List (List Int)} (h:RowB w a len cap zs):∀ y∈zs,∀ x∈y,IntKind.min .u8≤x∧x≤IntKind.max .u8:=by
 rcases h with ⟨_,_,_,rfl⟩|⟨_,_,h1,h2,h3,h4⟩
 ·exact fun y hy=>by cases hy
 ·intro y hy
  obtain ⟨i,hi⟩:=List.getElem?_of_mem hy
  have hlt:=(List.getElem?_eq_some_iff.1 hi).1
  obtain ⟨a',l',c',z',_,q2,q3⟩:=h4 i (by omega)
  rw [List.getD_eq_getElem?_getD,hi] at q3
  simp only [Option.getD_some] at q3
  subst q3
  exact q2.fits l'
theorem rob_row {P:Program} {σ:Sig} {w:World} {a:Option Addr} {len cap:Nat} {zs:List (List Int)} (h:RowB w a len cap zs):AVR (E0 P w) σ (.sc (.rob zs)) (.slice a len cap):=by
 rcases h with ⟨rfl,rfl,rfl,rfl⟩|⟨x,rfl,h1,h2,h3,h4⟩
 ·exact ⟨none,0,rfl,by simp,by simp⟩
 ·subst h3
  refine ⟨some x,cap,rfl,h1,fun hp=>⟨x,rfl,?_,fun j hj=>?_⟩⟩
  ·obtain ⟨a',l',c',z',q1,_⟩:=h4 0 hp
   have:=tq q1
   rw [fG] at this
   exact this
  ·obtain ⟨a',l',c',z',q1,q2,q3⟩:=h4 j hj
   refine ⟨_,q1,?_⟩
   rw [q3]
   exact ro_row (P:=P) (σ:=σ) q2
section
variable {H:Type} {enc:TypeId × Value→H} {P:Program} {w:World} {base:Nat} {held:Bool}
theorem sized_ints {t e:TypeId} {k:IntKind} {zs:List Int} {l:Nat} {d:DataW H} {p p':List MemPlace} (ht:P.underlying t=some (.slice e)) (hb:0<P.bytesOf e) (hx:(d,p)=(.slice (Go.ChangeShapes.lits k (zs.take l)) (Go.ChangeShapes.lits k (zs.drop l)),p'))
  (hq:∀ n∈d.weights P t,n≤reachBytes):zs.length≤140737488351232:=by
 obtain rfl:=congrArg Prod.fst hx
 have h:=hq ((Go.ChangeShapes.lits (H:=H) k (zs.take l)).length+(Go.ChangeShapes.lits (H:=H) k (zs.drop l)).length |> (·*P.bytesOf e)) (by simp [DataW.weights,ht])
 simp only [Go.ChangeShapes.lits,List.length_map,List.length_take,List.length_drop] at h
 have h2:min l zs.length+(zs.length-l)=zs.length:=by omega
 rw [h2] at h
 have h3:zs.length*1≤zs.length*P.bytesOf e:=Nat.mul_le_mul_left _ hb
 have h4:reachBytes=140737488351232:=by decide
 omega
theorem ph {e:TypeId}:∀ {l:List (DataW H)} {d:DataW H},d∈l→∀ n∈d.weights P e,n∈DataW.weightsAll P e l
 |x :: l,d,h,n,hn=>by
  simp only [DataW.weightsAll,List.mem_append]
  rcases List.mem_cons.1 h with rfl|h
  ·exact .inl hn
  ·exact .inr (ph h n hn)
theorem open_rows {t e e2:TypeId} {fuel:Nat} {cs:List Value} {d:DataW H} {p:List MemPlace} (ht:P.underlying t=some (.slice e)) (he:P.underlying e=some (.slice e2)) (he2:P.underlying e2=some (.int .u8)) (hc:P.cellsOf e=1) (hc2:P.cellsOf e2=1) (hb:0<P.bytesOf e) (hb2:0<P.bytesOf e2)
  (h:DataW.trod enc P w base (fun _=>true) held fuel t cs=some (d,p)) (hq:∀ n∈d.weights P t,n≤reachBytes) :
  ∃ a len cap zs,cs=[.slice a len cap]∧RowB w a len cap zs∧zs.length≤140737488351232∧∀ y∈zs,y.length≤140737488351232:=by
 have h4:reachBytes=140737488351232:=by decide
 rcases DataW.trod_slice ht h with ⟨rfl,_⟩|⟨a,len,cap,elems,rest,n,_,rfl,hx,hb',hl,hm,hlen,hel,_,_⟩
 ·exact ⟨none,0,0,[],rfl,.inl ⟨rfl,rfl,rfl,rfl⟩,Nat.zero_le _,fun y hy=>by cases hy⟩
 obtain rfl:d=.slice (elems.map (·.1)) (rest.map (·.1)):=congrArg Prod.fst hx
 have key:∀ i,i<len→∃ y:List Int,(∃ a' l' c' z',w.cell? (a.add i)=some (.slice a' l' c')∧RowI .u8 w a' l' c' z'∧y=z'.take l')∧y.length≤140737488351232:=by
  intro i hi
  have h1:=hel i hi
  have hmem:elems[i]'(by omega)∈elems:=List.getElem_mem _
  generalize hE:elems[i]'(by omega)=E at hmem
  rw [hc,Nat.mul_one,List.getElem?_eq_getElem (by omega),hE,Option.bind_eq_some_iff] at h1
  obtain ⟨cs',hcs,hy⟩:=h1
  rcases Go.ChangeShapes.open_ints he he2 hc2 hy with ⟨rfl,_⟩|⟨b,l',c',zs,rfl,_,q1,q2,q3,q4,q5,q6⟩
  ·exact ⟨[],⟨none,0,0,[],Go.ChangeShapes.cell_of_cells?_one hcs,.inl ⟨rfl,rfl,rfl,rfl⟩,rfl⟩,Nat.zero_le _⟩
  ·have hz:=sized_ints (d:=E.1) (p:=E.2) he hb2 q4 fun m hm'=>hq m (by
    simp only [DataW.weights,ht,List.mem_cons,List.mem_append]
    exact .inr (.inl (ph (List.mem_map_of_mem hmem) m hm')))
   exact ⟨_,⟨some b,l',c',zs,Go.ChangeShapes.cell_of_cells?_one hcs,.inr ⟨b,rfl,q1,q2,by simpa using q3,q5,q6⟩,rfl⟩,by simp only [List.length_take];omega⟩
 obtain ⟨zs,h1,h2⟩:=ze (d:=([]:List Int)) key
 refine ⟨some a,len,cap,zs,rfl,.inr ⟨a,rfl,hl,hm,h1,fun i hi=>(h2 i hi).1⟩,?_,fun y hy=>?_⟩
 ·have h5:=hq (((elems.map (·.1)).length+(rest.map (·.1)).length)*P.bytesOf e) (by simp [DataW.weights,ht])
  simp only [List.length_map] at h5
  have h6:(elems.length+rest.length)*1≤(elems.length+rest.length)*P.bytesOf e:=Nat.mul_le_mul_left _ hb
  omega
 ·obtain ⟨i,hi⟩:=List.getElem?_of_mem hy
  have hlt:=(List.getElem?_eq_some_iff.1 hi).1
  have:=(h2 i (by omega)).2
  rw [List.getD_eq_getElem?_getD,hi] at this
  exact this
end
def Ln (w:World) (a:Option Addr) (len cap:Nat) (zs:List ByteArray):Prop :=
 (a=none∧len=0∧cap=0∧zs=[]) ∨
 ∃ x,a=some x∧len≤cap∧cap≤maxLen∧zs.length=cap∧(∀ i,i<zs.length→w.cell? (x.add i)=some (.string (zs.getD i ByteArray.empty)))∧∀ s∈zs,s.size≤maxLen
theorem Ln.fits {w:World} {a:Option Addr} {len cap:Nat} {zs:List ByteArray} (h:Ln w a len cap zs) (n:Nat):(zs.take n).length≤maxLen∧∀ y∈zs.take n,y.size≤maxLen:=by
 rcases h with ⟨_,_,_,rfl⟩|⟨_,_,h1,h2,h3,h4,h5⟩
 ·simp
 ·refine ⟨by simp only [List.length_take];omega,fun y hy=>h5 y (List.mem_of_mem_take hy)⟩
end Go.Vm
namespace Go.Vm
open Go
section
variable {H:Type} {enc:TypeId × Value→H} {P:Program} {w:World} {base:Nat} {spare:Nat→Bool} {held:Bool}
theorem yV {t e:TypeId} {k:IntKind} {n fuel:Nat} {cs:List Value} {zs:List Int} {p:List MemPlace} (ht:P.underlying t=some (.array n e)) (he:P.underlying e=some (.int k)) (hc:P.cellsOf e=1) (hn:P.cellsOf t=n)
  (h:DataW.trod enc P w base spare held fuel t cs=some ((.agg (zs.map fun z=>.lit (.int k z)):DataW H),p)):cs=aw k zs:=by
 obtain ⟨xs,m,_,hx,hl,hxl,hp⟩:=DataW.trod_array ht h
 have h1:zs.map (fun z=>(.lit (.int k z):DataW H))=xs.map (·.1):=by
  have:=congrArg Prod.fst hx
  simpa using this
 have hz:zs.length=n:=by
  have:=congrArg List.length h1
  simp at this
  omega
 apply List.ext_getElem?
 intro i
 by_cases hi:i<n
 ·have h2:=hp i hi
  rw [List.getElem?_eq_getElem (by omega),hc,Nat.mul_one] at h2
  obtain ⟨z,hz1,hz2,_⟩:=DataW.trod_int he h2
  have h3:=congrArg (fun l:List (DataW H)=>l[i]?) h1
  simp only [List.getElem?_map] at h3
  rw [List.getElem?_eq_getElem (by omega),List.getElem?_eq_getElem (by omega)] at h3
  simp only [Option.map_some,Option.some.injEq] at h3
  rw [hz2] at h3
  simp only [DataW.lit.injEq,Lit.int.injEq,true_and] at h3
  have h4:=congrArg (fun l:List Value=>l[0]?) hz1
  simp only [List.getElem?_take,List.getElem?_drop] at h4
  have h5:cs[i]?=some (.int k z):=by simpa using h4
  rw [h5,aw,List.getElem?_map,List.getElem?_eq_getElem (by omega),← h3]
  rfl
 ·rw [List.getElem?_eq_none (by omega),List.getElem?_eq_none (by rw [aw,List.length_map];omega)]
end
structure LaidI (P:Program) where
 name:String
 g:Nat
 t:TypeId
 e:TypeId
 k:IntKind
 zs:List Int
def LaidI.ok {P:Program} (x:LaidI P):Prop:=P.globalNamed x.name=some x.g∧(P.globals[x.g]?).map (·.type)=some x.t∧P.underlying x.t=some (.array x.zs.length x.e)∧P.underlying x.e=some (.int x.k)∧P.cellsOf x.e=1∧P.cellsOf x.t=x.zs.length
def LaidI.datum {P:Program} (x:LaidI P):DataW Unit:=.agg (x.zs.map fun z=>.lit (.int x.k z))
theorem rG {P:Program} {W:World}:∀ {l:List (LaidI P)} {ps:List MemPlace},(∀ x∈l,x.ok)→DataW.LaidVars P W (l.map fun x=>(x.name,x.datum)) ps →
  ∀ x∈l,∀ j,j<x.zs.length→W.cell? ⟨x.g,j,none⟩=some (.int x.k (x.zs.getD j 0))
 |[],_,_,_,x,hx=>by cases hx
 |y :: l,ps,hok,h,x,hx=>by
  obtain ⟨g,t,cs,fuel,p,q,hg,ht,hv,hd,hr,_⟩:=h
  rcases List.mem_cons.1 hx with rfl|hx
  ·intro j hj
   obtain ⟨o1,o2,o3,o4,o5,o6⟩:=hok x (by simp)
   obtain rfl:=Option.some.inj (o1.symm.trans hg)
   obtain rfl:=Option.some.inj (o2.symm.trans ht)
   have hc:=yV o3 o4 o5 o6 hd
   have h1:=World.var?_cell hg hv j
   have h2:cs[j]?=some (.int x.k (x.zs.getD j 0)):=by
    rw [← Array.getElem?_toList,hc,aw,List.getElem?_map,List.getElem?_eq_getElem hj,List.getD_eq_getElem?_getD,List.getElem?_eq_getElem hj]
    rfl
   rw [h2] at h1
   simpa using h1
  ·exact rG (fun z hz=>hok z (by simp [hz])) hr x hx
def qC {P:Program}:List (LaidI P)→eN
 |[],_=>none
 |x :: l,g=>bif Nat.beq g x.g then some (x.k,x.zs) else qC l g
theorem DE {P:Program} {W:World} {l0:List (LaidI P)} (h:∀ x∈l0,∀ j,j<x.zs.length→W.cell? ⟨x.g,j,none⟩=some (.int x.k (x.zs.getD j 0))) (hne:∀ x∈l0,0<x.zs.length):GlobsOk (E0 P W) (qC l0):=by
 intro g k xs hg
 have key:∀ l:List (LaidI P),(∀ x∈l,x∈l0)→qC l g=some (k,xs)→∃ x∈l0,x.g=g∧x.k=k∧x.zs=xs:=by
  intro l
  induction l with
  |nil=>intro _ h;cases h
  |cons y l ih =>
   intro hl h
   unfold qC at h
   cases hb:Nat.beq g y.g
   ·rw [hb] at h
    exact ih (fun x hx=>hl x (by simp [hx])) h
   ·rw [hb] at h
    simp only [cond_true,Option.some.injEq,Prod.mk.injEq] at h
    exact ⟨y,hl y (by simp),(Nat.eq_of_beq_eq_true hb).symm,h.1,h.2⟩
 obtain ⟨x,hx,rfl,rfl,rfl⟩:=key l0 (fun _ h=>h) hg
 refine ⟨?_,fun j hj=>?_⟩
 ·have:=tq (h x hx 0 (hne x hx))
  exact this
 ·have:=h x hx j hj
  show W.cell? ((⟨x.g,0,none⟩:Addr).add j)=_
  rw [← this]
  simp only [Addr.add]
  split
  ·rename_i h0;simp [h0]
  ·simp
theorem calls_trueG {P:Program} {G:eN} {f:FuncId} {z:Sig1} (h:Known P G f z) (hf:mQ P f=true) (w:World) (hG:GlobsOk (E0 P w) G) (args:List AV) (Vs:Array Value) (C:Prop) (b:Bool) (ha:eB (AVR (E0 P w) fun _=>.unset) args Vs.toList)
  (hm:z.m=0) (hs:z.spec args []=some (C,⟨.sc (.b b),[]⟩)) (hC:C) (hb:b=true):Calls P f Vs w fun e w'=>e=.returned (.bool true)∧Go.RowKit.Below w.heap.size w w':=by
 have hM:MemR (E0 P w) (fun _=>.unset) [] w :=
  {blk:=fun b k hb=>by cases hb
   inj:=fun b c x y L L' hb=>by cases hb
   old:=fun _ _=>rfl
   size:=Nat.le_refl _
   olds:=fun _ h=>h
   os:=rfl
   tape:=rfl
   output:=rfl }
 rcases h.pure (E0 P w) w args [] Vs C _ rfl hG hm.symm (fun _ _=>rfl) hM ha hs hC with ⟨_,h1⟩|⟨V,w',h1,_⟩
 ·refine h1.mono fun e w' ⟨V,he,E',σ',hg,_,h2,h3⟩=>?_
  have h4:V=.bool b:=h2
  subst h4 hb
  exact ⟨he,h3.os.trans hg.os,h3.tape.trans hg.tape,h3.output.trans hg.output,Nat.le_trans hg.size h3.size,fun k hk=>(h3.old k (hg.fz k hk)).trans (hg.w0 k hk)⟩
 ·rw [mw hf] at h1
  cases h1
end Go.Vm
namespace Go.Vm
open Go
theorem DG {E:Env} {σ:Sig} {V:Value} (k:IntKind) (h:ScR E σ .nils V):ScR E σ (.ro k []) V:=⟨none,0,h,Nat.le_refl _,fun h=>absurd h (Nat.lt_irrefl _)⟩
theorem Sub.nilRo {U:Nat} {fr:Fr} {M:Mem} (t:Nat) (k:IntKind) (ht:am t fr=some (.sc .nils)):Sub U (fr,M) U (fk t (.sc (.ro k [])) fr,M):=by
 refine Sub.of1 ?_
 rintro E κ n a w ⟨σ,h1,h2⟩
 refine ⟨σ,{ val:=fun t' v hv=>?_,defers:=h1.defers,tmps:=h1.tmps,toMemR:=h1.toMemR },h2⟩
 simp only [bY] at hv
 split at hv
 ·rename_i e
  subst e
  cases hv
  obtain ⟨V,q1,q2⟩:=h1.val _ _ ht
  exact ⟨V,q1,DG (σ:=σ) k q2⟩
 ·exact h1.val _ _ hv
theorem Sub.nilCell {U : Nat} {fr : Fr} {M : Mem} {l : List Sc} (b j : Nat) (k : IntKind) (hb : am b M = some (.cells l)) (hj : l[j]? = some .nils) : Sub U (fr, M) U (fr, fk b (.cells (l.set j (.ro k []))) M) := by
  refine Sub.of1 ?_
  rintro E κ n a w ⟨σ, h1, h2⟩
  have key : ∀ L, je E σ w (.cells l) L → je E σ w (.cells (l.set j (.ro k []))) L := by
    intro L hB
    cases L with
    | unset => exact hB
    | nil => exact ⟨by simpa [Blk.len] using hB.1, trivial⟩
    | «at» L =>
      obtain ⟨g1, arr, elem, lo, hi, p1, p2, p3, p4, p5, p6⟩ := hB
      refine ⟨trivial, arr, elem, lo, hi, p1, p2, by simpa [Blk.len] using p3, p4, p5, fun i s hs => ?_⟩
      simp only [Blk.get?] at hs
      by_cases e : i = j
      · subst e
        rw [List.getElem?_set_self (by rw [List.getElem?_eq_some_iff] at hj; exact hj.1)] at hs
        cases hs
        obtain ⟨v, q1, q2⟩ := p6 i _ hj
        exact ⟨v, q1, DG k q2⟩
      · rw [List.getElem?_set_ne (Ne.symm e)] at hs
        exact p6 i s hs
  refine ⟨σ, { toFrR := h1.toFrR, tmps := h1.tmps, toMemR := ?_ }, h2⟩
  have less : ∀ c x, am c (fk b (Blk.cells (l.set j (.ro k []))) M) = some x → (c = b ∧ x = .cells (l.set j (.ro k []))) ∨ am c M = some x := by
    intro c x hc
    rw [bY] at hc
    split at hc
    · rename_i e; exact .inl ⟨e, by cases hc; rfl⟩
    · exact .inr hc
  exact { blk := fun c x hc => by
            rcases less c x hc with ⟨rfl, rfl⟩ | hc
            · exact key _ (h1.blk _ _ hb)
            · exact h1.blk c x hc
          inj := fun c d x y L L' hc hd => by
            have f : ∀ c x, am c (fk b (Blk.cells (l.set j (.ro k []))) M) = some x → ∃ x', am c M = some x' := by
              intro c x hc
              rcases less c x hc with ⟨rfl, rfl⟩ | hc
              · exact ⟨_, hb⟩
              · exact ⟨_, hc⟩
            obtain ⟨x', hx⟩ := f c x hc
            obtain ⟨y', hy⟩ := f d y hd
            exact h1.inj c d x' y' L L' hx hy
          old := h1.old, size := h1.size, olds := h1.olds, os := h1.os, tape := h1.tape, output := h1.output }
end Go.Vm
namespace Go.Vm
open Go
section
variable {E:Env} {σ:Sig} {M:Mem} {w:World}
def Fy (o:Nat):Pl→Pl
 |.at L=>.at { L with β:=L.β+o }
 |x=>x
theorem je.shift {k:Blk} {p:Pl} (h:je E σ w k p) {o:Nat} (ho:o≤k.len):je E σ w (k.from o) (Fy o p):=by
 cases p with
 |unset=>exact h
 |nil =>
  obtain ⟨f1,f2,_⟩:=Blk.from_get h.2 o
  exact ⟨by rw [f2];have:=h.1;omega,f1⟩
 |«at» L =>
  obtain ⟨g1,arr,elem,lo,hi,p1,p2,p3,p4,p5,p6⟩:=h
  obtain ⟨f1,f2,f3⟩:=Blk.from_get g1 o
  refine ⟨f1,arr,elem,lo,hi,p1,p2,by rw [f2];show L.β+o+_≤L.sz;omega,p4,p5,fun j s hs=>?_⟩
  rw [f3] at hs
  obtain ⟨v,q1,q2⟩:=p6 _ _ hs
  exact ⟨v,by show arr[L.β+o+j]?=_;rw [Nat.add_assoc];exact q1,q2⟩
theorem MemR.add {b:Nat} {p:Pl} {k:Blk} {M':Mem} (h:MemR E σ M w) (hn:σ b=.unset) (hsub:∀ c x,am c M'=some x→am c M=some x) (hB:je E σ w k p)
  (hinj:∀ L,p=.at L→∀ c x L',am c M'=some x→σ c=.at L'→L'.g≠L.g):MemR E (upd σ b p) (fk b k M') w:=by
 have hx:=eQ (σ:=σ) p hn
 have hnot:∀ c x,am c M'=some x→c≠b:=by
  intro c x hc e
  subst e
  have:=h.blk c x (hsub c x hc)
  rw [hn] at this
  exact this
 refine { blk:=fun c x hc=>?_,inj:=fun c d x y L L' hc hd hL hL' hg=>?_,old:=h.old,size:=h.size,olds:=h.olds,os:=h.os,tape:=h.tape,output:=h.output }
 ·rw [bY] at hc
  by_cases e:c=b
  ·rw [if_pos e] at hc
   injection hc with hc
   subst hc e
   rw [cf]
   exact hB.ext hx
  ·rw [if_neg e] at hc
   rw [bQ _ _ e]
   exact (h.blk c x (hsub c x hc)).ext hx
 ·rw [bY] at hc hd
  by_cases e:c=b <;> by_cases e':d=b
  ·omega
  ·exfalso
   rw [if_neg e'] at hd
   rw [e,cf] at hL
   rw [bQ _ _ e'] at hL'
   exact hinj L hL d y L' hd hL' hg.symm
  ·exfalso
   rw [if_neg e] at hc
   rw [e',cf] at hL'
   rw [bQ _ _ e] at hL
   exact hinj L' hL' c x L hc hL hg
  ·rw [if_neg e] at hc
   rw [if_neg e'] at hd
   rw [bQ _ _ e] at hL
   rw [bQ _ _ e'] at hL'
   exact h.inj c d x y L L' (hsub c x hc) (hsub d y hd) hL hL' hg
end
variable {fr:Fr} {M:Mem} {U U':Nat}
theorem FrR.put {E:Env} {σ:Sig} {a:Act} {t:Nat} {v v':AV} (h:FrR E σ fr a) (ht:am t fr=some v) (hv:∀ V,AVR E σ v V→AVR E σ v' V):FrR E σ (fk t v' fr) a:=by
 refine ⟨fun t' u hu=>?_,h.defers⟩
 rw [bY] at hu
 split at hu
 ·rename_i e
  subst e
  injection hu with hu
  subst hu
  obtain ⟨V,q1,q2⟩:=h.val _ _ ht
  exact ⟨V,q1,hv V q2⟩
 ·exact h.val _ _ hu
theorem Sub.tmp {t:Nat} {v v':AV} (ht:am t fr=some v) (h:∀ E σ V,AVR E σ v V→AVR E σ v' V):Sub U (fr,M) U (fk t v' fr,M):=by
 refine Sub.of1 ?_
 rintro E κ n a w ⟨σ,h1,h2⟩
 exact ⟨σ,{ toFrR:=h1.toFrR.put ht (h _ _),tmps:=h1.tmps,toMemR:=h1.toMemR },h2⟩
def Blk.ro:Blk→Nat→Nat→Sc
 |.ints k n xs,off,len=>.ro k (aH xs n off len)
 |.vec .row xs,off,len=>.rob (pk xs off len)
 |.vec .str xs,off,len=>.ros (pk xs off len)
 |_,_,_=>.nilp
def Blk.roC:Blk→Nat × Nat→Prop
 |.ints _ n _,p=>p.1+p.2≤n
 |.vec .row xs,p=>p.1+p.2≤xs.length
 |.vec .str xs,p=>p.1+p.2≤xs.length
 |_,_=>False
def za (f:Nat × Nat→Prop):List (Nat × Nat)→Prop
 |[]=>True
 |[p]=>f p
 |p :: r=>f p∧za f r
theorem sY {f:Nat × Nat→Prop}:∀ {l:List (Nat × Nat)},za f l→∀ p∈l,f p
 |[],_,p,hp=>by cases hp
 |[q],h,p,hp=>by
  rw [List.mem_singleton] at hp
  subst hp
  exact h
 |q :: q' :: r,h,p,hp=>by
  rcases List.mem_cons.1 hp with rfl|hp
  ·exact h.1
  ·exact sY h.2 p hp
def Sc.occ (b:Nat):Sc→List (Nat × Nat)
 |.sl b' off len 1 _=>bif Nat.beq b' b then [(off,len)] else []
 |_=>[]
def Sc.frz (b:Nat) (k:Blk):Sc→Sc
 |.sl b' off len 1 cap=>bif Nat.beq b' b then k.ro off len else .sl b' off len 1 cap
 |y=>y
def A1.occ (b:Nat):A1→List (Nat × Nat)
 |.sc s=>s.occ b
 |.agg l=>l.flatMap (Sc.occ b)
 |.ints _ _ _=>[]
 |.arr _ _=>[]
def A1.frz (b:Nat) (k:Blk):A1→A1
 |.sc s=>.sc (s.frz b k)
 |.agg l=>.agg (l.map (Sc.frz b k))
 |.ints k n xs=>.ints k n xs
 |.arr v xs=>.arr v xs
def AV.occ (b:Nat):AV→List (Nat × Nat)
 |.sc s=>s.occ b
 |.agg l=>l.flatMap (Sc.occ b)
 |.ints _ _ _=>[]
 |.arr _ _=>[]
 |.tup l=>l.flatMap (A1.occ b)
def AV.frz (b:Nat) (k:Blk):AV→AV
 |.sc s=>.sc (s.frz b k)
 |.agg l=>.agg (l.map (Sc.frz b k))
 |.ints k n xs=>.ints k n xs
 |.arr v xs=>.arr v xs
 |.tup l=>.tup (l.map (A1.frz b k))
def Blk.occ (b:Nat):Blk→List (Nat × Nat)
 |.cells l=>l.flatMap (Sc.occ b)
 |_=>[]
def Ed (b:Nat) (k:Blk):Blk→Blk
 |.cells l=>.cells (l.map (Sc.frz b k))
 |x=>x
def DX {α:Type} (f:α→α):List (Nat × α)→List (Nat × α)
 |[]=>[]
 |(t,v) :: r=>(t,f v) :: DX f r
theorem kO {α:Type} {f:α→α} {t:Nat} {v:α}:∀ {l:List (Nat × α)},am t (DX f l)=some v→∃ u,am t l=some u∧v=f u
 |[],h=>by cases h
 |(m,u) :: r,h=>by
  simp only [DX,am] at h ⊢
  cases hb:Nat.beq m t
  ·rw [hb] at h;exact kO (l:=r) h
  ·rw [hb] at h;simp only [cond_true,Option.some.injEq] at h ⊢;exact ⟨u,rfl,h.symm⟩
def St.occ (b:Nat) (s:St):List (Nat × Nat):=s.1.flatMap (fun x=>x.2.occ b)++(fm b s.2).flatMap (fun x=>x.2.occ b)
def St.frz (b:Nat) (k:Blk) (s:St):St:=(DX (AV.frz b k) s.1,DX (Ed b k) (fm b s.2))
structure FrzE (E E2:Env) (σ:Sig) (w:World) (b:Nat) (k:Blk):Prop where
 gr:Grow E E2
 cell:∀ off len cap V,ScR E σ (.sl b off len 1 cap) V→off+len≤k.len→∃ A c,V=.slice A len c∧len≤c∧(0<len→∃ ad,A=some ad∧E2.old ad.block∧∀ j,j<len→∃ s v,k.get? (off+j)=some s∧E2.w0.cell? (ad.add j)=some v∧ScR E σ s v)
theorem Blk.ro_R {E E2:Env} {σ:Sig} {w:World} {b:Nat} {k:Blk} (hz:FrzE E E2 σ w b k) (hg:k.good) {off len:Nat} {cap:Option Nat} {V:Value} (h:ScR E σ (.sl b off len 1 cap) V) (hC:k.roC (off,len)):ScR E2 σ (k.ro off len) V:=by
 cases k with
 |cells l=>exact hC.elim
 |ints kk n xs =>
  have hC:off+len≤n:=hC
  have hg:xs.length=n:=hg
  show RoR E2 kk (aH xs n off len) V
  rw [kL hg]
  obtain ⟨A,c,rfl,q1,q2⟩:=hz.cell off len cap V h hC
  have hlen:((xs.drop off).take len).length=len:=by simp;omega
  refine ⟨A,c,by rw [hlen],by rw [hlen];exact q1,fun hp=>?_⟩
  rw [hlen] at hp
  obtain ⟨ad,rfl,o1,o2⟩:=q2 hp
  refine ⟨ad,rfl,o1,fun j hj=>?_⟩
  rw [hlen] at hj
  obtain ⟨s,v,a1,a2,a3⟩:=o2 j hj
  have hget:xs[off+j]?=some (xs.getD (off+j) 0):=by
   rw [List.getD_eq_getElem?_getD,List.getElem?_eq_getElem (by omega)];rfl
  have hs:s=.i kk (xs.getD (off+j) 0):=by
   have:(xs[off+j]?).map (.i kk ·)=some s:=a1
   rw [hget] at this
   injection this with this
   exact this.symm
  subst hs
  have a3':v=.int kk (xs.getD (off+j) 0):=a3
  have:((xs.drop off).take len).getD j 0=xs.getD (off+j) 0:=by
   simp [List.getD_eq_getElem?_getD,List.getElem?_take,List.getElem?_drop,hj]
  rw [this,← a3']
  exact a2
 |vec v xs =>
  cases v with
  |tab=>exact hC.elim
  |row =>
   have hC:off+len≤xs.length:=hC
   show ScR E2 σ (.rob (pk xs off len)) V
   rw [ny]
   obtain ⟨A,c,rfl,q1,q2⟩:=hz.cell off len cap V h hC
   have hlen:((xs.drop off).take len).length=len:=by simp;omega
   refine ⟨A,c,by rw [hlen],by rw [hlen];exact q1,fun hp=>?_⟩
   rw [hlen] at hp
   obtain ⟨ad,rfl,o1,o2⟩:=q2 hp
   refine ⟨ad,rfl,o1,fun j hj=>?_⟩
   rw [hlen] at hj
   obtain ⟨s,v,a1,a2,a3⟩:=o2 j hj
   have hget:xs[off+j]?=some (xs.getD (off+j) []):=by
    rw [List.getD_eq_getElem?_getD,List.getElem?_eq_getElem (by omega)];rfl
   have hs:s=.ro .u8 (xs.getD (off+j) []):=by
    have:(xs[off+j]?).map (VK.sc .row)=some s:=a1
    rw [hget] at this
    injection this with this
    exact this.symm
   subst hs
   have:((xs.drop off).take len).getD j []=xs.getD (off+j) []:=by
    simp [List.getD_eq_getElem?_getD,List.getElem?_take,List.getElem?_drop,hj]
   rw [this]
   exact ⟨v,a2,hz.gr.ro a3⟩
  |str =>
   have hC:off+len≤xs.length:=hC
   show ScR E2 σ (.ros (pk xs off len)) V
   rw [ny]
   obtain ⟨A,c,rfl,q1,q2⟩:=hz.cell off len cap V h hC
   have hlen:((xs.drop off).take len).length=len:=by simp;omega
   refine ⟨A,c,by rw [hlen],by rw [hlen];exact q1,fun hp=>?_⟩
   rw [hlen] at hp
   obtain ⟨ad,rfl,o1,o2⟩:=q2 hp
   refine ⟨ad,rfl,o1,fun j hj=>?_⟩
   rw [hlen] at hj
   obtain ⟨s,v,a1,a2,a3⟩:=o2 j hj
   have hget:xs[off+j]?=some (xs.getD (off+j) ⟨#[]⟩):=by
    rw [List.getD_eq_getElem?_getD,List.getElem?_eq_getElem (by omega)];rfl
   have hs:s=.s (xs.getD (off+j) ⟨#[]⟩):=by
    have:(xs[off+j]?).map (VK.sc .str)=some s:=a1
    rw [hget] at this
    injection this with this
    exact this.symm
   subst hs
   have a3':v=.string (xs.getD (off+j) ⟨#[]⟩):=a3
   have:((xs.drop off).take len).getD j ⟨#[]⟩=xs.getD (off+j) ⟨#[]⟩:=by
    simp [List.getD_eq_getElem?_getD,List.getElem?_take,List.getElem?_drop,hj]
   rw [this,← a3']
   exact a2
section
variable {E E2:Env} {σ:Sig} {w:World} {b:Nat} {k:Blk}
theorem Sc.frz_R (hz:FrzE E E2 σ w b k) (hg:k.good) {s:Sc} {V:Value} (h:ScR E σ s V) (hC:∀ p∈s.occ b,k.roC p):ScR E2 σ (s.frz b k) V:=by
 unfold Sc.frz
 split
 ·rename_i b' off len cap
  cases hb:Nat.beq b' b
  ·exact ScR.grow (s:=.sl b' off len 1 cap) hz.gr h
  ·have e:=Nat.eq_of_beq_eq_true hb
   subst e
   exact Blk.ro_R hz hg h (hC (off,len) (by simp [Sc.occ,qz]))
 ·exact h.grow hz.gr
theorem ui (hz:FrzE E E2 σ w b k) (hg:k.good):∀ {l:List Sc} {m:List Value},eB (ScR E σ) l m→(∀ p∈l.flatMap (Sc.occ b),k.roC p)→eB (ScR E2 σ) (l.map (Sc.frz b k)) m
 |[],[],_,_=>trivial
 |s :: r,V :: m,h,hC=>⟨Sc.frz_R hz hg h.1 fun p hp=>hC p (by simp [hp]),ui hz hg h.2 fun p hp=>hC p (by simp only [List.flatMap_cons,List.mem_append];exact .inr hp)⟩
theorem A1.frz_R (hz:FrzE E E2 σ w b k) (hg:k.good) {v:A1} {V:Value} (h:A1R E σ v V) (hC:∀ p∈v.occ b,k.roC p):A1R E2 σ (v.frz b k) V:=by
 cases v with
 |sc s=>exact Sc.frz_R hz hg h hC
 |agg l=>obtain ⟨arr,e,q⟩:=h;exact ⟨arr,e,ui hz hg q hC⟩
 |arr v xs=>obtain ⟨arr,e,q⟩:=h;exact ⟨arr,e,q.mono fun _ _ h=>h.grow hz.gr⟩
 |ints k n xs=>exact h
theorem yr (hz:FrzE E E2 σ w b k) (hg:k.good):∀ {l:List A1} {m:List Value},eB (A1R E σ) l m→(∀ p∈l.flatMap (A1.occ b),k.roC p)→eB (A1R E2 σ) (l.map (A1.frz b k)) m
 |[],[],_,_=>trivial
 |s :: r,V :: m,h,hC=>⟨A1.frz_R hz hg h.1 fun p hp=>hC p (by simp [hp]),yr hz hg h.2 fun p hp=>hC p (by simp only [List.flatMap_cons,List.mem_append];exact .inr hp)⟩
theorem AV.frz_R (hz:FrzE E E2 σ w b k) (hg:k.good) {v:AV} {V:Value} (h:AVR E σ v V) (hC:∀ p∈v.occ b,k.roC p):AVR E2 σ (v.frz b k) V:=by
 cases v with
 |sc s=>exact Sc.frz_R hz hg h hC
 |agg l=>obtain ⟨arr,e,q⟩:=h;exact ⟨arr,e,ui hz hg q hC⟩
 |arr v xs=>obtain ⟨arr,e,q⟩:=h;exact ⟨arr,e,q.mono fun _ _ h=>h.grow hz.gr⟩
 |ints k n xs=>exact h
 |tup l=>obtain ⟨arr,e,q⟩:=h;exact ⟨arr,e,yr hz hg q hC⟩
theorem IC (hz:FrzE E E2 σ w b k) (hg:k.good) {x:Blk} {p:Pl} (hfz:∀ l,p=.at l→¬ E2.fz l.g) (h:je E σ w x p) (hC:∀ p∈x.occ b,k.roC p):je E2 σ w (Ed b k x) p:=by
 cases x with
 |ints kk n xs=>exact Blk.grow hz.gr hfz h
 |vec v xs=>exact Blk.grow hz.gr hfz h
 |cells l =>
  have hB:=Blk.grow hz.gr hfz h
  cases p with
  |unset=>exact h
  |nil=>exact ⟨by have:=h.1;simpa [Ed,Blk.len] using this,trivial⟩
  |«at» L =>
   obtain ⟨g1,arr,elem,lo,hi,p1,p2,p3,p4,p5,p6⟩:=h
   refine ⟨trivial,arr,elem,lo,hi,p1,p2,by simpa [Ed,Blk.len] using p3,hfz L rfl,p5,fun i s hs=>?_⟩
   simp only [Ed,Blk.get?,List.getElem?_map,Option.map_eq_some_iff] at hs
   obtain ⟨s0,h0,rfl⟩:=hs
   obtain ⟨v,q1,q2⟩:=p6 i s0 h0
   exact ⟨v,q1,Sc.frz_R hz hg q2 fun p hp=>hC p (List.mem_flatMap.2 ⟨s0,List.mem_of_getElem? h0,hp⟩)⟩
end
theorem Sub.still {s s':St} (b:Nat) (k:Blk) (hM:am b s.2=some k) (hC:za k.roC (s.occ b)) (hs:s.frz b k=s'):Sub U s U s':=by
 subst hs
 obtain ⟨fr,M⟩:=s
 have hcond:=sY hC
 rintro E n' a w ⟨E1,hg,σ,h1,h2,h3,h4⟩
 have hB:=h1.toMemR.blk b _ hM
 have hgood:k.good:=rH h1.toMemR hM
 have less:∀ c k',am c (fm b M)=some k'→c≠b∧am c M=some k':=by
  intro c k' hc
  rw [ee] at hc
  split at hc
  ·cases hc
  ·rename_i e;exact ⟨e,hc⟩
 have fin:∀ E2,FrzE E1 E2 σ w b k→E2.kp=E1.kp→(∀ c k' L',c≠b→am c M=some k'→σ c=.at L'→¬ E2.fz L'.g)→(∀ g,E2.fz g→w.heap[g]?=E2.w0.heap[g]?)→E2.w0.heap.size≤w.heap.size→(∀ g,E2.fz g→g<E2.w0.heap.size) →
   w.os=E2.w0.os→w.tape=E2.w0.tape→w.output=E2.w0.output→oz E n' U (St.frz b k (fr,M)) a w:=by
  intro E2 hz hkp hout o1 o2 o3 o4 o5 o6
  refine ⟨E2,hg.trans hz.gr,σ,?_,h2,h3,h4⟩
  refine { val:=fun t v hv=>?_,defers:=h1.defers,tmps:=h1.tmps,blk:=fun c x hc=>?_,inj:=fun c d x y L L' hc hd=>?_,old:=o1,size:=o2,olds:=o3,os:=o4,tape:=o5,output:=o6 }
  ·obtain ⟨u,q1,rfl⟩:=kO hv
   obtain ⟨V,q2,q3⟩:=h1.val _ _ q1
   exact ⟨V,q2,AV.frz_R hz hgood q3 fun p hp=>hcond p (List.mem_append_left _ (List.mem_flatMap.2 ⟨(t,u),iF q1,hp⟩))⟩
  ·obtain ⟨u,q1,rfl⟩:=kO hc
   obtain ⟨hne,hc'⟩:=less c u q1
   refine IC hz hgood (fun l hl=>hout c u l hne hc' hl) (h1.toMemR.blk c u hc') fun p hp=>hcond p (List.mem_append_right _ (List.mem_flatMap.2 ⟨(c,u),iF q1,hp⟩))
  ·obtain ⟨u,q1,_⟩:=kO hc
   obtain ⟨u',q2,_⟩:=kO hd
   exact h1.inj c d u u' L L' (less c u q1).2 (less d u' q2).2
 cases hL:σ b with
 |unset=>rw [hL] at hB;exact hB.elim
 |nil =>
  rw [hL] at hB
  refine fin E1 ⟨.refl _,fun off len cap V h hle=>?_⟩ rfl (fun c k' L' _ hc hl=>?_) h1.old h1.size h1.olds h1.os h1.tape h1.output
  ·rcases h with ⟨q1,_,A,rfl⟩|⟨L,c,q1,_⟩
   ·subst q1
    exact ⟨A,0,rfl,Nat.le_refl _,fun h=>absurd h (Nat.lt_irrefl _)⟩
   ·rw [hL] at q1;cases q1
  ·have:=h1.toMemR.blk c k' hc
   rw [hl] at this
   obtain ⟨_,_,_,_,_,_,_,_,q4,_⟩:=this
   exact q4
 |«at» L =>
  rw [hL] at hB
  obtain ⟨g1,arr,elem,lo,hi,p1,p2,p3,p4,p5,p6⟩:=hB
  have hinj:∀ c k' L',c≠b→am c M=some k'→σ c=.at L'→L'.g≠L.g:=fun c k' L' hne hc hL' he=>hne (h1.inj c b k' _ L' L hc hM hL' hL he)
  let E2:Env:={ P:=E1.P,w0:=w,old:=fun g=>E1.old g∨g=L.g,fz:=fun g=>E1.fz g∨g=L.g,sub:=fun g h=>h.elim (fun h=>.inl (E1.sub g h)) .inr,kp:=E1.kp }
  have gr:Grow E1 E2 :=
   {P:=rfl,old:=fun g h=>.inl h,fz:=fun g h=>.inl h,w0:=fun g h=>h1.old g h
    new:=fun g h=>by
     rcases h with h|h
     ·exact .inl h
     ·subst h;exact .inr p4
    size:=h1.size,os:=h1.os,tape:=h1.tape,output:=h1.output }
  refine fin E2 ⟨gr,fun off len cap V h hle=>?_⟩ rfl (fun c k' L' hne hc hl hz=>?_) (fun _ _=>rfl) (Nat.le_refl _) (fun g hg=>?_) rfl rfl rfl
  ·rcases h with ⟨q1,_,A,rfl⟩|⟨L',c,q1,rfl,q2,q3,_⟩
   ·subst q1
    exact ⟨A,0,rfl,Nat.le_refl _,fun h=>absurd h (Nat.lt_irrefl _)⟩
   ·rw [hL] at q1
    injection q1 with q1
    subst q1
    refine ⟨_,c,rfl,q2,fun _=>⟨_,rfl,.inr rfl,fun j hj=>?_⟩⟩
    obtain ⟨s,hs⟩:=Blk.get_some g1 (show off+j<k.len by omega)
    obtain ⟨v,e5,e6⟩:=p6 (off+j) _ hs
    refine ⟨s,v,hs,?_,e6⟩
    rw [cv]
    show w.cell? _=_
    have hlt:L.β+off+j<L.sz:=by omega
    have:=p5.1 (L.β+off+j) hlt
    simp [World.cell?,p1,this]
    rw [Nat.add_assoc]
    exact e5
  ·rcases hz with hz|hz
   ·have hB':=h1.toMemR.blk c k' hc
    rw [hl] at hB'
    obtain ⟨_,_,_,_,_,_,_,_,q4,_⟩:=hB'
    exact q4 hz
   ·exact hinj c k' L' hne hc hl hz
  ·rcases hg with hg|hg
   ·exact Nat.lt_of_lt_of_le (h1.olds g hg) h1.size
   ·subst hg;exact qF p1
end Go.Vm
namespace Go.Vm
open Go
theorem Known.ext {P:Program} {G:eN} {f:FuncId} {fn:Func} {e:Array Value→Sem Value} {spec:List AV→List Blk→Option (Prop × Ret)} (hf:P.funcs[f]?=some fn) (hname:(fn.name== "runtime.NumGoroutine")=false)
  (hb:fn.body.isNone=true) (hn:Extern.findNext fn=none) (he:Extern.find fn=some e)
  (h:∀ (E:Env) (σ:Sig) (args:List AV) (Vs:Array Value) (C:Prop) (r:Ret) (w:World),spec args []=some (C,r)→C→eB (AVR E σ) args Vs.toList→r.bs=[]∧∃ V,(e Vs).run P w=.ok V w∧AVR E σ r.v V):Known P G f ⟨0,0,spec⟩:=by
 refine ⟨Nat.zero_le _,?_⟩
 intro E w args ks Vs C r hP hG hks hkp hM hargs hsp hC
 cases ks with
 |cons _ _=>cases hks
 |nil =>
  obtain ⟨h1,V,h2,h3⟩:=h E E.kp args Vs C r w hsp hC hargs
  refine .inr ⟨V,w,?_,E,E.kp,.refl E,fun _ hj=>absurd hj (by simp),h3,?_⟩
  ·rw [run_callFunc_extern hf hname hb hn he,h2];rfl
  ·rw [h1];exact hM
theorem al (x y:ByteArray):aC x y=(x.data.toList==y.data.toList):=by
 unfold aC
 rw [Lib.toList_data,Lib.toList_data]
theorem ew {x y:ByteArray} (h:aC x y=true):x=y:=by
 rw [al,beq_iff_eq] at h
 obtain ⟨⟨l⟩⟩:=x
 obtain ⟨⟨m⟩⟩:=y
 have:l=m:=h
 rw [this]
theorem cF (xs:List Int):(bytesOf xs).size=xs.length:=by simp [bytesOf,ByteArray.size]
end Go.Vm
namespace Go.Vm
open Go
theorem MemR.below {E:Env} {σ:Sig} {M:Mem} {w w':World} (h:MemR E σ M w) (b:Go.RowKit.Below w.heap.size w w'):MemR E σ M w' where
 blk c k hc:=(h.blk c k hc).same fun L hL=>b.block _ (by have:=h.blk c k hc;rw [hL] at this;exact this.lt)
 inj:=h.inj
 old g hg:=(b.block g (Nat.lt_of_lt_of_le (h.olds g hg) h.size)).trans (h.old g hg)
 size:=Nat.le_trans h.size b.size
 olds:=h.olds
 os:=b.os.trans h.os
 tape:=b.tape.trans h.tape
 output:=b.output.trans h.output
def lL (xs:List ByteArray) (sep:ByteArray):ByteArray:=⟨(Lib.join (xs.map (·.data.toList)) sep.data.toList).toArray⟩
def kB:List ByteArray→Nat
 |[]=>0
 |x :: r=>x.size+kB r
def ql:List AV→List Blk→Option (Prop × Ret)
 |[.sc (.ros xs),.sc (.s sep)],[]=>some (xs.length≤1000000000∧(lL xs sep).size≤1000000000,⟨.sc (.s (lL xs sep)),[]⟩)
 |_,_=>none
theorem Af {w:World} {a:Addr} {v:Value} (h:w.cell? a=some v):a=⟨a.block,a.off,none⟩:=by
 obtain ⟨b,o,s⟩:=a
 unfold World.cell? at h
 cases s with
 |none=>rfl
 |some s =>
  exfalso
  revert h
  split <;> simp
theorem yX {P:Program} {G:eN} {f:FuncId} (hf:mQ P f=true) (h0:∀ (a:Option Addr) (c:Nat) (sep:ByteArray) (w:World),Calls P f #[.slice a 0 c,.string sep] w fun e w'=>e=.returned (.string ⟨#[]⟩)∧w'=w)
  (h1:∀ (bk o c:Nat) (xs:List ByteArray) (sep:ByteArray) (w:World) (hcells:∀ (j:Nat) x,xs[j]?=some x→w.cell? ⟨bk,o+j,none⟩=some (.string x)) (hbk:bk<w.heap.size) (hN:xs.length≤140737488355328) (hcap:xs.length≤c)
   (hlen:(Lib.join (xs.map (·.data.toList)) sep.data.toList).length≤140737488355328),
   Calls P f #[.slice (some ⟨bk,o,none⟩) xs.length c,.string sep] w fun e w'=>e=.returned (.string ⟨(Lib.join (xs.map (·.data.toList)) sep.data.toList).toArray⟩)∧Go.RowKit.Below w.heap.size w w'):Known P G f ⟨0,0,ql⟩:=by
 refine ⟨Nat.zero_le _,?_⟩
 intro E w args ks Vs C r hP hG hks hkp hM hargs hsp hC
 simp only at hsp
 unfold ql at hsp
 split at hsp
 ·rename_i xs sep
  cases hsp
  have hVs:∃ V,Vs=#[V,.string sep]∧ScR E E.kp (.ros xs) V:=by
   obtain ⟨l⟩:=Vs
   match l,hargs with
   |[a,b],⟨h1,h2,_⟩ =>
    have e2:b=.string sep:=h2
    subst e2
    exact ⟨a,rfl,h1⟩
  obtain ⟨V,rfl,A,c,rfl,hle,hA⟩:=hVs
  refine .inl ⟨hf,?_⟩
  cases xs with
  |nil =>
   refine (h0 A c sep w).mono fun e w' ⟨he,hw⟩=>?_
   subst hw
   exact ⟨_,he,E,E.kp,.refl E,fun _ hj=>absurd hj (Nat.not_lt_zero _),rfl,hM⟩
  |cons x xs =>
   obtain ⟨ad,rfl,ho,hc⟩:=hA (by simp)
   have hcw:∀ j,j<(x :: xs).length→w.cell? (ad.add j)=some (.string ((x :: xs).getD j ⟨#[]⟩)):=by
    intro j hj
    rw [hM.oldCell (by rw [fG];exact ho)]
    exact hc j hj
   have hsp:=Af (a:=ad) (v:=.string x) (hcw 0 (by simp))
   have hlt:ad.block<w.heap.size:=Nat.lt_of_lt_of_le (hM.olds _ (E.sub _ ho)) hM.size
   rw [hsp]
   refine (h1 ad.block ad.off c (x :: xs) sep w ?_ hlt (by have:=hC.1;omega) hle (by have:=hC.2;unfold lL at this;have e:(ByteArray.mk (Lib.join ((x :: xs).map (·.data.toList)) sep.data.toList).toArray).size=(Lib.join ((x :: xs).map (·.data.toList)) sep.data.toList).length:=rfl;rw [e] at this;omega)).mono fun e w' ⟨he,hb⟩=>?_
   ·intro j y hy
    have hj:=(List.getElem?_eq_some_iff.1 hy).1
    have:=hcw j hj
    rw [hsp,cv] at this
    rw [this,List.getD_eq_getElem?_getD,hy]
    rfl
   ·exact ⟨_,he,E,E.kp,.refl E,fun _ hj=>absurd hj (Nat.not_lt_zero _),rfl,hM.below hb⟩
 ·cases hsp
end Go.Vm
namespace Go.Vm
open Go
theorem put_get {a:Act} {t:Nat} {V:Value} (h:t<a.tmps.size):(a.put (some t) V).tmps[t]?=some V:=by
 simp only [Act.put]
 rw [Array.getElem?_setIfInBounds_self]
 simp [h]
theorem JA {a:Act} {t u:Nat} {V:Value} (h:t≠u):(a.put (some t) V).tmps[u]?=a.tmps[u]?:=by
 simp only [Act.put]
 rw [Array.getElem?_setIfInBounds_ne h]
theorem FrR.put0 {E:Env} {σ:Sig} {fr:Fr} {a:Act} {t:Nat} {V:Value} (h:FrR E σ fr a) (ht:am t fr=none):FrR E σ fr (a.put (some t) V):=by
 refine ⟨fun u v hu=>?_,h.defers⟩
 obtain ⟨W,h1,h2⟩:=h.val u v hu
 refine ⟨W,?_,h2⟩
 rw [JA (fun e=>by subst e;rw [ht] at hu;cases hu)]
 exact h1
def ptr (g:Nat):Value:=.pointer (some ⟨g,0,none⟩)
def ItS (t33 g:Nat) (s:St):St:=(fk t33 (.sc (.raw (ptr g))) s.1,s.2)
def tO (E:Env) (n U:Nat) (s:St) (a:Act) (w:World) (g:Nat) (x:ByteArray) (pos:Nat):Prop:=∃ E',Grow E E'∧zp E' E.kp n U s a w∧w.heap[g]?=some (.stringIter x pos)∧¬ E'.fz g
theorem BS {E:Env} {σ:Sig} {M:Mem} {w:World} {g:Nat} {x:ByteArray} {pos:Nat} (h:MemR E σ M w) (hg:w.heap[g]?=some (.stringIter x pos)) {b:Nat} {k:Blk} {L:Loc} (hb:am b M=some k) (hL:σ b=.at L):L.g≠g:=by
 intro e
 have hB:=h.blk b k hb
 rw [hL] at hB
 obtain ⟨_,arr,elem,lo,hi,q1,_⟩:=hB
 rw [e,hg] at q1
 cases q1
theorem tO.hold {E:Env} {n U:Nat} {s:St} {a:Act} {w:World} {g:Nat} {x:ByteArray} {pos:Nat} (h:tO E n U s a w g x pos) :
  ∃ E1,Grow E E1∧E1.kp=E.kp∧oz E1 n U s a w∧E1.fz g∧¬ E1.old g∧E1.w0.heap[g]?=some (.stringIter x pos)∧¬ E.fz g:=by
 obtain ⟨E',hg,⟨σ,h1,h2,h3,h4⟩,h5,h6⟩:=h
 have hgo:¬ E'.old g:=fun h=>h6 (E'.sub g h)
 have hgE:¬ E.fz g:=fun h=>h6 (hg.fz g h)
 let E1:Env:={ P:=E'.P,w0:=w,old:=E'.old,fz:=fun k=>E'.fz k∨k=g,sub:=fun k h=>.inl (E'.sub k h),kp:=E.kp }
 have gr:Grow E' E1 :=
  {P:=rfl,old:=fun _ h=>h,fz:=fun _ h=>.inl h,w0:=fun k h=>h1.old k h,new:=fun _ h=>.inl h,size:=h1.size,os:=h1.os,tape:=h1.tape,output:=h1.output }
 refine ⟨E1,hg.trans gr,rfl,⟨E1,.refl E1,σ,?_,h2,h3,h4⟩,.inr rfl,hgo,h5,hgE⟩
 refine { toFrR:=h1.toFrR.grow gr,tmps:=h1.tmps,blk:=fun b k hb=>?_,inj:=h1.inj,old:=fun _ _=>rfl,size:=Nat.le_refl _,olds:=fun k hk=>?_,os:=rfl,tape:=rfl,output:=rfl }
 ·refine Blk.grow gr (fun l hl hz=>?_) (h1.blk b k hb)
  rcases hz with hz|hz
  ·have hB:=h1.blk b k hb
   rw [hl] at hB
   obtain ⟨_,_,_,_,_,_,_,_,q4,_⟩:=hB
   exact q4 hz
  ·exact BS h1.toMemR h5 hb hl hz
 ·rcases hk with hk|hk
  ·exact Nat.lt_of_lt_of_le (h1.olds k hk) h1.size
  ·subst hk;exact (Array.getElem?_eq_some_iff.1 h5).1
theorem tO.back {E E1:Env} {n U:Nat} {s:St} {a:Act} {w:World} {g:Nat} {x:ByteArray} {pos:Nat} (hg:Grow E E1) (hk:E1.kp=E.kp) (hz:E1.fz g) (ho:¬ E1.old g) (hw:E1.w0.heap[g]?=some (.stringIter x pos)) (hE:¬ E.fz g)
  (h:oz E1 n U s a w):tO E n U s a w g x pos:=by
 obtain ⟨E2,hg2,σ,h1,h2,h3,h4⟩:=h
 have ho2:¬ E2.old g:=fun h=>(hg2.new g h).elim ho (fun q=>q hz)
 have gr:=hg.trans hg2
 let E3:Env:={ P:=E2.P,w0:=E2.w0,old:=E2.old,fz:=fun k=>E2.fz k∧k≠g,sub:=fun k h=>⟨E2.sub k h,fun e=>by subst e;exact ho2 h⟩,kp:=E2.kp }
 have gr3:Grow E E3 :=
  {P:=gr.P,old:=gr.old,fz:=fun k h=>⟨gr.fz k h,fun e=>by subst e;exact hE h⟩,w0:=gr.w0,new:=gr.new,size:=gr.size,os:=gr.os,tape:=gr.tape,output:=gr.output }
 refine ⟨E3,gr3,⟨σ,?_,h2,by rw [← hk];exact h3,h4⟩,?_,fun h=>h.2 rfl⟩
 ·refine { val:=fun t v hv=>?_,defers:=h1.defers,tmps:=h1.tmps,blk:=fun b k hb=>?_,inj:=h1.inj,old:=fun k hk=>h1.old k hk.1,size:=h1.size,olds:=fun k hk=>h1.olds k hk.1,os:=h1.os,tape:=h1.tape,output:=h1.output }
  ·obtain ⟨V,q1,q2⟩:=h1.val t v hv
   exact ⟨V,q1,AV.env (pl:=false) (fun _ _ h=>h) rfl (fun q=>by cases q) q2⟩
  ·exact Blk.env (E0:=E2) (E':=E3) (pl:=false) (fun _ _ h=>h) rfl (fun k hk h=>hk h.1) (fun q=>by cases q) (h1.blk b k hb)
 ·rw [h1.old g (hg2.fz g hz),hg2.w0 g hz,hw]
theorem tO.frame {E:Env} {n U:Nat} {s s':St} {a a':Act} {w:World} {g:Nat} {x:ByteArray} {pos:Nat} (h:tO E n U s a w g x pos) (hM:s'.2=s.2) (hn:a'.tmps.size=a.tmps.size) (hf:∀ E' σ,FrR E' σ s.1 a→FrR E' σ s'.1 a'):tO E n U s' a' w g x pos:=by
 obtain ⟨E',hg,⟨σ,h1,h2,h3,h4⟩,h5,h6⟩:=h
 exact ⟨E',hg,⟨σ,{ toFrR:=hf _ _ h1.toFrR,tmps:=hn.trans h1.tmps,toMemR:=by rw [hM];exact h1.toMemR },h2,h3,h4⟩,h5,h6⟩
theorem tO.val {E:Env} {n U:Nat} {s:St} {a:Act} {w:World} {g:Nat} {x:ByteArray} {pos:Nat} (h:tO E n U s a w g x pos) {t:Nat} {v:Value} (ht:am t s.1=some (.sc (.raw v))):a.tmps[t]?=some v:=by
 obtain ⟨E',_,⟨σ,h1,_⟩,_⟩:=h
 obtain ⟨V,q1,q2⟩:=h1.val _ _ ht
 rw [q1,show V=v from q2.1]
theorem tO.size {E:Env} {n U:Nat} {s:St} {a:Act} {w:World} {g:Nat} {x:ByteArray} {pos:Nat} (h:tO E n U s a w g x pos):a.tmps.size=n:=by
 obtain ⟨E',_,⟨σ,h1,_⟩,_⟩:=h
 exact h1.tmps
variable {B:Bs} {E:Env} {U:Nat} {s:St} {Q:ep}
def Ke (U0 t33 g:Nat) (s0:St) (J:Prop) (Q:ep):ep
 |.normal,U,s=>J∧Sub U s U0 (ItS t33 g s0)
 |e,U,s=>Q e U s
end Go.Vm
namespace Go.Vm
open Go
variable {B:Bs} {E:Env} {U:Nat} {s:St} {Q:ep}
def subP (Q:ep):ep:=fun e U s=>∃ U' s',Sub U s U' s'∧Q e U' s'
theorem Tri.subP {c:Code} (h:Tri B E c U s (subP Q)):Tri B E c U s Q:=by
 intro hB a w g
 refine wp_mono (h hB a w g) ?_
 rintro e a' w' ⟨U',s',h1,U'',s'',h2,h3⟩
 exact ⟨U'',s'',h2 _ _ _ _ h1,h3⟩
theorem BE {e:Exit} (h:Q e U s):Vm.subP Q e U s:=⟨U,s,.refl U s,h⟩
theorem oo.nret {P:Program} {rs:List ResultVar} {m:Nat} {r:Ret} (ns:Ren) (C:Prop) (h1:(dc ns r.bs.length && ib ns m)=true) (h3:kh P rs ns r.bs.length s=some (C,r)) (h4:C):oo P rs m r .normal U s:=⟨ns,C,h1,h3,h4⟩
end Go.Vm
namespace Go.Vm
open Go
structure PP where
 P:Prop
 h:P
def pT:PP:=⟨True,trivial⟩
def pz:PP:=⟨TT,tt⟩
def pa (a b:PP):PP:=⟨a.P∧b.P,a.h,b.h⟩
def pl {P:Prop} (h:P):PP:=⟨P,h⟩
def lo (P:Prop) (h:P:=by first|omega|(rw [eJ];omega)|exact eP _ _|exact eR _ _|exact bV (by omega) (by first|omega|(simp only [List.length_append];omega))|(rw [cR (by omega) (by omega)];omega)|decide):PP:=⟨P,h⟩
def li (P:Prop) (h:P:=by first|omega|(unfold ag;rw [bm (by omega) (by omega)];omega)|exact eP _ _|exact eR _ _):PP:=⟨P,h⟩
def ld (P:Prop) (h:P:=by decide):PP:=⟨P,h⟩
def v1 (r:PP):PP:=pa pz r
def v2 (r:PP):PP:=v1 (v1 r)
def v3 (r:PP):PP:=v1 (v2 r)
def v4 (r:PP):PP:=v1 (v3 r)
def v5 (r:PP):PP:=v1 (v4 r)
def v6 (r:PP):PP:=v1 (v5 r)
def v7 (r:PP):PP:=v1 (v6 r)
def v8 (r:PP):PP:=v1 (v7 r)
def v9 (r:PP):PP:=v1 (v8 r)
def pg {P:Prop} (h:P) (r:PP):PP:=pa (pa pT (pl h)) r
def pu (a r:PP):PP:=pa (pa a pT) r
def pv (a b r:PP):PP:=pa (pa a b) r
variable {B:Bs} {E:Env} {U:Nat} {s:St} {Q:ep}
theorem sq {id:Nat} {ops:Array Oper} {draw:Bool} {d:Code} (hints:List (Nat × AV)) (ms:Option (List Nat)) (kf km:List Nat) (s':St) (U':Nat) (p:PP) (hq:Tri B E d U' s' Q)
  (h:oP B hints U ops ms kf km s=some (p.P,s'):=by kernel_rfl) (hd:ms.isSome=draw:=by rfl) (hU:Nat.ble (U+16*ops.size) U'=true:=by kernel_rfl):Tri B E (.seq (.region id ops draw) d) U s Q :=
 Tri.seq_region hints ms kf km p.P s' U' h hd hU p.h hq
theorem rq {id:Nat} {ops:Array Oper} {draw:Bool} (hints:List (Nat × AV)) (ms:Option (List Nat)) (kf km:List Nat) (s':St) (U':Nat) (p:PP) (hq:Q .normal U' s')
  (h:oP B hints U ops ms kf km s=some (p.P,s'):=by kernel_rfl) (hd:ms.isSome=draw:=by rfl) (hU:Nat.ble (U+16*ops.size) U'=true:=by kernel_rfl):Tri B E (.region id ops draw) U s Q :=
 Tri.region' hints ms kf km p.P s' U' h hd hU p.h hq
theorem sj {c:Code} (x:Bool) (m:Bool→St) (Um:Nat) (ht:x=true→Tri B E c U s (lr Um (m true) Q)) (hf:x=false→Tri B E c U s (lr Um (m false) Q)) (hq:Q .normal Um (m x)):Tri B E c U s Q:=by
 have key:∀ (y:Bool),x=y→Tri B E c U s (lr Um (m y) Q)→Tri B E c U s Q:=by
  intro y hy h hB a w g
  subst hy
  refine wp_mono (h hB a w g) ?_
  rintro ex a' w' ⟨U',s',h1,h2⟩
  cases ex with
  |normal=>exact ⟨Um,m x,h2 _ _ _ _ h1,hq⟩
  |exit id=>exact ⟨U',s',h1,h2⟩
  |goto l=>exact ⟨U',s',h1,h2⟩
  |ret=>exact ⟨U',s',h1,h2⟩
  |panic ch=>exact ⟨U',s',h1,h2⟩
  |outgrown=>exact ⟨U',s',h1,h2⟩
 cases hx:x
 ·exact key false hx (hf hx)
 ·exact key true hx (ht hx)
def uJ (B:Bs) (E:Env) (c:Code) (Q:ep):Nat→ep
 |0,.normal,_,_=>False
 |n+1,.normal,U,s=>Tri B E c U s (uJ B E c Q n)
 |_,e,U,s=>Q e U s
theorem BG {c:Code}:∀ (n:Nat) {U:Nat} {s:St},Tri B E c U s (uJ B E c Q n)→Fit B E→∀ a w,oz E B.n U s a w→Code.rounds B.P c (fun e a' w'=>∃ U' s',oz E B.n U' s' a' w'∧Q e U' s') (n+1) a w:=by
 intro n
 induction n with
 |zero =>
  intro U s h hB a w g
  refine wp_mono (h hB a w g) ?_
  rintro e a' w' ⟨U',s',h1,h2⟩
  cases e with
  |normal=>exact h2.elim
  |exit id=>exact ⟨U',s',h1,h2⟩
  |goto l=>exact ⟨U',s',h1,h2⟩
  |ret=>exact ⟨U',s',h1,h2⟩
  |panic ch=>exact ⟨U',s',h1,h2⟩
  |outgrown=>exact ⟨U',s',h1,h2⟩
 |succ n ih =>
  intro U s h hB a w g
  refine wp_mono (h hB a w g) ?_
  rintro e a' w' ⟨U',s',h1,h2⟩
  cases e with
  |normal=>exact ih h2 hB a' w' h1
  |exit id=>exact ⟨U',s',h1,h2⟩
  |goto l=>exact ⟨U',s',h1,h2⟩
  |ret=>exact ⟨U',s',h1,h2⟩
  |panic ch=>exact ⟨U',s',h1,h2⟩
  |outgrown=>exact ⟨U',s',h1,h2⟩
theorem Tri.rounds {c:Code} (n:Nat) (h:Tri B E c U s (uJ B E c Q n)):Tri B E (.loop c) U s Q :=
 fun hB a w g=>wp_loop_rounds (n+1) (BG n h hB a w g)
class Ends (Q:ep) (Q':outParam ep):Prop where
 h:∀ U s,Q' .ret U s→Q .ret U s
instance {P:Program} {rs:List ResultVar} {m:Nat} {r:Ret}:Ends (oo P rs m r) (oo P rs m r):=⟨fun _ _ h=>h⟩
instance {c:Code} {Q':ep} [Ends Q Q']:Ends (Ea B E c Q) Q':=⟨fun U s h=>Ends.h (Q:=Q) U s h⟩
instance {id:Nat} {Q':ep} [Ends Q Q']:Ends (DS id Q) Q':=⟨fun U s h=>Ends.h (Q:=Q) U s h⟩
instance {U0 n k:Nat} {st':St} {J':Prop} {Q':ep} [Ends Q Q']:Ends (sE U0 n k st' J' Q) Q':=⟨fun U s h=>Ends.h (Q:=Q) U s h⟩
instance {Um:Nat} {m:St} {Q':ep} [Ends Q Q']:Ends (lr Um m Q) Q':=⟨fun U s h=>Ends.h (Q:=Q) U s h⟩
instance {U0 t33 g:Nat} {s0:St} {J:Prop} {Q':ep} [Ends Q Q']:Ends (Ke U0 t33 g s0 J Q) Q':=⟨fun U s h=>Ends.h (Q:=Q) U s h⟩
instance {c:Code} {n:Nat} {Q':ep} [Ends Q Q']:Ends (uJ B E c Q n) Q':=⟨fun U s h=>by cases n <;> exact Ends.h (Q:=Q) U s h⟩
instance {Q':ep} [Ends Q Q']:Ends (subP Q) Q':=⟨fun U s h=>BE (Ends.h (Q:=Q) U s h)⟩
theorem rt {Q':ep} [Ends Q Q'] (h:Q' .ret U s):Q .ret U s:=Ends.h (Q:=Q) U s h
theorem er {P:Program} {rs:List ResultVar} {m:Nat} {r:Ret} (ns:Ren) (p:PP) (h1:(dc ns r.bs.length && ib ns m)=true:=by kernel_rfl) (h3:kh P rs ns r.bs.length s=some (p.P,r):=by kernel_rfl):oo P rs m r .ret U s:=oo.ret ns p.P h1 h3 p.h
theorem en {P:Program} {rs:List ResultVar} {m:Nat} {r:Ret} (ns:Ren) (p:PP) (h1:(dc ns r.bs.length && ib ns m)=true:=by kernel_rfl) (h3:kh P rs ns r.bs.length s=some (p.P,r):=by kernel_rfl):oo P rs m r .normal U s:=oo.nret ns p.P h1 h3 p.h
end Go.Vm
namespace Go.Vm
open Go
def rmv {α:Type} (Zs:List Nat):List (Nat × α)→List (Nat × α)
 |[]=>[]
 |(m,v) :: r=>bif Zs.any (Nat.beq m) then rmv Zs r else (m,v) :: rmv Zs r
def upF {α:Type} (ch:List (Nat × α)):List (Nat × α)→List (Nat × α)
 |[]=>[]
 |(m,v) :: r=>(match am m ch with|some w=>(m,w)|none=>(m,v)) :: upF ch r
def Nx (d:Fr) (r:List Nat) (m:Mem) (mr:List Nat) (s:St):St:=(d++rmv r s.1,m++rmv mr s.2)
def Up (d:Fr) (m:Mem) (s:St):St:=(upF d s.1,upF m s.2)
def kF (s:St):List Nat:=s.1.map (·.1)
def kM (s:St):List Nat:=s.2.map (·.1)
def rnM (o:Ren) (s:St):Ren:=s.2.map fun p=>((match am p.1 o with|some b=>b|none=>p.1),p.1)
def Ei (t:Nat) (x:Int):Nat × AV:=(t,.sc (.i .i64 x))
def Ej (t x:Nat):Nat × AV:=(t,.sc (.i .i64 (x:Int)))
def Ek (t:Nat) (k:IntKind) (x:Int):Nat × AV:=(t,.sc (.i k x))
def Ep (t b:Nat):Nat × AV:=(t,.sc (.p b 0))
def Eb (t:Nat) (x:Bool):Nat × AV:=(t,.sc (.b x))
def Es (t:Nat) (x:ByteArray):Nat × AV:=(t,.sc (.s x))
def El (t b n:Nat):Nat × AV:=(t,.sc (.sl b 0 n 1 none))
def Er (t:Nat) (x:List Int):Nat × AV:=(t,.sc (.ro .u8 x))
def Mi (b n:Nat) (x:List Int):Nat × Blk:=(b,.ints .u8 n x)
def Mk (b:Nat) (k:IntKind) (n:Nat) (x:List Int):Nat × Blk:=(b,.ints k n x)
def Mc (b:Nat) (l:List Sc):Nat × Blk:=(b,.cells l)
section
variable {B:Bs} {E:Env} {U:Nat} {s:St} {Q:ep}
theorem Xu {id:Nat} {ops:Array Oper} {draw:Bool} {c:Code} (H:List (Nat × AV)) (ms:Option (List Nat)) (d:Fr) (r:List Nat) (m:Mem) (mr:List Nat) (U':Nat) (p:PP) (hq:Tri B E c U' (Nx d r m mr s) Q)
  (h:oP B H U ops ms (kF (Nx d r m mr s)) (kM (Nx d r m mr s)) s=some (p.P,Nx d r m mr s):=by kernel_rfl) (hd:ms.isSome=draw:=by rfl) (hU:Nat.ble (U+16*ops.size) U'=true:=by kernel_rfl):Tri B E (.seq (.region id ops draw) c) U s Q :=
 sq H ms _ _ _ U' p hq h hd hU
theorem Xt {id:Nat} {ops:Array Oper} {c:Code} (d:Fr) (r:List Nat) (m:Mem) (mr:List Nat) (U':Nat) (p:PP) (hq:Tri B E c U' (Nx d r m mr s) Q)
  (h:oP B [] U ops none (kF (Nx d r m mr s)) (kM (Nx d r m mr s)) s=some (p.P,Nx d r m mr s):=by kernel_rfl) (hU:Nat.ble (U+16*ops.size) U'=true:=by kernel_rfl):Tri B E (.seq (.region id ops false) c) U s Q :=
 sq [] none _ _ _ U' p hq h rfl hU
theorem Xs {id:Nat} {ops:Array Oper} {c:Code} (d:Fr) (r:List Nat) (U':Nat) (p:PP) (hq:Tri B E c U' (Nx d r [] [] s) Q)
  (h:oP B [] U ops none (kF (Nx d r [] [] s)) (kM (Nx d r [] [] s)) s=some (p.P,Nx d r [] [] s):=by kernel_rfl) (hU:Nat.ble (U+16*ops.size) U'=true:=by kernel_rfl):Tri B E (.seq (.region id ops false) c) U s Q :=
 sq [] none _ _ _ U' p hq h rfl hU
theorem Wu {id:Nat} {ops:Array Oper} {draw:Bool} (H:List (Nat × AV)) (ms:Option (List Nat)) (d:Fr) (r:List Nat) (m:Mem) (mr:List Nat) (U':Nat) (p:PP) (hq:Q .normal U' (Nx d r m mr s))
  (h:oP B H U ops ms (kF (Nx d r m mr s)) (kM (Nx d r m mr s)) s=some (p.P,Nx d r m mr s):=by kernel_rfl) (hd:ms.isSome=draw:=by rfl) (hU:Nat.ble (U+16*ops.size) U'=true:=by kernel_rfl):Tri B E (.region id ops draw) U s Q :=
 rq H ms _ _ _ U' p hq h hd hU
theorem Wt {id:Nat} {ops:Array Oper} (d:Fr) (r:List Nat) (m:Mem) (mr:List Nat) (U':Nat) (p:PP) (hq:Q .normal U' (Nx d r m mr s))
  (h:oP B [] U ops none (kF (Nx d r m mr s)) (kM (Nx d r m mr s)) s=some (p.P,Nx d r m mr s):=by kernel_rfl) (hU:Nat.ble (U+16*ops.size) U'=true:=by kernel_rfl):Tri B E (.region id ops false) U s Q :=
 rq [] none _ _ _ U' p hq h rfl hU
theorem Ws {id:Nat} {ops:Array Oper} (d:Fr) (r:List Nat) (U':Nat) (p:PP) (hq:Q .normal U' (Nx d r [] [] s))
  (h:oP B [] U ops none (kF (Nx d r [] [] s)) (kM (Nx d r [] [] s)) s=some (p.P,Nx d r [] [] s):=by kernel_rfl) (hU:Nat.ble (U+16*ops.size) U'=true:=by kernel_rfl):Tri B E (.region id ops false) U s Q :=
 rq [] none _ _ _ U' p hq h rfl hU
theorem Xj {c:Operand} {x:Bool} {a e:Code} (d:Bool→Fr) (r:List Nat) (m:Bool→Mem) (mr:List Nat) (Um:Nat) (ht:x=true→Tri B E a U s (lr Um (Nx (d true) r (m true) mr s) Q)) (hf:x=false→Tri B E e U s (lr Um (Nx (d false) r (m false) mr s) Q))
  (hq:Q .normal Um (Nx (d x) r (m x) mr s)) (hc:ev B.G s.1 c=some (.sc (.b x)):=by kernel_rfl):Tri B E (.cond c a e) U s Q :=
 Tri.join (fun b=>Nx (d b) r (m b) mr s) Um hc ht hf hq
theorem Xk {c:Code} (x:Bool) (d:Bool→Fr) (r:List Nat) (m:Bool→Mem) (mr:List Nat) (Um:Nat) (ht:x=true→Tri B E c U s (lr Um (Nx (d true) r (m true) mr s) Q)) (hf:x=false→Tri B E c U s (lr Um (Nx (d false) r (m false) mr s) Q))
  (hq:Q .normal Um (Nx (d x) r (m x) mr s)):Tri B E c U s Q :=
 sj x (fun b=>Nx (d b) r (m b) mr s) Um ht hf hq
theorem Xe {U':Nat} {d0:Fr} {r:List Nat} {m0:Mem} {mr:List Nat} {s0:St} (d:Fr) (m:Mem) (hd:d=d0:=by simp only [aD,aA]) (hm:m=m0:=by simp only [aD,aA])
  (h:(dc (rnM [] (Nx d r m mr s0)) U' && ib (rnM [] (Nx d r m mr s0)) 16 && Nat.ble 16 U')=true:=by kernel_rfl) (hs:nM (rnM [] (Nx d r m mr s0)) (kF (Nx d r m mr s0)) s=some (Nx d r m mr s0):=by kernel_rfl):Sub U s U' (Nx d0 r m0 mr s0):=by
 subst hd;subst hm
 exact Sub.ren h hs
theorem Xc {α:Type} {c:Code} (n:Nat) (f:Nat→α→α) (x0:α) (J:Nat→α→Prop) (d:Nat→α→Fr) (m:Nat→α→Mem) (hJ:J 0 x0)
  (round:∀ k x,k≤n→x=itr f k x0→J k x→Tri B E c U (Up (d k x) (m k x) s) (sE U n k (Up (d (k+1) (f k x)) (m (k+1) (f k x)) s) (J (k+1) (f k x)) Q)) (h:s=Up (d 0 x0) (m 0 x0) s:=by kernel_rfl):Tri B E (.loop c) U s Q :=
 Tri.count U n f x0 J (fun k x=>Up (d k x) (m k x) s) hJ (Sub.of_eq h) round
theorem Xn {U':Nat} {d:Fr} {m:Mem} {s0:St} (o:Ren) (h:(dc (rnM o (Up d m s0)) U' && ib (rnM o (Up d m s0)) 16 && Nat.ble 16 U')=true:=by kernel_rfl) (hs:nM (rnM o (Up d m s0)) (kF (Up d m s0)) s=some (Up d m s0):=by kernel_rfl):Sub U s U' (Up d m s0) :=
 Sub.ren h hs
theorem Xm {U':Nat} {d0:Fr} {m0:Mem} {s0:St} (o:Ren) (d:Fr) (m:Mem) (hd:d=d0) (hm:m=m0)
  (h:(dc (rnM o (Up d m s0)) U' && ib (rnM o (Up d m s0)) 16 && Nat.ble 16 U')=true:=by kernel_rfl) (hs:nM (rnM o (Up d m s0)) (kF (Up d m s0)) s=some (Up d m s0):=by kernel_rfl):Sub U s U' (Up d0 m0 s0):=by
 subst hd;subst hm
 exact Sub.ren h hs
class NEnd (Q:ep) (U0 n k:outParam Nat) (st':outParam St) (J':outParam Prop):Prop where
 h:∀ U s,k<n→J'→Sub U s U0 st'→Q .normal U s
instance {U0 n k:Nat} {st':St} {J':Prop} {Q:ep}:NEnd (sE U0 n k st' J' Q) U0 n k st' J':=⟨fun _ _ h1 h2 h3=>⟨h1,h2,h3⟩⟩
instance {U0 n k id:Nat} {st':St} {J':Prop} {Q:ep} [NEnd Q U0 n k st' J']:NEnd (DS id Q) U0 n k st' J':=⟨fun U s h1 h2 h3=>NEnd.h (Q:=Q) U s h1 h2 h3⟩
theorem Xo {U0 n k:Nat} {J':Prop} {d:Fr} {m:Mem} {s0:St} [NEnd Q U0 n k (Up d m s0) J'] (o:Ren) (hJ:J') (hk:k<n:=by omega) (h:(dc (rnM o (Up d m s0)) U0 && ib (rnM o (Up d m s0)) 16 && Nat.ble 16 U0)=true:=by kernel_rfl)
  (hs:nM (rnM o (Up d m s0)) (kF (Up d m s0)) s=some (Up d m s0):=by kernel_rfl):Q .normal U s:=NEnd.h (Q:=Q) U s hk hJ (Xn o h hs)
theorem Xp {U0 n k:Nat} {J':Prop} {d0:Fr} {m0:Mem} {s0:St} [NEnd Q U0 n k (Up d0 m0 s0) J'] (hJ:J') (o:Ren) (d:Fr) (m:Mem) (hd:d=d0) (hm:m=m0) (hk:k<n:=by omega)
  (h:(dc (rnM o (Up d m s0)) U0 && ib (rnM o (Up d m s0)) 16 && Nat.ble 16 U0)=true:=by kernel_rfl) (hs:nM (rnM o (Up d m s0)) (kF (Up d m s0)) s=some (Up d m s0):=by kernel_rfl):Q .normal U s:=NEnd.h (Q:=Q) U s hk hJ (Xm o d m hd hm h hs)
theorem Xf (b:Nat) (k:Blk) (hC:za k.roC (s.occ b)) (hM:am b s.2=some k:=by kernel_rfl):Sub U s U (s.frz b k):=Sub.still b k hM hC rfl
theorem Xa {c:Operand} {x:Bool} {d e:Code} (ht:x=true→Tri B E d U s Q) (hf:x=false→Tri B E e U s Q) (hc:ev B.G s.1 c=some (.sc (.b x)):=by rfl):Tri B E (.cond c d e) U s Q:=Tri.cond hc ht hf
theorem Xb {c:Operand} {P:Prop} {i:Decidable P} {d e:Code} (ht:decide P=true→P→Tri B E d U s Q) (hf:decide P=false→¬ P→Tri B E e U s Q) (hc:ev B.G s.1 c=some (.sc (.b (decide P))):=by rfl):Tri B E (.cond c d e) U s Q :=
 Tri.cond hc (fun h=>ht h (of_decide_eq_true h)) (fun h=>hf h (of_decide_eq_false h))
end
theorem Xz {B:Bs} {E:Env} {U:Nat} {s:St} {Q:ep} {P:Program} {rs:List ResultVar} {m:Nat} {r:Ret} [Ends Q (oo P rs m r)] (ns:Ren) (p:PP) (h1:(dc ns r.bs.length && ib ns m)=true:=by kernel_rfl)
  (h3:kh P rs ns r.bs.length s=some (p.P,r):=by kernel_rfl):Tri B E .ret U s Q:=Tri.ret (rt (er ns p h1 h3))
theorem Xy {B:Bs} {E:Env} {U:Nat} {s:St} {Q:ep} {P:Program} {rs:List ResultVar} {m:Nat} {r r':Ret} [Ends Q (oo P rs m r)] (ns:Ren) (p:PP) (hr:r=r') (h1:(dc ns r'.bs.length && ib ns m)=true:=by kernel_rfl)
  (h3:kh P rs ns r'.bs.length s=some (p.P,r'):=by kernel_rfl):Tri B E .ret U s Q:=Tri.ret (rt (oo.conv hr (er ns p h1 h3)))
structure KL (P:Program) (G:eN) where
 l:Lib
 h:rB P G l
section
variable {P:Program} {G:eN}
def Zn:KL P G:=⟨[],trivial⟩
def Zc {f:FuncId} {z:Sig1} (K:Known P G f z) (nm:Nat) (ps:List Pass) (ms fs:List Nat) (r:KL P G):KL P G:=⟨⟨f,nm,ps,ms,fs,z,false⟩ :: r.l,⟨K,r.h⟩⟩
def Zs {f:FuncId} {z:Sig1} (K:Known P G f z) (nm:Nat) (ps:List Pass) (ms fs:List Nat) (r:KL P G):KL P G:=⟨⟨f,nm,ps,ms,fs,z,true⟩ :: r.l,⟨K,r.h⟩⟩
def Zv {f:FuncId} {z:Sig1} (K:Known P G f z) (nm n:Nat) (r:KL P G):KL P G:=⟨⟨f,nm,List.replicate n .val,[],[],z,false⟩ :: r.l,⟨K,r.h⟩⟩
def Zb (n:Nat) (r:KL P G):Bs:={ P:=P,G:=G,tab:=wb r.l,n:=n }
theorem Xw {f:FuncId} {z:Sig1} {c:Code} (fn:Func) (n:Nat) (r:KL P G) (hmix:P.follows .mixedOrders=true)
  (h:∀ (E:Env) (args:List AV) (ks:List Blk) (C:Prop) (r':Ret),z.spec args ks=some (C,r')→C→bI args→Nat.ble args.length n=true∧Tri (Zb n r) E c 16 ((List.range args.length).zip args,sJ 0 ks) (oo P fn.results.toList z.m r'))
  (hf:P.funcs[f]?=some fn:=by kernel_rfl) (hb:fn.body=some c:=by rfl) (hn:(fn.name != "runtime.NumGoroutine")=true:=by kernel_rfl) (hnt:fn.ntmps=n:=by kernel_rfl) (hnb:z.nb≤16:=by decide) (hm:z.m≤16:=by decide):Known P G f z :=
 Known.walk (B:=Zb n r) ⟨HR r.h,hmix⟩ hf hb hn hnt hnb hm fun E a k C r' q1 q2 q3=>⟨Nat.le_of_ble_eq_true (h E a k C r' q1 q2 q3).1,(h E a k C r' q1 q2 q3).2⟩
end
def Yi (i:Int) (n:Nat) (h:0≤i∧i<((n:Nat):Int):=by first|omega|(rw [eJ];omega)|exact eP _ _|exact eR _ _|exact bV (by omega) (by first|omega|(simp only [List.length_append];omega))|(rw [cR (by omega) (by omega)];omega)|decide):PP:=⟨0≤i∧i<((n:Nat):Int),h⟩
def Yj (i n:Nat) (h:i<n:=by first|omega|(rw [eJ];omega)|exact eP _ _|exact eR _ _|exact bV (by omega) (by first|omega|(simp only [List.length_append];omega))|(rw [cR (by omega) (by omega)];omega)|decide):PP:=⟨0≤((i:Nat):Int)∧((i:Nat):Int)<((n:Nat):Int),by omega⟩
def Yl (a b:Nat) (h:a<b:=by first|omega|(rw [eJ];omega)|exact eP _ _|exact eR _ _|exact bV (by omega) (by first|omega|(simp only [List.length_append];omega))|(rw [cR (by omega) (by omega)];omega)|decide):PP:=⟨a<b,h⟩
def Ye (a b:Nat) (h:a≤b:=by first|omega|(rw [eJ];omega)|exact eP _ _|exact eR _ _|exact bV (by omega) (by first|omega|(simp only [List.length_append];omega))|(rw [cR (by omega) (by omega)];omega)|decide):PP:=⟨a≤b,h⟩
def Yw (n:Nat):PP:=⟨0+n≤n,by omega⟩
def Yr {α:Type} (x:α):PP:=⟨x=x,rfl⟩
def Yp (a b:Nat) (h:a+b<9223372036854775808:=by omega):PP:=⟨aN .i64 (a:Int) (b:Int)=((a+b:Nat):Int),BZ h⟩
def Yt (a b:Nat) (h:a*b<9223372036854775808:=by omega):PP:=⟨bS .i64 (a:Int) (b:Int)=((a*b:Nat):Int),vF h⟩
def Yn (i:Int) (h:i≠0:=by first|omega|(rw [eJ];omega)|exact eP _ _|exact eR _ _|exact bV (by omega) (by first|omega|(simp only [List.length_append];omega))|(rw [cR (by omega) (by omega)];omega)|decide):PP:=⟨i≠0,h⟩
def Y0 (i:Int) (h:0≤i:=by first|omega|(rw [eJ];omega)|exact eP _ _|exact eR _ _|exact bV (by omega) (by first|omega|(simp only [List.length_append];omega))|(rw [cR (by omega) (by omega)];omega)|decide):PP:=⟨0≤i,h⟩
def Yz (n:Nat):PP:=pa pT ⟨n=n,rfl⟩
def Ys (a b:Nat) (h:a<b:=by first|omega|(rw [eJ];omega)|exact eP _ _|exact eR _ _|exact bV (by omega) (by first|omega|(simp only [List.length_append];omega))|(rw [cR (by omega) (by omega)];omega)|decide):PP:=pa ⟨a<b,h⟩ ⟨1=1,rfl⟩
def Yc (i:Nat):(n:Nat)→(k:Nat)→(h:Nat.ble (i+n) k=true)→PP
 |0,_,_=>pT
 |n+1,k,h=>pa (pa ⟨i<k,by have:=Nat.le_of_ble_eq_true h;omega⟩ ⟨1=1,rfl⟩) (Yc (i+1) n k (by have:=Nat.le_of_ble_eq_true h;exact Nat.ble_eq_true_of_le (by omega)))
def Yb (n:Nat):PP:=Yc 0 n n (Nat.ble_eq_true_of_le (by omega))
def Yf (n:Nat) (h:n*1≤16777216:=by decide):PP:=pa (Yb n) (pa ⟨n*1≤16777216,h⟩ ⟨1=1,rfl⟩)
def YN (C:PP) (y n k m:Nat) (h1:n*y≤140737488355328:=by first|omega|(rw [eJ];omega)|exact eP _ _|exact eR _ _|exact bV (by omega) (by first|omega|(simp only [List.length_append];omega))|(rw [cR (by omega) (by omega)];omega)|decide) (h0:n≤140737488355328:=by first|omega|(rw [eJ];omega)|exact eP _ _|exact eR _ _|exact bV (by omega) (by first|omega|(simp only [List.length_append];omega))|(rw [cR (by omega) (by omega)];omega)|decide) (h2:k=m*1:=by first|omega|(rw [eJ];omega)|exact eP _ _|exact eR _ _|exact bV (by omega) (by first|omega|(simp only [List.length_append];omega))|(rw [cR (by omega) (by omega)];omega)|decide):PP :=
 pa (pa (pa C ⟨1=1,rfl⟩) (pa ⟨0<1,Nat.one_pos⟩ (pa ⟨n*y≤140737488355328,h1⟩ ⟨n≤140737488355328,h0⟩))) ⟨k=m*1,h2⟩
def Ya (C:PP) (y n k m len k0:Nat) (h1:n*y≤140737488355328:=by first|omega|(rw [eJ];omega)|exact eP _ _|exact eR _ _|exact bV (by omega) (by first|omega|(simp only [List.length_append];omega))|(rw [cR (by omega) (by omega)];omega)|decide) (h0:n≤140737488355328:=by first|omega|(rw [eJ];omega)|exact eP _ _|exact eR _ _|exact bV (by omega) (by first|omega|(simp only [List.length_append];omega))|(rw [cR (by omega) (by omega)];omega)|decide) (h2:k=m*1:=by first|omega|(rw [eJ];omega)|exact eP _ _|exact eR _ _|exact bV (by omega) (by first|omega|(simp only [List.length_append];omega))|(rw [cR (by omega) (by omega)];omega)|decide) (h3:0+len*1=k0:=by first|omega|(rw [eJ];omega)|exact eP _ _|exact eR _ _|exact bV (by omega) (by first|omega|(simp only [List.length_append];omega))|(rw [cR (by omega) (by omega)];omega)|decide):PP :=
 pa (YN C y n k m h1 h0 h2) (pa ⟨1=1,rfl⟩ ⟨0+len*1=k0,h3⟩)
end Go.Vm
namespace Go.Proofs
open Go.Shelf
def Tryz.lays156_ren:Go.Shelf.Ren:=⟨fun|156=>116|165=>135|166=>136|169=>137|240=>141|241=>142|276=>143|277=>144|n=>n,fun|31=>39|9=>9|3=>3|4=>4|0=>0|20=>20|72=>161|76=>165|70=>159|37=>22|75=>164|127=>170|164=>171|5=>5|80=>38|n=>n,fun|n=>n⟩
theorem Tryz.lays156:Go.Proofs.Lays.n156 Tryz.prog Tryz.lays156_ren:={
 mixed:=by kernel_rfl
 f156:=Tryz.func116.trans (congrArg some (by kernel_rfl))
 f165:=Tryz.func135.trans (congrArg some (by kernel_rfl))
 f166:=Tryz.func136.trans (congrArg some (by kernel_rfl))
 f169:=Tryz.func137.trans (congrArg some (by kernel_rfl))
 f240:=Tryz.func141.trans (congrArg some (by kernel_rfl))
 f241:=Tryz.func142.trans (congrArg some (by kernel_rfl))
 f276:=Tryz.func143.trans (congrArg some (by kernel_rfl))
 f277:=Tryz.func144.trans (congrArg some (by kernel_rfl))
 t0:=Tryz.underlying0
 a0:=Tryz.isAgg0
 z0:=Tryz.sizeOf0
 v0:=Tryz.zeroValue0
 t3:=Tryz.underlying3
 a3:=Tryz.isAgg3
 z3:=Tryz.sizeOf3
 v3:=Tryz.zeroValue3
 t4:=Tryz.underlying4
 a4:=Tryz.isAgg4
 z4:=Tryz.sizeOf4
 v4:=Tryz.zeroValue4
 t9:=Tryz.underlying9
 a9:=Tryz.isAgg9
 z9:=Tryz.sizeOf9
 v9:=Tryz.zeroValue9
 t20:=Tryz.underlying20
 a20:=Tryz.isAgg20
 z20:=Tryz.sizeOf20
 v20:=Tryz.zeroValue20
 t31:=Tryz.underlying39
 a31:=Tryz.isAgg39
 z31:=Tryz.sizeOf39
 v31:=Tryz.zeroValue39
 t37:=Tryz.underlying22
 a37:=Tryz.isAgg22
 z37:=Tryz.sizeOf22
 v37:=Tryz.zeroValue22
 t70:=Tryz.underlying159
 a70:=Tryz.isAgg159
 z70:=Tryz.sizeOf159
 v70:=Tryz.zeroValue159
 t72:=Tryz.underlying161
 a72:=Tryz.isAgg161
 z72:=Tryz.sizeOf161
 v72:=Tryz.zeroValue161
 t75:=Tryz.underlying164
 a75:=Tryz.isAgg164
 z75:=Tryz.sizeOf164
 v75:=Tryz.zeroValue164
 t76:=Tryz.underlying165
 a76:=Tryz.isAgg165
 z76:=Tryz.sizeOf165
 v76:=Tryz.zeroValue165
 t127:=Tryz.underlying170
 a127:=Tryz.isAgg170
 z127:=Tryz.sizeOf170
 v127:=Tryz.zeroValue170
 t164:=Tryz.underlying171
 a164:=Tryz.isAgg171
 z164:=Tryz.sizeOf171
 v164:=Tryz.zeroValue171 }
theorem Tryz.Builder_Extra_156:Builder.Extra Tryz.prog Tryz.lays156_ren:={
 sizeBuilder:=by kernel_rfl
 liesBuilder:=by kernel_rfl
 t5:=Tryz.underlying5
 a5:=Tryz.isAgg5
 z5:=Tryz.sizeOf5
 v5:=Tryz.zeroValue5
 infoByte:=by kernel_rfl
 cellsByte:=by kernel_rfl
 sizeByte:=by kernel_rfl
 neB5:=by decide }
open Go.RowKit in
theorem Tryz.strings_Join_none (a:Option Addr) (c:Nat) (sep:ByteArray) (w:World) :
  Calls Tryz.prog 116 #[.slice a 0 c,.string sep] w fun e w'=>e=.returned (.string ⟨#[]⟩)∧w'=w:=Any.strings_Join_none Tryz.lays156 Tryz.Builder_Extra_156 a c sep w
open Go.RowKit in
theorem Tryz.strings_Join (bk o c:Nat) (xs:List ByteArray) (sep:ByteArray) (w:World) (hcells:∀ (j:Nat) x,xs[j]?=some x→w.cell? ⟨bk,o+j,none⟩=some (.string x)) (hbk:bk<w.heap.size) (hN:xs.length≤140737488355328) (hcap:xs.length≤c) (hlen:(Lib.join (xs.map (·.data.toList)) sep.data.toList).length≤140737488355328) :
  Calls Tryz.prog 116 #[.slice (some ⟨bk,o,none⟩) xs.length c,.string sep] w fun e w'=>e=.returned (.string ⟨(Lib.join (xs.map (·.data.toList)) sep.data.toList).toArray⟩)∧Below w.heap.size w w':=Any.strings_Join Tryz.lays156 Tryz.Builder_Extra_156 bk o c xs sep w hcells hbk hN hcap hlen
end Go.Proofs
namespace Go.Vm
open Go Go.Proofs
theorem mixed:Tryz.prog.follows .mixedOrders=true:=by kernel_rfl
def xa:List Int:=[6346243789798364141,1503914060200516822,0,1152921504606846976]
def zh:List Int:=[7640891576956012808,13503953896175478587,4354685564936845355,11912009170470909681,5840696475078001361,11170449401992604703,2270897969802886507,6620516959819538809]
def Ev:List Int:=[4794697086780616226,8158064640168781261,13096744586834688815,16840607885511220156,4131703408338449720,6480981068601479193,10538285296894168987,12329834152419229976,15566598209576043074,1334009975649890238,2608012711638119052,6128411473006802146,8268148722764581231,9286055187155687089,11230858885718282805,13951009754708518548,16472876342353939154,17275323862435702243,1135362057144423861,2597628984639134821,3308224258029322869,5365058923640841347,6679025012923562964,8573033837759648693,10970295158949994411,12119686244451234320,12683024718118986047,13788192230050041572,14330467153632333762,15395433587784984357,489312712824947311,1452737877330783856,2861767655752347644,3322285676063803686,5560940570517711597,5996557281743188959,7280758554555802590,8532644243296465576,9350256976987008742,10552545826968843579,11727347734174303076,12113106623233404929,14000437183269869457,14369950271660146224,15101387698204529176,15463397548674623760,17586052441742319658,1182934255886127544,1847814050463011016,2177327727835720531,2830643537854262169,3796741975233480872,4115178125766777443,5681478168544905931,6601373596472566643,7507060721942968483,8399075790359081724,8693463985226723168,9568029438360202098,10144078919501101548,10430055236837252648,11840083180663258601,13761210420658862357,14299343276471374635,14566680578165727644,15097957966210449927,16922976911328602910,17689382322260857208,500013540394364858,748580250866718886,1242879168328830382,1977374033974150939,2944078676154940804,3659926193048069267,4368137639120453308,4836135668995329356,5532061633213252278,6448918945643986474,6902733635092675308,7801388544844847127]
def gD:eN:=fun g=>bif Nat.beq g 0 then some (.u64,zh) else bif Nat.beq g 1 then some (.u64,Ev) else bif Nat.beq g 2 then some (.u64,xa) else none
theorem Jd:Known Tryz.prog gD 116 ⟨0,0,ql⟩:=yX (by kernel_rfl) Tryz.strings_Join_none Tryz.strings_Join
theorem K48 {G:eN}:Known Tryz.prog G 112 ⟨0,0,oc⟩:=vI (fn:=Tryz.f112) (by kernel_rfl) (by kernel_rfl) (by kernel_rfl) rfl rfl
theorem Kx {G:eN}:Known Tryz.prog G 134 ⟨0,0,ot⟩:=vM (fn:=Tryz.f134) (by kernel_rfl) (by kernel_rfl) (by kernel_rfl) rfl rfl (fun _ _ _=>⟨rfl,rfl⟩)
def mj (k0:Nat) (z0:Int × List Int):Int × List Int :=
 ((aa .u64 ((z0.2.set k0 (aN .u64 (z0.2.getD k0 0) z0.1)).getD k0 0) 51),(z0.2.set k0 (aN .u64 (z0.2.getD k0 0) z0.1)).set k0 (ai .u64 ((z0.2.set k0 (aN .u64 (z0.2.getD k0 0) z0.1)).getD k0 0) 2251799813685247))
def F45 (p0:List Int):List Int :=
 ((itr (mj) 5 (0,p0)).2).set 0 (aN .u64 (((itr (mj) 5 (0,p0)).2).getD 0 0) (bS .u64 19 ((itr (mj) 5 (0,p0)).1)))
def S45:List AV→List Blk→Option (Prop × Ret)
 |[.ints .u64 5 p0],[]=>some (True,⟨.ints .u64 5 (F45 p0),[]⟩)
 |_,_=>none
theorem K45:Known Tryz.prog gD 130 ⟨0,0,S45⟩:=by
 refine Xw Tryz.f130 38 Zn mixed <|fun E args ks C r h hC hlen=>?_
 simp only at h
 unfold S45 at h
 split at h
 rotate_left
 cases h
 rename_i p0
 cases h
 simp only [bI] at hlen
 refine ⟨rfl,?_⟩
 refine Xt [Ep 2 32,Ep 1 16] [0] [Mk 32 .u64 5 [0,0,0,0,0],Mk 16 .u64 5 p0] [] 48 (v2 pT) <|Xs [Ek 3 .u64 0] [] 64 (v1 pT) <|Tri.seq <|Xs [Ei 5 0] [] 80 (v1 pT) <|Tri.block <|Xc 5 (mj) (0,p0) (fun k0 z0=>True) (fun k0 z0=>[Ej 5 k0,Ek 3 .u64 z0.1]) (fun k0 z0=>[Mk 16 .u64 5 z0.2]) trivial <|fun k0 z0 hk0 hz0 hJ0=>Xs [Eb 6 (decide ((((k0:Nat):Int):Int)<5))] [] 96 (v1 pT) <|Tri.seq <|Xb (fun h1 h1'=>?_) (fun h1 h1'=>?_)
 exact Tri.skip <|Tri.seq <|Tri.block <|Xs [Ej 4 k0] [6] 128 (v2 pT) <|Xt [] [3] [Mk 16 .u64 5 (z0.2.set k0 (aN .u64 (z0.2.getD k0 0) z0.1))] [16] 272 (v2 (pu (Yj k0 5) (pu (Yl k0 5) (v3 (pu (Yj k0 5) (pu (Ys k0 5) pT)))))) <|Xs [Ek 3 .u64 (aa .u64 ((z0.2.set k0 (aN .u64 (z0.2.getD k0 0) z0.1)).getD k0 0) 51)] [] 368 (v2 (pu (Yj k0 5) (pu (Yl k0 5) (pu (Y0 51) (v1 pT))))) <|Wt [] [4] [Mk 16 .u64 5 ((z0.2.set k0 (aN .u64 (z0.2.getD k0 0) z0.1)).set k0 (ai .u64 ((z0.2.set k0 (aN .u64 (z0.2.getD k0 0) z0.1)).getD k0 0) 2251799813685247))] [16] 496 (v2 (pu (Yj k0 5) (pu (Yl k0 5) (v2 (pu (Yj k0 5) (pu (Ys k0 5) pT)))))) <|Wu [Ej 28 (k0+1)] none [Ej 5 (k0+1)] [5] [] [] 528 (pv pT (Yp k0 1) (v1 pT)) <|Xo [] trivial
 refine Tri.exit <|?_
 obtain rfl:k0=5:=(by omega);subst hz0
 exact Xt [] [6,5,3] [Mk 16 .u64 5 (((itr (mj) 5 (0,p0)).2).set 0 (aN .u64 (((itr (mj) 5 (0,p0)).2).getD 0 0) (bS .u64 19 ((itr (mj) 5 (0,p0)).1))))] [16] 240 (v1 (pu (Yi 0 5) (pu (Yl 0 5) (v4 (pu (Yi 0 5) (pu (Ys 0 5) pT)))))) <|Xt [] [1] [Mk 32 .u64 5 (((itr (mj) 5 (0,p0)).2).set 0 (aN .u64 (((itr (mj) 5 (0,p0)).2).getD 0 0) (bS .u64 19 ((itr (mj) 5 (0,p0)).1))))] [16,32] 272 (v1 (pu (Yz 5) pT)) <|Xz [] pz
def CO (p1:List Int) (k0:Nat) (z0:List Int):List Int :=
 z0.set k0 (aN .u64 (z0.getD k0 0) (p1.getD k0 0))
def F16 (p0:List Int) (p1:List Int):List Int :=
 (F45 (itr (CO p1) 5 p0))
def S16:List AV→List Blk→Option (Prop × Ret)
 |[.ints .u64 5 p0,.ints .u64 5 p1],[]=>some (True,⟨.ints .u64 5 (F16 p0 p1),[]⟩)
 |_,_=>none
theorem K16:Known Tryz.prog gD 105 ⟨0,0,S16⟩:=by
 refine Xw Tryz.f105 23 (Zv K45 112 1 <|Zn) mixed <|fun E args ks C r h hC hlen=>?_
 simp only at h
 unfold S16 at h
 split at h
 rotate_left
 cases h
 rename_i p0 p1
 cases h
 simp only [bI] at hlen
 refine ⟨rfl,?_⟩
 refine Xt [Ep 4 48,Ep 3 32,Ep 2 16] [0,1] [Mk 48 .u64 5 [0,0,0,0,0],Mk 32 .u64 5 p1,Mk 16 .u64 5 p0] [] 64 (v3 pT) <|Tri.seq <|Xs [Ei 6 0] [] 80 (v1 pT) <|Tri.block <|Xc 5 (CO p1) p0 (fun k0 z0=>True) (fun k0 z0=>[Ej 6 k0]) (fun k0 z0=>[Mk 16 .u64 5 z0]) trivial <|fun k0 z0 hk0 hz0 hJ0=>Xs [Eb 7 (decide ((((k0:Nat):Int):Int)<5))] [] 96 (v1 pT) <|Tri.seq <|Xb (fun h1 h1'=>?_) (fun h1 h1'=>?_)
 exact Tri.skip <|Tri.seq <|Tri.block <|Xs [Ej 5 k0] [7] 128 (v2 pT) <|Wu [] (some [0,0,3,7,0,0,48,112,255,0,1023,2047]) [] [5] [Mk 16 .u64 5 (z0.set k0 (aN .u64 (z0.getD k0 0) (p1.getD k0 0)))] [16] 320 (v2 (pu (Yj k0 5) (pu (Yl k0 5) (v2 (pu (Yj k0 5) (pu (Yl k0 5) (v2 (pu (Yj k0 5) (pu (Ys k0 5) pT))))))))) <|Wu [Ej 20 (k0+1)] none [Ej 6 (k0+1)] [6] [] [] 352 (pv pT (Yp k0 1) (v1 pT)) <|Xo [] trivial
 refine Tri.exit <|?_
 obtain rfl:k0=5:=(by omega);subst hz0
 exact Xt [] [7,6,3,2] [Mk 48 .u64 5 (F45 (itr (CO p1) 5 p0))] [48,32,16] 144 (v1 (pu pz (pu (Yz 5) pT))) <|Xz [] pz
def zi (p1:List Int) (k0:Nat) (z0:List Int):List Int :=
 z0.set (k0+1) (aN .u64 (z0.getD (k0+1) 0) (ag .u64 9007199254740988 ((F45 p1).getD (k0+1) 0)))
def F18 (p0:List Int) (p1:List Int):List Int :=
 (F45 (itr (zi p1) 4 (p0.set 0 (aN .u64 (p0.getD 0 0) (ag .u64 9007199254740916 ((F45 p1).getD 0 0))))))
def S18:List AV→List Blk→Option (Prop × Ret)
 |[.ints .u64 5 p0,.ints .u64 5 p1],[]=>some (True,⟨.ints .u64 5 (F18 p0 p1),[]⟩)
 |_,_=>none
theorem K18:Known Tryz.prog gD 115 ⟨0,0,S18⟩:=by
 refine Xw Tryz.f115 36 (Zv K45 80 1 <|Zv K45 352 1 <|Zn) mixed <|fun E args ks C r h hC hlen=>?_
 simp only at h
 unfold S18 at h
 split at h
 rotate_left
 cases h
 rename_i p0 p1
 cases h
 simp only [bI] at hlen
 refine ⟨rfl,?_⟩
 refine Xt [Ep 4 48,Ep 3 32,Ep 2 16] [0,1] [Mk 48 .u64 5 [0,0,0,0,0],Mk 32 .u64 5 p1,Mk 16 .u64 5 p0] [] 64 (v3 pT) <|Xt [] [] [Mk 32 .u64 5 (F45 p1)] [32] 112 (v1 (pu pz (pu (Yz 5) pT))) <|Xt [] [] [Mk 16 .u64 5 (p0.set 0 (aN .u64 (p0.getD 0 0) (ag .u64 9007199254740916 ((F45 p1).getD 0 0))))] [16] 288 (v1 (pu (Yi 0 5) (pu (Yl 0 5) (v1 (pu (Yi 0 5) (pu (Yl 0 5) (v3 (pu (Yi 0 5) (pu (Ys 0 5) pT))))))))) <|Tri.seq <|Xs [Ei 5 1] [] 304 (v1 pT) <|Tri.block <|Xc 4 (zi p1) (p0.set 0 (aN .u64 (p0.getD 0 0) (ag .u64 9007199254740916 ((F45 p1).getD 0 0)))) (fun k0 z0=>True) (fun k0 z0=>[Ej 5 (k0+1)]) (fun k0 z0=>[Mk 16 .u64 5 z0]) trivial <|fun k0 z0 hk0 hz0 hJ0=>Tri.seq <|Xs [Eb 19 (decide ((((k0+1:Nat):Int):Int)<5))] [] 336 (v2 pT) <|Xb (fun h1 h1'=>?_) (fun h1 h1'=>?_)
 exact Tri.skip <|Tri.seq <|Tri.block <|Wu [] (some [0,0,3,7,0,0,48,112,240,511,0,2047,4095]) [] [19] [Mk 16 .u64 5 (z0.set (k0+1) (aN .u64 (z0.getD (k0+1) 0) (ag .u64 9007199254740988 ((F45 p1).getD (k0+1) 0))))] [16] 544 (v2 (pu (Yj (k0+1) 5) (pu (Yl (k0+1) 5) (v2 (pu (Yj (k0+1) 5) (pu (Yl (k0+1) 5) (v3 (pu (Yj (k0+1) 5) (pu (Ys (k0+1) 5) pT))))))))) <|Wu [Ej 21 ((k0+1)+1)] none [Ej 5 ((k0+1)+1)] [5] [] [] 592 (v1 (pv pT (Yp (k0+1) 1) (v1 pT))) <|Xo [] trivial
 refine Tri.exit <|?_
 obtain rfl:k0=4:=(by omega);subst hz0
 exact Xt [] [19,5,3,2] [Mk 48 .u64 5 (F45 (itr (zi p1) 4 (p0.set 0 (aN .u64 (p0.getD 0 0) (ag .u64 9007199254740916 ((F45 p1).getD 0 0))))))] [16,32,48] 384 (v1 (pu pz (pu (Yz 5) pT))) <|Xz [] pz
def F55 (p0:Int) (p1:Int):Int :=
 (aN .u64 (aN .u64 (bS .u64 (aa .u64 p0 32) (aa .u64 p1 32)) (aa .u64 (aN .u64 (bS .u64 (aa .u64 p0 32) (ai .u64 p1 4294967295)) (aa .u64 (bS .u64 (ai .u64 p0 4294967295) (ai .u64 p1 4294967295)) 32)) 32)) (aa .u64 (aN .u64 (ai .u64 (aN .u64 (bS .u64 (aa .u64 p0 32) (ai .u64 p1 4294967295)) (aa .u64 (bS .u64 (ai .u64 p0 4294967295) (ai .u64 p1 4294967295)) 32)) 4294967295) (bS .u64 (ai .u64 p0 4294967295) (aa .u64 p1 32))) 32))
def HK (p0:Int) (p1:Int):Int :=
 (bS .u64 p0 p1)
def S55:List AV→List Blk→Option (Prop × Ret)
 |[.sc (.i .u64 p0),.sc (.i .u64 p1)],[]=>some (True,⟨.tup [.sc (.i .u64 (F55 p0 p1)),.sc (.i .u64 (HK p0 p1))],[]⟩)
 |_,_=>none
theorem K55:Known Tryz.prog gD 140 ⟨0,0,S55⟩:=by
 refine Xw Tryz.f140 51 Zn mixed <|fun E args ks C r h hC hlen=>?_
 simp only at h
 unfold S55 at h
 split at h
 rotate_left
 cases h
 rename_i p0 p1
 cases h
 simp only [bI] at hlen
 refine ⟨rfl,?_⟩
 exact Xs [] [] 48 (v2 pT) <|Xs [Ek 6 .u64 (ai .u64 p0 4294967295)] [] 96 (v3 pT) <|Xs [Ek 7 .u64 (aa .u64 p0 32)] [] 144 (v1 (pu (Y0 32) (v1 pT))) <|Xs [Ek 8 .u64 (ai .u64 p1 4294967295)] [] 192 (v3 pT) <|Xs [Ek 9 .u64 (aa .u64 p1 32)] [] 240 (v1 (pu (Y0 32) (v1 pT))) <|Xs [Ek 10 .u64 (bS .u64 (ai .u64 p0 4294967295) (ai .u64 p1 4294967295))] [] 304 (v4 pT) <|Xs [Ek 11 .u64 (aN .u64 (bS .u64 (aa .u64 p0 32) (ai .u64 p1 4294967295)) (aa .u64 (bS .u64 (ai .u64 p0 4294967295) (ai .u64 p1 4294967295)) 32))] [10,8] 416 (v4 (pu (Y0 32) (v2 pT))) <|Xs [Ek 12 .u64 (ai .u64 (aN .u64 (bS .u64 (aa .u64 p0 32) (ai .u64 p1 4294967295)) (aa .u64 (bS .u64 (ai .u64 p0 4294967295) (ai .u64 p1 4294967295)) 32)) 4294967295)] [] 464 (v3 pT) <|Xs [Ek 13 .u64 (aa .u64 (aN .u64 (bS .u64 (aa .u64 p0 32) (ai .u64 p1 4294967295)) (aa .u64 (bS .u64 (ai .u64 p0 4294967295) (ai .u64 p1 4294967295)) 32)) 32)] [11] 512 (v1 (pu (Y0 32) (v1 pT))) <|Xs [Ek 12 .u64 (aN .u64 (ai .u64 (aN .u64 (bS .u64 (aa .u64 p0 32) (ai .u64 p1 4294967295)) (aa .u64 (bS .u64 (ai .u64 p0 4294967295) (ai .u64 p1 4294967295)) 32)) 4294967295) (bS .u64 (ai .u64 p0 4294967295) (aa .u64 p1 32)))] [12,6] 608 (v6 pT) <|Xs [Ek 4 .u64 (aN .u64 (aN .u64 (bS .u64 (aa .u64 p0 32) (aa .u64 p1 32)) (aa .u64 (aN .u64 (bS .u64 (aa .u64 p0 32) (ai .u64 p1 4294967295)) (aa .u64 (bS .u64 (ai .u64 p0 4294967295) (ai .u64 p1 4294967295)) 32)) 32)) (aa .u64 (aN .u64 (ai .u64 (aN .u64 (bS .u64 (aa .u64 p0 32) (ai .u64 p1 4294967295)) (aa .u64 (bS .u64 (ai .u64 p0 4294967295) (ai .u64 p1 4294967295)) 32)) 4294967295) (bS .u64 (ai .u64 p0 4294967295) (aa .u64 p1 32))) 32))] [12,13,9,7] 752 (v6 (pu (Y0 32) (v2 pT))) <|Xs [Ek 5 .u64 (bS .u64 p0 p1)] [0,1] 816 (v4 pT) <|Xz [] (pa pT pz)
def T55:List AV→List Blk→Option (Prop × Ret)
 |[.sc (.i .u64 p0),.sc (.i .u64 p1)],[]=>some (0≤p0∧p0<18446744073709551616∧0≤p1∧p1<18446744073709551616,⟨.tup [.sc (.i .u64 (lH p0 p1)),.sc (.i .u64 (fZ p0 p1))],[]⟩)
 |_,_=>none
theorem Lq:Known Tryz.prog gD 140 ⟨0,0,T55⟩:=by
 refine Known.same K55 (by decide) rfl ?_
 intro vs ks C r h hC
 simp only at h
 unfold T55 at h
 split at h
 rotate_left
 ·cases h
 rename_i p0 p1
 cases h
 obtain ⟨h1,h2,h3,h4⟩:=hC
 refine ⟨True,?_,trivial⟩
 show some (True,_)=some (True,_)
 have e1:F55 p0 p1=lH p0 p1:=DV p0 p1 h1 h2 h3 h4
 have e2:HK p0 p1=fZ p0 p1:=kU p0 p1
 rw [e1,e2]
def rng (xs:List Int):Prop:=∀ j,0≤xs.getD j 0∧xs.getD j 0<18446744073709551616
theorem gb {xs:List Int} (h:∀ x∈xs,0≤x∧x<18446744073709551616):rng xs:=by
 intro j
 rw [List.getD_eq_getElem?_getD]
 cases hj:xs[j]? with
 |none=>simp
 |some v=>exact h v (List.mem_of_getElem? hj)
theorem rng.all {xs:List Int} (h:rng xs):∀ x∈xs,0≤x∧x<18446744073709551616:=by
 intro x hx
 obtain ⟨j,hj⟩:=List.mem_iff_getElem?.1 hx
 have:=h j
 rw [List.getD_eq_getElem?_getD,hj] at this
 exact this
theorem qf {z:List Int} (h:rng z) (a b:Nat):rng ((z.drop a).take b) :=
 gb fun x hx=>h.all x (List.mem_of_mem_drop (List.mem_of_mem_take hx))
theorem kq {z:List Int} (h:rng z) {i:Nat} {v:Int} (hv:0≤v∧v<18446744073709551616):rng (z.set i v):=by
 refine gb fun x hx=>?_
 rcases List.mem_or_eq_of_mem_set hx with h1|h1
 ·exact h.all x h1
 ·rw [h1];exact hv
theorem yN {z ys:List Int} (h:rng z) (h':rng ys) {o:Nat}:rng (aZ z o ys):=by
 refine gb fun x hx=>?_
 unfold aZ at hx
 rcases List.mem_append.1 hx with h1|h1
 ·rcases List.mem_append.1 h1 with h2|h2
  ·exact h.all x (List.mem_of_mem_take h2)
  ·exact h'.all x h2
 ·exact h.all x (List.mem_of_mem_drop h1)
theorem CJ (x:Int):0≤x % 18446744073709551616∧x % 18446744073709551616<18446744073709551616:=by omega
theorem sU (x y c:Int):0≤ei x y c∧ei x y c<18446744073709551616:=CJ _
theorem ga (x:Int):0≤IntKind.wrap .u64 x∧IntKind.wrap .u64 x<18446744073709551616:=by rw [eV];exact CJ _
def F47 (p0:List Int) (p1:Int) (p2:Int):List Int :=
 (p0.set 1 (ei (p0.getD 1 0) (fZ p1 p2) 0)).set 0 (ei ((p0.set 1 (ei (p0.getD 1 0) (fZ p1 p2) 0)).getD 0 0) (lH p1 p2) (eg (p0.getD 1 0) (fZ p1 p2) 0))
def S47:List AV→List Blk→Option (Prop × Ret)
 |[.ints .u64 2 p0,.sc (.i .u64 p1),.sc (.i .u64 p2)],[]=>some ((rng p0∧0≤p1∧p1<18446744073709551616∧0≤p2∧p2<18446744073709551616),⟨.ints .u64 2 (F47 p0 p1 p2),[]⟩)
 |_,_=>none
theorem K47:Known Tryz.prog gD 133 ⟨0,0,S47⟩:=by
 refine Xw Tryz.f133 34 (Zv K48 240 3 <|Zv K48 416 3 <|Zv Lq 80 2 <|Zn) mixed <|fun E args ks C r h hC hlen=>?_
 simp only at h
 unfold S47 at h
 split at h
 rotate_left
 cases h
 rename_i p0 p1 p2
 cases h
 simp only [bI] at hlen
 have hf1:=uT hC.2.1 hC.2.2.2.1
 have hf2:=hC.1 0
 have hf3:=hC.1 1
 refine ⟨rfl,?_⟩
 refine Xt [Ep 6 32,Ep 3 16] [0] [Mk 32 .u64 2 [0,0],Mk 16 .u64 2 p0] [] 48 (v2 pT) <|Xs [Ek 8 .u64 (fZ p1 p2),Ek 7 .u64 (lH p1 p2)] [1,2] 176 (v2 (pu (pa pT (lo (0≤p1∧p1<18446744073709551616∧0≤p2∧p2<18446744073709551616))) (v5 pT))) <|Xs [] [] 192 (v1 pT) <|Xt [Ek 9 .u64 (eg (p0.getD 1 0) (fZ p1 p2) 0)] [8] [Mk 16 .u64 2 (p0.set 1 (ei (p0.getD 1 0) (fZ p1 p2) 0))] [16] 352 (v1 (pu (Yl 1 2) (v1 (pu (pa pT (pl (show (0:Int)≤(p0.getD 1 0)∧(0:Int)≤(fZ p1 p2)∧(0:Int)≤0∧(0:Int)≤1 from by first|omega|(simp only [fZ,eg] at *;omega)|(rw [cM (by decide)];simp only [fZ,eg] at *;omega)))) (v4 (pu (Ys 1 2) (v1 pT))))))) ?_
 refine Xt [] [9,7] [Mk 16 .u64 2 ((p0.set 1 (ei (p0.getD 1 0) (fZ p1 p2) 0)).set 0 (ei ((p0.set 1 (ei (p0.getD 1 0) (fZ p1 p2) 0)).getD 0 0) (lH p1 p2) (eg (p0.getD 1 0) (fZ p1 p2) 0)))] [16] 512 (v1 (pu (Yl 0 2) (v2 (pu (pa pT (pl (show (0:Int)≤((p0.set 1 (ei (p0.getD 1 0) (fZ p1 p2) 0)).getD 0 0)∧(0:Int)≤(lH p1 p2)∧(0:Int)≤(eg (p0.getD 1 0) (fZ p1 p2) 0)∧((eg (p0.getD 1 0) (fZ p1 p2) 0):Int)≤1 from by first|omega|(simp only [fZ,eg] at *;omega)|(rw [cM (by decide)];simp only [fZ,eg] at *;omega)))) (v4 (pu (Ys 0 2) pT)))))) ?_
 exact Xt [] [3] [Mk 32 .u64 2 ((p0.set 1 (ei (p0.getD 1 0) (fZ p1 p2) 0)).set 0 (ei ((p0.set 1 (ei (p0.getD 1 0) (fZ p1 p2) 0)).getD 0 0) (lH p1 p2) (eg (p0.getD 1 0) (fZ p1 p2) 0)))] [16,32] 544 (v1 (pu (Yz 2) pT)) <|Xz [] pz
theorem Jr {p0:List Int} (h:rng p0) (a b:Int):rng (F47 p0 a b):=kq (kq h (sU _ _ _)) (sU _ _ _)
theorem mZ {xs:List Int} (h:xs.length=5):∃ a b c d e,xs=[a,b,c,d,e]:=by
 match xs,h with
 |[a,b,c,d,e],_=>exact ⟨a,b,c,d,e,rfl⟩
def t1 (a:Int):Int:=aN .u64 a 0
def t2 (a b:Int):Int:=aN .u64 b (aa .u64 (t1 a) 51)
def t3 (a b c:Int):Int:=aN .u64 c (aa .u64 (t2 a b) 51)
def t4 (a b c d:Int):Int:=aN .u64 d (aa .u64 (t3 a b c) 51)
def t5 (a b c d e:Int):Int:=aN .u64 e (aa .u64 (t4 a b c d) 51)
def BC (x:Int):Int:=ai .u64 x 2251799813685247
theorem Bo (a b c d e:Int):F45 [a,b,c,d,e]=[aN .u64 (BC (t1 a)) (bS .u64 19 (aa .u64 (t5 a b c d e) 51)),BC (t2 a b),BC (t3 a b c),BC (t4 a b c d),BC (t5 a b c d e)]:=by kernel_rfl
theorem HX {p0:List Int} (h:p0.length=5):rng (F45 p0):=by
 obtain ⟨a,b,c,d,e,rfl⟩:=mZ h
 rw [Bo]
 refine gb fun x hx=>?_
 simp only [List.mem_cons,List.not_mem_nil,or_false] at hx
 rcases hx with rfl|rfl|rfl|rfl|rfl <;> exact ga _
theorem KV {z x y:List Int} {i j o:Nat} {b:Bool} (hz:rng z) (hx:rng x) (hy:rng y):rng ((z.drop o).take 2)∧0≤x.getD i 0∧x.getD i 0<18446744073709551616∧0≤(sel b (bS .u64 (y.getD j 0) 19) (y.getD j 0))∧(sel b (bS .u64 (y.getD j 0) 19) (y.getD j 0))<18446744073709551616:=by
 refine ⟨qf hz _ _,(hx i).1,(hx i).2,?_,?_⟩ <;> cases b
 ·exact (hy j).1
 ·exact (ga _).1
 ·exact (hy j).2
 ·exact (ga _).2
def zt (p0:List Int) (p1:List Int) (k0:Nat) (k1:Nat) (z1:List Int):List Int :=
 aZ z1 (((k0+k1) % 5)*2) (F47 ((z1.drop (((k0+k1) % 5)*2)).take 2) ((F45 p0).getD k0 0) (sel (decide ((((k0+k1:Nat):Int):Int)>4)) (bS .u64 ((F45 p1).getD k1 0) 19) ((F45 p1).getD k1 0)))
def iE (p0:List Int) (p1:List Int) (k0:Nat) (z0:List Int):List Int :=
 (itr (zt p0 p1 k0) 5 z0)
def lU (p0:List Int) (p1:List Int) (k2:Nat) (z2:Int × List Int):Int × List Int :=
 ((iOr .u64 (cu .u64 (aN .u64 ((((itr (iE p0 p1) 5 [0,0,0,0,0,0,0,0,0,0]).drop (k2*2)).take 2).getD 0 0) (eg ((((itr (iE p0 p1) 5 [0,0,0,0,0,0,0,0,0,0]).drop (k2*2)).take 2).getD 1 0) z2.1 0)) 13) (aa .u64 (ei ((((itr (iE p0 p1) 5 [0,0,0,0,0,0,0,0,0,0]).drop (k2*2)).take 2).getD 1 0) z2.1 0) 51)),z2.2.set k2 (ai .u64 (ei ((((itr (iE p0 p1) 5 [0,0,0,0,0,0,0,0,0,0]).drop (k2*2)).take 2).getD 1 0) z2.1 0) 2251799813685247))
def F20 (p0:List Int) (p1:List Int):List Int :=
 (F45 (((itr (lU p0 p1) 5 (0,[0,0,0,0,0])).2).set 0 (aN .u64 (((itr (lU p0 p1) 5 (0,[0,0,0,0,0])).2).getD 0 0) (bS .u64 19 ((itr (lU p0 p1) 5 (0,[0,0,0,0,0])).1)))))
def S20:List AV→List Blk→Option (Prop × Ret)
 |[.ints .u64 5 p0,.ints .u64 5 p1],[]=>some (True,⟨.ints .u64 5 (F20 p0 p1),[]⟩)
 |_,_=>none
theorem K20:Known Tryz.prog gD 109 ⟨0,0,S20⟩:=by
 refine Xw Tryz.f109 92 (Zv K48 416 3 <|Zv K45 80 1 <|Zv K45 112 1 <|Zv K45 448 1 <|Zv K47 736 3 <|Zn) mixed <|fun E args ks C r h hC hlen=>?_
 simp only at h
 unfold S20 at h
 split at h
 rotate_left
 cases h
 rename_i p0 p1
 cases h
 simp only [bI] at hlen
 refine ⟨rfl,?_⟩
 refine Xt [Ep 4 48,Ep 3 32,Ep 2 16] [0,1] [Mk 48 .u64 5 [0,0,0,0,0],Mk 32 .u64 5 p1,Mk 16 .u64 5 p0] [] 64 (v3 pT) <|Xu [] (some [0,1,0,7,15,31]) [] [] [Mk 32 .u64 5 (F45 p1),Mk 16 .u64 5 (F45 p0)] [32,16] 160 (v1 (pu pz (v1 (pu pz (pu (Yz 5) (pu (Yz 5) pT)))))) <|Xt [Ep 5 160] [] [Mk 160 .u64 10 [0,0,0,0,0,0,0,0,0,0]] [] 176 (v1 pT) <|Tri.seq <|Xs [Ei 20 0] [] 192 (v1 pT) <|Tri.block <|Xc 5 (iE p0 p1) [0,0,0,0,0,0,0,0,0,0] (fun k0 z0=>rng z0) (fun k0 z0=>[Ej 20 k0]) (fun k0 z0=>[Mk 160 .u64 10 z0]) (gb (by decide)) <|fun k0 z0 hk0 hz0 hJ0=>Xs [Eb 21 (decide ((((k0:Nat):Int):Int)<5))] [] 208 (v1 pT) <|Tri.seq <|Xb (fun h1 h1'=>?_) (fun h1 h1'=>?_)
 refine Tri.skip <|Tri.seq <|Tri.block <|Xs [Ej 6 k0] [21] 240 (v2 pT) <|Xs [Ei 23 0] [] 256 (v1 pT) <|Tri.block <|Xc 5 (zt p0 p1 k0) z0 (fun k1 z1=>rng z1) (fun k1 z1=>[Ej 23 k1]) (fun k1 z1=>[Mk 160 .u64 10 z1]) hJ0 <|fun k1 z1 hk1 hz1 hJ1=>Xs [Eb 24 (decide ((((k1:Nat):Int):Int)<5))] [] 272 (v1 pT) <|Tri.seq <|Xb (fun h2 h2'=>?_) (fun h2 h2'=>?_)
 refine Tri.skip <|Tri.seq <|Tri.block <|Xs [Ej 7 k1] [24] 304 (v2 pT) <|Xs [Ek 8 .u64 ((F45 p1).getD k1 0)] [] 384 (v2 (pu (Yj k1 5) (pu (Yl k1 5) (v1 pT)))) <|Tri.seq <|Xu [Ej 32 (k0+k1)] none [Eb 33 (decide ((((k0+k1:Nat):Int):Int)>4))] [] [] [] 448 (v2 (pv pT (Yp k0 k1) (v1 pT))) <|Xj (x:=(decide ((((k0+k1:Nat):Int):Int)>4))) (fun bb=>[Ek 8 .u64 (sel bb (bS .u64 ((F45 p1).getD k1 0) 19) ((F45 p1).getD k1 0))]) [33,8] (fun bb=>[]) [] 496 (fun h3=>?_) (fun h3=>?_) ?_
 have h3':=of_decide_eq_true h3
 exact Ws [Ek 8 .u64 (bS .u64 ((F45 p1).getD k1 0) 19)] [33,8] 496 (v3 pT) <|Xe [Ek 8 .u64 (bS .u64 ((F45 p1).getD k1 0) 19)] []
 have h3':=of_decide_eq_false h3
 exact Tri.skip <|Xe [Ek 8 .u64 ((F45 p1).getD k1 0)] []
 exact Wu [Ej 38 (k0+k1),Ej 39 ((k0+k1) % 5),Ej 42 (k0+k1),Ej 43 ((k0+k1) % 5)] (some [0,0,3,7,0,0,48,112,240,496,0,0,3072,7168,0,32752,65535,131071]) [] [8,7] [Mk 160 .u64 10 (aZ z1 (((k0+k1) % 5)*2) (F47 ((z1.drop (((k0+k1) % 5)*2)).take 2) ((F45 p0).getD k0 0) (sel (decide ((((k0+k1:Nat):Int):Int)>4)) (bS .u64 ((F45 p1).getD k1 0) 19) ((F45 p1).getD k1 0))))] [160] 784 (v2 (pv pT (Yp k0 k1) (pv (Yn 5) (pl (eK (a:=k0+k1) (b:=5))) (v2 (pv pT (Yp k0 k1) (pv (Yn 5) (pl (eK (a:=k0+k1) (b:=5))) (pu (Yj ((k0+k1) % 5) 5) (pu (Ye ((((k0+k1) % 5)*2)+2) 10) (v2 (pu (Yj k0 5) (pu (Yl k0 5) (v1 (pu (pa pT (pl (show rng ((z1.drop (((k0+k1) % 5)*2)).take 2)∧0≤((F45 p0).getD k0 0)∧((F45 p0).getD k0 0)<18446744073709551616∧0≤(sel (decide ((((k0+k1:Nat):Int):Int)>4)) (bS .u64 ((F45 p1).getD k1 0) 19) ((F45 p1).getD k1 0))∧(sel (decide ((((k0+k1:Nat):Int):Int)>4)) (bS .u64 ((F45 p1).getD k1 0) 19) ((F45 p1).getD k1 0))<18446744073709551616 from KV hJ1 (HX hlen.1) (HX hlen.2.1)))) (pu (Yj ((k0+k1) % 5) 5) (pu (pa (Ye ((((k0+k1) % 5)*2)+2) 10) (Yr 2)) pT))))))))))))))) <|Wu [Ej 53 (k1+1)] none [Ej 23 (k1+1)] [23] [] [] 816 (pv pT (Yp k1 1) (v1 pT)) <|Xo [] (show rng (zt p0 p1 k0 k1 z1) from yN hJ1 (Jr (qf hJ1 _ _) _ _))
 refine Tri.exit <|?_
 obtain rfl:k1=5:=(by omega);subst hz1
 exact Wu [Ej 54 (k0+1)] none [Ej 20 (k0+1)] [24,23,6,20] [] [] 304 (pv pT (Yp k0 1) (v1 pT)) <|Xo [] hJ1
 refine Tri.exit <|?_
 obtain rfl:k0=5:=(by omega);subst hz0
 refine Xt [Ep 9 208] [21,20,3,2] [Mk 208 .u64 5 [0,0,0,0,0]] [32,16] 224 (v1 pT) <|Xs [Ek 10 .u64 0] [] 240 (v1 pT) <|Tri.seq <|Xt [Ei 56 0,(55,.ints .u64 10 (itr (iE p0 p1) 5 [0,0,0,0,0,0,0,0,0,0]))] [5] [] [160] 272 (v2 pT) <|Tri.block <|Xc 5 (lU p0 p1) (0,[0,0,0,0,0]) (fun k2 z2=>0≤z2.1) (fun k2 z2=>[Ej 56 k2,Ek 10 .u64 z2.1]) (fun k2 z2=>[Mk 208 .u64 5 z2.2]) (Int.le_refl 0) <|fun k2 z2 hk2 hz2 hJ2=>Xs [Eb 57 (decide ((((k2:Nat):Int):Int)<5))] [] 288 (v1 pT) <|Tri.seq <|Xb (fun h4 h4'=>?_) (fun h4 h4'=>?_)
 exact Tri.skip <|Tri.seq <|Tri.block <|Xt [Ej 11 k2,Ep 12 320] [57] [Mk 320 .u64 2 (((itr (iE p0 p1) 5 [0,0,0,0,0,0,0,0,0,0]).drop (k2*2)).take 2)] [] 368 (v1 (pu (pa (Yj k2 5) (Ye ((k2*2)+2) 10)) (v2 (pu (Yz 2) pT)))) <|Xs [Ek 14 .u64 (eg ((((itr (iE p0 p1) 5 [0,0,0,0,0,0,0,0,0,0]).drop (k2*2)).take 2).getD 1 0) z2.1 0),Ek 13 .u64 (ei ((((itr (iE p0 p1) 5 [0,0,0,0,0,0,0,0,0,0]).drop (k2*2)).take 2).getD 1 0) z2.1 0)] [10] 512 (v1 (pu (Yl 1 2) (v1 (pu (pa pT (pl (show (0:Int)≤((((itr (iE p0 p1) 5 [0,0,0,0,0,0,0,0,0,0]).drop (k2*2)).take 2).getD 1 0)∧(0:Int)≤z2.1∧(0:Int)≤0∧(0:Int)≤1 from ⟨(qf hJ0 _ _ 1).1,hJ2,by omega,by omega⟩))) (v5 pT))))) <|Xt [Ek 15 .u64 (aN .u64 ((((itr (iE p0 p1) 5 [0,0,0,0,0,0,0,0,0,0]).drop (k2*2)).take 2).getD 0 0) (eg ((((itr (iE p0 p1) 5 [0,0,0,0,0,0,0,0,0,0]).drop (k2*2)).take 2).getD 1 0) z2.1 0))] [14,12] [] [320] 592 (v1 (pu (Yl 0 2) (v3 pT))) <|Xt [] [11] [Mk 208 .u64 5 (z2.2.set k2 (ai .u64 (ei ((((itr (iE p0 p1) 5 [0,0,0,0,0,0,0,0,0,0]).drop (k2*2)).take 2).getD 1 0) z2.1 0) 2251799813685247))] [208] 688 (v4 (pu (Yj k2 5) (pu (Ys k2 5) pT))) <|Ws [Ek 10 .u64 (iOr .u64 (cu .u64 (aN .u64 ((((itr (iE p0 p1) 5 [0,0,0,0,0,0,0,0,0,0]).drop (k2*2)).take 2).getD 0 0) (eg ((((itr (iE p0 p1) 5 [0,0,0,0,0,0,0,0,0,0]).drop (k2*2)).take 2).getD 1 0) z2.1 0)) 13) (aa .u64 (ei ((((itr (iE p0 p1) 5 [0,0,0,0,0,0,0,0,0,0]).drop (k2*2)).take 2).getD 1 0) z2.1 0) 51))] [15,13] 784 (v1 (pu (Y0 13) (v1 (pu (Y0 51) (v2 pT))))) <|Wu [Ej 81 (k2+1)] none [Ej 56 (k2+1)] [56] [] [] 816 (pv pT (Yp k2 1) (v1 pT)) <|Xo [] (show 0≤IntKind.wrap .u64 _ from (ga _).1)
 refine Tri.exit <|?_
 obtain rfl:k2=5:=(by omega);subst hz2
 exact Xt [] [57,56,55,10] [Mk 208 .u64 5 (((itr (lU p0 p1) 5 (0,[0,0,0,0,0])).2).set 0 (aN .u64 (((itr (lU p0 p1) 5 (0,[0,0,0,0,0])).2).getD 0 0) (bS .u64 19 ((itr (lU p0 p1) 5 (0,[0,0,0,0,0])).1))))] [208] 432 (v1 (pu (Yi 0 5) (pu (Yl 0 5) (v4 (pu (Yi 0 5) (pu (Ys 0 5) pT)))))) <|Xt [] [9] [Mk 48 .u64 5 (F45 (((itr (lU p0 p1) 5 (0,[0,0,0,0,0])).2).set 0 (aN .u64 (((itr (lU p0 p1) 5 (0,[0,0,0,0,0])).2).getD 0 0) (bS .u64 19 ((itr (lU p0 p1) 5 (0,[0,0,0,0,0])).1)))))] [208,48] 480 (v1 (pu pz (pu (Yz 5) pT))) <|Xz [] pz
def F30 (p0:Int):List Int :=
 [(IntKind.wrap .u64 p0),0,0,0,0]
def S30:List AV→List Blk→Option (Prop × Ret)
 |[.sc (.i .u32 p0)],[]=>some (True,⟨.ints .u64 5 (F30 p0),[]⟩)
 |_,_=>none
theorem K30:Known Tryz.prog gD 106 ⟨0,0,S30⟩:=by
 refine Xw Tryz.f106 7 Zn mixed <|fun E args ks C r h hC hlen=>?_
 simp only at h
 unfold S30 at h
 split at h
 rotate_left
 cases h
 rename_i p0
 cases h
 simp only [bI] at hlen
 refine ⟨rfl,?_⟩
 exact Xt [Ep 2 16] [] [Mk 16 .u64 5 [0,0,0,0,0]] [] 32 (v1 pT) <|Xt [] [0] [Mk 16 .u64 5 [(IntKind.wrap .u64 p0),0,0,0,0]] [16] 112 (v2 (pu (pa (Ys 0 5) pT) (pu (pa (Yz 5) pT) (pu (Yz 5) pT)))) <|Xz [] pz
def xA (k0:Nat) (z0:List Int):List Int :=
 z0.set k0 255
def F50 (p0:Int) (p1:Int):List Int :=
 ((itr (xA) 32 (List.replicate 32 0)).set 0 (ag .u8 0 p1)).set 31 (ag .u8 (cu .u8 1 (ag .i64 p0 248)) 1)
def S50:List AV→List Blk→Option (Prop × Ret)
 |[.sc (.i .i64 p0),.sc (.i .u8 p1)],[]=>some (((248:Int)≤p0∧p0≤(255:Int)),⟨.sc (.sl 0 0 32 1 none),[some (.ints .u8 32 (F50 p0 p1))]⟩)
 |_,_=>none
theorem K50:Known Tryz.prog gD 132 ⟨0,1,S50⟩:=by
 refine Xw Tryz.f132 28 Zn mixed <|fun E args ks C r h hC hlen=>?_
 simp only at h
 unfold S50 at h
 split at h
 rotate_left
 cases h
 rename_i p0 p1
 cases h
 simp only [bI] at hlen
 refine ⟨rfl,?_⟩
 refine Xs [] [] 32 (v1 pT) <|Xt [El 5 32 32] [] [Mi 32 32 (List.replicate 32 0)] [] 64 (pu (pa (lo ((0:Int)≤32∧(32:Int)=32)) (pa (lo (32≤(140737488355328:Int))) (lo (((1:Nat):Int)*32≤281474976710656)))) (v1 pT)) <|Tri.seq <|Xs [Ei 10 0,Ei 9 32] [] 112 (v3 pT) <|Tri.block <|Xc 32 (xA) (List.replicate 32 0) (fun k0 z0=>True) (fun k0 z0=>[Ej 10 k0]) (fun k0 z0=>[Mi 32 32 z0]) trivial <|fun k0 z0 hk0 hz0 hJ0=>Xs [Eb 11 (decide ((((k0:Nat):Int):Int)<32))] [] 128 (v1 pT) <|Tri.seq <|Xb (fun h1 h1'=>?_) (fun h1 h1'=>?_)
 exact Tri.skip <|Tri.seq <|Tri.block <|Xs [Ej 6 k0] [11] 160 (v2 pT) <|Wt [] [6] [Mi 32 32 (z0.set k0 255)] [32] 224 (v2 (pu (Yj k0 32) (pu (Ys k0 32) pT))) <|Wu [Ej 16 (k0+1)] none [Ej 10 (k0+1)] [10] [] [] 256 (pv pT (Yp k0 1) (v1 pT)) <|Xo [] trivial
 refine Tri.exit <|?_
 obtain rfl:k0=32:=(by omega);subst hz0
 exact Xt [] [11,10,9,1] [Mi 32 32 ((itr (xA) 32 (List.replicate 32 0)).set 0 (ag .u8 0 p1))] [32] 208 (v3 (pu (Yi 0 32) (pu (Ys 0 32) pT))) <|Xt [] [0] [Mi 32 32 (((itr (xA) 32 (List.replicate 32 0)).set 0 (ag .u8 0 p1)).set 31 (ag .u8 (cu .u8 1 (ag .i64 p0 248)) 1))] [32] 320 (v3 (pu (li ((0:Int)≤(ag .i64 p0 248))) (v1 (pu (Yi 31 32) (pu (Ys 31 32) pT))))) <|Xs [El 4 32 32] [5] 352 (v2 pT) <|Xz [(32,0)] pz
theorem tX (a b:Int):(F50 a b).length=32:=by
 have h:∀ (n:Nat) (z:List Int),z.length=32→(itr xA n z).length=32:=by
  intro n z hz
  induction n with
  |zero=>rw [bB];exact hz
  |succ n ih=>rw [aq];show (List.set _ _ _).length=32;rw [List.length_set];exact ih
 unfold F50
 simp [h]
def sn (p0:List Int) (p1:List Int) (k0:Nat) (z0:List Int):List Int :=
 (sel (((ai .u8 (aa .u8 (p1.getD (((8*p1.length)-1-k0)/8) 0) ((((8*p1.length)-1-k0) % 8:Nat):Int)) 1):Int)==1) (F20 (F20 z0 z0) p0) (F20 z0 z0))
def F26 (p0:List Int) (p1:List Int):List Int :=
 (itr (sn p0 p1) (8*p1.length) (F30 1))
def S26:List AV→List Blk→Option (Prop × Ret)
 |[.ints .u64 5 p0,.sc (.ro .u8 p1)],[]=>some ((p1.length≤1000000),⟨.ints .u64 5 (F26 p0 p1),[]⟩)
 |_,_=>none
theorem K26:Known Tryz.prog gD 131 ⟨0,0,S26⟩:=by
 refine Xw Tryz.f131 33 (Zv K30 48 1 <|Zv K20 240 2 <|Zv K20 464 2 <|Zn) mixed <|fun E args ks C r h hC hlen=>?_
 simp only at h
 unfold S26 at h
 split at h
 rotate_left
 cases h
 rename_i p0 p1
 cases h
 simp only [bI] at hlen
 refine ⟨rfl,?_⟩
 refine Xt [Ep 4 32,Ep 2 16] [0] [Mk 32 .u64 5 [0,0,0,0,0],Mk 16 .u64 5 p0] [] 48 (v2 pT) <|Xt [Ep 5 64] [] [Mk 64 .u64 5 (F30 1)] [] 96 (pu pz (v1 (pu (Yz 5) pT))) <|Tri.seq <|Xu [Ej 10 (8*p1.length),Ei 11 (((8*p1.length:Nat):Int)-1-((0:Nat):Int))] none [Ei 6 (((8*p1.length:Nat):Int)-1-((0:Nat):Int))] [] [] [] 176 (v2 (pv pT (Yt 8 p1.length) (pv pT (pl (show (ag .i64 ((8*p1.length:Nat):Int) 1)=(((8*p1.length:Nat):Int)-1-((0:Nat):Int)) from lT (by omega))) (v1 pT)))) <|Tri.block <|Xc (8*p1.length) (sn p0 p1) (F30 1) (fun k0 z0=>True) (fun k0 z0=>[Ei 6 (((8*p1.length:Nat):Int)-1-((k0:Nat):Int))]) (fun k0 z0=>[Mk 64 .u64 5 z0]) trivial <|fun k0 z0 hk0 hz0 hJ0=>Tri.seq <|Xs [Eb 13 (decide (((((8*p1.length:Nat):Int)-1-((k0:Nat):Int)):Int) ≥ 0))] [] 208 (v2 pT) <|Xb (fun h1 h1'=>?_) (fun h1 h1'=>?_)
 refine Tri.skip <|Tri.seq <|Tri.block <|Xt [] [13] [Mk 64 .u64 5 (F20 z0 z0)] [64] 272 (v2 (pu pz (pu (Yz 5) pT))) <|Xu [Ej 21 (((8*p1.length)-1-k0)/8),Ej 25 (((8*p1.length)-1-k0) % 8)] none [Eb 28 (((ai .u8 (aa .u8 (p1.getD (((8*p1.length)-1-k0)/8) 0) ((((8*p1.length)-1-k0) % 8:Nat):Int)) 1):Int)==1)] [] [] [] 432 (v2 (pv (Yn 8) (pl (show (iu .i64 (((8*p1.length:Nat):Int)-1-((k0:Nat):Int)) 8)=((((8*p1.length)-1-k0)/8:Nat):Int) from by rw [il (by omega)];exact dH (b:=8) (by omega))) (pu (Yj (((8*p1.length)-1-k0)/8) p1.length) (pu (Yl (((8*p1.length)-1-k0)/8) p1.length) (v1 (pv (Yn 8) (pl (show (br (((8*p1.length:Nat):Int)-1-((k0:Nat):Int)) 8)=((((8*p1.length)-1-k0) % 8:Nat):Int) from by rw [il (by omega)];exact eK (b:=8))) (pu (Y0 ((((8*p1.length)-1-k0) % 8:Nat):Int)) (v2 pT)))))))) ?_
 refine Xj (x:=(((ai .u8 (aa .u8 (p1.getD (((8*p1.length)-1-k0)/8) 0) ((((8*p1.length)-1-k0) % 8:Nat):Int)) 1):Int)==1)) (fun bb=>[]) [28] (fun bb=>[Mk 64 .u64 5 (sel bb (F20 (F20 z0 z0) p0) (F20 z0 z0))]) [64] 496 (fun h2=>?_) (fun h2=>?_) ?_
 have h2':=dA h2
 exact Wt [] [28] [Mk 64 .u64 5 (F20 (F20 z0 z0) p0)] [64] 496 (v2 (pu pz (pu (Yz 5) pT))) <|Xe [] [Mk 64 .u64 5 (F20 (F20 z0 z0) p0)]
 have h2':=cZ h2
 exact Tri.skip <|Xe [] [Mk 64 .u64 5 (F20 z0 z0)]
 exact Wu [Ei 15 (((8*p1.length:Nat):Int)-1-((k0+1:Nat):Int))] none [Ei 6 (((8*p1.length:Nat):Int)-1-((k0+1:Nat):Int))] [6] [] [] 544 (v1 (pv pT (pl (show (ag .i64 (((8*p1.length:Nat):Int)-1-((k0:Nat):Int)) 1)=(((8*p1.length:Nat):Int)-1-((k0+1:Nat):Int)) from jh (by omega) (by omega))) (v1 pT))) <|Xo [] trivial
 refine Tri.exit <|?_
 obtain rfl:k0=(8*p1.length):=(by omega);subst hz0
 exact Xt [] [13,6,5,2,1] [Mk 32 .u64 5 (itr (sn p0 p1) (8*p1.length) (F30 1))] [64,32,16] 240 (v1 (pu (Yz 5) pT)) <|Xz [] pz
def F25 (p0:List Int):List Int :=
 (F26 p0 (aH (F50 255 21) 32 0 32))
def S25:List AV→List Blk→Option (Prop × Ret)
 |[.ints .u64 5 p0],[]=>some (True,⟨.ints .u64 5 (F25 p0),[]⟩)
 |_,_=>none
theorem K25:Known Tryz.prog gD 108 ⟨0,0,S25⟩:=by
 refine Xw Tryz.f108 6 (Zc K26 80 [.val,.ro .u8] [64] [] <|Zv K50 64 2 <|Zn) mixed <|fun E args ks C r h hC hlen=>?_
 simp only at h
 unfold S25 at h
 split at h
 rotate_left
 cases h
 rename_i p0
 cases h
 simp only [bI] at hlen
 refine ⟨rfl,?_⟩
 refine Xt [Ep 2 32,Ep 1 16] [0] [Mk 32 .u64 5 [0,0,0,0,0],Mk 16 .u64 5 p0] [] 48 (v2 pT) <|Xu [] (some [0,0,3,7]) [] [1] [Mk 32 .u64 5 (F26 p0 (aH (F50 255 21) 32 0 32))] [32,16] 112 (v1 (pu (pa pT (lo ((248:Int)≤255∧255≤(255:Int)))) (pu (pa (pa (Yw 32) pT) (pl (show (aH (F50 255 21) 32 0 32).length≤1000000 from by rw [bJ (tX _ _),tX];decide))) (pu (Yz 5) pT)))) ?_
 exact Xz [] pz
def ma (p0:List Int) (k0:Nat) (z0:Int):Int :=
 (aa .u64 (aN .u64 ((F45 (F45 p0)).getD (k0+1) 0) z0) 51)
def rP (k1:Nat) (z1:List Int):List Int :=
 (z1.set (k1+1) (aN .u64 (z1.getD (k1+1) 0) (aa .u64 (z1.getD k1 0) 51))).set k1 (ai .u64 ((z1.set (k1+1) (aN .u64 (z1.getD (k1+1) 0) (aa .u64 (z1.getD k1 0) 51))).getD k1 0) 2251799813685247)
def F52 (p0:List Int):List Int :=
 (itr (rP) 4 ((F45 (F45 p0)).set 0 (aN .u64 ((F45 (F45 p0)).getD 0 0) (bS .u64 19 (itr (ma p0) 4 (aa .u64 (aN .u64 ((F45 (F45 p0)).getD 0 0) 19) 51)))))).set 4 (ai .u64 ((itr (rP) 4 ((F45 (F45 p0)).set 0 (aN .u64 ((F45 (F45 p0)).getD 0 0) (bS .u64 19 (itr (ma p0) 4 (aa .u64 (aN .u64 ((F45 (F45 p0)).getD 0 0) 19) 51)))))).getD 4 0) 2251799813685247)
def S52:List AV→List Blk→Option (Prop × Ret)
 |[.ints .u64 5 p0],[]=>some (True,⟨.ints .u64 5 (F52 p0),[]⟩)
 |_,_=>none
theorem K52:Known Tryz.prog gD 126 ⟨0,0,S52⟩:=by
 refine Xw Tryz.f126 64 (Zv K45 64 1 <|Zv K45 80 1 <|Zn) mixed <|fun E args ks C r h hC hlen=>?_
 simp only at h
 unfold S52 at h
 split at h
 rotate_left
 cases h
 rename_i p0
 cases h
 simp only [bI] at hlen
 refine ⟨rfl,?_⟩
 refine Xt [Ep 2 32,Ep 1 16] [0] [Mk 32 .u64 5 [0,0,0,0,0],Mk 16 .u64 5 p0] [] 48 (v2 pT) <|Xt [] [] [Mk 16 .u64 5 (F45 (F45 p0))] [16] 112 (v1 (pu pz (pu pz (pu (Yz 5) pT)))) <|Xs [Ek 3 .u64 (aa .u64 (aN .u64 ((F45 (F45 p0)).getD 0 0) 19) 51)] [] 208 (v1 (pu (Yi 0 5) (pu (Yl 0 5) (v1 (pu (Y0 51) (v1 pT)))))) <|Tri.seq <|Xs [Ei 4 1] [] 224 (v1 pT) <|Tri.block <|Xc 4 (ma p0) (aa .u64 (aN .u64 ((F45 (F45 p0)).getD 0 0) 19) 51) (fun k0 z0=>True) (fun k0 z0=>[Ej 4 (k0+1),Ek 3 .u64 z0]) (fun k0 z0=>[]) trivial <|fun k0 z0 hk0 hz0 hJ0=>Tri.seq <|Xs [Eb 15 (decide ((((k0+1:Nat):Int):Int)<5))] [] 256 (v2 pT) <|Xb (fun h1 h1'=>?_) (fun h1 h1'=>?_)
 exact Tri.skip <|Tri.seq <|Tri.block <|Ws [Ek 3 .u64 (aa .u64 (aN .u64 ((F45 (F45 p0)).getD (k0+1) 0) z0) 51)] [15,3] 384 (v2 (pu (Yj (k0+1) 5) (pu (Yl (k0+1) 5) (v2 (pu (Y0 51) (v1 pT)))))) <|Wu [Ej 17 ((k0+1)+1)] none [Ej 4 ((k0+1)+1)] [4] [] [] 432 (v1 (pv pT (Yp (k0+1) 1) (v1 pT))) <|Xo [] trivial
 refine Tri.exit <|?_
 obtain rfl:k0=4:=(by omega);subst hz0
 refine Xt [] [15,4,3] [Mk 16 .u64 5 ((F45 (F45 p0)).set 0 (aN .u64 ((F45 (F45 p0)).getD 0 0) (bS .u64 19 (itr (ma p0) 4 (aa .u64 (aN .u64 ((F45 (F45 p0)).getD 0 0) 19) 51)))))] [16] 400 (v1 (pu (Yi 0 5) (pu (Yl 0 5) (v4 (pu (Yi 0 5) (pu (Ys 0 5) pT)))))) <|Tri.seq <|Xs [Ei 33 0] [] 416 (v1 pT) <|Tri.block <|Xc 4 (rP) ((F45 (F45 p0)).set 0 (aN .u64 ((F45 (F45 p0)).getD 0 0) (bS .u64 19 (itr (ma p0) 4 (aa .u64 (aN .u64 ((F45 (F45 p0)).getD 0 0) 19) 51))))) (fun k1 z1=>True) (fun k1 z1=>[Ej 33 k1]) (fun k1 z1=>[Mk 16 .u64 5 z1]) trivial <|fun k1 z1 hk1 hz1 hJ1=>Xs [Eb 34 (decide ((((k1:Nat):Int):Int)<4))] [] 432 (v1 pT) <|Tri.seq <|Xb (fun h2 h2'=>?_) (fun h2 h2'=>?_)
 exact Tri.skip <|Tri.seq <|Tri.block <|Xs [Ej 5 k1] [34] 464 (v2 pT) <|Xu [Ej 37 (k1+1)] (some [0,1,0,7,15,0,0,96,224,480,1023,0,4095,8191]) [] [] [Mk 16 .u64 5 (z1.set (k1+1) (aN .u64 (z1.getD (k1+1) 0) (aa .u64 (z1.getD k1 0) 51)))] [16] 688 (v1 (pv pT (Yp k1 1) (v1 (pu (Yj (k1+1) 5) (pu (Yl (k1+1) 5) (v2 (pu (Yj k1 5) (pu (Yl k1 5) (pu (Y0 51) (v2 (pu (Yj (k1+1) 5) (pu (Ys (k1+1) 5) pT)))))))))))) <|Wt [] [5] [Mk 16 .u64 5 ((z1.set (k1+1) (aN .u64 (z1.getD (k1+1) 0) (aa .u64 (z1.getD k1 0) 51))).set k1 (ai .u64 ((z1.set (k1+1) (aN .u64 (z1.getD (k1+1) 0) (aa .u64 (z1.getD k1 0) 51))).getD k1 0) 2251799813685247))] [16] 816 (v2 (pu (Yj k1 5) (pu (Yl k1 5) (v2 (pu (Yj k1 5) (pu (Ys k1 5) pT)))))) <|Wu [Ej 56 (k1+1)] none [Ej 33 (k1+1)] [33] [] [] 848 (pv pT (Yp k1 1) (v1 pT)) <|Xo [] trivial
 refine Tri.exit <|?_
 obtain rfl:k1=4:=(by omega);subst hz1
 exact Xt [] [34,33] [Mk 16 .u64 5 ((itr (rP) 4 ((F45 (F45 p0)).set 0 (aN .u64 ((F45 (F45 p0)).getD 0 0) (bS .u64 19 (itr (ma p0) 4 (aa .u64 (aN .u64 ((F45 (F45 p0)).getD 0 0) 19) 51)))))).set 4 (ai .u64 ((itr (rP) 4 ((F45 (F45 p0)).set 0 (aN .u64 ((F45 (F45 p0)).getD 0 0) (bS .u64 19 (itr (ma p0) 4 (aa .u64 (aN .u64 ((F45 (F45 p0)).getD 0 0) 19) 51)))))).getD 4 0) 2251799813685247))] [16] 544 (v1 (pu (Yi 4 5) (pu (Yl 4 5) (v2 (pu (Yi 4 5) (pu (Ys 4 5) pT)))))) <|Xt [] [1] [Mk 32 .u64 5 ((itr (rP) 4 ((F45 (F45 p0)).set 0 (aN .u64 ((F45 (F45 p0)).getD 0 0) (bS .u64 19 (itr (ma p0) 4 (aa .u64 (aN .u64 ((F45 (F45 p0)).getD 0 0) 19) 51)))))).set 4 (ai .u64 ((itr (rP) 4 ((F45 (F45 p0)).set 0 (aN .u64 ((F45 (F45 p0)).getD 0 0) (bS .u64 19 (itr (ma p0) 4 (aa .u64 (aN .u64 ((F45 (F45 p0)).getD 0 0) 19) 51)))))).getD 4 0) 2251799813685247))] [16,32] 576 (v1 (pu (Yz 5) pT)) <|Xz [] pz
def sW (p0:List Int) (k0:Nat) (z0:List Int):List Int :=
 z0.set (k0/8) (iOr .u8 (z0.getD (k0/8) 0) (cu .u8 (IntKind.wrap .u8 (ai .u64 (aa .u64 ((F52 p0).getD (k0/51) 0) ((k0 % 51:Nat):Int)) 1)) ((k0 % 8:Nat):Int)))
def F33 (p0:List Int):List Int :=
 (itr (sW p0) 255 [0,0,0,0,0,0,0,0,0,0,0,0,0,0,0,0,0,0,0,0,0,0,0,0,0,0,0,0,0,0,0,0])
def S33:List AV→List Blk→Option (Prop × Ret)
 |[.ints .u64 5 p0],[]=>some (True,⟨.ints .u8 32 (F33 p0),[]⟩)
 |_,_=>none
theorem K33:Known Tryz.prog gD 102 ⟨0,0,S33⟩:=by
 refine Xw Tryz.f102 31 (Zv K52 64 1 <|Zn) mixed <|fun E args ks C r h hC hlen=>?_
 simp only at h
 unfold S33 at h
 split at h
 rotate_left
 cases h
 rename_i p0
 cases h
 simp only [bI] at hlen
 refine ⟨rfl,?_⟩
 refine Xt [Ep 2 32,Ep 1 16] [0] [Mi 32 32 [0,0,0,0,0,0,0,0,0,0,0,0,0,0,0,0,0,0,0,0,0,0,0,0,0,0,0,0,0,0,0,0],Mk 16 .u64 5 p0] [] 48 (v2 pT) <|Xt [] [] [Mk 16 .u64 5 (F52 p0)] [16] 96 (v1 (pu pz (pu (Yz 5) pT))) <|Xt [Ep 3 96] [] [Mi 96 32 [0,0,0,0,0,0,0,0,0,0,0,0,0,0,0,0,0,0,0,0,0,0,0,0,0,0,0,0,0,0,0,0]] [] 112 (v1 pT) <|Tri.seq <|Xs [Ei 7 0] [] 128 (v1 pT) <|Tri.block <|Xc 255 (sW p0) [0,0,0,0,0,0,0,0,0,0,0,0,0,0,0,0,0,0,0,0,0,0,0,0,0,0,0,0,0,0,0,0] (fun k0 z0=>True) (fun k0 z0=>[Ej 7 k0]) (fun k0 z0=>[Mi 96 32 z0]) trivial <|fun k0 z0 hk0 hz0 hJ0=>Xs [Eb 8 (decide ((((k0:Nat):Int):Int)<255))] [] 144 (v1 pT) <|Tri.seq <|Xb (fun h1 h1'=>?_) (fun h1 h1'=>?_)
 exact Tri.skip <|Tri.seq <|Tri.block <|Xs [Ej 4 k0] [8] 176 (v2 pT) <|Wu [Ej 11 (k0/8),Ej 15 (k0/51),Ej 20 (k0 % 51),Ej 25 (k0 % 8)] (some [0,1,3,7,0,16,0,112,240,0,512,2032,4080,8176,0,16384,65520,131071,262143,524287]) [] [4] [Mi 96 32 (z0.set (k0/8) (iOr .u8 (z0.getD (k0/8) 0) (cu .u8 (IntKind.wrap .u8 (ai .u64 (aa .u64 ((F52 p0).getD (k0/51) 0) ((k0 % 51:Nat):Int)) 1)) ((k0 % 8:Nat):Int))))] [96] 496 (v1 (pv (Yn 8) (pl (dH (a:=k0) (b:=8) (by omega))) (pu (Yj (k0/8) 32) (pu (Yl (k0/8) 32) (v1 (pv (Yn 51) (pl (dH (a:=k0) (b:=51) (by omega))) (v1 (pu (Yj (k0/51) 5) (pu (Yl (k0/51) 5) (v1 (pv (Yn 51) (pl (eK (a:=k0) (b:=51))) (pu (Y0 ((k0 % 51:Nat):Int)) (v3 (pv (Yn 8) (pl (eK (a:=k0) (b:=8))) (pu (Y0 ((k0 % 8:Nat):Int)) (v1 (pu (Yj (k0/8) 32) (pu (Ys (k0/8) 32) pT)))))))))))))))))) <|Wu [Ej 29 (k0+1)] none [Ej 7 (k0+1)] [7] [] [] 528 (pv pT (Yp k0 1) (v1 pT)) <|Xo [] trivial
 refine Tri.exit <|?_
 obtain rfl:k0=255:=(by omega);subst hz0
 exact Xt [] [8,7,3,1] [Mi 32 32 (itr (sW p0) 255 [0,0,0,0,0,0,0,0,0,0,0,0,0,0,0,0,0,0,0,0,0,0,0,0,0,0,0,0,0,0,0,0])] [96,16,32] 176 (v1 (pu (Yz 32) pT)) <|Xz [] pz
def F29 (p0:List Int) (p1:List Int):Bool :=
 (((F33 p0):List Int)==(F33 p1))
def S29:List AV→List Blk→Option (Prop × Ret)
 |[.ints .u64 5 p0,.ints .u64 5 p1],[]=>some (True,⟨.sc (.b (F29 p0 p1)),[]⟩)
 |_,_=>none
theorem K29:Known Tryz.prog gD 129 ⟨0,0,S29⟩:=by
 refine Xw Tryz.f129 10 (Zv K33 80 1 <|Zv K33 112 1 <|Zn) mixed <|fun E args ks C r h hC hlen=>?_
 simp only at h
 unfold S29 at h
 split at h
 rotate_left
 cases h
 rename_i p0 p1
 cases h
 simp only [bI] at hlen
 refine ⟨rfl,?_⟩
 exact Xt [Ep 3 32,Ep 2 16] [0,1] [Mk 32 .u64 5 p1,Mk 16 .u64 5 p0] [] 64 (v3 pT) <|Xu [] (some [0,1,0,7,15,31]) [Eb 4 (((F33 p0):List Int)==(F33 p1))] [3,2] [] [32,16] 160 (v1 (pu pz (v1 (pu pz (v2 pT))))) <|Xz [] pz
def F32 (p0:List Int):Bool :=
 (((ai .u64 ((F52 p0).getD 0 0) 1):Int)==1)
def S32:List AV→List Blk→Option (Prop × Ret)
 |[.ints .u64 5 p0],[]=>some (True,⟨.sc (.b (F32 p0)),[]⟩)
 |_,_=>none
theorem K32:Known Tryz.prog gD 110 ⟨0,0,S32⟩:=by
 refine Xw Tryz.f110 9 (Zv K52 64 1 <|Zn) mixed <|fun E args ks C r h hC hlen=>?_
 simp only at h
 unfold S32 at h
 split at h
 rotate_left
 cases h
 rename_i p0
 cases h
 simp only [bI] at hlen
 refine ⟨rfl,?_⟩
 exact Xt [Ep 1 16] [0] [Mk 16 .u64 5 p0] [] 48 (v2 pT) <|Xt [Eb 2 (((ai .u64 ((F52 p0).getD 0 0) 1):Int)==1)] [1] [] [16] 160 (v1 (pu pz (v1 (pu (pa (Yi 0 5) (Yl 0 5)) (v3 pT))))) <|Xz [] pz
def F34 (p0:List Int):List Int :=
 (sel (!(F29 (F20 (F26 p0 (aH (F50 252 2) 32 0 32)) (F26 p0 (aH (F50 252 2) 32 0 32))) p0)) (F20 (F26 p0 (aH (F50 252 2) 32 0 32)) (F26 (F30 2) (aH (F50 253 5) 32 0 32))) (F26 p0 (aH (F50 252 2) 32 0 32)))
def ra (p0:List Int):Bool :=
 (F29 (F20 (sel (!(F29 (F20 (F26 p0 (aH (F50 252 2) 32 0 32)) (F26 p0 (aH (F50 252 2) 32 0 32))) p0)) (F20 (F26 p0 (aH (F50 252 2) 32 0 32)) (F26 (F30 2) (aH (F50 253 5) 32 0 32))) (F26 p0 (aH (F50 252 2) 32 0 32))) (sel (!(F29 (F20 (F26 p0 (aH (F50 252 2) 32 0 32)) (F26 p0 (aH (F50 252 2) 32 0 32))) p0)) (F20 (F26 p0 (aH (F50 252 2) 32 0 32)) (F26 (F30 2) (aH (F50 253 5) 32 0 32))) (F26 p0 (aH (F50 252 2) 32 0 32)))) p0)
def S34:List AV→List Blk→Option (Prop × Ret)
 |[.ints .u64 5 p0],[]=>some (True,⟨.tup [.ints .u64 5 (F34 p0),.sc (.b (ra p0))],[]⟩)
 |_,_=>none
theorem K34:Known Tryz.prog gD 128 ⟨0,0,S34⟩:=by
 refine Xw Tryz.f128 25 (Zv K30 256 1 <|Zv K20 176 2 <|Zv K20 304 2 <|Zv K20 384 2 <|Zv K29 208 2 <|Zv K29 416 2 <|Zc K26 96 [.val,.ro .u8] [80] [] <|Zc K26 288 [.val,.ro .u8] [272] [] <|Zv K50 80 2 <|Zv K50 272 2 <|Zn) mixed <|fun E args ks C r h hC hlen=>?_
 simp only at h
 unfold S34 at h
 split at h
 rotate_left
 cases h
 rename_i p0
 cases h
 simp only [bI] at hlen
 refine ⟨rfl,?_⟩
 refine Xt [Ep 2 32,Ep 1 16] [0] [Mk 32 .u64 5 [0,0,0,0,0],Mk 16 .u64 5 p0] [] 64 (v3 pT) <|Xu [] (some [0,0,3,0,15]) [Ep 4 112] [] [Mk 112 .u64 5 (F26 p0 (aH (F50 252 2) 32 0 32))] [] 144 (v1 (pu (pa pT (lo ((248:Int)≤252∧252≤(255:Int)))) (pu (pa (pa (Yw 32) pT) (pl (show (aH (F50 252 2) 32 0 32).length≤1000000 from by rw [bJ (tX _ _),tX];decide))) (v1 (pu (Yz 5) pT))))) ?_
 refine Tri.seq <|Xu [] (some [0,0,3,0,15,31]) [Eb 13 (!(F29 (F20 (F26 p0 (aH (F50 252 2) 32 0 32)) (F26 p0 (aH (F50 252 2) 32 0 32))) p0))] [] [] [] 240 (v2 (pu pz (v1 (pu pz (v1 pT))))) <|Xj (x:=(!(F29 (F20 (F26 p0 (aH (F50 252 2) 32 0 32)) (F26 p0 (aH (F50 252 2) 32 0 32))) p0))) (fun bb=>[]) [13] (fun bb=>[Mk 112 .u64 5 (sel bb (F20 (F26 p0 (aH (F50 252 2) 32 0 32)) (F26 (F30 2) (aH (F50 253 5) 32 0 32))) (F26 p0 (aH (F50 252 2) 32 0 32)))]) [112] 336 (fun h1=>?_) (fun h1=>?_) ?_
 refine Wu [] (some [0,0,2,6,15,31]) [] [13] [Mk 112 .u64 5 (F20 (F26 p0 (aH (F50 252 2) 32 0 32)) (F26 (F30 2) (aH (F50 253 5) 32 0 32)))] [112] 336 (v1 (pu pz (pu (pa pT (lo ((248:Int)≤253∧253≤(255:Int)))) (pu (pa (pa (Yw 32) pT) (pl (show (aH (F50 253 5) 32 0 32).length≤1000000 from by rw [bJ (tX _ _),tX];decide))) (pu pz (pu (Yz 5) pT)))))) ?_
 exact Xe [] [Mk 112 .u64 5 (F20 (F26 p0 (aH (F50 252 2) 32 0 32)) (F26 (F30 2) (aH (F50 253 5) 32 0 32)))]
 exact Tri.skip <|Xe [] [Mk 112 .u64 5 (F26 p0 (aH (F50 252 2) 32 0 32))]
 exact Xu [] (some [0,0,0,6,0,30,63,127]) [Eb 3 (F29 (F20 (sel (!(F29 (F20 (F26 p0 (aH (F50 252 2) 32 0 32)) (F26 p0 (aH (F50 252 2) 32 0 32))) p0)) (F20 (F26 p0 (aH (F50 252 2) 32 0 32)) (F26 (F30 2) (aH (F50 253 5) 32 0 32))) (F26 p0 (aH (F50 252 2) 32 0 32))) (sel (!(F29 (F20 (F26 p0 (aH (F50 252 2) 32 0 32)) (F26 p0 (aH (F50 252 2) 32 0 32))) p0)) (F20 (F26 p0 (aH (F50 252 2) 32 0 32)) (F26 (F30 2) (aH (F50 253 5) 32 0 32))) (F26 p0 (aH (F50 252 2) 32 0 32)))) p0)] [4,1] [Mk 32 .u64 5 (sel (!(F29 (F20 (F26 p0 (aH (F50 252 2) 32 0 32)) (F26 p0 (aH (F50 252 2) 32 0 32))) p0)) (F20 (F26 p0 (aH (F50 252 2) 32 0 32)) (F26 (F30 2) (aH (F50 253 5) 32 0 32))) (F26 p0 (aH (F50 252 2) 32 0 32)))] [112,32,16] 464 (v3 (pu pz (v1 (pu pz (pu (Yz 5) (v1 pT)))))) <|Xz [] (pa pT pz)
def sk (p0:List Int) (k0:Nat) (z0:List Int):List Int :=
 z0.set (k0/51) (iOr .u64 (z0.getD (k0/51) 0) (cu .u64 (IntKind.wrap .u64 (ai .u8 (aa .u8 (p0.getD (k0/8) 0) ((k0 % 8:Nat):Int)) 1)) ((k0 % 51:Nat):Int)))
def F23 (p0:List Int):List Int :=
 (sel ((((p0.length:Nat):Int):Int) != 32) [0,0,0,0,0] (itr (sk p0) 255 [0,0,0,0,0]))
def kR (p0:List Int):Bool :=
 (sel ((((p0.length:Nat):Int):Int) != 32) false true)
def S23:List AV→List Blk→Option (Prop × Ret)
 |[.sc (.ro .u8 p0)],[]=>some (True,⟨.tup [.ints .u64 5 (F23 p0),.sc (.b (kR p0))],[]⟩)
 |_,_=>none
theorem K23:Known Tryz.prog gD 127 ⟨0,0,S23⟩:=by
 refine Xw Tryz.f127 36 Zn mixed <|fun E args ks C r h hC hlen=>?_
 simp only at h
 unfold S23 at h
 split at h
 rotate_left
 cases h
 rename_i p0
 cases h
 simp only [bI] at hlen
 refine ⟨rfl,?_⟩
 refine Xt [Ep 2 16] [] [Mk 16 .u64 5 [0,0,0,0,0]] [] 48 (v2 pT) <|Xt [Ep 4 48] [] [Mk 48 .u64 5 [0,0,0,0,0]] [] 64 (v1 pT) <|Tri.seq <|Xs [Eb 8 ((((p0.length:Nat):Int):Int) != 32)] [] 112 (v3 pT) <|Xa (fun h1=>?_) (fun h1=>?_)
 have h1':=di h1
 exact Xt [Eb 3 false] [8,4,0] [] [48] 160 (v1 (pu (Yz 5) (v1 pT))) <|Xy [] (pa pT pz) (by simp only [F23,kR,h1,aD,aA] <;> rfl)
 have h1':=bz h1
 refine Tri.skip <|Tri.seq <|Xs [Ei 10 0] [8] 128 (v1 pT) <|Tri.block <|Xc 255 (sk p0) [0,0,0,0,0] (fun k0 z0=>True) (fun k0 z0=>[Ej 10 k0]) (fun k0 z0=>[Mk 48 .u64 5 z0]) trivial <|fun k0 z0 hk0 hz0 hJ0=>Xs [Eb 11 (decide ((((k0:Nat):Int):Int)<255))] [] 144 (v1 pT) <|Tri.seq <|Xb (fun h2 h2'=>?_) (fun h2 h2'=>?_)
 exact Tri.skip <|Tri.seq <|Tri.block <|Xs [Ej 5 k0] [11] 176 (v2 pT) <|Wu [Ej 14 (k0/51),Ej 20 (k0/8),Ej 24 (k0 % 8),Ej 29 (k0 % 51)] (some [0,1,0,7,15,0,0,64,224,480,0,1024,4064,8160,16352,0,32768,131040,262143,0,1048575,2097151]) [] [5] [Mk 48 .u64 5 (z0.set (k0/51) (iOr .u64 (z0.getD (k0/51) 0) (cu .u64 (IntKind.wrap .u64 (ai .u8 (aa .u8 (p0.getD (k0/8) 0) ((k0 % 8:Nat):Int)) 1)) ((k0 % 51:Nat):Int))))] [48] 528 (v1 (pv (Yn 51) (pl (dH (a:=k0) (b:=51) (by omega))) (v1 (pu (Yj (k0/51) 5) (pu (Yl (k0/51) 5) (v2 (pv (Yn 8) (pl (dH (a:=k0) (b:=8) (by omega))) (pu (Yj (k0/8) p0.length) (pu (Yl (k0/8) p0.length) (v1 (pv (Yn 8) (pl (eK (a:=k0) (b:=8))) (pu (Y0 ((k0 % 8:Nat):Int)) (v3 (pv (Yn 51) (pl (eK (a:=k0) (b:=51))) (pu (Y0 ((k0 % 51:Nat):Int)) (v2 (pu (Yj (k0/51) 5) (pu (Ys (k0/51) 5) pT)))))))))))))))))) <|Wu [Ej 34 (k0+1)] none [Ej 10 (k0+1)] [10] [] [] 560 (pv pT (Yp k0 1) (v1 pT)) <|Xo [] trivial
 refine Tri.exit <|?_
 obtain rfl:k0=255:=(by omega);subst hz0
 exact Xt [Eb 3 true] [11,10,4,0] [Mk 16 .u64 5 (itr (sk p0) 255 [0,0,0,0,0])] [48,16] 192 (v1 (pu (Yz 5) (v1 pT))) <|Xy [] (pa pT pz) (by simp only [F23,kR,h1,aD,aA] <;> rfl)
theorem Kk {p0:List Int} (h:kR p0=true):p0.length=32:=by
 unfold kR at h
 cases hb:((((p0.length:Nat):Int):Int) != 32)
 ·have:=bz hb
  omega
 ·rw [hb,aD] at h
  cases h
theorem ip {p0:List Int} (h:(!(kR p0))=false):p0.length=32:=Kk (by simpa using h)
end Go.Vm
namespace Go.Vm
open Go Go.Proofs
def BX:LaidI Tryz.prog:=⟨ "tabulary/digest.steps",1,126,91,.u64,Ev⟩
def yu:LaidI Tryz.prog:=⟨ "tabulary/digest.starts",0,124,91,.u64,zh⟩
def DA:LaidI Tryz.prog:=⟨ "tabulary/twist.order",2,100,91,.u64,xa⟩
def laidW:List (String × DataW Unit):=[("tabulary/digest.steps",YtcomenlmambmfaaGreatDoor.Rows.laid_tabulary_digest_steps),("tabulary/digest.starts",YtcomenlmambmfaaGreatDoor.Rows.laid_tabulary_digest_starts),("tabulary/twist.order",YtcomenlmambmfaaGreatDoor.Rows.laid_tabulary_twist_order)]
theorem AO:BX.ok:=⟨by kernel_rfl,by kernel_rfl,by kernel_rfl,by kernel_rfl,by kernel_rfl,by kernel_rfl⟩
theorem yE:yu.ok:=⟨by kernel_rfl,by kernel_rfl,by kernel_rfl,by kernel_rfl,by kernel_rfl,by kernel_rfl⟩
theorem Ag:DA.ok:=⟨by kernel_rfl,by kernel_rfl,by kernel_rfl,by kernel_rfl,by kernel_rfl,by kernel_rfl⟩
theorem globs_met {W:World} (h:laidMetH Tryz.prog laidW W):GlobsOk (E0 Tryz.prog W) gD:=by
 rw [MakeChecks.laidMetH_plain _ _ _ (by kernel_rfl)] at h
 obtain ⟨ps,hv,_,_⟩:=h
 have e:[("tabulary/digest.steps",YtcomenlmambmfaaGreatDoor.Rows.laid_tabulary_digest_steps),("tabulary/digest.starts",YtcomenlmambmfaaGreatDoor.Rows.laid_tabulary_digest_starts),("tabulary/twist.order",YtcomenlmambmfaaGreatDoor.Rows.laid_tabulary_twist_order)]=[BX,yu,DA].map fun x=>(x.name,x.datum):=by kernel_rfl
 rw [show laidW=_ from e] at hv
 have hc:=rG (fun x hx=>by
  simp only [List.mem_cons,List.not_mem_nil,or_false] at hx
  rcases hx with rfl|rfl|rfl
  ·exact AO
  ·exact yE
  ·exact Ag) hv
 refine DE (P:=Tryz.prog) (l0:=[yu,BX,DA]) (fun x hx=>hc x ?_) ?_
 ·simp only [List.mem_cons,List.not_mem_nil,or_false] at hx ⊢
  rcases hx with rfl|rfl|rfl
  ·exact .inr (.inl rfl)
  ·exact .inl rfl
  ·exact .inr (.inr rfl)
 ·intro x hx
  simp only [List.mem_cons,List.not_mem_nil,or_false] at hx
  rcases hx with rfl|rfl|rfl
  ·exact Nat.lt_of_lt_of_eq (by decide:0<8) (by kernel_rfl)
  ·exact Nat.lt_of_lt_of_eq (by decide:0<80) (by kernel_rfl)
  ·exact Nat.lt_of_lt_of_eq (by decide:0<4) (by kernel_rfl)
end Go.Vm
namespace Go.Vm
open Go Go.Proofs
def gN (k1:Nat) (z1:Int × List Int):Int × List Int :=
 ((aa .i64 (aN .i64 (z1.2.getD k1 0) z1.1) 16),z1.2.set k1 (ag .i64 (aN .i64 (z1.2.getD k1 0) z1.1) (cu .i64 (aa .i64 (aN .i64 (z1.2.getD k1 0) z1.1) 16) 16)))
def cT (k0:Nat) (z0:List Int):List Int :=
 (((itr (gN) 16 (0,z0)).2).set 15 (ag .i64 (((itr (gN) 16 (0,z0)).2).getD 15 0) (cu .i64 (aa .i64 (((itr (gN) 16 (0,z0)).2).getD 15 0) 15) 15))).set 0 (aN .i64 ((((itr (gN) 16 (0,z0)).2).set 15 (ag .i64 (((itr (gN) 16 (0,z0)).2).getD 15 0) (cu .i64 (aa .i64 (((itr (gN) 16 (0,z0)).2).getD 15 0) 15) 15))).getD 0 0) (aN .i64 (bS .i64 19 (aa .i64 (((itr (gN) 16 (0,z0)).2).getD 15 0) 15)) (bS .i64 38 ((itr (gN) 16 (0,z0)).1))))
def ml (k2:Nat) (z2:Int × List Int):Int × List Int :=
 ((aa .i64 (aN .i64 (z2.2.getD k2 0) z2.1) 16),z2.2.set k2 (ag .i64 (aN .i64 (z2.2.getD k2 0) z2.1) (cu .i64 (aa .i64 (aN .i64 (z2.2.getD k2 0) z2.1) 16) 16)))
def F46 (p0:List Int):List Int :=
 (sel (decide ((((itr (ml) 16 (0,(itr (cT) 4 p0).set 0 (aN .i64 ((itr (cT) 4 p0).getD 0 0) 19))).2).getD 15 0:Int) ≥ 32768)) (((itr (ml) 16 (0,(itr (cT) 4 p0).set 0 (aN .i64 ((itr (cT) 4 p0).getD 0 0) 19))).2).set 15 (ag .i64 (((itr (ml) 16 (0,(itr (cT) 4 p0).set 0 (aN .i64 ((itr (cT) 4 p0).getD 0 0) 19))).2).getD 15 0) 32768)) (itr (cT) 4 p0))
def S46:List AV→List Blk→Option (Prop × Ret)
 |[.ints .i64 16 p0],[]=>some (True,⟨.ints .i64 16 (F46 p0),[]⟩)
 |_,_=>none
theorem K46:Known Tryz.prog gD 138 ⟨0,0,S46⟩:=by
 refine Xw Tryz.f138 82 Zn mixed <|fun E args ks C r h hC hlen=>?_
 simp only at h
 unfold S46 at h
 split at h
 rotate_left
 cases h
 rename_i p0
 cases h
 simp only [bI] at hlen
 refine ⟨rfl,?_⟩
 refine Xt [Ep 2 32,Ep 1 16] [0] [Mk 32 .i64 16 [0,0,0,0,0,0,0,0,0,0,0,0,0,0,0,0],Mk 16 .i64 16 p0] [] 48 (v2 pT) <|Tri.seq <|Xs [Ei 3 0] [] 64 (v1 pT) <|Tri.block <|Xc 4 (cT) p0 (fun k0 z0=>True) (fun k0 z0=>[Ej 3 k0]) (fun k0 z0=>[Mk 16 .i64 16 z0]) trivial <|fun k0 z0 hk0 hz0 hJ0=>Tri.seq <|Xs [Eb 13 (decide ((((k0:Nat):Int):Int)<4))] [] 96 (v2 pT) <|Xb (fun h1 h1'=>?_) (fun h1 h1'=>?_)
 refine Tri.skip <|Tri.seq <|Tri.block <|Xs [Ei 4 0] [13] 112 (v1 pT) <|Tri.seq <|Xs [Ei 5 0] [] 128 (v1 pT) <|Tri.block <|Xc 16 (gN) (0,z0) (fun k1 z1=>True) (fun k1 z1=>[Ej 5 k1,Ei 4 z1.1]) (fun k1 z1=>[Mk 16 .i64 16 z1.2]) trivial <|fun k1 z1 hk1 hz1 hJ1=>Tri.seq <|Xs [Eb 17 (decide ((((k1:Nat):Int):Int)<16))] [] 160 (v2 pT) <|Xb (fun h2 h2'=>?_) (fun h2 h2'=>?_)
 exact Tri.skip <|Tri.seq <|Tri.block <|Xs [Ei 6 (aN .i64 (z1.2.getD k1 0) z1.1)] [17,4] 256 (v1 (pu (Yj k1 16) (pu (Yl k1 16) (v3 pT)))) <|Xs [Ei 4 (aa .i64 (aN .i64 (z1.2.getD k1 0) z1.1) 16)] [] 304 (v1 (pu (Y0 16) (v1 pT))) <|Wt [] [6] [Mk 16 .i64 16 (z1.2.set k1 (ag .i64 (aN .i64 (z1.2.getD k1 0) z1.1) (cu .i64 (aa .i64 (aN .i64 (z1.2.getD k1 0) z1.1) 16) 16)))] [16] 416 (v3 (pu (Y0 16) (v1 (pu (Yj k1 16) (pu (Ys k1 16) pT))))) <|Wu [Ej 19 (k1+1)] none [Ej 5 (k1+1)] [5] [] [] 464 (v1 (pv pT (Yp k1 1) (v1 pT))) <|Xo [] trivial
 refine Tri.exit <|?_
 obtain rfl:k1=16:=(by omega);subst hz1
 exact Xs [Ei 7 (aa .i64 (((itr (gN) 16 (0,z0)).2).getD 15 0) 15)] [17,5] 224 (pu (Yi 15 16) (pu (Yl 15 16) (pu (Y0 15) (v1 pT)))) <|Xt [] [] [Mk 16 .i64 16 (((itr (gN) 16 (0,z0)).2).set 15 (ag .i64 (((itr (gN) 16 (0,z0)).2).getD 15 0) (cu .i64 (aa .i64 (((itr (gN) 16 (0,z0)).2).getD 15 0) 15) 15)))] [16] 336 (pu (Yi 15 16) (pu (Yl 15 16) (v1 (pu (Y0 15) (v1 (pu (Yi 15 16) (pu (Ys 15 16) pT))))))) <|Wt [] [7,4] [Mk 16 .i64 16 ((((itr (gN) 16 (0,z0)).2).set 15 (ag .i64 (((itr (gN) 16 (0,z0)).2).getD 15 0) (cu .i64 (aa .i64 (((itr (gN) 16 (0,z0)).2).getD 15 0) 15) 15))).set 0 (aN .i64 ((((itr (gN) 16 (0,z0)).2).set 15 (ag .i64 (((itr (gN) 16 (0,z0)).2).getD 15 0) (cu .i64 (aa .i64 (((itr (gN) 16 (0,z0)).2).getD 15 0) 15) 15))).getD 0 0) (aN .i64 (bS .i64 19 (aa .i64 (((itr (gN) 16 (0,z0)).2).getD 15 0) 15)) (bS .i64 38 ((itr (gN) 16 (0,z0)).1)))))] [16] 496 (pu (Yi 0 16) (pu (Yl 0 16) (v6 (pu (Yi 0 16) (pu (Ys 0 16) pT))))) <|Wu [Ej 15 (k0+1)] none [Ej 3 (k0+1)] [3] [] [] 544 (v1 (pv pT (Yp k0 1) (v1 pT))) <|Xo [] trivial
 refine Tri.exit <|?_
 obtain rfl:k0=4:=(by omega);subst hz0
 refine Xt [Ep 8 112] [13,3] [Mk 112 .i64 16 (itr (cT) 4 p0)] [] 144 (v2 (pu (Yz 16) pT)) <|Xt [] [] [Mk 112 .i64 16 ((itr (cT) 4 p0).set 0 (aN .i64 ((itr (cT) 4 p0).getD 0 0) 19))] [112] 224 (pu (Yi 0 16) (pu (Yl 0 16) (v1 (pu (Yi 0 16) (pu (Ys 0 16) pT))))) <|Xs [Ei 9 0] [] 240 (v1 pT) <|Tri.seq <|Xs [Ei 10 0] [] 256 (v1 pT) <|Tri.block <|Xc 16 (ml) (0,(itr (cT) 4 p0).set 0 (aN .i64 ((itr (cT) 4 p0).getD 0 0) 19)) (fun k2 z2=>True) (fun k2 z2=>[Ej 10 k2,Ei 9 z2.1]) (fun k2 z2=>[Mk 112 .i64 16 z2.2]) trivial <|fun k2 z2 hk2 hz2 hJ2=>Tri.seq <|Xs [Eb 57 (decide ((((k2:Nat):Int):Int)<16))] [] 288 (v2 pT) <|Xb (fun h3 h3'=>?_) (fun h3 h3'=>?_)
 exact Tri.skip <|Tri.seq <|Tri.block <|Xs [Ei 11 (aN .i64 (z2.2.getD k2 0) z2.1)] [57,9] 384 (v1 (pu (Yj k2 16) (pu (Yl k2 16) (v3 pT)))) <|Xs [Ei 9 (aa .i64 (aN .i64 (z2.2.getD k2 0) z2.1) 16)] [] 432 (v1 (pu (Y0 16) (v1 pT))) <|Wt [] [11] [Mk 112 .i64 16 (z2.2.set k2 (ag .i64 (aN .i64 (z2.2.getD k2 0) z2.1) (cu .i64 (aa .i64 (aN .i64 (z2.2.getD k2 0) z2.1) 16) 16)))] [112] 544 (v3 (pu (Y0 16) (v1 (pu (Yj k2 16) (pu (Ys k2 16) pT))))) <|Wu [Ej 59 (k2+1)] none [Ej 10 (k2+1)] [10] [] [] 592 (v1 (pv pT (Yp k2 1) (v1 pT))) <|Xo [] trivial
 refine Tri.exit <|?_
 obtain rfl:k2=16:=(by omega);subst hz2
 refine Tri.seq <|Xs [Eb 75 (decide ((((itr (ml) 16 (0,(itr (cT) 4 p0).set 0 (aN .i64 ((itr (cT) 4 p0).getD 0 0) 19))).2).getD 15 0:Int) ≥ 32768))] [57,10,9] 336 (pu (Yi 15 16) (pu (Yl 15 16) (v1 pT))) <|Xb (fun h4 h4'=>?_) (fun h4 h4'=>?_)
 exact Xt [] [75,1] [Mk 112 .i64 16 (((itr (ml) 16 (0,(itr (cT) 4 p0).set 0 (aN .i64 ((itr (cT) 4 p0).getD 0 0) 19))).2).set 15 (ag .i64 (((itr (ml) 16 (0,(itr (cT) 4 p0).set 0 (aN .i64 ((itr (cT) 4 p0).getD 0 0) 19))).2).getD 15 0) 32768))] [112,16] 416 (pu (Yi 15 16) (pu (Yl 15 16) (v1 (pu (Yi 15 16) (pu (Ys 15 16) pT))))) <|Xt [] [8] [Mk 32 .i64 16 (((itr (ml) 16 (0,(itr (cT) 4 p0).set 0 (aN .i64 ((itr (cT) 4 p0).getD 0 0) 19))).2).set 15 (ag .i64 (((itr (ml) 16 (0,(itr (cT) 4 p0).set 0 (aN .i64 ((itr (cT) 4 p0).getD 0 0) 19))).2).getD 15 0) 32768))] [112,32] 448 (v1 (pu (Yz 16) pT)) <|Xy [] pz (by simp only [F46,h4,aD,aA] <;> rfl)
 exact Tri.skip <|Xt [] [75,8,1] [Mk 32 .i64 16 (itr (cT) 4 p0)] [112,32,16] 368 (v1 (pu (Yz 16) pT)) <|Xy [] pz (by simp only [F46,h4,aD,aA] <;> rfl)
def xD (p1:List Int) (k0:Nat) (z0:List Int):List Int :=
 z0.set k0 (aN .i64 (z0.getD k0 0) (p1.getD k0 0))
def F17 (p0:List Int) (p1:List Int):List Int :=
 (F46 (itr (xD p1) 16 p0))
def S17:List AV→List Blk→Option (Prop × Ret)
 |[.ints .i64 16 p0,.ints .i64 16 p1],[]=>some (True,⟨.ints .i64 16 (F17 p0 p1),[]⟩)
 |_,_=>none
theorem K17:Known Tryz.prog gD 139 ⟨0,0,S17⟩:=by
 refine Xw Tryz.f139 20 (Zv K46 128 1 <|Zn) mixed <|fun E args ks C r h hC hlen=>?_
 simp only at h
 unfold S17 at h
 split at h
 rotate_left
 cases h
 rename_i p0 p1
 cases h
 simp only [bI] at hlen
 refine ⟨rfl,?_⟩
 refine Xt [Ep 4 48,Ep 3 32,Ep 2 16] [0,1] [Mk 48 .i64 16 [0,0,0,0,0,0,0,0,0,0,0,0,0,0,0,0],Mk 32 .i64 16 p1,Mk 16 .i64 16 p0] [] 64 (v3 pT) <|Tri.seq <|Xs [Ei 5 0] [] 80 (v1 pT) <|Tri.block <|Xc 16 (xD p1) p0 (fun k0 z0=>True) (fun k0 z0=>[Ej 5 k0]) (fun k0 z0=>[Mk 16 .i64 16 z0]) trivial <|fun k0 z0 hk0 hz0 hJ0=>Tri.seq <|Xs [Eb 7 (decide ((((k0:Nat):Int):Int)<16))] [] 112 (v2 pT) <|Xb (fun h1 h1'=>?_) (fun h1 h1'=>?_)
 exact Tri.skip <|Tri.seq <|Tri.block <|Wu [] (some [0,1,3,0,8,24,63,127,255]) [] [7] [Mk 16 .i64 16 (z0.set k0 (aN .i64 (z0.getD k0 0) (p1.getD k0 0)))] [16] 256 (v1 (pu (Yj k0 16) (pu (Yl k0 16) (v1 (pu (Yj k0 16) (pu (Yl k0 16) (v1 (pu (Yj k0 16) (pu (Ys k0 16) pT))))))))) <|Wu [Ej 9 (k0+1)] none [Ej 5 (k0+1)] [5] [] [] 304 (v1 (pv pT (Yp k0 1) (v1 pT))) <|Xo [] trivial
 refine Tri.exit <|?_
 obtain rfl:k0=16:=(by omega);subst hz0
 exact Xt [] [7,5,3,2] [Mk 48 .i64 16 (F46 (itr (xD p1) 16 p0))] [48,32,16] 160 (v1 (pu pz (pu (Yz 16) pT))) <|Xz [] pz
def gl (p1:List Int) (k0:Nat) (z0:List Int):List Int :=
 z0.set k0 (ag .i64 (z0.getD k0 0) (p1.getD k0 0))
def mc (k1:Nat) (z1:List Int):List Int :=
 z1.set (k1+1) (aN .i64 (z1.getD (k1+1) 0) 131070)
def F19 (p0:List Int) (p1:List Int):List Int :=
 (F46 ((itr (mc) 14 ((itr (gl p1) 16 p0).set 0 (aN .i64 ((itr (gl p1) 16 p0).getD 0 0) 131034))).set 15 (aN .i64 ((itr (mc) 14 ((itr (gl p1) 16 p0).set 0 (aN .i64 ((itr (gl p1) 16 p0).getD 0 0) 131034))).getD 15 0) 65534)))
def S19:List AV→List Blk→Option (Prop × Ret)
 |[.ints .i64 16 p0,.ints .i64 16 p1],[]=>some (True,⟨.ints .i64 16 (F19 p0 p1),[]⟩)
 |_,_=>none
theorem K19:Known Tryz.prog gD 120 ⟨0,0,S19⟩:=by
 refine Xw Tryz.f120 38 (Zv K46 336 1 <|Zn) mixed <|fun E args ks C r h hC hlen=>?_
 simp only at h
 unfold S19 at h
 split at h
 rotate_left
 cases h
 rename_i p0 p1
 cases h
 simp only [bI] at hlen
 refine ⟨rfl,?_⟩
 refine Xt [Ep 4 48,Ep 3 32,Ep 2 16] [0,1] [Mk 48 .i64 16 [0,0,0,0,0,0,0,0,0,0,0,0,0,0,0,0],Mk 32 .i64 16 p1,Mk 16 .i64 16 p0] [] 64 (v3 pT) <|Tri.seq <|Xs [Ei 5 0] [] 80 (v1 pT) <|Tri.block <|Xc 16 (gl p1) p0 (fun k0 z0=>True) (fun k0 z0=>[Ej 5 k0]) (fun k0 z0=>[Mk 16 .i64 16 z0]) trivial <|fun k0 z0 hk0 hz0 hJ0=>Tri.seq <|Xs [Eb 8 (decide ((((k0:Nat):Int):Int)<16))] [] 112 (v2 pT) <|Xb (fun h1 h1'=>?_) (fun h1 h1'=>?_)
 exact Tri.skip <|Tri.seq <|Tri.block <|Wu [] (some [0,1,3,0,8,24,63,127,255]) [] [8] [Mk 16 .i64 16 (z0.set k0 (ag .i64 (z0.getD k0 0) (p1.getD k0 0)))] [16] 256 (v1 (pu (Yj k0 16) (pu (Yl k0 16) (v1 (pu (Yj k0 16) (pu (Yl k0 16) (v1 (pu (Yj k0 16) (pu (Ys k0 16) pT))))))))) <|Wu [Ej 10 (k0+1)] none [Ej 5 (k0+1)] [5] [] [] 304 (v1 (pv pT (Yp k0 1) (v1 pT))) <|Xo [] trivial
 refine Tri.exit <|?_
 obtain rfl:k0=16:=(by omega);subst hz0
 refine Xt [] [8,5,3] [Mk 16 .i64 16 ((itr (gl p1) 16 p0).set 0 (aN .i64 ((itr (gl p1) 16 p0).getD 0 0) 131034))] [32,16] 192 (pu (Yi 0 16) (pu (Yl 0 16) (v1 (pu (Yi 0 16) (pu (Ys 0 16) pT))))) <|Tri.seq <|Xs [Ei 6 1] [] 208 (v1 pT) <|Tri.block <|Xc 14 (mc) ((itr (gl p1) 16 p0).set 0 (aN .i64 ((itr (gl p1) 16 p0).getD 0 0) 131034)) (fun k1 z1=>True) (fun k1 z1=>[Ej 6 (k1+1)]) (fun k1 z1=>[Mk 16 .i64 16 z1]) trivial <|fun k1 z1 hk1 hz1 hJ1=>Tri.seq <|Xs [Eb 24 (decide ((((k1+1:Nat):Int):Int)<15))] [] 240 (v2 pT) <|Xb (fun h2 h2'=>?_) (fun h2 h2'=>?_)
 exact Tri.skip <|Tri.seq <|Tri.block <|Wt [] [24] [Mk 16 .i64 16 (z1.set (k1+1) (aN .i64 (z1.getD (k1+1) 0) 131070))] [16] 336 (v1 (pu (Yj (k1+1) 16) (pu (Yl (k1+1) 16) (v1 (pu (Yj (k1+1) 16) (pu (Ys (k1+1) 16) pT)))))) <|Wu [Ej 26 ((k1+1)+1)] none [Ej 6 ((k1+1)+1)] [6] [] [] 384 (v1 (pv pT (Yp (k1+1) 1) (v1 pT))) <|Xo [] trivial
 refine Tri.exit <|?_
 obtain rfl:k1=14:=(by omega);subst hz1
 exact Xt [] [24,6] [Mk 16 .i64 16 ((itr (mc) 14 ((itr (gl p1) 16 p0).set 0 (aN .i64 ((itr (gl p1) 16 p0).getD 0 0) 131034))).set 15 (aN .i64 ((itr (mc) 14 ((itr (gl p1) 16 p0).set 0 (aN .i64 ((itr (gl p1) 16 p0).getD 0 0) 131034))).getD 15 0) 65534))] [16] 320 (pu (Yi 15 16) (pu (Yl 15 16) (v1 (pu (Yi 15 16) (pu (Ys 15 16) pT))))) <|Xt [] [2] [Mk 48 .i64 16 (F46 ((itr (mc) 14 ((itr (gl p1) 16 p0).set 0 (aN .i64 ((itr (gl p1) 16 p0).getD 0 0) 131034))).set 15 (aN .i64 ((itr (mc) 14 ((itr (gl p1) 16 p0).set 0 (aN .i64 ((itr (gl p1) 16 p0).getD 0 0) 131034))).getD 15 0) 65534)))] [16,48] 368 (v1 (pu pz (pu (Yz 16) pT))) <|Xz [] pz
def zB (p0:List Int) (p1:List Int) (k0:Nat) (k1:Nat) (z1:List Int):List Int :=
 z1.set (k0+k1) (aN .i64 (z1.getD (k0+k1) 0) (bS .i64 (p0.getD k0 0) (p1.getD k1 0)))
def kJ (p0:List Int) (p1:List Int) (k0:Nat) (z0:List Int):List Int :=
 (itr (zB p0 p1 k0) 16 z0)
def tW (k2:Nat) (z2:Int × List Int):Int × List Int :=
 ((aa .i64 (aN .i64 (z2.2.getD k2 0) z2.1) 16),z2.2.set k2 (ag .i64 (aN .i64 (z2.2.getD k2 0) z2.1) (cu .i64 (aa .i64 (aN .i64 (z2.2.getD k2 0) z2.1) 16) 16)))
def sv (p0:List Int) (p1:List Int) (k3:Nat) (z3:List Int):List Int :=
 z3.set k3 (aN .i64 (((itr (tW) 32 (0,(itr (kJ p0 p1) 16 [0,0,0,0,0,0,0,0,0,0,0,0,0,0,0,0,0,0,0,0,0,0,0,0,0,0,0,0,0,0,0,0]))).2).getD k3 0) (bS .i64 38 (((itr (tW) 32 (0,(itr (kJ p0 p1) 16 [0,0,0,0,0,0,0,0,0,0,0,0,0,0,0,0,0,0,0,0,0,0,0,0,0,0,0,0,0,0,0,0]))).2).getD (k3+16) 0)))
def F21 (p0:List Int) (p1:List Int):List Int :=
 (F46 (itr (sv p0 p1) 16 [0,0,0,0,0,0,0,0,0,0,0,0,0,0,0,0]))
def S21:List AV→List Blk→Option (Prop × Ret)
 |[.ints .i64 16 p0,.ints .i64 16 p1],[]=>some (True,⟨.ints .i64 16 (F21 p0 p1),[]⟩)
 |_,_=>none
theorem K21:Known Tryz.prog gD 124 ⟨0,0,S21⟩:=by
 refine Xw Tryz.f124 69 (Zv K46 272 1 <|Zn) mixed <|fun E args ks C r h hC hlen=>?_
 simp only at h
 unfold S21 at h
 split at h
 rotate_left
 cases h
 rename_i p0 p1
 cases h
 simp only [bI] at hlen
 refine ⟨rfl,?_⟩
 refine Xt [Ep 4 48,Ep 3 32,Ep 2 16] [0,1] [Mk 48 .i64 16 [0,0,0,0,0,0,0,0,0,0,0,0,0,0,0,0],Mk 32 .i64 16 p1,Mk 16 .i64 16 p0] [] 64 (v3 pT) <|Xt [Ep 5 64] [] [Mk 64 .i64 32 [0,0,0,0,0,0,0,0,0,0,0,0,0,0,0,0,0,0,0,0,0,0,0,0,0,0,0,0,0,0,0,0]] [] 80 (v1 pT) <|Tri.seq <|Xs [Ei 6 0] [] 96 (v1 pT) <|Tri.block <|Xc 16 (kJ p0 p1) [0,0,0,0,0,0,0,0,0,0,0,0,0,0,0,0,0,0,0,0,0,0,0,0,0,0,0,0,0,0,0,0] (fun k0 z0=>True) (fun k0 z0=>[Ej 6 k0]) (fun k0 z0=>[Mk 64 .i64 32 z0]) trivial <|fun k0 z0 hk0 hz0 hJ0=>Tri.seq <|Xs [Eb 14 (decide ((((k0:Nat):Int):Int)<16))] [] 128 (v2 pT) <|Xb (fun h1 h1'=>?_) (fun h1 h1'=>?_)
 refine Tri.skip <|Tri.seq <|Tri.block <|Xs [Ei 7 0] [14] 144 (v1 pT) <|Tri.block <|Xc 16 (zB p0 p1 k0) z0 (fun k1 z1=>True) (fun k1 z1=>[Ej 7 k1]) (fun k1 z1=>[Mk 64 .i64 32 z1]) trivial <|fun k1 z1 hk1 hz1 hJ1=>Tri.seq <|Xs [Eb 18 (decide ((((k1:Nat):Int):Int)<16))] [] 176 (v2 pT) <|Xb (fun h2 h2'=>?_) (fun h2 h2'=>?_)
 exact Tri.skip <|Tri.seq <|Tri.block <|Wu [Ej 23 (k0+k1)] (some [0,0,3,7,15,0,32,96,0,256,768,2016,4095,8191,16383]) [] [18] [Mk 64 .i64 32 (z1.set (k0+k1) (aN .i64 (z1.getD (k0+k1) 0) (bS .i64 (p0.getD k0 0) (p1.getD k1 0))))] [64] 416 (v2 (pv pT (Yp k0 k1) (pu (Yj (k0+k1) 32) (pu (Yl (k0+k1) 32) (v1 (pu (Yj k0 16) (pu (Yl k0 16) (v1 (pu (Yj k1 16) (pu (Yl k1 16) (v2 (pu (Yj (k0+k1) 32) (pu (Ys (k0+k1) 32) pT))))))))))))) <|Wu [Ej 20 (k1+1)] none [Ej 7 (k1+1)] [7] [] [] 464 (v1 (pv pT (Yp k1 1) (v1 pT))) <|Xo [] trivial
 refine Tri.exit <|?_
 obtain rfl:k1=16:=(by omega);subst hz1
 exact Wu [Ej 16 (k0+1)] none [Ej 6 (k0+1)] [18,7,6] [] [] 224 (v1 (pv pT (Yp k0 1) (v1 pT))) <|Xo [] trivial
 refine Tri.exit <|?_
 obtain rfl:k0=16:=(by omega);subst hz0
 refine Xt [Ei 8 0] [14,6,3,2] [] [32,16] 144 (v1 pT) <|Tri.seq <|Xs [Ei 9 0] [] 160 (v1 pT) <|Tri.block <|Xc 32 (tW) (0,(itr (kJ p0 p1) 16 [0,0,0,0,0,0,0,0,0,0,0,0,0,0,0,0,0,0,0,0,0,0,0,0,0,0,0,0,0,0,0,0])) (fun k2 z2=>True) (fun k2 z2=>[Ej 9 k2,Ei 8 z2.1]) (fun k2 z2=>[Mk 64 .i64 32 z2.2]) trivial <|fun k2 z2 hk2 hz2 hJ2=>Tri.seq <|Xs [Eb 36 (decide ((((k2:Nat):Int):Int)<32))] [] 192 (v2 pT) <|Xb (fun h3 h3'=>?_) (fun h3 h3'=>?_)
 exact Tri.skip <|Tri.seq <|Tri.block <|Xs [Ei 10 (aN .i64 (z2.2.getD k2 0) z2.1)] [36,8] 288 (v1 (pu (Yj k2 32) (pu (Yl k2 32) (v3 pT)))) <|Xs [Ei 8 (aa .i64 (aN .i64 (z2.2.getD k2 0) z2.1) 16)] [] 336 (v1 (pu (Y0 16) (v1 pT))) <|Wt [] [10] [Mk 64 .i64 32 (z2.2.set k2 (ag .i64 (aN .i64 (z2.2.getD k2 0) z2.1) (cu .i64 (aa .i64 (aN .i64 (z2.2.getD k2 0) z2.1) 16) 16)))] [64] 448 (v3 (pu (Y0 16) (v1 (pu (Yj k2 32) (pu (Ys k2 32) pT))))) <|Wu [Ej 38 (k2+1)] none [Ej 9 (k2+1)] [9] [] [] 496 (v1 (pv pT (Yp k2 1) (v1 pT))) <|Xo [] trivial
 refine Tri.exit <|?_
 obtain rfl:k2=32:=(by omega);subst hz2
 refine Xt [Ep 11 192] [36,9,8] [Mk 192 .i64 16 [0,0,0,0,0,0,0,0,0,0,0,0,0,0,0,0]] [] 208 (v1 pT) <|Tri.seq <|Xs [Ei 12 0] [] 224 (v1 pT) <|Tri.block <|Xc 16 (sv p0 p1) [0,0,0,0,0,0,0,0,0,0,0,0,0,0,0,0] (fun k3 z3=>True) (fun k3 z3=>[Ej 12 k3]) (fun k3 z3=>[Mk 192 .i64 16 z3]) trivial <|fun k3 z3 hk3 hz3 hJ3=>Tri.seq <|Xs [Eb 53 (decide ((((k3:Nat):Int):Int)<16))] [] 256 (v2 pT) <|Xb (fun h4 h4'=>?_) (fun h4 h4'=>?_)
 exact Tri.skip <|Tri.seq <|Tri.block <|Wu [Ej 61 (k3+16)] (some [0,0,2,6,0,16,48,112,240,510,1023,2047]) [] [53] [Mk 192 .i64 16 (z3.set k3 (aN .i64 (((itr (tW) 32 (0,(itr (kJ p0 p1) 16 [0,0,0,0,0,0,0,0,0,0,0,0,0,0,0,0,0,0,0,0,0,0,0,0,0,0,0,0,0,0,0,0]))).2).getD k3 0) (bS .i64 38 (((itr (tW) 32 (0,(itr (kJ p0 p1) 16 [0,0,0,0,0,0,0,0,0,0,0,0,0,0,0,0,0,0,0,0,0,0,0,0,0,0,0,0,0,0,0,0]))).2).getD (k3+16) 0))))] [192] 448 (v2 (pu (Yj k3 32) (pu (Yl k3 32) (v1 (pv pT (Yp k3 16) (pu (Yj (k3+16) 32) (pu (Yl (k3+16) 32) (v2 (pu (Yj k3 16) (pu (Ys k3 16) pT)))))))))) <|Wu [Ej 55 (k3+1)] none [Ej 12 (k3+1)] [12] [] [] 496 (v1 (pv pT (Yp k3 1) (v1 pT))) <|Xo [] trivial
 refine Tri.exit <|?_
 obtain rfl:k3=16:=(by omega);subst hz3
 exact Xt [] [53,12,11,5] [Mk 48 .i64 16 (F46 (itr (sv p0 p1) 16 [0,0,0,0,0,0,0,0,0,0,0,0,0,0,0,0]))] [192,64,48] 304 (v1 (pu pz (pu (Yz 16) pT))) <|Xz [] pz
def hI (p0:List Int) (k0:Nat) (z0:List Int):List Int :=
 z0.set k0 (aN .i64 (IntKind.wrap .i64 (p0.getD (2*k0) 0)) (bS .i64 256 (IntKind.wrap .i64 (p0.getD ((2*k0)+1) 0))))
def F24 (p0:List Int):List Int :=
 (F46 ((itr (hI p0) 16 [0,0,0,0,0,0,0,0,0,0,0,0,0,0,0,0]).set 15 (br ((itr (hI p0) 16 [0,0,0,0,0,0,0,0,0,0,0,0,0,0,0,0]).getD 15 0) 32768)))
def S24:List AV→List Blk→Option (Prop × Ret)
 |[.sc (.ro .u8 p0)],[]=>some ((p0.length=32),⟨.ints .i64 16 (F24 p0),[]⟩)
 |_,_=>none
theorem K24:Known Tryz.prog gD 117 ⟨0,0,S24⟩:=by
 refine Xw Tryz.f117 32 (Zv K46 192 1 <|Zn) mixed <|fun E args ks C r h hC hlen=>?_
 simp only at h
 unfold S24 at h
 split at h
 rotate_left
 cases h
 rename_i p0
 cases h
 simp only [bI] at hlen
 refine ⟨rfl,?_⟩
 refine Xt [Ep 2 16] [] [Mk 16 .i64 16 [0,0,0,0,0,0,0,0,0,0,0,0,0,0,0,0]] [] 32 (v1 pT) <|Xt [Ep 3 32] [] [Mk 32 .i64 16 [0,0,0,0,0,0,0,0,0,0,0,0,0,0,0,0]] [] 48 (v1 pT) <|Tri.seq <|Xs [Ei 4 0] [] 64 (v1 pT) <|Tri.block <|Xc 16 (hI p0) [0,0,0,0,0,0,0,0,0,0,0,0,0,0,0,0] (fun k0 z0=>True) (fun k0 z0=>[Ej 4 k0]) (fun k0 z0=>[Mk 32 .i64 16 z0]) trivial <|fun k0 z0 hk0 hz0 hJ0=>Tri.seq <|Xs [Eb 6 (decide ((((k0:Nat):Int):Int)<16))] [] 96 (v2 pT) <|Xb (fun h1 h1'=>?_) (fun h1 h1'=>?_)
 exact Tri.skip <|Tri.seq <|Tri.block <|Wu [Ej 12 (2*k0),Ej 18 (2*k0),Ej 19 ((2*k0)+1)] (some [0,0,0,4,14,30,62,0,0,256,768,1920,3968,8064,16256,32766,65535,131071]) [] [6] [Mk 32 .i64 16 (z0.set k0 (aN .i64 (IntKind.wrap .i64 (p0.getD (2*k0) 0)) (bS .i64 256 (IntKind.wrap .i64 (p0.getD ((2*k0)+1) 0)))))] [32] 384 (v3 (pv pT (Yt 2 k0) (pu (Yj (2*k0) p0.length) (pu (Yl (2*k0) p0.length) (v3 (pv pT (Yt 2 k0) (pv pT (Yp (2*k0) 1) (pu (Yj ((2*k0)+1) p0.length) (pu (Yl ((2*k0)+1) p0.length) (v3 (pu (Yj k0 16) (pu (Ys k0 16) pT)))))))))))) <|Wu [Ej 8 (k0+1)] none [Ej 4 (k0+1)] [4] [] [] 432 (v1 (pv pT (Yp k0 1) (v1 pT))) <|Xo [] trivial
 refine Tri.exit <|?_
 obtain rfl:k0=16:=(by omega);subst hz0
 exact Xt [] [6,4,0] [Mk 32 .i64 16 ((itr (hI p0) 16 [0,0,0,0,0,0,0,0,0,0,0,0,0,0,0,0]).set 15 (br ((itr (hI p0) 16 [0,0,0,0,0,0,0,0,0,0,0,0,0,0,0,0]).getD 15 0) 32768))] [32] 176 (pu (Yi 15 16) (pu (Yl 15 16) (pu (Yn 32768) (pu (Yi 15 16) (pu (Ys 15 16) pT))))) <|Xt [] [3] [Mk 16 .i64 16 (F46 ((itr (hI p0) 16 [0,0,0,0,0,0,0,0,0,0,0,0,0,0,0,0]).set 15 (br ((itr (hI p0) 16 [0,0,0,0,0,0,0,0,0,0,0,0,0,0,0,0]).getD 15 0) 32768)))] [32,16] 224 (v1 (pu pz (pu (Yz 16) pT))) <|Xz [] pz
def F31 (p0:Int):List Int :=
 (F46 [p0,0,0,0,0,0,0,0,0,0,0,0,0,0,0,0])
def S31:List AV→List Blk→Option (Prop × Ret)
 |[.sc (.i .i64 p0)],[]=>some (True,⟨.ints .i64 16 (F31 p0),[]⟩)
 |_,_=>none
theorem K31:Known Tryz.prog gD 121 ⟨0,0,S31⟩:=by
 refine Xw Tryz.f121 6 (Zv K46 64 1 <|Zn) mixed <|fun E args ks C r h hC hlen=>?_
 simp only at h
 unfold S31 at h
 split at h
 rotate_left
 cases h
 rename_i p0
 cases h
 simp only [bI] at hlen
 refine ⟨rfl,?_⟩
 exact Xt [Ep 2 16] [] [Mk 16 .i64 16 [0,0,0,0,0,0,0,0,0,0,0,0,0,0,0,0]] [] 32 (v1 pT) <|Xt [] [0] [Mk 16 .i64 16 (F46 [p0,0,0,0,0,0,0,0,0,0,0,0,0,0,0,0])] [16] 96 (v1 (pu (pa (Ys 0 16) pT) (pu pz (pu (Yz 16) pT)))) <|Xz [] pz
def rk (p1:List Int) (k0:Nat) (k1:Nat) (z1:List Int × List Int):List Int × List Int :=
 ((sel (((br (aa .u8 (p1.getD k0 0) ((k1:Nat):Int)) 2):Int)==1) (F21 z1.1 z1.2) z1.1),(F21 z1.2 z1.2))
def xI (p1:List Int) (k0:Nat) (z0:List Int × List Int):List Int × List Int :=
 ((itr (rk p1 k0) 8 (z0.1,z0.2)).1,(itr (rk p1 k0) 8 (z0.1,z0.2)).2)
def F27 (p0:List Int) (p1:List Int):List Int :=
 (itr (xI p1) (p1.length-0) ((F31 1),p0)).1
def S27:List AV→List Blk→Option (Prop × Ret)
 |[.ints .i64 16 p0,.sc (.ro .u8 p1)],[]=>some ((p1.length≤1000000),⟨.ints .i64 16 (F27 p0 p1),[]⟩)
 |_,_=>none
theorem K27:Known Tryz.prog gD 122 ⟨0,0,S27⟩:=by
 refine Xw Tryz.f122 34 (Zv K31 48 1 <|Zv K21 384 2 <|Zv K21 448 2 <|Zn) mixed <|fun E args ks C r h hC hlen=>?_
 simp only at h
 unfold S27 at h
 split at h
 rotate_left
 cases h
 rename_i p0 p1
 cases h
 simp only [bI] at hlen
 refine ⟨rfl,?_⟩
 refine Xt [Ep 4 32,Ep 2 16] [0] [Mk 32 .i64 16 [0,0,0,0,0,0,0,0,0,0,0,0,0,0,0,0],Mk 16 .i64 16 p0] [] 48 (v2 pT) <|Xt [Ep 5 64] [] [Mk 64 .i64 16 (F31 1)] [] 96 (pu pz (v1 (pu (Yz 16) pT))) <|Tri.seq <|Xs [Ei 6 0] [] 112 (v1 pT) <|Tri.block <|Xc (p1.length-0) (xI p1) ((F31 1),p0) (fun k0 z0=>True) (fun k0 z0=>[Ej 6 k0]) (fun k0 z0=>[Mk 64 .i64 16 z0.1,Mk 16 .i64 16 z0.2]) trivial <|fun k0 z0 hk0 hz0 hJ0=>Tri.seq <|Xs [Eb 12 (decide ((((k0:Nat):Int):Int)<((p1.length:Nat):Int)))] [] 176 (v4 pT) <|Xb (fun h1 h1'=>?_) (fun h1 h1'=>?_)
 refine Tri.skip <|Tri.seq <|Tri.block <|Xs [Ei 7 0] [12] 192 (v1 pT) <|Tri.block <|Xc 8 (rk p1 k0) (z0.1,z0.2) (fun k1 z1=>True) (fun k1 z1=>[Ej 7 k1]) (fun k1 z1=>[Mk 64 .i64 16 z1.1,Mk 16 .i64 16 z1.2]) trivial <|fun k1 z1 hk1 hz1 hJ1=>Tri.seq <|Xs [Eb 16 (decide ((((k1:Nat):Int):Int)<8))] [] 224 (v2 pT) <|Xb (fun h2 h2'=>?_) (fun h2 h2'=>?_)
 refine Tri.skip <|Tri.seq <|Tri.block <|Tri.seq <|Xs [Eb 26 (((br (aa .u8 (p1.getD k0 0) ((k1:Nat):Int)) 2):Int)==1)] [16] 352 (v2 (pu (Yj k0 p1.length) (pu (Yl k0 p1.length) (v1 (pu (Y0 ((k1:Nat):Int)) (pu (Yn 2) (v1 pT))))))) <|Xj (x:=(((br (aa .u8 (p1.getD k0 0) ((k1:Nat):Int)) 2):Int)==1)) (fun bb=>[]) [26] (fun bb=>[Mk 64 .i64 16 (sel bb (F21 z1.1 z1.2) z1.1)]) [64] 416 (fun h3=>?_) (fun h3=>?_) ?_
 have h3':=dA h3
 exact Wt [] [26] [Mk 64 .i64 16 (F21 z1.1 z1.2)] [64] 416 (v2 (pu pz (pu (Yz 16) pT))) <|Xe [] [Mk 64 .i64 16 (F21 z1.1 z1.2)]
 have h3':=cZ h3
 exact Tri.skip <|Xe [] [Mk 64 .i64 16 z1.1]
 exact Wt [] [] [Mk 16 .i64 16 (F21 z1.2 z1.2)] [16] 480 (v2 (pu pz (pu (Yz 16) pT))) <|Wu [Ej 18 (k1+1)] none [Ej 7 (k1+1)] [7] [] [] 528 (v1 (pv pT (Yp k1 1) (v1 pT))) <|Xo [] trivial
 refine Tri.exit <|?_
 obtain rfl:k1=8:=(by omega);subst hz1
 exact Wu [Ej 14 (k0+1)] none [Ej 6 (k0+1)] [16,7,6] [] [] 272 (v1 (pv pT (Yp k0 1) (v1 pT))) <|Xo [] trivial
 refine Tri.exit <|?_
 obtain rfl:k0=(p1.length-0):=(by omega);subst hz0
 exact Xt [] [12,6,5,2,1] [Mk 32 .i64 16 ((itr (xI p1) (p1.length-0) ((F31 1),p0)).1)] [64,32,16] 208 (v1 (pu (Yz 16) pT)) <|Xz [] pz
def vT (k0:Nat) (z0:List Int):List Int :=
 z0.set k0 255
def F51 (p0:Int) (p1:Int):List Int :=
 ((itr (vT) 31 (List.replicate 32 0)).set 0 (aN .u8 (ag .u8 255 p1) 1)).set 31 (ag .u8 (cu .u8 1 (ag .i64 p0 248)) 1)
def S51:List AV→List Blk→Option (Prop × Ret)
 |[.sc (.i .i64 p0),.sc (.i .u8 p1)],[]=>some (((248:Int)≤p0∧p0≤(255:Int)),⟨.sc (.sl 0 0 32 1 none),[some (.ints .u8 32 (F51 p0 p1))]⟩)
 |_,_=>none
theorem K51:Known Tryz.prog gD 123 ⟨0,1,S51⟩:=by
 refine Xw Tryz.f123 27 Zn mixed <|fun E args ks C r h hC hlen=>?_
 simp only at h
 unfold S51 at h
 split at h
 rotate_left
 cases h
 rename_i p0 p1
 cases h
 simp only [bI] at hlen
 refine ⟨rfl,?_⟩
 refine Xs [] [] 32 (v1 pT) <|Xt [El 5 32 32] [] [Mi 32 32 (List.replicate 32 0)] [] 64 (pu (pa (lo ((0:Int)≤32∧(32:Int)=32)) (pa (lo (32≤(140737488355328:Int))) (lo (((1:Nat):Int)*32≤281474976710656)))) (v1 pT)) <|Tri.seq <|Xs [Ei 6 0] [] 80 (v1 pT) <|Tri.block <|Xc 31 (vT) (List.replicate 32 0) (fun k0 z0=>True) (fun k0 z0=>[Ej 6 k0]) (fun k0 z0=>[Mi 32 32 z0]) trivial <|fun k0 z0 hk0 hz0 hJ0=>Tri.seq <|Xs [Eb 9 (decide ((((k0:Nat):Int):Int)<31))] [] 112 (v2 pT) <|Xb (fun h1 h1'=>?_) (fun h1 h1'=>?_)
 exact Tri.skip <|Tri.seq <|Tri.block <|Wt [] [9] [Mi 32 32 (z0.set k0 255)] [32] 176 (v2 (pu (Yj k0 32) (pu (Ys k0 32) pT))) <|Wu [Ej 11 (k0+1)] none [Ej 6 (k0+1)] [6] [] [] 224 (v1 (pv pT (Yp k0 1) (v1 pT))) <|Xo [] trivial
 refine Tri.exit <|?_
 obtain rfl:k0=31:=(by omega);subst hz0
 exact Xt [] [9,6,1] [Mi 32 32 ((itr (vT) 31 (List.replicate 32 0)).set 0 (aN .u8 (ag .u8 255 p1) 1))] [32] 208 (v4 (pu (Yi 0 32) (pu (Ys 0 32) pT))) <|Xt [] [0] [Mi 32 32 (((itr (vT) 31 (List.replicate 32 0)).set 0 (aN .u8 (ag .u8 255 p1) 1)).set 31 (ag .u8 (cu .u8 1 (ag .i64 p0 248)) 1))] [32] 320 (v3 (pu (li ((0:Int)≤(ag .i64 p0 248))) (v1 (pu (Yi 31 32) (pu (Ys 31 32) pT))))) <|Xs [El 4 32 32] [5] 352 (v2 pT) <|Xz [(32,0)] pz
theorem so (a b:Int):(F51 a b).length=32:=by
 have h:∀ (n:Nat) (z:List Int),z.length=32→(itr vT n z).length=32:=by
  intro n z hz
  induction n with
  |zero=>rw [bB];exact hz
  |succ n ih=>rw [aq];show (List.set _ _ _).length=32;rw [List.length_set];exact ih
 unfold F51
 simp [h]
def F28 (p0:List Int):List Int :=
 (F27 p0 (aH (F51 255 21) 32 0 32))
def S28:List AV→List Blk→Option (Prop × Ret)
 |[.ints .i64 16 p0],[]=>some (True,⟨.ints .i64 16 (F28 p0),[]⟩)
 |_,_=>none
theorem K28:Known Tryz.prog gD 93 ⟨0,0,S28⟩:=by
 refine Xw Tryz.f93 6 (Zc K27 80 [.val,.ro .u8] [64] [] <|Zv K51 64 2 <|Zn) mixed <|fun E args ks C r h hC hlen=>?_
 simp only at h
 unfold S28 at h
 split at h
 rotate_left
 cases h
 rename_i p0
 cases h
 simp only [bI] at hlen
 refine ⟨rfl,?_⟩
 refine Xt [Ep 2 32,Ep 1 16] [0] [Mk 32 .i64 16 [0,0,0,0,0,0,0,0,0,0,0,0,0,0,0,0],Mk 16 .i64 16 p0] [] 48 (v2 pT) <|Xu [] (some [0,0,3,7]) [] [1] [Mk 32 .i64 16 (F27 p0 (aH (F51 255 21) 32 0 32))] [32,16] 112 (v1 (pu (pa pT (lo ((248:Int)≤255∧255≤(255:Int)))) (pu (pa (pa (Yw 32) pT) (pl (show (aH (F51 255 21) 32 0 32).length≤1000000 from by rw [bJ (so _ _),so];decide))) (pu (Yz 16) pT)))) ?_
 exact Xz [] pz
def lk (p0:List Int) (k0:Nat) (z0:Nat × List Int):Nat × List Int :=
 (z0.1+2,z0.2++[(IntKind.wrap .u8 (br (p0.getD k0 0) 256)),(IntKind.wrap .u8 (iu .i64 (p0.getD k0 0) 256))])
def F49 (p0:List Int):List Int :=
 (itr (lk p0) 16 (0,([]:List Int))).2
theorem n49 (p0:List Int):(itr (lk p0) 16 (0,[])).1=32:=by
 have h0:∀ (k:Nat),(itr (lk p0) k (0,[])).1=2*k:=by
  intro k
  induction k with
  |zero=>rw [bB]
  |succ k ih=>rw [aq];show (itr (lk p0) k (0,[])).1+2=_;rw [ih];omega
 rw [h0]
def S49:List AV→List Blk→Option (Prop × Ret)
 |[.ints .i64 16 p0],[]=>some (True,⟨.sc (.sl 0 0 32 1 none),[some (.ints .u8 32 (F49 p0))]⟩)
 |_,_=>none
theorem K49:Known Tryz.prog gD 94 ⟨0,1,S49⟩:=by
 refine Xw Tryz.f94 23 Zn mixed <|fun E args ks C r h hC hlen=>?_
 simp only at h
 unfold S49 at h
 split at h
 rotate_left
 cases h
 rename_i p0
 cases h
 simp only [bI] at hlen
 refine ⟨rfl,?_⟩
 refine Xt [Ep 1 16] [0] [Mk 16 .i64 16 p0] [] 48 (v2 pT) <|Xs [(3,.sc (.nils))] [] 64 (v1 pT) <|Tri.seq <|Xs [Ei 4 0] [] 80 (v1 pT) <|Tri.block <|Tri.sub (Sub.openNil (U:=80) (U':=96) 3 80 1 .u8 none (.inl rfl) (by decide) (by decide) (by kernel_rfl) (by kernel_rfl)) <|Xc 16 (lk p0) (0,([]:List Int)) (fun k0 z0=>z0.1=2*k0) (fun k0 z0=>[El 3 80 z0.1,Ej 4 k0]) (fun k0 z0=>[Mi 80 z0.1 z0.2]) rfl <|fun k0 z0 hk0 hz0 hJ0=>Tri.seq <|Xs [Eb 6 (decide ((((k0:Nat):Int):Int)<16))] [] 128 (v2 pT) <|Xb (fun h1 h1'=>?_) (fun h1 h1'=>?_)
 exact Tri.skip <|Tri.seq <|Tri.block <|Wu [] (some [0,0,2,6,14,30,0,64,192,448,960,2046,4095,8191]) [El 3 320 (z0.1+2)] [6,3] [Mi 320 (z0.1+2) (z0.2++[(IntKind.wrap .u8 (br (p0.getD k0 0) 256)),(IntKind.wrap .u8 (iu .i64 (p0.getD k0 0) 256))])] [80] 352 (v2 (pu (Yj k0 16) (pu (Yl k0 16) (pu (Yn 256) (v2 (pu (Yj k0 16) (pu (Yl k0 16) (pu (Yn 256) (v1 (pu (Yf 2) (pu (Ya (Yw 2) 1 (z0.1+2) 2 2 z0.1 z0.1) (v1 pT)))))))))))) <|Wu [Ej 8 (k0+1)] none [Ej 4 (k0+1)] [4] [] [] 400 (v1 (pv pT (Yp k0 1) (v1 pT))) <|Xo [(80,320)] (show z0.1+2=2*(k0+1) by omega)
 refine Tri.exit <|?_
 obtain rfl:k0=16:=(by omega);subst hz0
 exact Xt [El 2 80 ((itr (lk p0) 16 (0,([]:List Int))).1)] [6,3,4,1] [] [16] 160 (v2 pT) <|Xy (r':=⟨.sc (.sl 0 0 ((itr (lk p0) 16 (0,([]:List Int))).1) 1 none),[some (.ints .u8 ((itr (lk p0) 16 (0,([]:List Int))).1) ((itr (lk p0) 16 (0,([]:List Int))).2))]⟩) [(80,0)] pz (by simp only [F49,n49,aD,aA])
def F35 (p0:List Int):List Int :=
 (sel (!(((F21 (F27 p0 (aH (F51 252 2) 32 0 32)) (F27 p0 (aH (F51 252 2) 32 0 32))):List Int)==p0)) (F21 (F27 p0 (aH (F51 252 2) 32 0 32)) (F27 (F31 2) (aH (F51 253 5) 32 0 32))) (F27 p0 (aH (F51 252 2) 32 0 32)))
def rX (p0:List Int):Bool :=
 (((F21 (sel (!(((F21 (F27 p0 (aH (F51 252 2) 32 0 32)) (F27 p0 (aH (F51 252 2) 32 0 32))):List Int)==p0)) (F21 (F27 p0 (aH (F51 252 2) 32 0 32)) (F27 (F31 2) (aH (F51 253 5) 32 0 32))) (F27 p0 (aH (F51 252 2) 32 0 32))) (sel (!(((F21 (F27 p0 (aH (F51 252 2) 32 0 32)) (F27 p0 (aH (F51 252 2) 32 0 32))):List Int)==p0)) (F21 (F27 p0 (aH (F51 252 2) 32 0 32)) (F27 (F31 2) (aH (F51 253 5) 32 0 32))) (F27 p0 (aH (F51 252 2) 32 0 32)))):List Int)==p0)
def S35:List AV→List Blk→Option (Prop × Ret)
 |[.ints .i64 16 p0],[]=>some (True,⟨.tup [.ints .i64 16 (F35 p0),.sc (.b (rX p0))],[]⟩)
 |_,_=>none
theorem K35:Known Tryz.prog gD 118 ⟨0,0,S35⟩:=by
 refine Xw Tryz.f118 24 (Zv K31 240 1 <|Zc K27 96 [.val,.ro .u8] [80] [] <|Zc K27 272 [.val,.ro .u8] [256] [] <|Zv K51 80 2 <|Zv K51 256 2 <|Zv K21 176 2 <|Zv K21 288 2 <|Zv K21 368 2 <|Zn) mixed <|fun E args ks C r h hC hlen=>?_
 simp only at h
 unfold S35 at h
 split at h
 rotate_left
 cases h
 rename_i p0
 cases h
 simp only [bI] at hlen
 refine ⟨rfl,?_⟩
 refine Xt [Ep 2 32,Ep 1 16] [0] [Mk 32 .i64 16 [0,0,0,0,0,0,0,0,0,0,0,0,0,0,0,0],Mk 16 .i64 16 p0] [] 64 (v3 pT) <|Xu [] (some [0,0,3,0,15]) [Ep 4 112] [] [Mk 112 .i64 16 (F27 p0 (aH (F51 252 2) 32 0 32))] [] 144 (v1 (pu (pa pT (lo ((248:Int)≤252∧252≤(255:Int)))) (pu (pa (pa (Yw 32) pT) (pl (show (aH (F51 252 2) 32 0 32).length≤1000000 from by rw [bJ (so _ _),so];decide))) (v1 (pu (Yz 16) pT))))) ?_
 refine Tri.seq <|Xu [] (some [0,0,3,0,15]) [Eb 12 (!(((F21 (F27 p0 (aH (F51 252 2) 32 0 32)) (F27 p0 (aH (F51 252 2) 32 0 32))):List Int)==p0))] [] [] [] 224 (v2 (pu pz (v2 pT))) <|Xj (x:=(!(((F21 (F27 p0 (aH (F51 252 2) 32 0 32)) (F27 p0 (aH (F51 252 2) 32 0 32))):List Int)==p0))) (fun bb=>[]) [12] (fun bb=>[Mk 112 .i64 16 (sel bb (F21 (F27 p0 (aH (F51 252 2) 32 0 32)) (F27 (F31 2) (aH (F51 253 5) 32 0 32))) (F27 p0 (aH (F51 252 2) 32 0 32)))]) [112] 320 (fun h1=>?_) (fun h1=>?_) ?_
 refine Wu [] (some [0,0,2,6,15,31]) [] [12] [Mk 112 .i64 16 (F21 (F27 p0 (aH (F51 252 2) 32 0 32)) (F27 (F31 2) (aH (F51 253 5) 32 0 32)))] [112] 320 (v1 (pu pz (pu (pa pT (lo ((248:Int)≤253∧253≤(255:Int)))) (pu (pa (pa (Yw 32) pT) (pl (show (aH (F51 253 5) 32 0 32).length≤1000000 from by rw [bJ (so _ _),so];decide))) (pu pz (pu (Yz 16) pT)))))) ?_
 exact Xe [] [Mk 112 .i64 16 (F21 (F27 p0 (aH (F51 252 2) 32 0 32)) (F27 (F31 2) (aH (F51 253 5) 32 0 32)))]
 exact Tri.skip <|Xe [] [Mk 112 .i64 16 (F27 p0 (aH (F51 252 2) 32 0 32))]
 exact Xu [] (some [0,0,0,6,0,30,15,127]) [Eb 3 (((F21 (sel (!(((F21 (F27 p0 (aH (F51 252 2) 32 0 32)) (F27 p0 (aH (F51 252 2) 32 0 32))):List Int)==p0)) (F21 (F27 p0 (aH (F51 252 2) 32 0 32)) (F27 (F31 2) (aH (F51 253 5) 32 0 32))) (F27 p0 (aH (F51 252 2) 32 0 32))) (sel (!(((F21 (F27 p0 (aH (F51 252 2) 32 0 32)) (F27 p0 (aH (F51 252 2) 32 0 32))):List Int)==p0)) (F21 (F27 p0 (aH (F51 252 2) 32 0 32)) (F27 (F31 2) (aH (F51 253 5) 32 0 32))) (F27 p0 (aH (F51 252 2) 32 0 32)))):List Int)==p0)] [4,1] [Mk 32 .i64 16 (sel (!(((F21 (F27 p0 (aH (F51 252 2) 32 0 32)) (F27 p0 (aH (F51 252 2) 32 0 32))):List Int)==p0)) (F21 (F27 p0 (aH (F51 252 2) 32 0 32)) (F27 (F31 2) (aH (F51 253 5) 32 0 32))) (F27 p0 (aH (F51 252 2) 32 0 32)))] [112,32,16] 448 (v3 (pu pz (v2 (pu (Yz 16) (v1 pT))))) <|Xz [] (pa pT pz)
def F44 (p0:List Int):List Int :=
 (p0.set 0 (ag .u8 (p0.getD 0 0) (br (p0.getD 0 0) 8))).set 31 (aN .u8 (br ((p0.set 0 (ag .u8 (p0.getD 0 0) (br (p0.getD 0 0) 8))).getD 31 0) 64) 64)
def S44:List AV→List Blk→Option (Prop × Ret)
 |[.sc (.ro .u8 p0)],[]=>some ((p0.length=32),⟨.sc (.sl 0 0 p0.length 1 none),[some (.ints .u8 p0.length (F44 p0))]⟩)
 |_,_=>none
theorem K44:Known Tryz.prog gD 56 ⟨0,1,S44⟩:=by
 refine Xw Tryz.f56 23 Zn mixed <|fun E args ks C r h hC hlen=>?_
 simp only at h
 unfold S44 at h
 split at h
 rotate_left
 cases h
 rename_i p0
 cases h
 simp only [bI] at hlen
 refine ⟨rfl,?_⟩
 exact Xs [] [] 32 (v1 pT) <|Xt [El 3 48 p0.length] [0] [Mi 48 p0.length p0] [] 80 (v1 (pu (YN pT 1 p0.length p0.length p0.length) (v1 pT))) <|Xu [] (some [0,1,3,0,8,24,56,127,255,511]) [] [] [Mi 48 p0.length (p0.set 0 (ag .u8 (p0.getD 0 0) (br (p0.getD 0 0) 8)))] [48] 240 (v1 (pu (Yi 0 p0.length) (pu (Yl 0 p0.length) (v1 (pu (Yi 0 p0.length) (pu (Yl 0 p0.length) (pu (Yn 8) (v1 (pu (Yi 0 p0.length) (pu (Ys 0 p0.length) pT)))))))))) <|Xt [] [] [Mi 48 p0.length ((p0.set 0 (ag .u8 (p0.getD 0 0) (br (p0.getD 0 0) 8))).set 31 (aN .u8 (br ((p0.set 0 (ag .u8 (p0.getD 0 0) (br (p0.getD 0 0) 8))).getD 31 0) 64) 64))] [48] 368 (v2 (pu (Yi 31 p0.length) (pu (Yl 31 p0.length) (pu (Yn 64) (v1 (pu (Yi 31 p0.length) (pu (Ys 31 p0.length) pT))))))) <|Xs [El 2 48 p0.length] [3] 400 (v2 pT) <|Xz [(48,0)] pz
theorem Jb (p0:List Int):(F44 p0).length=p0.length:=by
 unfold F44
 repeat (first|rfl|rw [List.length_set])
end Go.Vm
namespace Go.Vm
open Go Go.Proofs
def cE (p0:Int) (p1:Int):Int :=
 (iOr .u64 (cu .u64 p0 (ai .u64 (IntKind.wrap .u64 p1) 63)) (aa .u64 p0 (ag .u64 64 (ai .u64 (IntKind.wrap .u64 p1) 63))))
def Ki:List AV→List Blk→Option (Prop × Ret)
 |[.sc (.i .u64 p0),.sc (.i .i64 p1)],[]=>some (True,⟨.sc (.i .u64 (cE p0 p1)),[]⟩)
 |_,_=>none
theorem wh:Known Tryz.prog gD 100 ⟨0,0,Ki⟩:=by
 refine Xw Tryz.f100 17 Zn mixed <|fun E args ks C r h hC hlen=>?_
 simp only at h
 unfold Ki at h
 split at h
 rotate_left
 cases h
 rename_i p0 p1
 cases h
 simp only [bI] at hlen
 refine ⟨rfl,?_⟩
 exact Xs [] [] 32 (v1 pT) <|Xs [Ek 5 .u64 (ai .u64 (IntKind.wrap .u64 p1) 63)] [1] 96 (v4 pT) <|Xs [Ek 4 .u64 (iOr .u64 (cu .u64 p0 (ai .u64 (IntKind.wrap .u64 p1) 63)) (aa .u64 p0 (ag .u64 64 (ai .u64 (IntKind.wrap .u64 p1) 63))))] [5,0] 240 (v2 (pu (Y0 (ai .u64 (IntKind.wrap .u64 p1) 63)) (v3 (pu (li ((0:Int)≤(ag .u64 64 (ai .u64 (IntKind.wrap .u64 p1) 63)))) (v2 pT))))) <|Xz [] pz
def cO (k0:Nat) (z0:Nat × List Int):Nat × List Int :=
 (z0.1+1,z0.2++[0])
def iQ (p0:List Int) (k1:Nat) (z1:Nat × List Int):Nat × List Int :=
 (z1.1+1,z1.2++[(IntKind.wrap .u8 (aa .u64 (bS .u64 (IntKind.wrap .u64 ((p0.length:Nat):Int)) 8) ((8*(8-1-k1):Nat):Int)))])
def dX (p0:List Int):List Int :=
 (itr (iQ p0) 8 (((itr (cO) ((239-p0.length % 128) % 128) (p0.length+1,p0++[128])).1)+8,((itr (cO) ((239-p0.length % 128) % 128) (p0.length+1,p0++[128])).2)++(List.replicate 8 0))).2
def ba (p0:List Int):Nat :=
 (itr (iQ p0) 8 (((itr (cO) ((239-p0.length % 128) % 128) (p0.length+1,p0++[128])).1)+8,((itr (cO) ((239-p0.length % 128) % 128) (p0.length+1,p0++[128])).2)++(List.replicate 8 0))).1
def vq:List AV→List Blk→Option (Prop × Ret)
 |[.sc (.ro .u8 p0),.sc (.i .i64 p1)],[]=>some ((((128:Int)=p1)∧(p0.length≤1000000000)),⟨.sc (.sl 0 0 (ba p0) 1 none),[some (.ints .u8 (ba p0) (dX p0))]⟩)
 |_,_=>none
theorem By:Known Tryz.prog gD 99 ⟨0,1,vq⟩:=by
 refine Xw Tryz.f99 44 Zn mixed <|fun E args ks C r h hC hlen=>?_
 simp only at h
 unfold vq at h
 split at h
 rotate_left
 cases h
 rename_i p0 p1
 cases h
 simp only [bI] at hlen
 obtain ⟨hEp1,hC⟩:=hC
 subst hEp1
 refine ⟨rfl,?_⟩
 refine Xs [] [] 32 (v1 pT) <|Xt [El 5 80 (p0.length+1)] [] [Mi 80 (p0.length+1) (p0++[128])] [] 112 (v1 (pu (YN pT 1 p0.length p0.length p0.length) (pu (Yf 1) (pu (Ya (Yw 1) 1 (p0.length+1) 1 1 p0.length p0.length) (v1 pT))))) <|Tri.seq <|Tri.block <|Xc ((239-p0.length % 128) % 128) (cO) (p0.length+1,p0++[128]) (fun k0 z0=>z0.1=(p0.length+1)+1*k0) (fun k0 z0=>[El 5 80 z0.1]) (fun k0 z0=>[Mi 80 z0.1 z0.2]) (by simp) <|fun k0 z0 hk0 hz0 hJ0=>Tri.seq <|Xu [Ej 14 (z0.1 % 128)] none [Eb 19 ((((z0.1 % 128:Nat):Int):Int) != 112)] [] [] [] 256 (v3 (pv (Yn 128) (pl (eK (a:=z0.1) (b:=128))) (v2 (pu (Yn 8) (v2 pT))))) <|Xa (fun h1=>?_) (fun h1=>?_)
 have h1':=di h1
 refine Tri.skip <|Tri.block <|Wt [El 5 288 (z0.1+1)] [19,5] [Mi 288 (z0.1+1) (z0.2++[0])] [80] 320 (v1 (pu (Yf 1) (pu (Ya (Yw 1) 1 (z0.1+1) 1 1 z0.1 z0.1) (v1 pT)))) <|?_
 repeat (refine pe ?_)
 exact mf (by have h9:=di h1;omega) (show z0.1+1=(p0.length+1)+1*(k0+1) by omega) <|Xn [(80,288)]
 have h1':=bz h1
 refine Tri.exit <|?_
 have hend0:k0=((239-p0.length % 128) % 128):=by (have h9:=bz h1;omega)
 subst hend0;subst hz0
 refine Xt [El 5 320 (((itr (cO) ((239-p0.length % 128) % 128) (p0.length+1,p0++[128])).1)+8)] [19,5,1] [Mi 320 (((itr (cO) ((239-p0.length % 128) % 128) (p0.length+1,p0++[128])).1)+8) (((itr (cO) ((239-p0.length % 128) % 128) (p0.length+1,p0++[128])).2)++(List.replicate 8 0))] [80] 352 (v2 (pu (Yn 8) (v1 (pu (Ya (pa (pa (Y0 8) (lo (8≤(140737488355328:Int)))) (lo (((1:Nat):Int)*8≤281474976710656))) 1 (((itr (cO) ((239-p0.length % 128) % 128) (p0.length+1,p0++[128])).1)+8) 8 8 ((itr (cO) ((239-p0.length % 128) % 128) (p0.length+1,p0++[128])).1) ((itr (cO) ((239-p0.length % 128) % 128) (p0.length+1,p0++[128])).1)) (v1 pT))))) <|Tri.seq <|Xs [Ei 6 7] [] 368 (v1 pT) <|Tri.block <|Xc 8 (iQ p0) (((itr (cO) ((239-p0.length % 128) % 128) (p0.length+1,p0++[128])).1)+8,((itr (cO) ((239-p0.length % 128) % 128) (p0.length+1,p0++[128])).2)++(List.replicate 8 0)) (fun k1 z1=>z1.1=(((itr (cO) ((239-p0.length % 128) % 128) (p0.length+1,p0++[128])).1)+8)+1*k1) (fun k1 z1=>[Ei 6 (((8:Nat):Int)-1-((k1:Nat):Int)),El 5 320 z1.1]) (fun k1 z1=>[Mi 320 z1.1 z1.2]) (by simp) <|fun k1 z1 hk1 hz1 hJ1=>Tri.seq <|Xs [Eb 29 (decide (((((8:Nat):Int)-1-((k1:Nat):Int)):Int) ≥ 0))] [] 400 (v2 pT) <|Xb (fun h2 h2'=>?_) (fun h2 h2'=>?_)
 refine Tri.skip <|Tri.seq <|Tri.block <|Wu [Ej 38 (8*(8-1-k1))] none [El 5 560 (z1.1+1)] [29,5] [Mi 560 (z1.1+1) (z1.2++[(IntKind.wrap .u8 (aa .u64 (bS .u64 (IntKind.wrap .u64 ((p0.length:Nat):Int)) 8) ((8*(8-1-k1):Nat):Int)))])] [320] 592 (v6 (pv pT (pl (show (bS .i64 8 (((8:Nat):Int)-1-((k1:Nat):Int)))=((8*(8-1-k1):Nat):Int) from by rw [il (by omega)];exact vF (a:=8) (b:=8-1-k1) (by omega))) (pu (Y0 ((8*(8-1-k1):Nat):Int)) (v1 (pu (Yf 1) (pu (Ya (Yw 1) 1 (z1.1+1) 1 1 z1.1 z1.1) (v1 pT))))))) ?_
 exact Wu [Ei 31 (((8:Nat):Int)-1-((k1+1:Nat):Int))] none [Ei 6 (((8:Nat):Int)-1-((k1+1:Nat):Int))] [6] [] [] 640 (v1 (pv pT (pl (show (ag .i64 (((8:Nat):Int)-1-((k1:Nat):Int)) 1)=(((8:Nat):Int)-1-((k1+1:Nat):Int)) from jh (by omega) (by omega))) (v1 pT))) <|Xo [(320,560)] (show z1.1+1=(((itr (cO) ((239-p0.length % 128) % 128) (p0.length+1,p0++[128])).1)+8)+1*(k1+1) by omega)
 refine Tri.exit <|?_
 obtain rfl:k1=8:=(by omega);subst hz1
 exact Xs [El 4 320 ((itr (iQ p0) 8 (((itr (cO) ((239-p0.length % 128) % 128) (p0.length+1,p0++[128])).1)+8,((itr (cO) ((239-p0.length % 128) % 128) (p0.length+1,p0++[128])).2)++(List.replicate 8 0))).1)] [29,6,5,0] 432 (v2 pT) <|Xz [(320,0)] pz
theorem EK (p0:List Int):ba p0=p0.length+9+(239-p0.length % 128) % 128+8:=by
 have h0:∀ (k:Nat) (z:Nat × List Int),(itr cO k z).1=z.1+k:=by
  intro k z
  induction k with
  |zero=>rw [bB];rfl
  |succ k ih=>rw [aq];show (itr cO k z).1+1=_;rw [ih];omega
 have h1:∀ (k:Nat) (z:Nat × List Int),(itr (iQ p0) k z).1=z.1+k:=by
  intro k z
  induction k with
  |zero=>rw [bB];rfl
  |succ k ih=>rw [aq];show (itr (iQ p0) k z).1+1=_;rw [ih];omega
 unfold ba
 rw [h1,h0]
 omega
def jV (p0:List Int) (k0:Nat) (k1:Nat) (z1:List Int):List Int :=
 z1.set (k1/8) (iOr .u64 (cu .u64 (z1.getD (k1/8) 0) 8) (IntKind.wrap .u64 ((dX p0).getD (adr (0+(128*k0)) k1 1) 0)))
def nB (k2:Nat) (z2:List Int):List Int :=
 z2.set (k2+16) (aN .u64 (aN .u64 (aN .u64 (z2.getD ((k2+16)-16) 0) (z2.getD ((k2+16)-7) 0)) (bM .u64 (bM .u64 (cE (z2.getD ((k2+16)-15) 0) 63) (cE (z2.getD ((k2+16)-15) 0) 56)) (aa .u64 (z2.getD ((k2+16)-15) 0) 7))) (bM .u64 (bM .u64 (cE (z2.getD ((k2+16)-2) 0) 45) (cE (z2.getD ((k2+16)-2) 0) 3)) (aa .u64 (z2.getD ((k2+16)-2) 0) 6)))
def cX (p0:List Int) (k0:Nat) (k3:Nat) (z3:Int × Int × Int × Int × Int × Int × Int × Int):Int × Int × Int × Int × Int × Int × Int × Int :=
 (z3.2.1,z3.2.2.1,z3.2.2.2.1,(aN .u64 z3.2.2.2.2.1 (aN .u64 (aN .u64 (aN .u64 (aN .u64 z3.1 (bM .u64 (bM .u64 (cE z3.2.2.2.1 50) (cE z3.2.2.2.1 46)) (cE z3.2.2.2.1 23))) (bM .u64 (ai .u64 z3.2.2.2.1 z3.2.2.1) (ai .u64 (te .u64 z3.2.2.2.1) z3.2.1))) (Ev.getD (0+k3) 0)) ((itr (nB) 64 (itr (jV p0 k0) 128 [0,0,0,0,0,0,0,0,0,0,0,0,0,0,0,0,0,0,0,0,0,0,0,0,0,0,0,0,0,0,0,0,0,0,0,0,0,0,0,0,0,0,0,0,0,0,0,0,0,0,0,0,0,0,0,0,0,0,0,0,0,0,0,0,0,0,0,0,0,0,0,0,0,0,0,0,0,0,0,0])).getD k3 0))),z3.2.2.2.2.2.1,z3.2.2.2.2.2.2.1,z3.2.2.2.2.2.2.2,(aN .u64 (aN .u64 (aN .u64 (aN .u64 (aN .u64 z3.1 (bM .u64 (bM .u64 (cE z3.2.2.2.1 50) (cE z3.2.2.2.1 46)) (cE z3.2.2.2.1 23))) (bM .u64 (ai .u64 z3.2.2.2.1 z3.2.2.1) (ai .u64 (te .u64 z3.2.2.2.1) z3.2.1))) (Ev.getD (0+k3) 0)) ((itr (nB) 64 (itr (jV p0 k0) 128 [0,0,0,0,0,0,0,0,0,0,0,0,0,0,0,0,0,0,0,0,0,0,0,0,0,0,0,0,0,0,0,0,0,0,0,0,0,0,0,0,0,0,0,0,0,0,0,0,0,0,0,0,0,0,0,0,0,0,0,0,0,0,0,0,0,0,0,0,0,0,0,0,0,0,0,0,0,0,0,0])).getD k3 0)) (aN .u64 (bM .u64 (bM .u64 (cE z3.2.2.2.2.2.2.2 36) (cE z3.2.2.2.2.2.2.2 30)) (cE z3.2.2.2.2.2.2.2 25)) (bM .u64 (bM .u64 (ai .u64 z3.2.2.2.2.2.2.2 z3.2.2.2.2.2.2.1) (ai .u64 z3.2.2.2.2.2.2.2 z3.2.2.2.2.2.1)) (ai .u64 z3.2.2.2.2.2.2.1 z3.2.2.2.2.2.1)))))
def qN (p0:List Int) (k0:Nat) (z0:List Int) (k4:Nat) (z4:List Int):List Int :=
 z4.set k4 (aN .u64 (z4.getD k4 0) ([(itr (cX p0 k0) 80 (z0.getD 7 0,z0.getD 6 0,z0.getD 5 0,z0.getD 4 0,z0.getD 3 0,z0.getD 2 0,z0.getD 1 0,z0.getD 0 0)).2.2.2.2.2.2.2,(itr (cX p0 k0) 80 (z0.getD 7 0,z0.getD 6 0,z0.getD 5 0,z0.getD 4 0,z0.getD 3 0,z0.getD 2 0,z0.getD 1 0,z0.getD 0 0)).2.2.2.2.2.2.1,(itr (cX p0 k0) 80 (z0.getD 7 0,z0.getD 6 0,z0.getD 5 0,z0.getD 4 0,z0.getD 3 0,z0.getD 2 0,z0.getD 1 0,z0.getD 0 0)).2.2.2.2.2.1,(itr (cX p0 k0) 80 (z0.getD 7 0,z0.getD 6 0,z0.getD 5 0,z0.getD 4 0,z0.getD 3 0,z0.getD 2 0,z0.getD 1 0,z0.getD 0 0)).2.2.2.2.1,(itr (cX p0 k0) 80 (z0.getD 7 0,z0.getD 6 0,z0.getD 5 0,z0.getD 4 0,z0.getD 3 0,z0.getD 2 0,z0.getD 1 0,z0.getD 0 0)).2.2.2.1,(itr (cX p0 k0) 80 (z0.getD 7 0,z0.getD 6 0,z0.getD 5 0,z0.getD 4 0,z0.getD 3 0,z0.getD 2 0,z0.getD 1 0,z0.getD 0 0)).2.2.1,(itr (cX p0 k0) 80 (z0.getD 7 0,z0.getD 6 0,z0.getD 5 0,z0.getD 4 0,z0.getD 3 0,z0.getD 2 0,z0.getD 1 0,z0.getD 0 0)).2.1,(itr (cX p0 k0) 80 (z0.getD 7 0,z0.getD 6 0,z0.getD 5 0,z0.getD 4 0,z0.getD 3 0,z0.getD 2 0,z0.getD 1 0,z0.getD 0 0)).1].getD k4 0))
def kw (p0:List Int) (k0:Nat) (z0:List Int):List Int :=
 (itr (qN p0 k0 z0) 8 z0)
def th (p0:List Int) (k5:Nat) (z5:List Int):List Int :=
 z5.set k5 (IntKind.wrap .u8 (aa .u64 ((itr (kw p0) ((ba p0)/128) ((zh.drop 0).take 8)).getD (k5/8) 0) ((56-(8*(k5 % 8)):Nat):Int)))
def qe (p0:List Int):List Int :=
 (itr (th p0) 64 [0,0,0,0,0,0,0,0,0,0,0,0,0,0,0,0,0,0,0,0,0,0,0,0,0,0,0,0,0,0,0,0,0,0,0,0,0,0,0,0,0,0,0,0,0,0,0,0,0,0,0,0,0,0,0,0,0,0,0,0,0,0,0,0])
def JV:List AV→List Blk→Option (Prop × Ret)
 |[.sc (.ro .u8 p0)],[]=>some ((p0.length≤100000000),⟨.ints .u8 64 (qe p0),[]⟩)
 |_,_=>none
theorem MK:Known Tryz.prog gD 59 ⟨0,0,JV⟩:=by
 refine Xw Tryz.f59 208 (Zc By 96 [.ro .u8,.val] [] [] <|Zv wh 608 2 <|Zv wh 640 2 <|Zv wh 752 2 <|Zv wh 784 2 <|Zv wh 832 2 <|Zv wh 1184 2 <|Zv wh 1216 2 <|Zv wh 1264 2 <|Zn) mixed <|fun E args ks C r h hC hlen=>?_
 simp only at h
 unfold JV at h
 split at h
 rotate_left
 cases h
 rename_i p0
 cases h
 simp only [bI] at hlen
 have hp:=EK p0
 have hg1:zh.length=8:=rfl
 have hg2:Ev.length=80:=rfl
 refine ⟨rfl,?_⟩
 refine Xt [Ep 2 16] [] [Mi 16 64 [0,0,0,0,0,0,0,0,0,0,0,0,0,0,0,0,0,0,0,0,0,0,0,0,0,0,0,0,0,0,0,0,0,0,0,0,0,0,0,0,0,0,0,0,0,0,0,0,0,0,0,0,0,0,0,0,0,0,0,0,0,0,0,0]] [] 32 (v1 pT) <|Xt [Ep 3 48] [] [Mk 48 .u64 8 ((zh.drop 0).take 8)] [] 80 (pu (Ye (0+8) zh.length) (v1 (pu (Yz 8) pT))) <|Tri.seq <|Xt [El 4 96 (ba p0)] [0] [Mi 96 (ba p0) (dX p0)] [] 128 (v1 (pu (pa pz (pa (Yr (128:Int)) (Ye p0.length 1000000000))) (v1 pT))) <|Tri.block <|Xc ((ba p0)/128) (kw p0) ((zh.drop 0).take 8) (fun k0 z0=>True) (fun k0 z0=>[(4,.sc (.sl 96 (0+(128*k0)) ((ba p0)-(128*k0)) 1 none))]) (fun k0 z0=>[Mk 48 .u64 8 z0]) trivial <|fun k0 z0 hk0 hz0 hJ0=>Tri.seq <|Xs [Eb 30 (decide (((((ba p0)-(128*k0):Nat):Int):Int)>0))] [] 176 (v3 pT) <|Xb (fun h1 h1'=>?_) (fun h1 h1'=>?_)
 refine Tri.skip <|Tri.seq <|Tri.block <|Xt [Ep 5 176] [30] [Mk 176 .u64 80 [0,0,0,0,0,0,0,0,0,0,0,0,0,0,0,0,0,0,0,0,0,0,0,0,0,0,0,0,0,0,0,0,0,0,0,0,0,0,0,0,0,0,0,0,0,0,0,0,0,0,0,0,0,0,0,0,0,0,0,0,0,0,0,0,0,0,0,0,0,0,0,0,0,0,0,0,0,0,0,0]] [] 192 (v1 pT) <|Tri.seq <|Xs [Ei 33 0] [] 208 (v1 pT) <|Tri.block <|Xc 128 (jV p0 k0) [0,0,0,0,0,0,0,0,0,0,0,0,0,0,0,0,0,0,0,0,0,0,0,0,0,0,0,0,0,0,0,0,0,0,0,0,0,0,0,0,0,0,0,0,0,0,0,0,0,0,0,0,0,0,0,0,0,0,0,0,0,0,0,0,0,0,0,0,0,0,0,0,0,0,0,0,0,0,0,0] (fun k1 z1=>True) (fun k1 z1=>[Ej 33 k1]) (fun k1 z1=>[Mk 176 .u64 80 z1]) trivial <|fun k1 z1 hk1 hz1 hJ1=>Xs [Eb 34 (decide ((((k1:Nat):Int):Int)<128))] [] 224 (v1 pT) <|Tri.seq <|Xb (fun h2 h2'=>?_) (fun h2 h2'=>?_)
 exact Tri.skip <|Tri.seq <|Tri.block <|Xs [Ej 6 k1] [34] 256 (v2 pT) <|Wu [Ej 37 (k1/8),Ej 39 (k1/8)] (some [0,1,0,4,12,28,60,0,0,384,896,1920,4092,8191,16383]) [] [6] [Mk 176 .u64 80 (z1.set (k1/8) (iOr .u64 (cu .u64 (z1.getD (k1/8) 0) 8) (IntKind.wrap .u64 ((dX p0).getD (adr (0+(128*k0)) k1 1) 0))))] [176] 496 (v1 (pv (Yn 8) (pl (dH (a:=k1) (b:=8) (by omega))) (v1 (pv (Yn 8) (pl (dH (a:=k1) (b:=8) (by omega))) (pu (Yj (k1/8) 80) (pu (Yl (k1/8) 80) (pu (Y0 8) (v2 (pu (Yj k1 ((ba p0)-(128*k0))) (pu (Yl (adr (0+(128*k0)) k1 1) (ba p0)) (v2 (pu (Yj (k1/8) 80) (pu (Ys (k1/8) 80) pT))))))))))))) <|Wu [Ej 50 (k1+1)] none [Ej 33 (k1+1)] [33] [] [] 528 (pv pT (Yp k1 1) (v1 pT)) <|Xo [] trivial
 refine Tri.exit <|?_
 obtain rfl:k1=128:=(by omega);subst hz1
 refine Tri.seq <|Xs [Ei 7 16] [34,33] 240 (v1 pT) <|Tri.block <|Xc 64 (nB) (itr (jV p0 k0) 128 [0,0,0,0,0,0,0,0,0,0,0,0,0,0,0,0,0,0,0,0,0,0,0,0,0,0,0,0,0,0,0,0,0,0,0,0,0,0,0,0,0,0,0,0,0,0,0,0,0,0,0,0,0,0,0,0,0,0,0,0,0,0,0,0,0,0,0,0,0,0,0,0,0,0,0,0,0,0,0,0]) (fun k2 z2=>True) (fun k2 z2=>[Ej 7 (k2+16)]) (fun k2 z2=>[Mk 176 .u64 80 z2]) trivial <|fun k2 z2 hk2 hz2 hJ2=>Tri.seq <|Xs [Eb 52 (decide ((((k2+16:Nat):Int):Int)<80))] [] 272 (v2 pT) <|Xb (fun h3 h3'=>?_) (fun h3 h3'=>?_)
 exact Tri.skip <|Tri.seq <|Tri.block <|Xu [Ej 56 ((k2+16)-15),Ej 60 ((k2+16)-2)] (some [0,1,3,7,0,16,48,112,15,511]) [Ek 9 .u64 (z2.getD ((k2+16)-2) 0),Ek 8 .u64 (z2.getD ((k2+16)-15) 0)] [52] [] [] 432 (v1 (pv pT (pl (gY (a:=k2+16) (b:=15) (by omega) (by omega))) (pu (Yj ((k2+16)-15) 80) (pu (Yl ((k2+16)-15) 80) (v1 (pv pT (pl (gY (a:=k2+16) (b:=2) (by omega) (by omega))) (pu (Yj ((k2+16)-2) 80) (pu (Yl ((k2+16)-2) 80) (v2 pT))))))))) <|Wu [Ej 65 ((k2+16)-16),Ej 69 ((k2+16)-7)] (some [0,0,2,6,14,0,32,96,224,510,0,1024,0,7168,15360,0,32768,130048,262142,0,539648,0,3685376,7879680,0,16777216,66599936,134217726,268435455,536870911]) [] [9,8] [Mk 176 .u64 80 (z2.set (k2+16) (aN .u64 (aN .u64 (aN .u64 (z2.getD ((k2+16)-16) 0) (z2.getD ((k2+16)-7) 0)) (bM .u64 (bM .u64 (cE (z2.getD ((k2+16)-15) 0) 63) (cE (z2.getD ((k2+16)-15) 0) 56)) (aa .u64 (z2.getD ((k2+16)-15) 0) 7))) (bM .u64 (bM .u64 (cE (z2.getD ((k2+16)-2) 0) 45) (cE (z2.getD ((k2+16)-2) 0) 3)) (aa .u64 (z2.getD ((k2+16)-2) 0) 6))))] [176] 912 (v2 (pv pT (pl (gY (a:=k2+16) (b:=16) (by omega) (by omega))) (pu (Yj ((k2+16)-16) 80) (pu (Yl ((k2+16)-16) 80) (v1 (pv pT (pl (gY (a:=k2+16) (b:=7) (by omega) (by omega))) (pu (Yj ((k2+16)-7) 80) (pu (Yl ((k2+16)-7) 80) (v2 (pu pz (v1 (pu pz (v2 (pu (Y0 7) (v3 (pu pz (v1 (pu pz (v2 (pu (Y0 6) (v2 (pu (Yj (k2+16) 80) (pu (Ys (k2+16) 80) pT))))))))))))))))))))))) <|Wu [Ej 54 ((k2+16)+1)] none [Ej 7 ((k2+16)+1)] [7] [] [] 960 (v1 (pv pT (Yp (k2+16) 1) (v1 pT))) <|Xo [] trivial
 refine Tri.exit <|?_
 obtain rfl:k2=64:=(by omega);subst hz2
 refine Xu [] (some [0,1,0,4,0,16,0,64,0,256,0,1024,0,4096,0,16384,3,65551,196671,459007,984063,2035711,4145151,8388607]) [Ek 17 .u64 (z0.getD 7 0),Ek 16 .u64 (z0.getD 6 0),Ek 15 .u64 (z0.getD 5 0),Ek 14 .u64 (z0.getD 4 0),Ek 13 .u64 (z0.getD 3 0),Ek 12 .u64 (z0.getD 2 0),Ek 11 .u64 (z0.getD 1 0),Ek 10 .u64 (z0.getD 0 0)] [52,7] [] [] 656 (pu (Yi 0 8) (pu (Yl 0 8) (pu (Yi 1 8) (pu (Yl 1 8) (pu (Yi 2 8) (pu (Yl 2 8) (pu (Yi 3 8) (pu (Yl 3 8) (pu (Yi 4 8) (pu (Yl 4 8) (pu (Yi 5 8) (pu (Yl 5 8) (pu (Yi 6 8) (pu (Yl 6 8) (pu (Yi 7 8) (pu (Yl 7 8) (v8 pT))))))))))))))))) <|Tri.seq <|Xs [Ei 108 0] [] 672 (v1 pT) <|Tri.block <|Xc 80 (cX p0 k0) (z0.getD 7 0,z0.getD 6 0,z0.getD 5 0,z0.getD 4 0,z0.getD 3 0,z0.getD 2 0,z0.getD 1 0,z0.getD 0 0) (fun k3 z3=>True) (fun k3 z3=>[Ej 108 k3,Ek 17 .u64 z3.1,Ek 16 .u64 z3.2.1,Ek 15 .u64 z3.2.2.1,Ek 14 .u64 z3.2.2.2.1,Ek 13 .u64 z3.2.2.2.2.1,Ek 12 .u64 z3.2.2.2.2.2.1,Ek 11 .u64 z3.2.2.2.2.2.2.1,Ek 10 .u64 z3.2.2.2.2.2.2.2]) (fun k3 z3=>[]) trivial <|fun k3 z3 hk3 hz3 hJ3=>Xs [Eb 109 (decide ((((k3:Nat):Int):Int)<80))] [] 688 (v1 pT) <|Tri.seq <|Xb (fun h4 h4'=>?_) (fun h4 h4'=>?_)
 exact Tri.skip <|Tri.seq <|Tri.block <|Xs [Ej 18 k3] [109] 720 (v2 pT) <|Xu [] (some [0,0,2,0,14,30,0,94,254,511,0,0,3072,0,8192,0,57344,130048,262143,0,524288,1572864,4194303,0,8388608,25165824,67108863,134217727]) [Ek 19 .u64 (aN .u64 (aN .u64 (aN .u64 (aN .u64 z3.1 (bM .u64 (bM .u64 (cE z3.2.2.2.1 50) (cE z3.2.2.2.1 46)) (cE z3.2.2.2.1 23))) (bM .u64 (ai .u64 z3.2.2.2.1 z3.2.2.1) (ai .u64 (te .u64 z3.2.2.2.1) z3.2.1))) (Ev.getD (0+k3) 0)) ((itr (nB) 64 (itr (jV p0 k0) 128 [0,0,0,0,0,0,0,0,0,0,0,0,0,0,0,0,0,0,0,0,0,0,0,0,0,0,0,0,0,0,0,0,0,0,0,0,0,0,0,0,0,0,0,0,0,0,0,0,0,0,0,0,0,0,0,0,0,0,0,0,0,0,0,0,0,0,0,0,0,0,0,0,0,0,0,0,0,0,0,0])).getD k3 0))] [18,17] [] [] 1168 (v2 (pu pz (v1 (pu pz (v2 (pu pz (v3 (v9 (pu (Yj k3 80) (pu (Yl (0+k3) Ev.length) (v2 (pu (Yj k3 80) (pu (Yl k3 80) (v2 pT)))))))))))))) <|Xs [Ek 20 .u64 (aN .u64 (bM .u64 (bM .u64 (cE z3.2.2.2.2.2.2.2 36) (cE z3.2.2.2.2.2.2.2 30)) (cE z3.2.2.2.2.2.2.2 25)) (bM .u64 (bM .u64 (ai .u64 z3.2.2.2.2.2.2.2 z3.2.2.2.2.2.2.1) (ai .u64 z3.2.2.2.2.2.2.2 z3.2.2.2.2.2.1)) (ai .u64 z3.2.2.2.2.2.2.1 z3.2.2.2.2.2.1)))] [] 1504 (v1 (pu pz (v1 (pu pz (v2 (pu pz (v5 (v9 pT)))))))) <|Ws [Ek 17 .u64 z3.2.1,Ek 16 .u64 z3.2.2.1,Ek 15 .u64 z3.2.2.2.1,Ek 14 .u64 (aN .u64 z3.2.2.2.2.1 (aN .u64 (aN .u64 (aN .u64 (aN .u64 z3.1 (bM .u64 (bM .u64 (cE z3.2.2.2.1 50) (cE z3.2.2.2.1 46)) (cE z3.2.2.2.1 23))) (bM .u64 (ai .u64 z3.2.2.2.1 z3.2.2.1) (ai .u64 (te .u64 z3.2.2.2.1) z3.2.1))) (Ev.getD (0+k3) 0)) ((itr (nB) 64 (itr (jV p0 k0) 128 [0,0,0,0,0,0,0,0,0,0,0,0,0,0,0,0,0,0,0,0,0,0,0,0,0,0,0,0,0,0,0,0,0,0,0,0,0,0,0,0,0,0,0,0,0,0,0,0,0,0,0,0,0,0,0,0,0,0,0,0,0,0,0,0,0,0,0,0,0,0,0,0,0,0,0,0,0,0,0,0])).getD k3 0))),Ek 13 .u64 z3.2.2.2.2.2.1,Ek 12 .u64 z3.2.2.2.2.2.2.1,Ek 11 .u64 z3.2.2.2.2.2.2.2,Ek 10 .u64 (aN .u64 (aN .u64 (aN .u64 (aN .u64 (aN .u64 z3.1 (bM .u64 (bM .u64 (cE z3.2.2.2.1 50) (cE z3.2.2.2.1 46)) (cE z3.2.2.2.1 23))) (bM .u64 (ai .u64 z3.2.2.2.1 z3.2.2.1) (ai .u64 (te .u64 z3.2.2.2.1) z3.2.1))) (Ev.getD (0+k3) 0)) ((itr (nB) 64 (itr (jV p0 k0) 128 [0,0,0,0,0,0,0,0,0,0,0,0,0,0,0,0,0,0,0,0,0,0,0,0,0,0,0,0,0,0,0,0,0,0,0,0,0,0,0,0,0,0,0,0,0,0,0,0,0,0,0,0,0,0,0,0,0,0,0,0,0,0,0,0,0,0,0,0,0,0,0,0,0,0,0,0,0,0,0,0])).getD k3 0)) (aN .u64 (bM .u64 (bM .u64 (cE z3.2.2.2.2.2.2.2 36) (cE z3.2.2.2.2.2.2.2 30)) (cE z3.2.2.2.2.2.2.2 25)) (bM .u64 (bM .u64 (ai .u64 z3.2.2.2.2.2.2.2 z3.2.2.2.2.2.2.1) (ai .u64 z3.2.2.2.2.2.2.2 z3.2.2.2.2.2.1)) (ai .u64 z3.2.2.2.2.2.2.1 z3.2.2.2.2.2.1))))] [20,19,16,15,14,13,12,11,10] 1824 (v2 (v9 (v9 pT))) <|Wu [Ej 170 (k3+1)] none [Ej 108 (k3+1)] [108] [] [] 1856 (pv pT (Yp k3 1) (v1 pT)) <|Xo [] trivial
 refine Tri.exit <|?_
 obtain rfl:k3=80:=(by omega);subst hz3
 refine Xt [Ei 180 0,(179,.ints .u64 8 [(itr (cX p0 k0) 80 (z0.getD 7 0,z0.getD 6 0,z0.getD 5 0,z0.getD 4 0,z0.getD 3 0,z0.getD 2 0,z0.getD 1 0,z0.getD 0 0)).2.2.2.2.2.2.2,(itr (cX p0 k0) 80 (z0.getD 7 0,z0.getD 6 0,z0.getD 5 0,z0.getD 4 0,z0.getD 3 0,z0.getD 2 0,z0.getD 1 0,z0.getD 0 0)).2.2.2.2.2.2.1,(itr (cX p0 k0) 80 (z0.getD 7 0,z0.getD 6 0,z0.getD 5 0,z0.getD 4 0,z0.getD 3 0,z0.getD 2 0,z0.getD 1 0,z0.getD 0 0)).2.2.2.2.2.1,(itr (cX p0 k0) 80 (z0.getD 7 0,z0.getD 6 0,z0.getD 5 0,z0.getD 4 0,z0.getD 3 0,z0.getD 2 0,z0.getD 1 0,z0.getD 0 0)).2.2.2.2.1,(itr (cX p0 k0) 80 (z0.getD 7 0,z0.getD 6 0,z0.getD 5 0,z0.getD 4 0,z0.getD 3 0,z0.getD 2 0,z0.getD 1 0,z0.getD 0 0)).2.2.2.1,(itr (cX p0 k0) 80 (z0.getD 7 0,z0.getD 6 0,z0.getD 5 0,z0.getD 4 0,z0.getD 3 0,z0.getD 2 0,z0.getD 1 0,z0.getD 0 0)).2.2.1,(itr (cX p0 k0) 80 (z0.getD 7 0,z0.getD 6 0,z0.getD 5 0,z0.getD 4 0,z0.getD 3 0,z0.getD 2 0,z0.getD 1 0,z0.getD 0 0)).2.1,(itr (cX p0 k0) 80 (z0.getD 7 0,z0.getD 6 0,z0.getD 5 0,z0.getD 4 0,z0.getD 3 0,z0.getD 2 0,z0.getD 1 0,z0.getD 0 0)).1])] [109,108,17,16,15,14,13,12,11,10,5] [] [176] 848 (v8 (pu (Yb 8) (v1 pT))) <|Tri.block <|Xc 8 (qN p0 k0 z0) z0 (fun k4 z4=>True) (fun k4 z4=>[Ej 180 k4]) (fun k4 z4=>[Mk 48 .u64 8 z4]) trivial <|fun k4 z4 hk4 hz4 hJ4=>Xs [Eb 181 (decide ((((k4:Nat):Int):Int)<8))] [] 864 (v1 pT) <|Tri.seq <|Xb (fun h5 h5'=>?_) (fun h5 h5'=>?_)
 exact Tri.skip <|Tri.seq <|Tri.block <|Xs [Ek 22 .u64 ([(itr (cX p0 k0) 80 (z0.getD 7 0,z0.getD 6 0,z0.getD 5 0,z0.getD 4 0,z0.getD 3 0,z0.getD 2 0,z0.getD 1 0,z0.getD 0 0)).2.2.2.2.2.2.2,(itr (cX p0 k0) 80 (z0.getD 7 0,z0.getD 6 0,z0.getD 5 0,z0.getD 4 0,z0.getD 3 0,z0.getD 2 0,z0.getD 1 0,z0.getD 0 0)).2.2.2.2.2.2.1,(itr (cX p0 k0) 80 (z0.getD 7 0,z0.getD 6 0,z0.getD 5 0,z0.getD 4 0,z0.getD 3 0,z0.getD 2 0,z0.getD 1 0,z0.getD 0 0)).2.2.2.2.2.1,(itr (cX p0 k0) 80 (z0.getD 7 0,z0.getD 6 0,z0.getD 5 0,z0.getD 4 0,z0.getD 3 0,z0.getD 2 0,z0.getD 1 0,z0.getD 0 0)).2.2.2.2.1,(itr (cX p0 k0) 80 (z0.getD 7 0,z0.getD 6 0,z0.getD 5 0,z0.getD 4 0,z0.getD 3 0,z0.getD 2 0,z0.getD 1 0,z0.getD 0 0)).2.2.2.1,(itr (cX p0 k0) 80 (z0.getD 7 0,z0.getD 6 0,z0.getD 5 0,z0.getD 4 0,z0.getD 3 0,z0.getD 2 0,z0.getD 1 0,z0.getD 0 0)).2.2.1,(itr (cX p0 k0) 80 (z0.getD 7 0,z0.getD 6 0,z0.getD 5 0,z0.getD 4 0,z0.getD 3 0,z0.getD 2 0,z0.getD 1 0,z0.getD 0 0)).2.1,(itr (cX p0 k0) 80 (z0.getD 7 0,z0.getD 6 0,z0.getD 5 0,z0.getD 4 0,z0.getD 3 0,z0.getD 2 0,z0.getD 1 0,z0.getD 0 0)).1].getD k4 0),Ej 21 k4] [181] 928 (v1 (pu (pa (Yj k4 8) (Yl k4 8)) (v2 pT))) <|Wt [] [22,21] [Mk 48 .u64 8 (z4.set k4 (aN .u64 (z4.getD k4 0) ([(itr (cX p0 k0) 80 (z0.getD 7 0,z0.getD 6 0,z0.getD 5 0,z0.getD 4 0,z0.getD 3 0,z0.getD 2 0,z0.getD 1 0,z0.getD 0 0)).2.2.2.2.2.2.2,(itr (cX p0 k0) 80 (z0.getD 7 0,z0.getD 6 0,z0.getD 5 0,z0.getD 4 0,z0.getD 3 0,z0.getD 2 0,z0.getD 1 0,z0.getD 0 0)).2.2.2.2.2.2.1,(itr (cX p0 k0) 80 (z0.getD 7 0,z0.getD 6 0,z0.getD 5 0,z0.getD 4 0,z0.getD 3 0,z0.getD 2 0,z0.getD 1 0,z0.getD 0 0)).2.2.2.2.2.1,(itr (cX p0 k0) 80 (z0.getD 7 0,z0.getD 6 0,z0.getD 5 0,z0.getD 4 0,z0.getD 3 0,z0.getD 2 0,z0.getD 1 0,z0.getD 0 0)).2.2.2.2.1,(itr (cX p0 k0) 80 (z0.getD 7 0,z0.getD 6 0,z0.getD 5 0,z0.getD 4 0,z0.getD 3 0,z0.getD 2 0,z0.getD 1 0,z0.getD 0 0)).2.2.2.1,(itr (cX p0 k0) 80 (z0.getD 7 0,z0.getD 6 0,z0.getD 5 0,z0.getD 4 0,z0.getD 3 0,z0.getD 2 0,z0.getD 1 0,z0.getD 0 0)).2.2.1,(itr (cX p0 k0) 80 (z0.getD 7 0,z0.getD 6 0,z0.getD 5 0,z0.getD 4 0,z0.getD 3 0,z0.getD 2 0,z0.getD 1 0,z0.getD 0 0)).2.1,(itr (cX p0 k0) 80 (z0.getD 7 0,z0.getD 6 0,z0.getD 5 0,z0.getD 4 0,z0.getD 3 0,z0.getD 2 0,z0.getD 1 0,z0.getD 0 0)).1].getD k4 0)))] [48] 1040 (v1 (pu (Yj k4 8) (pu (Yl k4 8) (v2 (pu (Yj k4 8) (pu (Ys k4 8) pT)))))) <|Wu [Ej 190 (k4+1)] none [Ej 180 (k4+1)] [180] [] [] 1072 (pv pT (Yp k4 1) (v1 pT)) <|Xo [] trivial
 refine Tri.exit <|?_
 obtain rfl:k4=8:=(by omega);subst hz4
 exact Ws [(4,.sc (.sl 96 ((0+(128*k0))+128) (((ba p0)-(128*k0))-128) 1 none))] [181,180,179,4] 912 (v1 (pu (lo ((0:Int)≤128∧(128:Int)≤(((ba p0)-(128*k0):Nat):Int)∧(((ba p0)-(128*k0):Nat):Int)≤(((ba p0)-(128*k0):Nat):Int))) (v1 pT))) <|Xo [] trivial
 refine Tri.exit <|?_
 obtain rfl:k0=((ba p0)/128):=(by omega);subst hz0
 refine Xt [Ep 23 176] [30,4] [Mi 176 64 [0,0,0,0,0,0,0,0,0,0,0,0,0,0,0,0,0,0,0,0,0,0,0,0,0,0,0,0,0,0,0,0,0,0,0,0,0,0,0,0,0,0,0,0,0,0,0,0,0,0,0,0,0,0,0,0,0,0,0,0,0,0,0,0]] [96] 192 (v1 pT) <|Tri.seq <|Xs [Ei 191 0] [] 208 (v1 pT) <|Tri.block <|Xc 64 (th p0) [0,0,0,0,0,0,0,0,0,0,0,0,0,0,0,0,0,0,0,0,0,0,0,0,0,0,0,0,0,0,0,0,0,0,0,0,0,0,0,0,0,0,0,0,0,0,0,0,0,0,0,0,0,0,0,0,0,0,0,0,0,0,0,0] (fun k5 z5=>True) (fun k5 z5=>[Ej 191 k5]) (fun k5 z5=>[Mi 176 64 z5]) trivial <|fun k5 z5 hk5 hz5 hJ5=>Xs [Eb 192 (decide ((((k5:Nat):Int):Int)<64))] [] 224 (v1 pT) <|Tri.seq <|Xb (fun h6 h6'=>?_) (fun h6 h6'=>?_)
 exact Tri.skip <|Tri.seq <|Tri.block <|Xs [Ej 24 k5] [192] 256 (v2 pT) <|Wu [Ej 196 (k5/8),Ej 200 (k5 % 8),Ej 201 (8*(k5 % 8)),Ej 202 (56-(8*(k5 % 8)))] none [] [24] [Mi 176 64 (z5.set k5 (IntKind.wrap .u8 (aa .u64 ((itr (kw p0) ((ba p0)/128) ((zh.drop 0).take 8)).getD (k5/8) 0) ((56-(8*(k5 % 8)):Nat):Int))))] [176] 464 (v2 (pv (Yn 8) (pl (dH (a:=k5) (b:=8) (by omega))) (pu (Yj (k5/8) 8) (pu (Yl (k5/8) 8) (v1 (pv (Yn 8) (pl (eK (a:=k5) (b:=8))) (pv pT (Yt 8 (k5 % 8)) (pv pT (pl (gY (a:=56) (b:=8*(k5 % 8)) (by omega) (by omega))) (pu (Y0 ((56-(8*(k5 % 8)):Nat):Int)) (v1 (pu (Yj k5 64) (pu (Ys k5 64) pT)))))))))))) <|Wu [Ej 206 (k5+1)] none [Ej 191 (k5+1)] [191] [] [] 496 (pv pT (Yp k5 1) (v1 pT)) <|Xo [] trivial
 refine Tri.exit <|?_
 obtain rfl:k5=64:=(by omega);subst hz5
 exact Xt [] [192,191,23,3] [Mi 16 64 (itr (th p0) 64 [0,0,0,0,0,0,0,0,0,0,0,0,0,0,0,0,0,0,0,0,0,0,0,0,0,0,0,0,0,0,0,0,0,0,0,0,0,0,0,0,0,0,0,0,0,0,0,0,0,0,0,0,0,0,0,0,0,0,0,0,0,0,0,0])] [176,48,16] 256 (v1 (pu (Yz 64) pT)) <|Xz [] pz
end Go.Vm
namespace Go.Vm
open Go Go.Proofs
def LW:List AV→List Blk→Option (Prop × Ret)
 |[],[]=>some (True,⟨.ints .u64 8 [7640891576956012808,13503953896175478587,4354685564936845355,11912009170470909681,5840696475078001361,11170449401992604703,2270897969802886507,6620516959819538809],[]⟩)
 |_,_=>none
theorem MN:Known Tryz.prog gD 96 ⟨0,0,LW⟩:=by
 refine Xw Tryz.f96 2 Zn mixed <|fun E args ks C r h hC hlen=>?_
 simp only at h
 unfold LW at h
 split at h
 rotate_left
 cases h
 cases h
 simp only [bI] at hlen
 refine ⟨rfl,?_⟩
 exact Xt [Ep 0 16] [] [Mk 16 .u64 8 [0,0,0,0,0,0,0,0]] [] 32 (v1 pT) <|Xt [] [] [Mk 16 .u64 8 [7640891576956012808,13503953896175478587,4354685564936845355,11912009170470909681,5840696475078001361,11170449401992604703,2270897969802886507,6620516959819538809]] [16] 64 (pu (Yb 8) (pu (Yz 8) pT)) <|Xz [] pz
def xr:List Int :=
 [4794697086780616226,8158064640168781261,13096744586834688815,16840607885511220156,4131703408338449720,6480981068601479193,10538285296894168987,12329834152419229976,15566598209576043074,1334009975649890238,2608012711638119052,6128411473006802146,8268148722764581231,9286055187155687089,11230858885718282805,13951009754708518548,16472876342353939154,17275323862435702243,1135362057144423861,2597628984639134821,3308224258029322869,5365058923640841347,6679025012923562964,8573033837759648693,10970295158949994411,12119686244451234320,12683024718118986047,13788192230050041572,14330467153632333762,15395433587784984357,489312712824947311,1452737877330783856,2861767655752347644,3322285676063803686,5560940570517711597,5996557281743188959,7280758554555802590,8532644243296465576,9350256976987008742,10552545826968843579,11727347734174303076,12113106623233404929,14000437183269869457,14369950271660146224,15101387698204529176,15463397548674623760,17586052441742319658,1182934255886127544,1847814050463011016,2177327727835720531,2830643537854262169,3796741975233480872,4115178125766777443,5681478168544905931,6601373596472566643,7507060721942968483,8399075790359081724,8693463985226723168,9568029438360202098,10144078919501101548,10430055236837252648,11840083180663258601,13761210420658862357,14299343276471374635,14566680578165727644,15097957966210449927,16922976911328602910,17689382322260857208,500013540394364858,748580250866718886,1242879168328830382,1977374033974150939,2944078676154940804,3659926193048069267,4368137639120453308,4836135668995329356,5532061633213252278,6448918945643986474,6902733635092675308,7801388544844847127]
def KX:List AV→List Blk→Option (Prop × Ret)
 |[],[]=>some (True,⟨.ints .u64 80 (xr),[]⟩)
 |_,_=>none
theorem Lj:Known Tryz.prog gD 97 ⟨0,0,KX⟩:=by
 refine Xw Tryz.f97 2 Zn mixed <|fun E args ks C r h hC hlen=>?_
 simp only at h
 unfold KX at h
 split at h
 rotate_left
 cases h
 cases h
 simp only [bI] at hlen
 refine ⟨rfl,?_⟩
 exact Xt [Ep 0 16] [] [Mk 16 .u64 80 [0,0,0,0,0,0,0,0,0,0,0,0,0,0,0,0,0,0,0,0,0,0,0,0,0,0,0,0,0,0,0,0,0,0,0,0,0,0,0,0,0,0,0,0,0,0,0,0,0,0,0,0,0,0,0,0,0,0,0,0,0,0,0,0,0,0,0,0,0,0,0,0,0,0,0,0,0,0,0,0]] [] 32 (v1 pT) <|Xt [] [] [Mk 16 .u64 80 [4794697086780616226,8158064640168781261,13096744586834688815,16840607885511220156,4131703408338449720,6480981068601479193,10538285296894168987,12329834152419229976,15566598209576043074,1334009975649890238,2608012711638119052,6128411473006802146,8268148722764581231,9286055187155687089,11230858885718282805,13951009754708518548,16472876342353939154,17275323862435702243,1135362057144423861,2597628984639134821,3308224258029322869,5365058923640841347,6679025012923562964,8573033837759648693,10970295158949994411,12119686244451234320,12683024718118986047,13788192230050041572,14330467153632333762,15395433587784984357,489312712824947311,1452737877330783856,2861767655752347644,3322285676063803686,5560940570517711597,5996557281743188959,7280758554555802590,8532644243296465576,9350256976987008742,10552545826968843579,11727347734174303076,12113106623233404929,14000437183269869457,14369950271660146224,15101387698204529176,15463397548674623760,17586052441742319658,1182934255886127544,1847814050463011016,2177327727835720531,2830643537854262169,3796741975233480872,4115178125766777443,5681478168544905931,6601373596472566643,7507060721942968483,8399075790359081724,8693463985226723168,9568029438360202098,10144078919501101548,10430055236837252648,11840083180663258601,13761210420658862357,14299343276471374635,14566680578165727644,15097957966210449927,16922976911328602910,17689382322260857208,500013540394364858,748580250866718886,1242879168328830382,1977374033974150939,2944078676154940804,3659926193048069267,4368137639120453308,4836135668995329356,5532061633213252278,6448918945643986474,6902733635092675308,7801388544844847127]] [16] 64 (pu (Yb 80) (pu (Yz 80) pT)) <|Xz [] pz
def dk (p0:Int) (p1:Int):Int :=
 (aN .u64 (aa .u64 p0 p1) (cu .u64 p0 (ag .i64 64 p1)))
def yf:List AV→List Blk→Option (Prop × Ret)
 |[.sc (.i .u64 p0),.sc (.i .i64 p1),.sc (.i .i64 p2)],[]=>some ((((64:Int)=p2)∧((0:Int)≤p1∧p1≤64)),⟨.sc (.i .u64 (dk p0 p1)),[]⟩)
 |_,_=>none
theorem uW:Known Tryz.prog gD 125 ⟨0,0,yf⟩:=by
 refine Xw Tryz.f125 26 Zn mixed <|fun E args ks C r h hC hlen=>?_
 simp only at h
 unfold yf at h
 split at h
 rotate_left
 cases h
 rename_i p0 p1 p2
 cases h
 simp only [bI] at hlen
 obtain ⟨hEp2,hC⟩:=hC
 subst hEp2
 refine ⟨rfl,?_⟩
 exact Xs [] [] 32 (v1 pT) <|Tri.seq <|Xs [Eb 8 true] [2] 64 (v2 pT) <|Tri.cond_true (by kernel_rfl) <|Xu [] (some [0,0,3,0,0,16,56,127,255]) [Ek 6 .u64 (aN .u64 (aa .u64 p0 p1) (cu .u64 p0 (ag .i64 64 p1)))] [8,0,1] [] [] 208 (v2 (pu (Y0 p1) (v3 (pu (li ((0:Int)≤(ag .i64 64 p1))) (v2 pT))))) <|Xz [] pz
def oE (w:Int) (t:List Int):Prop:=(0≤t.getD 0 0∧t.getD 0 0≤w)∧(0≤t.getD 1 0∧t.getD 1 0≤w)∧(0≤t.getD 2 0∧t.getD 2 0≤w)
def cW (p0:Int) (p1:List Int) (p2:Bool):Int :=
 (sel p2 (bM .u64 (bM .u64 (dk p0 (p1.getD 0 0)) (dk p0 (p1.getD 1 0))) (aa .u64 p0 (p1.getD 2 0))) (bM .u64 (bM .u64 (dk p0 (p1.getD 0 0)) (dk p0 (p1.getD 1 0))) (dk p0 (p1.getD 2 0))))
def AC:List AV→List Blk→Option (Prop × Ret)
 |[.sc (.i .u64 p0),.ints .i64 3 p1,.sc (.b p2),.sc (.i .i64 p3)],[]=>some ((((64:Int)=p3)∧(oE 64 p1)),⟨.sc (.i .u64 (cW p0 p1 p2)),[]⟩)
 |_,_=>none
theorem qK:Known Tryz.prog gD 98 ⟨0,0,AC⟩:=by
 refine Xw Tryz.f98 35 (Zv uW 112 3 <|Zv uW 192 3 <|Zv uW 336 3 <|Zn) mixed <|fun E args ks C r h hC hlen=>?_
 simp only at h
 unfold AC at h
 split at h
 rotate_left
 cases h
 rename_i p0 p1 p2 p3
 cases h
 simp only [bI] at hlen
 obtain ⟨hEp3,hC⟩:=hC
 subst hEp3
 have hf1:=hC.1
 have hf2:=hC.2.1
 have hf3:=hC.2.2
 refine ⟨rfl,?_⟩
 refine Xt [Ep 5 16] [1] [Mk 16 .i64 3 p1] [] 48 (v2 pT) <|Xu [] (some [0,0,2,0,15,0,0,64,0,511,1023,2047]) [Ek 9 .u64 (bM .u64 (dk p0 (p1.getD 0 0)) (dk p0 (p1.getD 1 0)))] [] [] [] 240 (v1 (pu (Yi 0 3) (pu (Yl 0 3) (v1 (pu (pa pT (pa (Yr (64:Int)) (lo ((0:Int)≤(p1.getD 0 0)∧(p1.getD 0 0)≤64)))) (v1 (pu (Yi 1 3) (pu (Yl 1 3) (v1 (pu (pa pT (pa (Yr (64:Int)) (lo ((0:Int)≤(p1.getD 1 0)∧(p1.getD 1 0)≤64)))) (v2 pT))))))))))) <|Tri.seq <|Xs [Eb 21 p2] [2] 256 (v1 pT) <|Xa (fun h1=>?_) (fun h1=>?_)
 exact Xt [Ek 8 .u64 (bM .u64 (bM .u64 (dk p0 (p1.getD 0 0)) (dk p0 (p1.getD 1 0))) (aa .u64 p0 (p1.getD 2 0)))] [21,9,5,0,3] [] [16] 368 (v2 (pu (Yi 2 3) (pu (Yl 2 3) (pu (Y0 (p1.getD 2 0)) (v2 pT))))) <|Xy [] pz (by simp only [cW,h1,aD,aA] <;> rfl)
 exact Tri.skip <|Xt [Ek 8 .u64 (bM .u64 (bM .u64 (dk p0 (p1.getD 0 0)) (dk p0 (p1.getD 1 0))) (dk p0 (p1.getD 2 0)))] [21,9,5,0,3] [] [16] 384 (v2 (pu (Yi 2 3) (pu (Yl 2 3) (v1 (pu (pa pT (pa (Yr (64:Int)) (lo ((0:Int)≤(p1.getD 2 0)∧(p1.getD 2 0)≤64)))) (v2 pT)))))) <|Xy [] pz (by simp only [cW,h1,aD,aA] <;> rfl)
end Go.Vm
namespace Go.Vm
open Go Go.Proofs
def bP (k0:Nat) (z0:Nat × List Int):Nat × List Int :=
 (z0.1+1,z0.2++[0])
def jG (p0:List Int) (k1:Nat) (z1:List Int):List Int :=
 z1.set (((ag .i64 (((((itr (bP) ((239-p0.length % 128) % 128) (p0.length+1,p0++[128])).1)+16:Nat):Int)-1-((0:Nat):Int)) ((k1:Nat):Int))).toNat) (IntKind.wrap .u8 (aa .u64 (bS .u64 (IntKind.wrap .u64 ((p0.length:Nat):Int)) 8) ((8*k1:Nat):Int)))
def iP (k2:Nat) (z2:List Int):List Int :=
 z2.set k2 (aa .u64 (z2.getD k2 0) 0)
def fe (p0:List Int) (k3:Nat) (k4:Nat) (z4:List Int):List Int :=
 z4.set ((8*k4)/64) (aN .u64 (bS .u64 (z4.getD ((8*k4)/64) 0) 256) (IntKind.wrap .u64 ((itr (jG p0) 8 (((itr (bP) ((239-p0.length % 128) % 128) (p0.length+1,p0++[128])).2)++(List.replicate 16 0))).getD ((128*k3)+k4) 0)))
def iM (k5:Nat) (z5:List Int):List Int :=
 z5.set (k5+16) (ai .u64 (aN .u64 (aN .u64 (aN .u64 (z5.getD ((k5+16)-16) 0) (z5.getD ((k5+16)-7) 0)) (cW (z5.getD ((k5+16)-15) 0) [1,8,7] true)) (cW (z5.getD ((k5+16)-2) 0) [19,61,6] true)) 18446744073709551615)
def jH (p0:List Int) (k3:Nat) (k6:Nat) (z6:List Int):List Int :=
 [(ai .u64 (aN .u64 (ai .u64 (aN .u64 (aN .u64 (aN .u64 (aN .u64 (z6.getD 7 0) (cW (z6.getD 4 0) [14,18,41] false)) (iOr .u64 (ai .u64 (z6.getD 4 0) (z6.getD 5 0)) (ai .u64 (bM .u64 18446744073709551615 (z6.getD 4 0)) (z6.getD 6 0)))) (aa .u64 ((xr).getD k6 0) 0)) ((itr (iM) 64 (itr (fe p0 k3) 128 [0,0,0,0,0,0,0,0,0,0,0,0,0,0,0,0,0,0,0,0,0,0,0,0,0,0,0,0,0,0,0,0,0,0,0,0,0,0,0,0,0,0,0,0,0,0,0,0,0,0,0,0,0,0,0,0,0,0,0,0,0,0,0,0,0,0,0,0,0,0,0,0,0,0,0,0,0,0,0,0])).getD k6 0)) 18446744073709551615) (aN .u64 (cW (z6.getD 0 0) [28,34,39] false) (iOr .u64 (iOr .u64 (ai .u64 (z6.getD 0 0) (z6.getD 1 0)) (ai .u64 (z6.getD 1 0) (z6.getD 2 0))) (ai .u64 (z6.getD 0 0) (z6.getD 2 0))))) 18446744073709551615),z6.getD 0 0,z6.getD 1 0,z6.getD 2 0,(ai .u64 (aN .u64 (z6.getD 3 0) (ai .u64 (aN .u64 (aN .u64 (aN .u64 (aN .u64 (z6.getD 7 0) (cW (z6.getD 4 0) [14,18,41] false)) (iOr .u64 (ai .u64 (z6.getD 4 0) (z6.getD 5 0)) (ai .u64 (bM .u64 18446744073709551615 (z6.getD 4 0)) (z6.getD 6 0)))) (aa .u64 ((xr).getD k6 0) 0)) ((itr (iM) 64 (itr (fe p0 k3) 128 [0,0,0,0,0,0,0,0,0,0,0,0,0,0,0,0,0,0,0,0,0,0,0,0,0,0,0,0,0,0,0,0,0,0,0,0,0,0,0,0,0,0,0,0,0,0,0,0,0,0,0,0,0,0,0,0,0,0,0,0,0,0,0,0,0,0,0,0,0,0,0,0,0,0,0,0,0,0,0,0])).getD k6 0)) 18446744073709551615)) 18446744073709551615),z6.getD 4 0,z6.getD 5 0,z6.getD 6 0]
def kK (p0:List Int) (k3:Nat) (z3:List Int) (k7:Nat) (z7:List Int):List Int :=
 z7.set k7 (ai .u64 (aN .u64 (z7.getD k7 0) ((itr (jH p0 k3) 80 z3).getD k7 0)) 18446744073709551615)
def jF (p0:List Int) (k3:Nat) (z3:List Int):List Int :=
 (itr (kK p0 k3 z3) 8 z3)
def dI (p0:List Int) (k8:Nat) (z8:Nat × List Int):Nat × List Int :=
 (z8.1+1,z8.2++([(IntKind.wrap .u8 (aa .u64 ((itr (jF p0) ((((itr (bP) ((239-p0.length % 128) % 128) (p0.length+1,p0++[128])).1)+16)/128) (itr (iP) 8 [7640891576956012808,13503953896175478587,4354685564936845355,11912009170470909681,5840696475078001361,11170449401992604703,2270897969802886507,6620516959819538809])).getD ((8*k8)/64) 0) ((56-((8*k8) % 64):Nat):Int)))]))
def dN (p0:List Int):List Int :=
 (itr (dI p0) 64 (0,([]:List Int))).2
theorem zj (p0:List Int):(itr (dI p0) 64 (0,[])).1=64:=by
 have h0:∀ (k:Nat) (z:Nat × List Int),(itr (dI p0) k z).1=z.1+k:=by
  intro k z
  induction k with
  |zero=>rw [bB];rfl
  |succ k ih=>rw [aq];show (itr (dI p0) k z).1+1=_;rw [ih];omega
 rw [h0]
def AJ:List AV→List Blk→Option (Prop × Ret)
 |[.sc (.ro .u8 p0),.sc (.i .i64 p1)],[]=>some ((((64:Int)=p1)∧(p0.length≤100000000)),⟨.sc (.sl 0 0 64 1 none),[some (.ints .u8 64 (dN p0))]⟩)
 |_,_=>none
theorem zG:Known Tryz.prog gD 57 ⟨0,1,AJ⟩:=by
 refine Xw Tryz.f57 292 (Zv MN 672 0 <|Zv Lj 720 0 <|Zv qK 1312 4 <|Zv qK 1456 4 <|Zv qK 1488 4 <|Zv qK 1856 4 <|Zn) mixed <|fun E args ks C r h hC hlen=>?_
 simp only at h
 unfold AJ at h
 split at h
 rotate_left
 cases h
 rename_i p0 p1
 cases h
 simp only [bI] at hlen
 obtain ⟨hEp1,hC⟩:=hC
 subst hEp1
 refine ⟨rfl,?_⟩
 refine Xs [] [] 32 (v1 pT) <|Xs [Ek 6 .u64 18446744073709551615,Ei 5 80] [] 64 (v2 pT) <|Xt [Ep 7 144] [] [Mk 144 .i64 12 [1,8,7,19,61,6,14,18,41,28,34,39]] [] 176 (pu (Yb 3) (pu (Yb 3) (pu (Yb 3) (pu (Yb 3) (pu (pa (pa (Ye (0+3) 12) (Yr 3)) (pa (pa (Ye (3+3) 12) (Yr 3)) (pa (pa (Ye (6+3) 12) (Yr 3)) (pa (pa (Ye (9+3) 12) (Yr 3)) pT)))) (v1 (pu (Yz 12) pT))))))) <|Tri.seq <|Xs [Eb 33 false] [] 208 (v2 pT) <|Tri.cond_false (by kernel_rfl) <|Tri.skip <|Xs [Ei 8 128] [33] 256 (v3 pT) <|Xt [El 9 304 (p0.length+1)] [] [Mi 304 (p0.length+1) (p0++[128])] [] 336 (v1 (pu (YN pT 1 p0.length p0.length p0.length) (pu (Yf 1) (pu (Ya (Yw 1) 1 (p0.length+1) 1 1 p0.length p0.length) (v1 pT))))) <|Tri.seq <|Tri.block <|Xc ((239-p0.length % 128) % 128) (bP) (p0.length+1,p0++[128]) (fun k0 z0=>z0.1=(p0.length+1)+1*k0) (fun k0 z0=>[El 9 304 z0.1]) (fun k0 z0=>[Mi 304 z0.1 z0.2]) (by simp) <|fun k0 z0 hk0 hz0 hJ0=>Tri.seq <|Xu [Ej 49 (z0.1+16),Ej 51 ((z0.1+16) % 128)] none [Eb 52 (((((z0.1+16) % 128:Nat):Int):Int) != 0)] [] [] [] 464 (v3 (pu (Yn 4) (pv pT (Yp z0.1 16) (v1 (pv (Yn 128) (pl (eK (a:=z0.1+16) (b:=128))) (v1 pT)))))) <|?_
 refine Xa (fun h1=>?_) (fun h1=>?_)
 have h1':=di h1
 refine Tri.skip <|Tri.block <|Wt [El 9 496 (z0.1+1)] [52,9] [Mi 496 (z0.1+1) (z0.2++[0])] [304] 528 (v1 (pu (Yf 1) (pu (Ya (Yw 1) 1 (z0.1+1) 1 1 z0.1 z0.1) (v1 pT)))) <|?_
 repeat (refine pe ?_)
 exact mf (by have h9:=di h1;omega) (show z0.1+1=(p0.length+1)+1*(k0+1) by omega) <|Xn [(304,496)]
 have h1':=bz h1
 refine Tri.exit <|?_
 have hend0:k0=((239-p0.length % 128) % 128):=by (have h9:=bz h1;omega)
 subst hend0;subst hz0
 refine Xt [El 9 512 (((itr (bP) ((239-p0.length % 128) % 128) (p0.length+1,p0++[128])).1)+16)] [52,9] [Mi 512 (((itr (bP) ((239-p0.length % 128) % 128) (p0.length+1,p0++[128])).1)+16) (((itr (bP) ((239-p0.length % 128) % 128) (p0.length+1,p0++[128])).2)++(List.replicate 16 0))] [304] 544 (v2 (pu (Yn 4) (pu (Ya (pa (pa (Y0 16) (lo (16≤(140737488355328:Int)))) (lo (((1:Nat):Int)*16≤281474976710656))) 1 (((itr (bP) ((239-p0.length % 128) % 128) (p0.length+1,p0++[128])).1)+16) 16 16 ((itr (bP) ((239-p0.length % 128) % 128) (p0.length+1,p0++[128])).1) ((itr (bP) ((239-p0.length % 128) % 128) (p0.length+1,p0++[128])).1)) (v1 pT)))) <|Xs [Ek 10 .u64 (bS .u64 (IntKind.wrap .u64 ((p0.length:Nat):Int)) 8)] [0] 624 (v5 pT) <|Tri.seq <|Xs [Ei 11 0] [] 640 (v1 pT) <|Tri.block <|Xc 8 (jG p0) (((itr (bP) ((239-p0.length % 128) % 128) (p0.length+1,p0++[128])).2)++(List.replicate 16 0)) (fun k1 z1=>True) (fun k1 z1=>[Ej 11 k1]) (fun k1 z1=>[Mi 512 (((itr (bP) ((239-p0.length % 128) % 128) (p0.length+1,p0++[128])).1)+16) z1]) trivial <|fun k1 z1 hk1 hz1 hJ1=>Tri.seq <|Xs [Eb 65 (decide ((((k1:Nat):Int):Int)<8))] [] 672 (v2 pT) <|Xb (fun h2 h2'=>?_) (fun h2 h2'=>?_)
 exact Tri.skip <|Tri.seq <|Tri.block <|Wu [Ei 71 (((((itr (bP) ((239-p0.length % 128) % 128) (p0.length+1,p0++[128])).1)+16:Nat):Int)-1-((0:Nat):Int)),Ej 76 (8*k1)] none [] [65] [Mi 512 (((itr (bP) ((239-p0.length % 128) % 128) (p0.length+1,p0++[128])).1)+16) (z1.set (((ag .i64 (((((itr (bP) ((239-p0.length % 128) % 128) (p0.length+1,p0++[128])).1)+16:Nat):Int)-1-((0:Nat):Int)) ((k1:Nat):Int))).toNat) (IntKind.wrap .u8 (aa .u64 (bS .u64 (IntKind.wrap .u64 ((p0.length:Nat):Int)) 8) ((8*k1:Nat):Int))))] [512] 880 (v3 (pv pT (pl (show (ag .i64 ((((itr (bP) ((239-p0.length % 128) % 128) (p0.length+1,p0++[128])).1)+16:Nat):Int) 1)=(((((itr (bP) ((239-p0.length % 128) % 128) (p0.length+1,p0++[128])).1)+16:Nat):Int)-1-((0:Nat):Int)) from lT (by omega))) (v4 (pv pT (Yt 8 k1) (pu (Y0 ((8*k1:Nat):Int)) (v1 (pu (li ((0:Int)≤(ag .i64 (((((itr (bP) ((239-p0.length % 128) % 128) (p0.length+1,p0++[128])).1)+16:Nat):Int)-1-((0:Nat):Int)) ((k1:Nat):Int))∧(ag .i64 (((((itr (bP) ((239-p0.length % 128) % 128) (p0.length+1,p0++[128])).1)+16:Nat):Int)-1-((0:Nat):Int)) ((k1:Nat):Int))<((((itr (bP) ((239-p0.length % 128) % 128) (p0.length+1,p0++[128])).1)+16:Nat):Int))) (pu (pa (li (((ag .i64 (((((itr (bP) ((239-p0.length % 128) % 128) (p0.length+1,p0++[128])).1)+16:Nat):Int)-1-((0:Nat):Int)) ((k1:Nat):Int))).toNat<((itr (bP) ((239-p0.length % 128) % 128) (p0.length+1,p0++[128])).1)+16)) (Yr 1)) pT)))))))) <|Wu [Ej 67 (k1+1)] none [Ej 11 (k1+1)] [11] [] [] 928 (v1 (pv pT (Yp k1 1) (v1 pT))) <|Xo [] trivial
 refine Tri.exit <|?_
 obtain rfl:k1=8:=(by omega);subst hz1
 refine Xt [Ep 12 688] [65,11,10] [Mk 688 .u64 8 [7640891576956012808,13503953896175478587,4354685564936845355,11912009170470909681,5840696475078001361,11170449401992604703,2270897969802886507,6620516959819538809]] [] 720 (pu pz (v1 (pu (Yz 8) pT))) <|Xt [Ep 13 736] [] [Mk 736 .u64 80 (xr)] [] 768 (pu pz (v1 (pu (Yz 80) pT))) <|Tri.seq <|Xs [Ei 14 0] [] 784 (v1 pT) <|Tri.block <|Xc 8 (iP) [7640891576956012808,13503953896175478587,4354685564936845355,11912009170470909681,5840696475078001361,11170449401992604703,2270897969802886507,6620516959819538809] (fun k2 z2=>True) (fun k2 z2=>[Ej 14 k2]) (fun k2 z2=>[Mk 688 .u64 8 z2]) trivial <|fun k2 z2 hk2 hz2 hJ2=>Tri.seq <|Xs [Eb 83 (decide ((((k2:Nat):Int):Int)<8))] [] 816 (v2 pT) <|Xb (fun h3 h3'=>?_) (fun h3 h3'=>?_)
 exact Tri.skip <|Tri.seq <|Tri.block <|Wt [] [83] [Mk 688 .u64 8 (z2.set k2 (aa .u64 (z2.getD k2 0) 0))] [688] 960 (v2 (pu (Yj k2 8) (pu (Yl k2 8) (v2 (pu (Y0 0) (pu (Yj k2 8) (pu (Ys k2 8) pT))))))) <|Wu [Ej 85 (k2+1)] none [Ej 14 (k2+1)] [14] [] [] 1008 (v1 (pv pT (Yp k2 1) (v1 pT))) <|Xo [] trivial
 refine Tri.exit <|?_
 obtain rfl:k2=8:=(by omega);subst hz2
 refine Tri.seq <|Xs [Ei 15 0] [83,14] 832 (v1 pT) <|Tri.block <|Xc ((((itr (bP) ((239-p0.length % 128) % 128) (p0.length+1,p0++[128])).1)+16)/128) (jF p0) (itr (iP) 8 [7640891576956012808,13503953896175478587,4354685564936845355,11912009170470909681,5840696475078001361,11170449401992604703,2270897969802886507,6620516959819538809]) (fun k3 z3=>True) (fun k3 z3=>[Ej 15 (128*k3)]) (fun k3 z3=>[Mk 688 .u64 8 z3]) trivial <|fun k3 z3 hk3 hz3 hJ3=>Tri.seq <|Xs [Eb 97 (decide ((((128*k3:Nat):Int):Int)<((((itr (bP) ((239-p0.length % 128) % 128) (p0.length+1,p0++[128])).1)+16:Nat):Int)))] [] 896 (v4 pT) <|Xb (fun h4 h4'=>?_) (fun h4 h4'=>?_)
 refine Tri.skip <|Tri.seq <|Tri.block <|Xt [Ep 16 896] [97] [Mk 896 .u64 80 [0,0,0,0,0,0,0,0,0,0,0,0,0,0,0,0,0,0,0,0,0,0,0,0,0,0,0,0,0,0,0,0,0,0,0,0,0,0,0,0,0,0,0,0,0,0,0,0,0,0,0,0,0,0,0,0,0,0,0,0,0,0,0,0,0,0,0,0,0,0,0,0,0,0,0,0,0,0,0,0]] [] 912 (v1 pT) <|Tri.seq <|Xs [Ei 17 0] [] 928 (v1 pT) <|Tri.block <|Xc 128 (fe p0 k3) [0,0,0,0,0,0,0,0,0,0,0,0,0,0,0,0,0,0,0,0,0,0,0,0,0,0,0,0,0,0,0,0,0,0,0,0,0,0,0,0,0,0,0,0,0,0,0,0,0,0,0,0,0,0,0,0,0,0,0,0,0,0,0,0,0,0,0,0,0,0,0,0,0,0,0,0,0,0,0,0] (fun k4 z4=>True) (fun k4 z4=>[Ej 17 k4]) (fun k4 z4=>[Mk 896 .u64 80 z4]) trivial <|fun k4 z4 hk4 hz4 hJ4=>Tri.seq <|Xs [Eb 103 (decide ((((k4:Nat):Int):Int)<128))] [] 976 (v3 pT) <|Xb (fun h5 h5'=>?_) (fun h5 h5'=>?_)
 exact Tri.skip <|Tri.seq <|Tri.block <|Wu [Ej 107 (8*k4),Ej 109 ((8*k4)/64),Ej 111 (8*k4),Ej 113 ((8*k4)/64),Ej 120 ((128*k3)+k4)] (some [0,1,0,7,0,16,0,112,240,496,1008,0,0,0,12288,30720,63488,129024,262128,524287,1048575]) [] [103] [Mk 896 .u64 80 (z4.set ((8*k4)/64) (aN .u64 (bS .u64 (z4.getD ((8*k4)/64) 0) 256) (IntKind.wrap .u64 ((itr (jG p0) 8 (((itr (bP) ((239-p0.length % 128) % 128) (p0.length+1,p0++[128])).2)++(List.replicate 16 0))).getD ((128*k3)+k4) 0))))] [896] 1312 (v1 (pv pT (Yt 8 k4) (v1 (pv (Yn 64) (pl (dH (a:=8*k4) (b:=64) (by omega))) (v1 (pv pT (Yt 8 k4) (v1 (pv (Yn 64) (pl (dH (a:=8*k4) (b:=64) (by omega))) (pu (Yj ((8*k4)/64) 80) (pu (Yl ((8*k4)/64) 80) (v4 (pv pT (Yp (128*k3) k4) (pu (Yj ((128*k3)+k4) (((itr (bP) ((239-p0.length % 128) % 128) (p0.length+1,p0++[128])).1)+16)) (pu (Yl ((128*k3)+k4) (((itr (bP) ((239-p0.length % 128) % 128) (p0.length+1,p0++[128])).1)+16)) (v2 (pu (Yj ((8*k4)/64) 80) (pu (Ys ((8*k4)/64) 80) pT))))))))))))))))) <|Wu [Ej 105 (k4+1)] none [Ej 17 (k4+1)] [17] [] [] 1360 (v1 (pv pT (Yp k4 1) (v1 pT))) <|Xo [] trivial
 refine Tri.exit <|?_
 obtain rfl:k4=128:=(by omega);subst hz4
 refine Tri.seq <|Xs [Ei 18 16] [103,17] 992 (v1 pT) <|Tri.block <|Xc 64 (iM) (itr (fe p0 k3) 128 [0,0,0,0,0,0,0,0,0,0,0,0,0,0,0,0,0,0,0,0,0,0,0,0,0,0,0,0,0,0,0,0,0,0,0,0,0,0,0,0,0,0,0,0,0,0,0,0,0,0,0,0,0,0,0,0,0,0,0,0,0,0,0,0,0,0,0,0,0,0,0,0,0,0,0,0,0,0,0,0]) (fun k5 z5=>True) (fun k5 z5=>[Ej 18 (k5+16)]) (fun k5 z5=>[Mk 896 .u64 80 z5]) trivial <|fun k5 z5 hk5 hz5 hJ5=>Tri.seq <|Xs [Eb 128 (decide ((((k5+16:Nat):Int):Int)<80))] [] 1040 (v3 pT) <|Xb (fun h6 h6'=>?_) (fun h6 h6'=>?_)
 refine Tri.skip <|Tri.seq <|Tri.block <|Wu [Ej 133 ((k5+16)-16),Ej 137 ((k5+16)-7),Ej 142 ((k5+16)-15),Ej 151 ((k5+16)-2)] (some [0,0,2,6,14,0,32,96,224,510,0,1024,3072,7168,0,16384,0,130048,262142,0,524288,1572864,3670016,0,8388608,0,66845696,134217726,0,536870910,1073741823,2147483647]) [] [128] [Mk 896 .u64 80 (z5.set (k5+16) (ai .u64 (aN .u64 (aN .u64 (aN .u64 (z5.getD ((k5+16)-16) 0) (z5.getD ((k5+16)-7) 0)) (cW (z5.getD ((k5+16)-15) 0) [1,8,7] true)) (cW (z5.getD ((k5+16)-2) 0) [19,61,6] true)) 18446744073709551615))] [896] 1552 (v2 (pv pT (pl (gY (a:=k5+16) (b:=16) (by omega) (by omega))) (pu (Yj ((k5+16)-16) 80) (pu (Yl ((k5+16)-16) 80) (v1 (pv pT (pl (gY (a:=k5+16) (b:=7) (by omega) (by omega))) (pu (Yj ((k5+16)-7) 80) (pu (Yl ((k5+16)-7) 80) (v2 (pv pT (pl (gY (a:=k5+16) (b:=15) (by omega) (by omega))) (pu (Yj ((k5+16)-15) 80) (pu (Yl ((k5+16)-15) 80) (pu (Yi 0 4) (pu (Ye (0+3) 12) (v1 (pu (pa pT (pa (Yr (64:Int)) (pl (show oE 64 [1,8,7] from by unfold oE;decide)))) (v2 (pv pT (pl (gY (a:=k5+16) (b:=2) (by omega) (by omega))) (pu (Yj ((k5+16)-2) 80) (pu (Yl ((k5+16)-2) 80) (pu (Yi 1 4) (pu (Ye (3+3) 12) (v1 (pu (pa pT (pa (Yr (64:Int)) (pl (show oE 64 [19,61,6] from by unfold oE;decide)))) (v3 (pu (Yj (k5+16) 80) (pu (Ys (k5+16) 80) pT))))))))))))))))))))))))))) ?_
 exact Wu [Ej 130 ((k5+16)+1)] none [Ej 18 ((k5+16)+1)] [18] [] [] 1600 (v1 (pv pT (Yp (k5+16) 1) (v1 pT))) <|Xo [] trivial
 refine Tri.exit <|?_
 obtain rfl:k5=64:=(by omega);subst hz5
 refine Xt [Ep 19 1056] [128,18] [Mk 1056 .u64 8 z3] [] 1088 (v2 (pu (Yz 8) pT)) <|Tri.seq <|Xs [Ei 20 0] [] 1104 (v1 pT) <|Tri.block <|Xc 80 (jH p0 k3) z3 (fun k6 z6=>True) (fun k6 z6=>[Ej 20 k6]) (fun k6 z6=>[Mk 1056 .u64 8 z6]) trivial <|fun k6 z6 hk6 hz6 hJ6=>Tri.seq <|Xs [Eb 165 (decide ((((k6:Nat):Int):Int)<80))] [] 1152 (v3 pT) <|Xb (fun h7 h7'=>?_) (fun h7 h7'=>?_)
 refine Tri.skip <|Tri.seq <|Tri.block <|Xs [Ek 21 .u64 (iOr .u64 (ai .u64 (z6.getD 4 0) (z6.getD 5 0)) (ai .u64 (bM .u64 18446744073709551615 (z6.getD 4 0)) (z6.getD 6 0)))] [165] 1376 (pu (Yi 4 8) (pu (Yl 4 8) (pu (Yi 5 8) (pu (Yl 5 8) (v2 (pu (Yi 4 8) (pu (Yl 4 8) (v1 (pu (Yi 6 8) (pu (Yl 6 8) (v3 pT))))))))))) <|Xu [] (some [0,1,0,4,0,16,0,124,255,0,1023,0,2048,6144,0,16384,63488,131071,0,262144,786432,2097151,0,8388607,16777215]) [Ek 22 .u64 (ai .u64 (aN .u64 (aN .u64 (aN .u64 (aN .u64 (z6.getD 7 0) (cW (z6.getD 4 0) [14,18,41] false)) (iOr .u64 (ai .u64 (z6.getD 4 0) (z6.getD 5 0)) (ai .u64 (bM .u64 18446744073709551615 (z6.getD 4 0)) (z6.getD 6 0)))) (aa .u64 ((xr).getD k6 0) 0)) ((itr (iM) 64 (itr (fe p0 k3) 128 [0,0,0,0,0,0,0,0,0,0,0,0,0,0,0,0,0,0,0,0,0,0,0,0,0,0,0,0,0,0,0,0,0,0,0,0,0,0,0,0,0,0,0,0,0,0,0,0,0,0,0,0,0,0,0,0,0,0,0,0,0,0,0,0,0,0,0,0,0,0,0,0,0,0,0,0,0,0,0,0])).getD k6 0)) 18446744073709551615)] [21] [] [] 1776 (pu (Yi 7 8) (pu (Yl 7 8) (pu (Yi 4 8) (pu (Yl 4 8) (pu (Yi 2 4) (pu (Ye (6+3) 12) (v1 (pu (pa pT (pa (Yr (64:Int)) (pl (show oE 64 [14,18,41] from by unfold oE;decide)))) (v4 (pu (Yj k6 80) (pu (Yl k6 80) (v2 (pu (Y0 0) (v2 (pu (Yj k6 80) (pu (Yl k6 80) (v4 pT))))))))))))))))) ?_
 refine Xu [] (some [0,1,0,4,0,31,0,64,0,256,960,0,2048,0,8192,30720,65472,0,131072,0,524288,1966080,4194240,8388607,16777215]) [Ek 23 .u64 (aN .u64 (cW (z6.getD 0 0) [28,34,39] false) (iOr .u64 (iOr .u64 (ai .u64 (z6.getD 0 0) (z6.getD 1 0)) (ai .u64 (z6.getD 1 0) (z6.getD 2 0))) (ai .u64 (z6.getD 0 0) (z6.getD 2 0))))] [] [] [] 2176 (pu (Yi 0 8) (pu (Yl 0 8) (pu (Yi 3 4) (pu (Ye (9+3) 12) (v1 (pu (pa pT (pa (Yr (64:Int)) (pl (show oE 64 [28,34,39] from by unfold oE;decide)))) (pu (Yi 0 8) (pu (Yl 0 8) (pu (Yi 1 8) (pu (Yl 1 8) (v1 (pu (Yi 1 8) (pu (Yl 1 8) (pu (Yi 2 8) (pu (Yl 2 8) (v2 (pu (Yi 0 8) (pu (Yl 0 8) (pu (Yi 2 8) (pu (Yl 2 8) (v4 pT))))))))))))))))))))) ?_
 exact Wt [] [23,22] [Mk 1056 .u64 8 ([(ai .u64 (aN .u64 (ai .u64 (aN .u64 (aN .u64 (aN .u64 (aN .u64 (z6.getD 7 0) (cW (z6.getD 4 0) [14,18,41] false)) (iOr .u64 (ai .u64 (z6.getD 4 0) (z6.getD 5 0)) (ai .u64 (bM .u64 18446744073709551615 (z6.getD 4 0)) (z6.getD 6 0)))) (aa .u64 ((xr).getD k6 0) 0)) ((itr (iM) 64 (itr (fe p0 k3) 128 [0,0,0,0,0,0,0,0,0,0,0,0,0,0,0,0,0,0,0,0,0,0,0,0,0,0,0,0,0,0,0,0,0,0,0,0,0,0,0,0,0,0,0,0,0,0,0,0,0,0,0,0,0,0,0,0,0,0,0,0,0,0,0,0,0,0,0,0,0,0,0,0,0,0,0,0,0,0,0,0])).getD k6 0)) 18446744073709551615) (aN .u64 (cW (z6.getD 0 0) [28,34,39] false) (iOr .u64 (iOr .u64 (ai .u64 (z6.getD 0 0) (z6.getD 1 0)) (ai .u64 (z6.getD 1 0) (z6.getD 2 0))) (ai .u64 (z6.getD 0 0) (z6.getD 2 0))))) 18446744073709551615),z6.getD 0 0,z6.getD 1 0,z6.getD 2 0,(ai .u64 (aN .u64 (z6.getD 3 0) (ai .u64 (aN .u64 (aN .u64 (aN .u64 (aN .u64 (z6.getD 7 0) (cW (z6.getD 4 0) [14,18,41] false)) (iOr .u64 (ai .u64 (z6.getD 4 0) (z6.getD 5 0)) (ai .u64 (bM .u64 18446744073709551615 (z6.getD 4 0)) (z6.getD 6 0)))) (aa .u64 ((xr).getD k6 0) 0)) ((itr (iM) 64 (itr (fe p0 k3) 128 [0,0,0,0,0,0,0,0,0,0,0,0,0,0,0,0,0,0,0,0,0,0,0,0,0,0,0,0,0,0,0,0,0,0,0,0,0,0,0,0,0,0,0,0,0,0,0,0,0,0,0,0,0,0,0,0,0,0,0,0,0,0,0,0,0,0,0,0,0,0,0,0,0,0,0,0,0,0,0,0])).getD k6 0)) 18446744073709551615)) 18446744073709551615),z6.getD 4 0,z6.getD 5 0,z6.getD 6 0])] [1056] 2576 (v5 (pu (Yi 0 8) (pu (Yl 0 8) (pu (Yi 1 8) (pu (Yl 1 8) (pu (Yi 2 8) (pu (Yl 2 8) (pu (Yi 3 8) (pu (Yl 3 8) (v4 (pu (Yi 4 8) (pu (Yl 4 8) (pu (Yi 5 8) (pu (Yl 5 8) (pu (Yi 6 8) (pu (Yl 6 8) (pu (Yb 8) (pu (Yz 8) pT)))))))))))))))))) <|Wu [Ej 167 (k6+1)] none [Ej 20 (k6+1)] [20] [] [] 2624 (v1 (pv pT (Yp k6 1) (v1 pT))) <|Xo [] trivial
 refine Tri.exit <|?_
 obtain rfl:k6=80:=(by omega);subst hz6
 refine Xt [Ei 24 0] [165,20,16] [] [896] 1168 (v1 pT) <|Tri.block <|Xc 8 (kK p0 k3 z3) z3 (fun k7 z7=>True) (fun k7 z7=>[Ej 24 k7]) (fun k7 z7=>[Mk 688 .u64 8 z7]) trivial <|fun k7 z7 hk7 hz7 hJ7=>Tri.seq <|Xs [Eb 254 (decide ((((k7:Nat):Int):Int)<8))] [] 1200 (v2 pT) <|Xb (fun h8 h8'=>?_) (fun h8 h8'=>?_)
 exact Tri.skip <|Tri.seq <|Tri.block <|Wu [] (some [0,0,2,6,0,16,48,126,0,510,1023,2047]) [] [254] [Mk 688 .u64 8 (z7.set k7 (ai .u64 (aN .u64 (z7.getD k7 0) ((itr (jH p0 k3) 80 z3).getD k7 0)) 18446744073709551615))] [688] 1392 (v2 (pu (Yj k7 8) (pu (Yl k7 8) (v1 (pu (Yj k7 8) (pu (Yl k7 8) (v3 (pu (Yj k7 8) (pu (Ys k7 8) pT))))))))) <|Wu [Ej 256 (k7+1)] none [Ej 24 (k7+1)] [24] [] [] 1440 (v1 (pv pT (Yp k7 1) (v1 pT))) <|Xo [] trivial
 refine Tri.exit <|?_
 obtain rfl:k7=8:=(by omega);subst hz7
 exact Wu [Ej 100 ((128*k3)+128)] none [Ej 15 ((128*k3)+128)] [254,24,19,15] [] [1056] 1264 (v2 (pv pT (Yp (128*k3) 128) (v1 pT))) <|Xo [] trivial
 refine Tri.exit <|?_
 obtain rfl:k3=((((itr (bP) ((239-p0.length % 128) % 128) (p0.length+1,p0++[128])).1)+16)/128):=(by omega);subst hz3
 refine Xt [(25,.sc (.nils))] [97,15,13,9,8,7,6,5] [] [736,512,144] 912 (v1 pT) <|Tri.seq <|Xs [Ei 26 0] [] 928 (v1 pT) <|Tri.block <|Tri.sub (Sub.openNil (U:=928) (U':=944) 25 928 1 .u8 none (.inl rfl) (by decide) (by decide) (by kernel_rfl) (by kernel_rfl)) <|Xc 64 (dI p0) (0,([]:List Int)) (fun k8 z8=>z8.1=1*k8) (fun k8 z8=>[El 25 928 z8.1,Ej 26 k8]) (fun k8 z8=>[Mi 928 z8.1 z8.2]) rfl <|fun k8 z8 hk8 hz8 hJ8=>Tri.seq <|Xs [Eb 270 (decide ((((k8:Nat):Int):Int)<64))] [] 992 (v3 pT) <|Xb (fun h9 h9'=>?_) (fun h9 h9'=>?_)
 exact Tri.skip <|Tri.seq <|Tri.block <|Wu [Ej 275 (8*k8),Ej 277 ((8*k8)/64),Ej 283 (8*k8),Ej 285 ((8*k8) % 64),Ej 286 (56-((8*k8) % 64))] (some [0,0,2,0,14,30,62,0,128,0,512,0,3584,8064,16382,32766,65534,131071,262143]) [El 25 1264 (z8.1+1)] [270,25] [Mi 1264 (z8.1+1) (z8.2++([(IntKind.wrap .u8 (aa .u64 ((itr (jF p0) ((((itr (bP) ((239-p0.length % 128) % 128) (p0.length+1,p0++[128])).1)+16)/128) (itr (iP) 8 [7640891576956012808,13503953896175478587,4354685564936845355,11912009170470909681,5840696475078001361,11170449401992604703,2270897969802886507,6620516959819538809])).getD ((8*k8)/64) 0) ((56-((8*k8) % 64):Nat):Int)))]))] [928] 1296 (v2 (pv pT (Yt 8 k8) (v1 (pv (Yn 64) (pl (dH (a:=8*k8) (b:=64) (by omega))) (pu (Yj ((8*k8)/64) 8) (pu (Yl ((8*k8)/64) 8) (v3 (pv pT (Yt 8 k8) (v1 (pv (Yn 64) (pl (eK (a:=8*k8) (b:=64))) (pv pT (pl (gY (a:=56) (b:=(8*k8) % 64) (by omega) (by omega))) (pu (Y0 ((56-((8*k8) % 64):Nat):Int)) (v1 (pu (Yf 1) (pu (Ya (Yw 1) 1 (z8.1+1) 1 1 z8.1 z8.1) (v1 pT)))))))))))))))) <|Wu [Ej 272 (k8+1)] none [Ej 26 (k8+1)] [26] [] [] 1344 (v1 (pv pT (Yp k8 1) (v1 pT))) <|Xo [(928,1264)] (show z8.1+1=1*(k8+1) by omega)
 refine Tri.exit <|?_
 obtain rfl:k8=64:=(by omega);subst hz8
 exact Xt [El 4 928 ((itr (dI p0) 64 (0,([]:List Int))).1)] [270,25,26,12,1] [] [688] 1024 (v2 pT) <|Xy (r':=⟨.sc (.sl 0 0 ((itr (dI p0) 64 (0,([]:List Int))).1) 1 none),[some (.ints .u8 ((itr (dI p0) 64 (0,([]:List Int))).1) ((itr (dI p0) 64 (0,([]:List Int))).2))]⟩) [(928,0)] pz (by simp only [dN,zj,aD,aA])
theorem mH (p0:List Int):(dN p0).length=64:=by
 have h0:∀ (k:Nat) (z:Nat × List Int),z.2.length=z.1→(itr (dI p0) k z).2.length=(itr (dI p0) k z).1:=by
  intro k z hz
  induction k with
  |zero=>rw [bB];exact hz
  |succ k ih=>rw [aq];show ((itr (dI p0) k z).2++[_]).length=(itr (dI p0) k z).1+1;rw [List.length_append,ih];rfl
 unfold dN
 rw [h0 64 _ rfl,zj]
end Go.Vm
end
