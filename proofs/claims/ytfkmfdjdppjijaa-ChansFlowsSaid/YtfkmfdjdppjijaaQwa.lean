/- A part of a proof (pack3): the small machine that walks the program, the walks of its functions, and what they compute in plain. -/
import Derived.Orders
import Derived.Below
import Derived.KernelRfl
import Derived.Laws.Sem
import Derived.Laws.World
import Derived.Laws.Cells
import Derived.Laws.Rows
import Derived.Laws.StructEq
import Derived.Laws.Small
import Derived.Laws.Pointers
import Derived.Laws.Strings
import Derived.Lib.SliceRun
import Derived.Laws.BytesString
import Derived.Lib.ConvBytes
import Derived.Laws.AppendOwn
import Derived.Deep.LoopGhost
import Derived.Laws.Externs
set_option linter.unusedVariables false
set_option linter.unusedSimpArgs false
noncomputable section
namespace Go.Vm
open Go
structure Loc where
 g:Nat
 β:Nat
 sz:Nat
inductive Pl where
 |unset
 |nil
 |at (L:Loc)
abbrev Sig:=Nat→Pl
inductive Sc where
 |b (x:Bool)
 |i (k:IntKind) (n:Int)
 |s (x:ByteArray)
 |p (b o:Nat)
 |nilp
 |sl (b off len es:Nat) (cap:Option Nat)
 |nils
 |ro (k:IntKind) (xs:List Int)
 |ros (xs:List ByteArray)
 |rob (xs:List (List Int))
 |roc (xs:List (Int × List Int))
 |rp (k:IntKind) (xs:List Int) (j:Nat)
 |rps (x:ByteArray)
 |rpb (xs:List Int)
 |rpc (x:Int × List Int)
 |raw (v:Value)
 |clo (f:FuncId) (b c:Nat)
inductive VK where
 |row
 |str
 |tab
@[reducible] def VK.T:VK→Type
 |.row=>List Int
 |.str=>ByteArray
 |.tab=>List ByteArray
inductive A1 where
 |sc (s:Sc)
 |agg (l:List Sc)
 |ints (k:IntKind) (n:Nat) (xs:List Int)
 |arr (v:VK) (xs:List v.T)
inductive AV where
 |sc (s:Sc)
 |agg (l:List Sc)
 |ints (k:IntKind) (n:Nat) (xs:List Int)
 |tup (l:List A1)
 |arr (v:VK) (xs:List v.T)
def VK.sc:(v:VK)→v.T→Sc
 |.row,x=>.ro .u8 x
 |.str,x=>.s x
 |.tab,x=>.ros x
def VK.z:(v:VK)→v.T
 |.row=>[]
 |.str=>⟨#[]⟩
 |.tab=>[]
def VK.un:(v:VK)→Sc→Option v.T
 |.row,.ro .u8 x=>some x
 |.row,.nils=>some []
 |.str,.s x=>some x
 |.tab,.ros x=>some x
 |.tab,.nils=>some []
 |_,_=>none
def VK.unL (v:VK):List Sc→Option (List v.T)
 |[]=>some []
 |s :: r=>match v.un s,v.unL r with
  |some x,some xs=>some (x :: xs)
  |_,_=>none
inductive Blk where
 |ints (k:IntKind) (n:Nat) (xs:List Int)
 |cells (l:List Sc)
 |vec (v:VK) (xs:List v.T)
def A1.up:A1→AV
 |.sc s=>.sc s
 |.agg l=>.agg l
 |.ints k n xs=>.ints k n xs
 |.arr v xs=>.arr v xs
def Blk.len:Blk→Nat
 |.ints _ n _=>n
 |.cells l=>l.length
 |.vec _ xs=>xs.length
def Blk.get? (blk:Blk) (j:Nat):Option Sc :=
 match blk with
 |.ints k _ xs=>(xs[j]?).map (.i k ·)
 |.cells l=>l[j]?
 |.vec v xs=>(xs[j]?).map v.sc
abbrev Fr:=List (Nat × AV)
abbrev Mem:=List (Nat × Blk)
def ap {α:Type} (n:Nat):List (Nat × α)→Option α
 |[]=>none
 |(m,v) :: r=>bif Nat.beq m n then some v else ap n r
def dE {α:Type} (n:Nat):List (Nat × α)→List (Nat × α)
 |[]=>[]
 |(m,v) :: r=>bif Nat.beq m n then dE n r else (m,v) :: dE n r
def cd {α:Type} (n:Nat) (v:α) (l:List (Nat × α)):List (Nat × α):=(n,v) :: dE n l
def ez {α:Type} (ks:List Nat):List (Nat × α)→List (Nat × α)
 |[]=>[]
 |(m,v) :: r=>bif ks.any (Nat.beq m) then (m,v) :: ez ks r else ez ks r
theorem iF (k:Nat):Nat.beq k k=true:=Nat.beq_refl k
theorem gk {k m:Nat} (h:k≠m):Nat.beq k m=false:=by
 cases hb:Nat.beq k m
 ·rfl
 ·exact absurd (Nat.eq_of_beq_eq_true hb) h
theorem cS {α:Type} (n m:Nat) (l:List (Nat × α)):ap m (dE n l)=if m=n then none else ap m l:=by
 induction l with
 |nil=>simp [ap,dE]
 |cons x r ih =>
  obtain ⟨k,v⟩:=x
  by_cases h:k=n
  ·subst h
   simp only [dE,ap,iF,cond_true,ih]
   by_cases h2:m=k
   ·subst h2;simp
   ·simp [gk (Ne.symm h2),h2]
  ·simp only [dE,ap,gk h,cond_false,ih]
   by_cases h2:k=m
   ·subst h2
    simp [h]
   ·simp [gk h2]
theorem bP {α:Type} (n m:Nat) (v:α) (l:List (Nat × α)):ap m (cd n v l)=if m=n then some v else ap m l:=by
 unfold cd
 simp only [ap,cS]
 by_cases h:m=n
 ·subst h;simp
 ·simp [gk (Ne.symm h),h]
theorem lh {α:Type} (ks:List Nat) (m:Nat) (l:List (Nat × α)):ap m (ez ks l)=if ks.any (Nat.beq m) then ap m l else none:=by
 induction l with
 |nil=>simp [ez,ap]
 |cons x r ih =>
  obtain ⟨k,u⟩:=x
  simp only [ez]
  cases hk:ks.any (Nat.beq k)
  ·simp only [cond_false,ih,ap]
   by_cases h2:k=m
   ·subst h2;simp [hk]
   ·simp [gk h2]
  ·simp only [cond_true,ap,ih]
   by_cases h2:k=m
   ·subst h2;simp [hk]
   ·simp [gk h2]
theorem fi {α:Type} {ks:List Nat} {m:Nat} {l:List (Nat × α)} {v:α} (h:ap m (ez ks l)=some v):ap m l=some v:=by
 rw [lh] at h
 split at h
 ·exact h
 ·cases h
structure Env where
 P:Program
 w0:World
 old:Nat→Prop
 fz:Nat→Prop
 sub:∀ g,old g→fz g
 kp:Sig
def cW {α β:Type} (R:α→β→Prop):List α→List β→Prop
 |[],[]=>True
 |a :: as,b :: bs=>R a b∧cW R as bs
 |_,_=>False
def Env.Reads (E:Env) (ad:Addr) (k:IntKind) (xs:List Int):Prop :=
 E.old ad.block∧∀ j,j<xs.length→E.w0.cell? (ad.add j)=some (.int k (xs.getD j 0))
def RoR (E:Env) (k:IntKind) (xs:List Int) (V:Value):Prop :=
 ∃ A c,V=.slice A xs.length c∧xs.length≤c∧(0<xs.length→∃ ad,A=some ad∧E.Reads ad k xs)
def ScR (E:Env) (σ:Sig):Sc→Value→Prop
 |.b x,V=>V=.bool x
 |.i k n,V=>V=.int k n
 |.s x,V=>V=.string x
 |.p b o,V=>∃ L,σ b=.at L∧V=.pointer (some ⟨L.g,L.β+o,none⟩)
 |.nilp,V=>V=.pointer none
 |.sl b off len es cap,V =>
  (len=0∧(cap=none∨cap=some 0)∧∃ A,V=.slice A 0 0) ∨
  (∃ L c,σ b=.at L∧V=.slice (some ⟨L.g,L.β+off,none⟩) len c∧len≤c∧L.β+off+c*es≤L.sz ∧
   (match cap with|some n=>c=n|none=>L.β+off+c*es=L.sz))
 |.nils,V=>V=.slice none 0 0
 |.ro k xs,V=>RoR E k xs V
 |.ros xs,V=>∃ A c,V=.slice A xs.length c∧xs.length≤c ∧
   (0<xs.length→∃ ad,A=some ad∧E.old ad.block∧∀ j,j<xs.length→E.w0.cell? (ad.add j)=some (.string (xs.getD j ⟨#[]⟩)))
 |.rob xs,V=>∃ A c,V=.slice A xs.length c∧xs.length≤c ∧
   (0<xs.length→∃ ad,A=some ad∧E.old ad.block∧∀ j,j<xs.length→∃ v,E.w0.cell? (ad.add j)=some v∧RoR E .u8 (xs.getD j []) v)
 |.roc xs,V=>∃ A c,V=.slice A xs.length c∧xs.length≤c ∧
   (0<xs.length→∃ ad,A=some ad∧E.old ad.block∧∀ j,j<xs.length→E.w0.cell? (ad.add (j*2))=some (.int .i64 (xs.getD j (0,[])).1)∧∃ v,E.w0.cell? (ad.add (j*2+1))=some v∧RoR E .u8 (xs.getD j (0,[])).2 v)
 |.rp k xs j,V=>∃ ad,V=.pointer (some (ad.add j))∧E.Reads ad k xs
 |.rps x,V=>∃ ad,V=.pointer (some ad)∧E.old ad.block∧E.w0.cell? ad=some (.string x)
 |.rpb xs,V=>∃ ad v,V=.pointer (some ad)∧E.old ad.block∧E.w0.cell? ad=some v∧RoR E .u8 xs v
 |.rpc x,V=>∃ ad v,V=.pointer (some ad)∧E.old ad.block∧E.w0.cell? ad=some (.int .i64 x.1)∧E.w0.cell? (ad.add 1)=some v∧RoR E .u8 x.2 v
 |.raw v,V=>V=v∧v.oneCell'=true
 |.clo f b c,V=>∃ L L',σ b=.at L∧σ c=.at L'∧V=.func (.func f) #[] #[.pointer (some ⟨L.g,L.β+0,none⟩),.pointer (some ⟨L'.g,L'.β+0,none⟩)]
def bC (k:IntKind) (xs:List Int):List Value:=xs.map (.int k ·)
def A1R (E:Env) (σ:Sig):A1→Value→Prop
 |.sc s,V=>ScR E σ s V
 |.agg l,V=>∃ arr,V=.agg arr∧cW (ScR E σ) l arr.toList
 |.ints k n xs,V=>xs.length=n∧V=.agg (bC k xs).toArray
 |.arr v xs,V=>∃ arr,V=.agg arr∧cW (ScR E σ) (xs.map v.sc) arr.toList
def AVR (E:Env) (σ:Sig):AV→Value→Prop
 |.sc s,V=>ScR E σ s V
 |.agg l,V=>∃ arr,V=.agg arr∧cW (ScR E σ) l arr.toList
 |.ints k n xs,V=>xs.length=n∧V=.agg (bC k xs).toArray
 |.tup l,V=>∃ arr,V=.tuple arr∧cW (A1R E σ) l arr.toList
 |.arr v xs,V=>∃ arr,V=.agg arr∧cW (ScR E σ) (xs.map v.sc) arr.toList
def lX:AV:=.tup []
theorem kh (E:Env) (σ:Sig):AVR E σ lX undef:=⟨#[],rfl,trivial⟩
def Blk.good:Blk→Prop
 |.ints _ n xs=>xs.length=n
 |.cells _=>True
 |.vec _ _=>True
def pD (lo hi n:Nat):Prop:=(∀ j,j<n→¬ (lo≤j∧j<hi))∧lo≤hi
def dk (E:Env) (σ:Sig) (w:World) (blk:Blk):Pl→Prop
 |.unset=>False
 |.nil=>blk.len=0∧blk.good
 |.at L=>blk.good∧∃ arr elem lo hi,w.heap[L.g]?=some (.cells arr elem (lo,hi))∧arr.size=L.sz∧L.β+blk.len≤L.sz∧¬ E.fz L.g ∧
   pD lo hi L.sz∧∀ j s,blk.get? j=some s→∃ v,arr[L.β+j]?=some v∧ScR E σ s v
structure MemR (E:Env) (σ:Sig) (M:Mem) (w:World):Prop where
 blk:∀ b k,ap b M=some k→dk E σ w k (σ b)
 inj:∀ b c x y L L',ap b M=some x→ap c M=some y→σ b=.at L→σ c=.at L'→L.g=L'.g→b=c
 old:∀ g,E.fz g→w.heap[g]?=E.w0.heap[g]?
 size:E.w0.heap.size≤w.heap.size
 olds:∀ g,E.fz g→g<E.w0.heap.size
 os:w.os=E.w0.os
 tape:w.tape=E.w0.tape
 output:w.output=E.w0.output
structure FrR (E:Env) (σ:Sig) (fr:Fr) (a:Act):Prop where
 val:∀ t v,ap t fr=some v→∃ V,a.tmps[t]?=some V∧AVR E σ v V
 defers:a.defers=[]
structure StR (E:Env) (n:Nat) (σ:Sig) (fr:Fr) (M:Mem) (a:Act) (w:World):Prop extends FrR E σ fr a,MemR E σ M w where
 tmps:a.tmps.size=n
theorem StR.less {E:Env} {n:Nat} {σ:Sig} {fr fr':Fr} {M M':Mem} {a:Act} {w:World} (h:StR E n σ fr M a w)
  (hf:∀ t v,ap t fr'=some v→ap t fr=some v) (hM:∀ b k,ap b M'=some k→ap b M=some k):StR E n σ fr' M' a w :=
 {val:=fun t v ht=>h.val t v (hf t v ht)
  defers:=h.defers
  tmps:=h.tmps
  blk:=fun b k hb=>h.blk b k (hM b k hb)
  inj:=fun b c x y L L' hb hc=>h.inj b c x y L L' (hM b x hb) (hM c y hc)
  old:=h.old
  size:=h.size
  olds:=h.olds
  os:=h.os
  tape:=h.tape
  output:=h.output }
def Ext (σ σ':Sig):Prop:=∀ m,σ m≠.unset→σ' m=σ m
theorem Ext.refl (σ:Sig):Ext σ σ:=fun _ _=>rfl
theorem Ext.trans {σ σ' σ'':Sig} (h:Ext σ σ') (h':Ext σ' σ''):Ext σ σ'':=fun m hm=>by
 have h1:=h m hm
 rw [← h1]
 exact h' m (by rw [h1];exact hm)
theorem ScR.ext {E:Env} {σ σ':Sig} (hx:Ext σ σ'):∀ {s:Sc} {V:Value},ScR E σ s V→ScR E σ' s V
 |.b _,_,h|.i _ _,_,h|.s _,_,h|.nilp,_,h|.nils,_,h|.ro _ _,_,h|.ros _,_,h|.rob _,_,h|.roc _,_,h|.rp _ _ _,_,h|.rps _,_,h|.rpb _,_,h|.rpc _,_,h|.raw _,_,h=>h
 |.p b o,_,⟨L,h,e⟩=>⟨L,by rw [hx b (by rw [h];simp)];exact h,e⟩
 |.clo f b c,_,⟨L,L',h,h',e⟩=>⟨L,L',by rw [hx b (by rw [h];simp)];exact h,by rw [hx c (by rw [h'];simp)];exact h',e⟩
 |.sl b off len es cap,_,h=>by
  rcases h with h|⟨L,c,h,r⟩
  ·exact .inl h
  ·exact .inr ⟨L,c,by rw [hx b (by rw [h];simp)];exact h,r⟩
theorem cW.mono {α β:Type} {R R':α→β→Prop} (h:∀ a b,R a b→R' a b):∀ {l:List α} {m:List β},cW R l m→cW R' l m
 |[],[],_=>trivial
 |_ :: _,_ :: _,⟨h1,h2⟩=>⟨h _ _ h1,cW.mono h h2⟩
theorem cW.length {α β:Type} {R:α→β→Prop}:∀ {l:List α} {m:List β},cW R l m→l.length=m.length
 |[],[],_=>rfl
 |_ :: _,_ :: _,⟨_,h2⟩=>by simp [cW.length h2]
theorem cW.get {α β:Type} {R:α→β→Prop}:∀ {l:List α} {m:List β},cW R l m→∀ (j:Nat) (a:α),l[j]?=some a→∃ b,m[j]?=some b∧R a b
 |[],[],_,j,a,h=>by simp at h
 |_ :: _,_ :: _,⟨h1,_⟩,0,a,h=>by simp at h;subst h;exact ⟨_,rfl,h1⟩
 |_ :: _,_ :: _,⟨_,h2⟩,j+1,a,h=>by simpa using cW.get h2 j a (by simpa using h)
theorem cW.of_get {α β:Type} {R:α→β→Prop}:∀ {l:List α} {m:List β},l.length=m.length→(∀ (j:Nat) (a:α) (b:β),l[j]?=some a→m[j]?=some b→R a b)→cW R l m
 |[],[],_,_=>trivial
 |[],_ :: _,h,_=>by simp at h
 |_ :: _,[],h,_=>by simp at h
 |a :: l,b :: m,h,hg=>⟨hg 0 a b rfl rfl,cW.of_get (by simpa using h) fun j x y hx hy=>hg (j+1) x y (by simpa using hx) (by simpa using hy)⟩
theorem A1R.ext {E:Env} {σ σ':Sig} (hx:Ext σ σ'):∀ {v:A1} {V:Value},A1R E σ v V→A1R E σ' v V
 |.sc _,_,h=>ScR.ext hx h
 |.agg _,_,⟨arr,e,h⟩|.arr _ _,_,⟨arr,e,h⟩=>⟨arr,e,h.mono fun _ _=>ScR.ext hx⟩
 |.ints _ _ _,_,h=>h
theorem AVR.ext {E:Env} {σ σ':Sig} (hx:Ext σ σ'):∀ {v:AV} {V:Value},AVR E σ v V→AVR E σ' v V
 |.sc _,_,h=>ScR.ext hx h
 |.agg _,_,⟨arr,e,h⟩|.arr _ _,_,⟨arr,e,h⟩=>⟨arr,e,h.mono fun _ _=>ScR.ext hx⟩
 |.ints _ _ _,_,h=>h
 |.tup _,_,⟨arr,e,h⟩=>⟨arr,e,h.mono fun _ _=>A1R.ext hx⟩
theorem FrR.ext {E:Env} {σ σ':Sig} (hx:Ext σ σ') {fr:Fr} {a:Act} (h:FrR E σ fr a):FrR E σ' fr a :=
 ⟨fun t v ht=>let ⟨V,h1,h2⟩:=h.val t v ht;⟨V,h1,h2.ext hx⟩,h.defers⟩
structure Grow (E E':Env):Prop where
 P:E'.P=E.P
 old:∀ g,E.old g→E'.old g
 fz:∀ g,E.fz g→E'.fz g
 w0:∀ g,E.fz g→E'.w0.heap[g]?=E.w0.heap[g]?
 new:∀ g,E'.old g→E.old g∨¬ E.fz g
 size:E.w0.heap.size≤E'.w0.heap.size
 os:E'.w0.os=E.w0.os
 tape:E'.w0.tape=E.w0.tape
 output:E'.w0.output=E.w0.output
theorem Grow.refl (E:Env):Grow E E:=⟨rfl,fun _ h=>h,fun _ h=>h,fun _ _=>rfl,fun _ h=>.inl h,Nat.le_refl _,rfl,rfl,rfl⟩
theorem Grow.trans {E E' E'':Env} (h:Grow E E') (h':Grow E' E''):Grow E E'' where
 P:=h'.P.trans h.P
 old g hg:=h'.old g (h.old g hg)
 fz g hg:=h'.fz g (h.fz g hg)
 w0 g hg:=(h'.w0 g (h.fz g hg)).trans (h.w0 g hg)
 new g hg:=by
  rcases h'.new g hg with h1|h1
  ·exact h.new g h1
  ·exact .inr fun h2=>h1 (h.fz g h2)
 size:=Nat.le_trans h.size h'.size
 os:=h'.os.trans h.os
 tape:=h'.tape.trans h.tape
 output:=h'.output.trans h.output
theorem Grow.cell {E E':Env} (h:Grow E E') {a:Addr} (ha:E.old a.block):E'.w0.cell? a=E.w0.cell? a:=by
 simp only [World.cell?,h.w0 _ (E.sub _ ha)]
theorem dc (a:Addr) (n:Nat):(a.add n).block=a.block:=by
 unfold Addr.add
 split <;> rfl
theorem Grow.reads {E E':Env} (h:Grow E E') {ad:Addr} {k:IntKind} {xs:List Int} (hr:E.Reads ad k xs):E'.Reads ad k xs :=
 ⟨h.old _ hr.1,fun j hj=>by rw [h.cell (by rw [dc];exact hr.1)];exact hr.2 j hj⟩
theorem Grow.ro {E E':Env} (h:Grow E E') {k:IntKind} {xs:List Int} {V:Value} (hr:RoR E k xs V):RoR E' k xs V:=by
 obtain ⟨A,c,q1,q2,q3⟩:=hr
 refine ⟨A,c,q1,q2,fun hpos=>?_⟩
 obtain ⟨ad,r1,r2⟩:=q3 hpos
 exact ⟨ad,r1,h.reads r2⟩
theorem ScR.grow {E E':Env} {σ:Sig} (h:Grow E E'):∀ {s:Sc} {V:Value},ScR E σ s V→ScR E' σ s V
 |.b _,_,q|.i _ _,_,q|.s _,_,q|.nilp,_,q|.nils,_,q|.raw _,_,q|.p _ _,_,q|.sl _ _ _ _ _,_,q|.clo _ _ _,_,q=>q
 |.ro _ _,_,q=>h.ro q
 |.ros _,_,⟨A,c,q1,q2,q3⟩=>⟨A,c,q1,q2,fun hpos=>by
  obtain ⟨ad,r1,r2,r3⟩:=q3 hpos
  exact ⟨ad,r1,h.old _ r2,fun j hj=>by rw [h.cell (by rw [dc];exact r2)];exact r3 j hj⟩⟩
 |.rob _,_,⟨A,c,q1,q2,q3⟩=>⟨A,c,q1,q2,fun hpos=>by
  obtain ⟨ad,r1,r2,r3⟩:=q3 hpos
  refine ⟨ad,r1,h.old _ r2,fun j hj=>?_⟩
  obtain ⟨v,e1,e2⟩:=r3 j hj
  exact ⟨v,by rw [h.cell (by rw [dc];exact r2)];exact e1,h.ro e2⟩⟩
 |.roc _,_,⟨A,c,q1,q2,q3⟩=>⟨A,c,q1,q2,fun hpos=>by
  obtain ⟨ad,r1,r2,r3⟩:=q3 hpos
  refine ⟨ad,r1,h.old _ r2,fun j hj=>?_⟩
  obtain ⟨e0,v,e1,e2⟩:=r3 j hj
  exact ⟨by rw [h.cell (by rw [dc];exact r2)];exact e0,v,by rw [h.cell (by rw [dc];exact r2)];exact e1,h.ro e2⟩⟩
 |.rp _ _ _,_,⟨ad,q1,q2⟩=>⟨ad,q1,h.reads q2⟩
 |.rps _,_,⟨ad,q1,q2,q3⟩=>⟨ad,q1,h.old _ q2,by rw [h.cell q2];exact q3⟩
 |.rpb _,_,⟨ad,v,q1,q2,q3,q4⟩=>⟨ad,v,q1,h.old _ q2,by rw [h.cell q2];exact q3,h.ro q4⟩
 |.rpc _,_,⟨ad,v,q1,q2,q3,q4,q5⟩=>⟨ad,v,q1,h.old _ q2,by rw [h.cell q2];exact q3,by rw [h.cell (by rw [dc];exact q2)];exact q4,h.ro q5⟩
theorem A1R.grow {E E':Env} {σ:Sig} (h:Grow E E'):∀ {v:A1} {V:Value},A1R E σ v V→A1R E' σ v V
 |.sc _,_,q=>ScR.grow h q
 |.agg _,_,⟨arr,e,q⟩|.arr _ _,_,⟨arr,e,q⟩=>⟨arr,e,q.mono fun _ _=>ScR.grow h⟩
 |.ints _ _ _,_,q=>q
theorem AVR.grow {E E':Env} {σ:Sig} (h:Grow E E'):∀ {v:AV} {V:Value},AVR E σ v V→AVR E' σ v V
 |.sc _,_,q=>ScR.grow h q
 |.agg _,_,⟨arr,e,q⟩|.arr _ _,_,⟨arr,e,q⟩=>⟨arr,e,q.mono fun _ _=>ScR.grow h⟩
 |.ints _ _ _,_,q=>q
 |.tup _,_,⟨arr,e,q⟩=>⟨arr,e,q.mono fun _ _=>A1R.grow h⟩
theorem FrR.grow {E E':Env} {σ:Sig} (h:Grow E E') {fr:Fr} {a:Act} (q:FrR E σ fr a):FrR E' σ fr a :=
 ⟨fun t v ht=>let ⟨V,h1,h2⟩:=q.val t v ht;⟨V,h1,h2.grow h⟩,q.defers⟩
end Go.Vm
namespace Go.Vm
open Go
structure Deed where
 rd:List Nat
 wr:List Nat
 go:List Blk→Option (Prop × AV × List (Option Blk))
def bD (M:Mem):List Nat→Option (List Blk)
 |[]=>some []
 |b :: r=>match ap b M with
  |none=>none
  |some k=>match bD M r with
   |none=>none
   |some ks=>some (k :: ks)
def put0 (b:Nat) (k:Option Blk) (M:Mem):Mem :=
 match k with
 |none=>dE b M
 |some k=>cd b k M
def bg:List Nat→List (Option Blk)→Mem→Option Mem
 |[],[],M=>some M
 |b :: r,k :: ks,M=>bg r ks (put0 b k M)
 |_,_,_=>none
def Deed.run (A:Deed) (M:Mem):Option (Prop × AV × Mem) :=
 match bD M A.rd with
 |none=>none
 |some bs=>match A.go bs with
  |none=>none
  |some (C,v,cs)=>match bg A.wr cs M with
   |none=>none
   |some M'=>some (C,v,M')
def bJ (C:Prop) (v:AV):Option Deed:=some { rd:=[],wr:=[],go:=fun _=>some (C,v,[]) }
def gI (b:Nat) (f:Blk→Option (Prop × AV)):Option Deed :=
 some { rd:=[b],wr:=[],go:=fun l=>match l with|[k]=>(match f k with|some (C,v)=>some (C,v,[])|none=>none)|_=>none }
def mD (b:Nat) (f:Blk→Option (Prop × Blk)):Option Deed :=
 some { rd:=[b],wr:=[b],go:=fun l=>match l with|[k]=>(match f k with|some (C,k')=>some (C,lX,[some k'])|none=>none)|_=>none }
def jO (nm:Nat) (C:Prop) (k:Blk) (v:AV):Option Deed:=some { rd:=[],wr:=[nm],go:=fun _=>some (C,v,[some k]) }
def fp (k:IntKind):List Value→Option (List Int)
 |[]=>some []
 |.int k' n :: r=>if k'=k then (match fp k r with|some xs=>some (n :: xs)|none=>none) else none
 |_=>none
def nH:Value→Sc
 |.bool b=>.b b
 |.int k n=>.i k n
 |.string s=>.s s
 |.pointer none=>.nilp
 |.slice none 0 0=>.nils
 |v=>.raw v
def dx (l:List Value):Option Blk :=
 match l.all (·.oneCell') with
 |false=>none
 |true=>match l with
  |.int k n :: r=>(match fp k (.int k n :: r) with
   |some xs=>some (.ints k xs.length xs)
   |none=>some (.cells (l.map nH)))
  |_=>some (.cells (l.map nH))
def Blk.av:Blk→AV
 |.ints k n xs=>.ints k n xs
 |.cells l=>.agg l
 |.vec v xs=>.arr v xs
def qR:Value→Option AV
 |.agg cs=>(dx cs.toList).map Blk.av
 |.tuple _=>none
 |v=>some (.sc (nH v))
def AV.blk:AV→Option Blk
 |.sc (.i k n)=>some (.ints k 1 [n])
 |.sc s=>some (.cells [s])
 |.ints k n xs=>some (.ints k n xs)
 |.agg l=>some (.cells l)
 |.tup _=>none
 |.arr v xs=>some (.vec v xs)
abbrev dP:=Nat→Option (IntKind × List Int)
def ev (G:dP) (fr:Fr):Operand→Option AV
 |.tmp t=>ap t fr
 |.const v=>qR v
 |.global g=>match G g with|some (k,xs)=>some (.sc (.rp k xs 0))|none=>none
 |.func f=>some (.sc (.raw (.func (.func f) #[] #[])))
abbrev jG:=Operand→Option AV
def dX (ρ:jG):List Operand→Option (List AV)
 |[]=>some []
 |o :: r=>match ρ o with
  |none=>none
  |some v=>match dX ρ r with
   |none=>none
   |some vs=>some (v :: vs)
def fB (k:IntKind) (x y:Int):Int:=k.wrap ((BitVec.ofInt k.bits x &&& BitVec.ofInt k.bits y).toNat:Int)
def iOr (k:IntKind) (x y:Int):Int:=k.wrap ((BitVec.ofInt k.bits x ||| BitVec.ofInt k.bits y).toNat:Int)
def rB (k:IntKind) (x y:Int):Int:=k.wrap ((BitVec.ofInt k.bits x ^^^ BitVec.ofInt k.bits y).toNat:Int)
def pt (k:IntKind) (x y:Int):Int:=k.wrap ((BitVec.ofInt k.bits x &&& ~~~(BitVec.ofInt k.bits y)).toNat:Int)
def gR (k:IntKind) (x y:Int):Int:=k.wrap (x*2 ^ (min y.toNat k.bits))
def dz (k:IntKind) (x y:Int):Int:=x.fdiv (2 ^ (min y.toNat k.bits))
def cO (k:IntKind) (x y:Int):Int:=k.wrap (x+y)
def fS (k:IntKind) (x y:Int):Int:=k.wrap (x-y)
def rE (k:IntKind) (x y:Int):Int:=k.wrap (x*y)
def qT (k:IntKind) (x y:Int):Int:=k.wrap (x.tdiv y)
def rV (x y:Int):Int:=x.tmod y
def rU (k:IntKind) (x:Int):Int:=rB k (if k.signed then -1 else k.max) x
def li (op:BinOp) (k:IntKind) (x y:Int):Option (Prop × Sc) :=
 match op with
 |.add=>some (True,.i k (cO k x y))
 |.sub=>some (True,.i k (fS k x y))
 |.mul=>some (True,.i k (rE k x y))
 |.quo=>some (y≠0,.i k (qT k x y))
 |.rem=>some (y≠0,.i k (rV x y))
 |.and=>some (True,.i k (fB k x y))
 |.or=>some (True,.i k (iOr k x y))
 |.xor=>some (True,.i k (rB k x y))
 |.andNot=>some (True,.i k (pt k x y))
 |.eql=>some (True,.b (x==y))
 |.neq=>some (True,.b (x != y))
 |.lss=>some (True,.b (decide (x<y)))
 |.leq=>some (True,.b (decide (x≤y)))
 |.gtr=>some (True,.b (decide (x>y)))
 |.geq=>some (True,.b (decide (x ≥ y)))
 |_=>none
def bytesOf (xs:List Int):ByteArray:=⟨(xs.map fun n=>UInt8.ofNat n.toNat).toArray⟩
def bt (x:ByteArray):List Int:=x.data.toList.map fun c=>(c.toNat:Int)
def lx (x:ByteArray) (i:Int):Int:=(bt x).getD i.toNat 0
def cD (x y:ByteArray):Bool:=x.toList==y.toList
def oJ (P:Program) (op:BinOp) (t:TypeId) (x y:AV):Option Deed :=
 match x,y with
 |.sc (.i k a),.sc (.i k' b) =>
  match op with
  |.shl=>bJ (0≤b) (.sc (.i k (gR k a b)))
  |.shr=>bJ (0≤b) (.sc (.i k (dz k a b)))
  |op=>if k=k' then (match li op k a b with|some (C,s)=>bJ C (.sc s)|none=>none) else none
 |.sc (.s a),.sc (.s b) =>
  match op with
  |.add=>bJ (a.size+b.size≤9223372036854775807) (.sc (.s (a++b)))
  |.eql=>bJ True (.sc (.b (cD a b)))
  |.neq=>bJ True (.sc (.b (!cD a b)))
  |_=>none
 |.sc (.b a),.sc (.b b) =>
  match P.underlying t with
  |some .bool=>(match op with
   |.eql=>bJ True (.sc (.b (a==b)))
   |.neq=>bJ True (.sc (.b (!(a==b))))
   |_=>none)
  |_=>none
 |.ints k n xs,.ints k' n' ys =>
  match P.underlying t with
  |some (.array m e)=>(match P.underlying e,(P.info? e).map (·.size) with
   |some (.int _),some 1=>if k=k'∧n=m∧n'=m then (match op with
    |.eql=>bJ True (.sc (.b (xs==ys)))
    |.neq=>bJ True (.sc (.b (!(xs==ys))))
    |_=>none) else none
   |_,_=>none)
  |_=>none
 |.sc (.p _ _),.sc .nilp =>
  match P.underlying t,op with
  |some (.pointer _),.eql=>bJ True (.sc (.b false))
  |some (.pointer _),.neq=>bJ True (.sc (.b true))
  |_,_=>none
 |.sc .nilp,.sc .nilp =>
  match P.underlying t,op with
  |some (.pointer _),.eql=>bJ True (.sc (.b true))
  |some (.pointer _),.neq=>bJ True (.sc (.b false))
  |_,_=>none
 |.sc (.ro _ xs),.sc .nils =>
  match P.underlying t,op with
  |some (.slice _),.eql=>bJ (0<xs.length) (.sc (.b false))
  |some (.slice _),.neq=>bJ (0<xs.length) (.sc (.b true))
  |_,_=>none
 |.sc (.sl _ _ len _ _),.sc .nils =>
  match P.underlying t,op with
  |some (.slice _),.eql=>bJ (0<len) (.sc (.b false))
  |some (.slice _),.neq=>bJ (0<len) (.sc (.b true))
  |_,_=>none
 |.sc .nils,.sc .nils =>
  match P.underlying t,op with
  |some (.slice _),.eql=>bJ True (.sc (.b true))
  |some (.slice _),.neq=>bJ True (.sc (.b false))
  |_,_=>none
 |_,_=>none
def qe (op:UnOp) (x:AV):Option Deed :=
 match op,x with
 |.neg,.sc (.i k n)=>bJ True (.sc (.i k (fS k 0 n)))
 |.xor,.sc (.i k n)=>bJ True (.sc (.i k (rU k n)))
 |.not,.sc (.b b)=>bJ True (.sc (.b (!b)))
 |_,_=>none
def adr (o i s:Nat):Nat:=bif Nat.beq s 1 then (bif Nat.beq o 0 then i else o+i) else (bif Nat.beq o 0 then i*s else o+i*s)
theorem cp (o i s:Nat):adr o i s=o+i*s:=by
 unfold adr
 cases h:Nat.beq s 1 <;> cases h':Nat.beq o 0 <;> simp only [cond_true,cond_false]
 ·rw [Nat.eq_of_beq_eq_true h'];omega
 ·rw [Nat.eq_of_beq_eq_true h];omega
 ·rw [Nat.eq_of_beq_eq_true h,Nat.eq_of_beq_eq_true h'];omega
def Blk.at (blk:Blk) (j:Nat):Prop × Sc :=
 match blk with
 |.ints k n xs=>(j<n,.i k (xs.getD j 0))
 |.cells l=>(j<l.length,l.getD j .nilp)
 |.vec v xs=>(j<xs.length,v.sc (xs.getD j v.z))
def dy {α:Type} (xs:List α) (o:Nat) (ys:List α):List α:=xs.take o++ys++xs.drop (o+ys.length)
def Blk.sub (blk:Blk) (o s:Nat):Prop × Blk :=
 match blk with
 |.ints k n xs=>bif Nat.beq s n && Nat.beq o 0 then (True,.ints k n xs) else (o+s≤n,.ints k s ((xs.drop o).take s))
 |.cells l=>(o+s≤l.length,.cells ((l.drop o).take s))
 |.vec v xs=>bif Nat.beq o 0 then (s≤xs.length,.vec v (xs.take s)) else (o+s≤xs.length,.vec v ((xs.drop o).take s))
def Blk.all (blk:Blk) (o s:Nat):Prop × Blk :=
 match blk with
 |.vec v xs=>bif Nat.beq o 0 then (s=xs.length,.vec v xs) else (Blk.vec v xs).sub o s
 |k=>k.sub o s
def Blk.put (blk:Blk) (o:Nat) (v:AV):Option (Prop × Nat × Blk) :=
 match blk,v with
 |.ints k n xs,.sc (.i k' x)=>if k=k' then some (o<n,1,.ints k n (xs.set o x)) else none
 |.cells l,.sc s=>some (o<l.length,1,.cells (l.set o s))
 |.ints k n xs,.ints k' m ys=>if k=k' then (bif Nat.beq m n && Nat.beq o 0 then some (True,m,.ints k n ys) else some (o+m≤n,m,.ints k n (dy xs o ys))) else none
 |.cells l,.ints k m ys=>some (o+m≤l.length,m,.cells (dy l o (ys.map (.i k ·))))
 |.cells l,.agg ss=>some (o+ss.length≤l.length,ss.length,.cells (dy l o ss))
 |.vec v xs,.sc s=>match v.un s with
  |some x=>some (o<xs.length,1,.vec v (xs.set o x))
  |none=>none
 |.cells l,.arr v ys=>bif Nat.beq o 0 then some (ys.length=l.length,l.length,.vec v ys) else none
 |_,_=>none
def Blk.putS (blk:Blk) (o:Nat) (v:AV):Option (Prop × Nat × Blk) :=
 match blk,v with
 |.ints k n xs,.ints k' m ys=>if k=k' then some (o+m≤n,m,.ints k n (dy xs o ys)) else none
 |blk,v=>blk.put o v
def dD (P:Program) (t:TypeId):Option Nat:=(P.info? t).map (·.size)
def eL (P:Program) (t:TypeId):Option Bool :=
 match P.underlying t with
 |some (.struct _)|some (.array _ _)=>some true
 |some _=>some false
 |none=>none
def mF (P:Program) (t:TypeId) (a:AV):Option Deed :=
 match eL P t,dD P t with
 |some false,some _ =>
  match a with
  |.sc (.p b o)=>gI b fun k=>let r:=k.at o;some (r.1,.sc r.2)
  |.sc (.rp k xs j)=>bJ (j<xs.length) (.sc (.i k (xs.getD j 0)))
  |.sc (.rps x)=>bJ True (.sc (.s x))
  |.sc (.rpb xs)=>bJ True (.sc (.ro .u8 xs))
  |_=>none
 |some true,some s =>
  match a with
  |.sc (.p b o)=>gI b fun k=>let r:=k.all o s;some (r.1,r.2.av)
  |.sc (.rp k xs j)=>bJ (j+s≤xs.length) (.ints k s ((xs.drop j).take s))
  |.sc (.rpc x)=>if s=2 then bJ True (.agg [.i .i64 x.1,.ro .u8 x.2]) else none
  |_=>none
 |_,_=>none
def jm (P:Program) (t:TypeId) (a v:AV):Option Deed :=
 match dD P t,a with
 |some s,.sc (.p b o)=>mD b fun k=>match k.put o v with
  |some (C,m,k')=>some (C∧m=s,k')
  |none=>none
 |_,_=>none
def jl (P:Program) (t:TypeId) (nm:Nat):Option Deed :=
 match (P.info? t).map (·.zero) with
 |some (some z)=>(match dx z.cells.toList with|some k=>jO nm True k (.sc (.p nm 0))|none=>none)
 |_=>none
def nv (v:AV) (nm:Nat):Option Deed :=
 match v.blk with
 |some k=>jO nm True k (.sc (.p nm 0))
 |none=>none
def it (place:Nat→Option (Nat × Nat)):Blk→List (Nat × AV)→Option (Prop × Blk)
 |k,[]=>some (True,k)
 |k,(i,v) :: r=>match place i with
  |none=>none
  |some (off,size)=>match k.put off v with
   |none=>none
   |some (C,m,k')=>match it place k' r with
    |none=>none
    |some (C',k'')=>some ((C∧m=size)∧C',k'')
def eD (ρ:jG):List (Nat × Operand)→Option (List (Nat × AV))
 |[]=>some []
 |(i,o) :: r=>match ρ o with
  |none=>none
  |some v=>match eD ρ r with
   |none=>none
   |some vs=>some ((i,v) :: vs)
def fI (P:Program):List Field→Option (List (Nat × Nat))
 |[]=>some []
 |f :: r=>match dD P f.type with
  |none=>none
  |some s=>match fI P r with
   |none=>none
   |some l=>some ((f.offset,s) :: l)
def kR (P:Program) (t:TypeId) (cB:List (Nat × AV)):Option Deed :=
 match (P.info? t).map (·.zero),P.underlying t with
 |some (some z),some (.struct fs) =>
  match fI P fs.toList with
  |none=>none
  |some ps=>match dx z.cells.toList with
   |none=>none
   |some k0=>match it (fun i=>ps[i]?) k0 cB with
    |some (C,k)=>bJ C k.av
    |none=>none
 |some (some z),some (.array _ e) =>
  match dD P e with
  |none=>none
  |some s=>match dx z.cells.toList with
   |none=>none
   |some k0=>match it (fun i=>some (i*s,s)) k0 cB with
    |some (C,k)=>bJ C k.av
    |none=>none
 |_,_=>none
def cQ {α:Type} (l:List α):Nat→List α
 |0=>[]
 |n+1=>l++cQ l n
def et (P:Program) (t:TypeId) (len:Nat) (cB:List (Nat × AV)) (nm:Nat):Option Deed :=
 match P.underlying t with
 |some (.slice e) =>
  match dD P e,(P.info? e).map (·.zero) with
  |some s,some (some z)=>bif Nat.beq s 0 then none else
   match dx (cQ z.cells.toList len) with
   |none=>none
   |some k0=>match it (fun i=>some (i*s,s)) k0 cB with
    |some (C,k)=>jO nm (C∧len*s≤16777216∧z.cells.size=s) k (.sc (.sl nm 0 len s none))
    |none=>none
  |_,_=>none
 |_=>none
def fL (P:Program) (s:TypeId) (x:AV) (f:Nat):Option Deed :=
 match P.underlying s with
 |some (.struct fs)=>match fs.toList[f]? with
  |some fd=>(match dD P fd.type,x with
   |some (_+1),.sc (.p b o)=>bJ True (.sc (.p b (o+fd.offset)))
   |_,_=>none)
  |none=>none
 |_=>none
def Blk.part (k:Blk) (agg:Bool) (o s:Nat):Prop × AV :=
 match agg with
 |true=>let r:=k.sub o s;(r.1,r.2.av)
 |false=>let r:=k.at o;(r.1,.sc r.2)
def kS (P:Program) (t:TypeId) (x:AV) (f:Nat):Option Deed :=
 match P.underlying t with
 |some (.struct fs)=>match fs.toList[f]? with
  |some fd=>(match eL P fd.type,dD P fd.type,x with
   |some a,some s,.ints k n xs=>let r:=(Blk.ints k n xs).part a fd.offset s;bJ r.1 r.2
   |some a,some s,.agg l=>let r:=(Blk.cells l).part a fd.offset s;bJ r.1 r.2
   |_,_,_=>none)
  |none=>none
 |_=>none
def kP (P:Program) (t:TypeId) (x ix:AV):Option Deed :=
 match P.underlying t,x,ix with
 |some (.array n e),.ints k m xs,.sc (.i _ i)=>(match eL P e,dD P e with
   |some a,some s=>let r:=(Blk.ints k m xs).part a (adr 0 i.toNat s) s;bJ ((0≤i∧i<(n:Int))∧r.1) r.2
   |_,_=>none)
 |some (.array n e),.agg l,.sc (.i _ i)=>(match eL P e,dD P e with
   |some a,some s=>let r:=(Blk.cells l).part a (adr 0 i.toNat s) s;bJ ((0≤i∧i<(n:Int))∧r.1) r.2
   |_,_=>none)
 |some (.array n e),.arr v xs,.sc (.i _ i)=>(match eL P e,dD P e with
   |some a,some s=>let r:=(Blk.vec v xs).part a (adr 0 i.toNat s) s;bJ ((0≤i∧i<(n:Int))∧r.1) r.2
   |_,_=>none)
 |some .string,.sc (.s s),.sc (.i _ i)=>bJ (0≤i∧i<(s.size:Int)) (.sc (.i .u8 (lx s i)))
 |_,_,_=>none
def fD (P:Program) (t:TypeId) (x ix:AV):Option Deed :=
 match P.underlying t,x,ix with
 |some (.array n e),.sc (.p b o),.sc (.i _ i)=>(match dD P e with
   |some s=>bJ (0≤i∧i<(n:Int)) (.sc (.p b (adr o i.toNat s)))
   |none=>none)
 |some (.array n e),.sc (.rp k xs j),.sc (.i _ i)=>(match dD P e with
   |some 1=>bJ (0≤i∧i<(n:Int)) (.sc (.rp k xs (j+i.toNat)))
   |_=>none)
 |some (.slice e),.sc (.sl b off len es _),.sc (.i _ i)=>(match dD P e with
   |some s=>if s=es then bJ (0≤i∧i<(len:Int)) (.sc (.p b (adr off i.toNat s))) else none
   |none=>none)
 |some (.slice e),.sc (.ro k xs),.sc (.i _ i)=>(match dD P e with
   |some 1=>bJ (0≤i∧i<(xs.length:Int)) (.sc (.rp k xs i.toNat))
   |_=>none)
 |some (.slice e),.sc (.ros xs),.sc (.i _ i)=>(match dD P e with
   |some 1=>bJ (0≤i∧i<(xs.length:Int)) (.sc (.rps (xs.getD i.toNat ⟨#[]⟩)))
   |_=>none)
 |some (.slice e),.sc (.rob xs),.sc (.i _ i)=>(match dD P e with
   |some 1=>bJ (0≤i∧i<(xs.length:Int)) (.sc (.rpb (xs.getD i.toNat [])))
   |_=>none)
 |some (.slice e),.sc (.roc xs),.sc (.i _ i)=>(match dD P e with
   |some 2=>bJ (0≤i∧i<(xs.length:Int)) (.sc (.rpc (xs.getD i.toNat (0,[]))))
   |_=>none)
 |_,_,_=>none
def bnd (d:Int):Option AV→Option Int
 |none=>some d
 |some (.sc (.i _ i))=>some i
 |_=>none
def kJ (P:Program) (t:TypeId) (x:AV) (lo hi mx:Option AV):Option Deed :=
 match P.underlying t,x with
 |some .string,.sc (.s s)=>(match bnd 0 lo,bnd s.size hi,mx with
   |some l,some h,none=>bJ (0≤l∧l≤h∧h≤(s.size:Int)) (.sc (.s (s.extract l.toNat h.toNat)))
   |_,_,_=>none)
 |some (.slice e),.sc (.ro k xs)=>(match dD P e,bnd 0 lo,bnd xs.length hi,mx with
   |some 1,some l,some h,none=>bJ (0≤l∧l≤h∧h≤(xs.length:Int)) (.sc (.ro k ((xs.drop l.toNat).take (h.toNat-l.toNat))))
   |some 1,some l,some h,some (.sc (.i _ m))=>bJ (0≤l∧l≤h∧h≤m∧m≤(xs.length:Int)) (.sc (.ro k ((xs.drop l.toNat).take (h.toNat-l.toNat))))
   |_,_,_,_=>none)
 |some (.slice e),.sc (.sl b off len es cap)=>(match dD P e,bnd 0 lo,bnd len hi,mx with
   |some s,some l,some h,none=>if s=es then bJ (0≤l∧l≤h∧h≤(len:Int)) (.sc (.sl b (off+l.toNat*es) (h.toNat-l.toNat) es (cap.map (·-l.toNat)))) else none
   |some s,some l,some h,some (.sc (.i _ m))=>if s=es then bJ (0≤l∧l≤h∧h≤m∧m≤(len:Int)) (.sc (.sl b (off+l.toNat*es) (h.toNat-l.toNat) es (some (m.toNat-l.toNat)))) else none
   |_,_,_,_=>none)
 |some (.slice e),.sc .nils=>(match dD P e,bnd 0 lo,bnd 0 hi,mx with
   |some _,some l,some h,none=>bJ (l=0∧h=0) (.sc .nils)
   |_,_,_,_=>none)
 |some (.array n e),.sc (.p b o)=>(match dD P e,bnd 0 lo,bnd n hi,mx with
   |some s,some l,some h,none=>gI b fun k=>some ((0≤l∧l≤h∧h≤(n:Int))∧o+n*s≤k.len,.sc (.sl b (o+l.toNat*s) (h.toNat-l.toNat) s (some (n-l.toNat))))
   |some s,some l,some h,some (.sc (.i _ m))=>gI b fun k=>some ((0≤l∧l≤h∧h≤m∧m≤(n:Int))∧o+n*s≤k.len,.sc (.sl b (o+l.toNat*s) (h.toNat-l.toNat) s (some (m.toNat-l.toNat))))
   |_,_,_,_=>none)
 |_,_=>none
def gl (P:Program) (src dst:TypeId) (x:AV) (nm:Nat):Option Deed :=
 match P.underlying src,P.underlying dst,x with
 |_,some (.int k),.sc (.i _ n)=>(match P.underlying src with|some _=>bJ True (.sc (.i k (k.wrap n)))|none=>none)
 |some _,some .string,.sc (.s s)=>bJ True (.sc (.s s))
 |some _,some (.slice e),.sc (.s s)=>(match P.underlying e with
   |some (.int .u8)=>jO nm True (.ints .u8 s.size (bt s)) (.sc (.sl nm 0 s.size 1 none))
   |_=>none)
 |some (.slice _),some (.slice e),.sc (.sl b off len 1 cap)=>(match P.underlying e,Nat.beq src dst with
   |some (.int .u8),true=>gI b fun k=>some (k.len=len∧off=0∧0<len,.sc (.sl b off len 1 cap))
   |_,_=>none)
 |some (.slice e),some .string,x=>(match P.underlying e with
   |some (.int .u8)=>(match x with
    |.sc (.ro .u8 xs)=>bJ True (.sc (.s (bytesOf xs)))
    |.sc .nils=>bJ True (.sc (.s ⟨#[]⟩))
    |.sc (.sl b off len 1 _)=>gI b fun k=>match k with
     |.ints .u8 n xs=>some (off+len≤n,.sc (.s (bytesOf ((xs.drop off).take len))))
     |_=>none
    |_=>none)
   |_=>none)
 |_,_,_=>none
def fG (P:Program) (t:TypeId) (len cap:AV) (nm:Nat):Option Deed :=
 match P.underlying t,len,cap with
 |some (.slice e),.sc (.i .i64 l),.sc (.i .i64 c) =>
  match P.info? e with
  |some i=>(match i.zero,i.size with
   |some (.int k z),1=>jO nm ((0≤l∧l=c)∧l≤140737488355328∧(i.bytes:Int)*l≤281474976710656) (.ints k l.toNat (List.replicate l.toNat z)) (.sc (.sl nm 0 l.toNat 1 none))
   |some (.string z),1=>jO nm ((0≤l∧l=c)∧l≤140737488355328∧(i.bytes:Int)*l≤281474976710656) (.vec .str (List.replicate l.toNat z)) (.sc (.sl nm 0 l.toNat 1 none))
   |some z,s=>(match dx (cQ z.cells.toList l.toNat) with
    |some k=>jO nm (((0≤l∧l=c)∧l≤140737488355328∧(i.bytes:Int)*l≤281474976710656)∧z.cells.size=s∧0<s) k (.sc (.sl nm 0 l.toNat s none))
    |none=>none)
   |_,_=>none)
  |none=>none
 |_,_,_=>none
def gW (P:Program) (t:TypeId) (x:AV):Option Deed :=
 match P.underlying t,x with
 |some (.array n _),.sc (.ro k xs)=>bJ (0<n∧n≤xs.length) (.sc (.rp k xs 0))
 |some (.array n _),.sc (.sl b off len _ _)=>bJ (0<n∧n≤len) (.sc (.p b off))
 |_,_=>none
def pF (P:Program) (t:TypeId) (x:AV):Option Deed :=
 match P.underlying t,x with
 |some .string,.sc (.s s)=>bJ True (.sc (.i .i64 s.size))
 |some (.array n _),_=>bJ True (.sc (.i .i64 n))
 |some (.slice _),.sc (.sl _ _ len _ _)=>bJ True (.sc (.i .i64 len))
 |some (.slice _),.sc .nils=>bJ True (.sc (.i .i64 0))
 |some (.slice _),.sc (.ro _ xs)=>bJ True (.sc (.i .i64 xs.length))
 |some (.slice _),.sc (.ros xs)=>bJ True (.sc (.i .i64 xs.length))
 |some (.slice _),.sc (.rob xs)=>bJ True (.sc (.i .i64 xs.length))
 |some (.slice _),.sc (.roc xs)=>bJ True (.sc (.i .i64 xs.length))
 |_,_=>none
def bU (x y:Int):Int:=if y<x then y else x
def qS (x y:Int):Int:=if y>x then y else x
def nu:List AV→Option Deed
 |[.sc (.i k x),.sc (.i _ y)]=>bJ True (.sc (.i k (bU x y)))
 |[.sc (.i k x),.sc (.i _ y),.sc (.i _ z)]=>bJ True (.sc (.i k (bU (bU x y) z)))
 |_=>none
def oe:List AV→Option Deed
 |[.sc (.i k x),.sc (.i _ y)]=>bJ True (.sc (.i k (qS x y)))
 |_=>none
def Blk.cat (a b:Blk):Option Blk :=
 match a,b with
 |.ints k n xs,.ints k' m ys=>if k=k' then some (.ints k (n+m) (xs++ys)) else none
 |.cells l,.cells m=>some (.cells (l++m))
 |.vec v xs,.cells l=>match v.unL l with
  |some ys=>some (.vec v (xs++ys))
  |none=>none
 |.cells l,.vec v ys=>match v.unL l with
  |some xs=>some (.vec v (xs++ys))
  |none=>none
 |.vec .row xs,.vec .row ys=>some (.vec .row (xs++ys))
 |.vec .str xs,.vec .str ys=>some (.vec .str (xs++ys))
 |.vec .tab xs,.vec .tab ys=>some (.vec .tab (xs++ys))
 |_,_=>none
def Blk.from (k:Blk) (o:Nat):Blk :=
 match k with
 |.ints k n xs=>bif Nat.beq o 0 then .ints k n xs else .ints k (n-o) (xs.drop o)
 |.cells l=>.cells (l.drop o)
 |.vec v xs=>bif Nat.beq o 0 then .vec v xs else .vec v (xs.drop o)
def dY (xs:List Int) (n off len:Nat):List Int:=bif Nat.beq len n && Nat.beq off 0 then xs else (xs.drop off).take len
def Blk.subS (k:Blk) (off len es:Nat):Prop × Blk :=
 match k with
 |.ints kd n xs=>bif Nat.beq es 1 then (off+len≤n,.ints kd len (dY xs n off len)) else (Blk.ints kd n xs).sub off (len*es)
 |k=>k.sub off (len*es)
def lE (x:AV):Option (List Nat × (List Blk→Option (Prop × Nat × Blk))) :=
 match x with
 |.sc (.s s)=>some ([],fun _=>some (True,s.size,.ints .u8 s.size (bt s)))
 |.sc (.ro k xs)=>some ([],fun _=>some (True,xs.length,.ints k xs.length xs))
 |.sc (.ros xs)=>some ([],fun _=>some (True,xs.length,.vec .str xs))
 |.sc (.sl b off len es _)=>some ([b],fun l=>match l with
  |[k]=>let r:=k.subS off len es;some (r.1,len,r.2)
  |_=>none)
 |_=>none
def mZ (P:Program) (e:TypeId) (x:AV):Option (List Nat × (List Blk→Option (Prop × Nat × Blk))) :=
 match x,P.info? e with
 |.sc (.i .i64 n),some i=>(match i.zero,i.size with
  |some (.int k z),1=>some ([],fun _=>some ((0≤n∧n≤140737488355328)∧(i.bytes:Int)*n≤281474976710656,n.toNat,.ints k n.toNat (List.replicate n.toNat z)))
  |_,_=>none)
 |_,_=>none
def lf (P:Program) (e u:TypeId) (x:AV):Option (List Nat × (List Blk→Option (Prop × Nat × Blk))) :=
 match P.underlying u with
 |some .string=>lE x
 |some (.slice _)=>lE x
 |some (.int _)=>mZ P e x
 |_=>none
def iv (P:Program) (t u:TypeId) (dst src:AV) (nm:Nat):Option Deed :=
 match P.underlying t with
 |some (.slice e) =>
  match P.info? e,lf P e u src with
  |some i,some (rs,f)=>(match i.zero with
   |none=>none
   |some z=>(match dst with
    |.sc .nils=>some { rd:=rs,wr:=[nm],go:=fun l=>match f l with
      |some (C,m,k)=>some (((C∧z.cells.size=i.size)∧0<i.size∧m*i.bytes≤140737488355328∧m≤140737488355328)∧k.len=m*i.size,.sc (.sl nm 0 m i.size none),[some k])
      |none=>none }
    |.sc (.sl b off len es none)=>if rs.any (Nat.beq b) then none else some { rd:=b :: rs,wr:=[b,nm],go:=fun l=>match l with
      |k0 :: l'=>(match f l' with
       |some (C,m,k)=>(match (k0.from off).cat k with
        |some k'=>some ((((C∧z.cells.size=i.size)∧0<i.size∧(len+m)*i.bytes≤140737488355328∧len+m≤140737488355328)∧k.len=m*i.size)∧es=i.size∧off+len*es=k0.len,.sc (.sl nm 0 (len+m) i.size none),[none,some k'])
        |none=>none)
       |none=>none)
      |_=>none }
    |.sc (.sl b off len es (some c))=>some { rd:=b :: rs,wr:=[nm],go:=fun l=>match l with
      |k0 :: l'=>(match f l' with
       |some (C,m,k)=>let r:=k0.sub off (len*es);(match r.2.cat k with
        |some k'=>some (((((C∧r.1)∧z.cells.size=i.size)∧0<i.size∧(len+m)*i.bytes≤140737488355328∧len+m≤140737488355328)∧k.len=m*i.size)∧es=i.size∧c=len∧0<m,.sc (.sl nm 0 (len+m) i.size none),[some k'])
        |none=>none)
       |none=>none)
      |_=>none }
    |_=>none))
  |_,_=>none
 |_=>none
def lg (P:Program) (t:TypeId) (dst src:AV):Option Deed :=
 match P.underlying t with
 |some (.slice e) =>
  match dD P e,dst,lE src with
  |some s,.sc (.sl b off len es _),some (rs,f)=>if rs.any (Nat.beq b) then none else some { rd:=b :: rs,wr:=[b],go:=fun l=>match l with
    |k0 :: l'=>(match f l' with
     |some (C,m,k)=>(match k0.putS off k.av with
      |some (C',m',k')=>some ((((C∧C')∧0<s∧s=es)∧m≤len∧k.len=m*s)∧m'=m*s,.sc (.i .i64 m),[some k'])
      |none=>none)
     |none=>none)
    |_=>none }
  |_,_,_=>none
 |_=>none
def eR (ρ:jG):Option Operand→Option (Option AV)
 |none=>some none
 |some o=>match ρ o with
  |some v=>some (some v)
  |none=>none
def em (P:Program) (ρ:jG) (nm:Nat) (o:Oper):Option Deed :=
 match o.op with
 |.move x|.assign x=>match ρ x with
  |some v=>bJ True v
  |none=>none
 |.pick c a b=>match ρ c,ρ a,ρ b with
  |some (.sc (.b x)),some va,some vb=>bJ True (match x with|true=>va|false=>vb)
  |some (.sc (.b x)),some va,none=>bJ (x=true) va
  |some (.sc (.b x)),none,some vb=>bJ (x=false) vb
  |_,_,_=>none
 |.alloc t=>jl P t nm
 |.box _ x=>match ρ x with
  |some v=>nv v nm
  |none=>none
 |.build t cB=>match eD ρ cB.toList with
  |some ps=>kR P t ps
  |none=>none
 |.buildSlice t len cB=>match eD ρ cB.toList with
  |some ps=>et P t len ps nm
  |none=>none
 |.load t x=>match ρ x with
  |some v=>mF P t v
  |none=>none
 |.store t x y=>match ρ x,ρ y with
  |some a,some v=>jm P t a v
  |_,_=>none
 |.nilCheck x=>match ρ x with
  |some (.sc (.p b n))=>bJ True (.sc (.p b n))
  |_=>none
 |.binOp op t x y _=>match ρ x,ρ y with
  |some a,some b=>oJ P op t a b
  |_,_=>none
 |.unOp op _ x=>match ρ x with
  |some a=>qe op a
  |none=>none
 |.convert s d x=>match ρ x with
  |some a=>gl P s d a nm
  |none=>none
 |.sliceToArrayPointer t x=>match ρ x with
  |some a=>gW P t a
  |none=>none
 |.makeSlice t l c=>match ρ l,ρ c with
  |some a,some b=>fG P t a b nm
  |_,_=>none
 |.slice t x lo hi mx=>match ρ x,eR ρ lo,eR ρ hi,eR ρ mx with
  |some a,some l,some h,some m=>if m.isSome && h.isNone then none else kJ P t a l h m
  |_,_,_,_=>none
 |.fieldAddr t x f=>match ρ x with
  |some a=>fL P t a f
  |none=>none
 |.field t x f=>match ρ x with
  |some a=>kS P t a f
  |none=>none
 |.indexAddr t x i=>match ρ x,ρ i with
  |some a,some b=>fD P t a b
  |_,_=>none
 |.index t x i=>match ρ x,ρ i with
  |some a,some b=>kP P t a b
  |_,_=>none
 |.makeFunc (.func f) fst cap=>match fst.toList,dX ρ cap.toList with
  |[],some [.sc (.p b 0),.sc (.p c 0)]=>bJ True (.sc (.clo f b c))
  |_,_=>none
 |.extract x i=>match ρ x with
  |some (.tup l)=>(match l[i]? with
   |some v=>bJ True v.up
   |none=>none)
  |_=>none
 |.call c=>match c.callee with
  |.builtin .len=>(match c.argTypes.toList,dX ρ c.args.toList with
   |[t],some [v]=>pF P t v
   |_,_=>none)
  |.builtin .min=>(match dX ρ c.args.toList with
   |some vs=>nu vs
   |none=>none)
  |.builtin .max=>(match dX ρ c.args.toList with
   |some vs=>oe vs
   |none=>none)
  |.builtin .append=>(match c.argTypes.toList,dX ρ c.args.toList with
   |[t,u],some [d,s]=>iv P t u d s nm
   |_,_=>none)
  |.builtin .copy=>(match c.argTypes.toList,dX ρ c.args.toList with
   |[t,_],some [d,s]=>lg P t d s
   |_,_=>none)
  |_=>none
 |_=>none
end Go.Vm
namespace Go.Vm
open Go
def upd (σ:Sig) (nm:Nat) (p:Pl):Sig:=fun m=>if m=nm then p else σ m
theorem bq (σ:Sig) (nm:Nat) (p:Pl):upd σ nm p nm=p:=by simp [upd]
theorem bG (σ:Sig) {nm m:Nat} (p:Pl) (h:m≠nm):upd σ nm p m=σ m:=by simp [upd,h]
theorem cP {σ:Sig} {nm:Nat} (p:Pl) (h:σ nm=.unset):Ext σ (upd σ nm p):=fun m hm=>by
 by_cases e:m=nm
 ·subst e;exact absurd h hm
 ·exact bG σ p e
def dZ (E:Env) (σ:Sig) (nm:Nat) (M:Mem) (A:Deed) (r:Result Next):Prop :=
 ∀ C v M',A.run M=some (C,v,M')→C→∃ V w' σ',(r=.ok (.value V) w'∨(r=.ok .skip w'∧V=undef))∧Ext σ σ' ∧
  (∀ m,¬ (nm≤m∧m<nm+16)→σ' m=σ m)∧AVR E σ' v V∧MemR E σ' M' w'
section
variable {E:Env} {σ:Sig} {nm:Nat} {M:Mem} {w:World} {A:Deed} {r:Result Next}
theorem am {C:Prop} {v:AV} (hA:bJ C v=some A) (hM:MemR E σ M w) (h:C→∃ V,r=.ok (.value V) w∧AVR E σ v V):dZ E σ nm M A r:=by
 intro C' v' M' hr hC
 simp only [bJ,Option.some.injEq] at hA
 subst hA
 simp only [Deed.run,bD,bg,put0,Option.some.injEq,Prod.mk.injEq] at hr
 obtain ⟨rfl,rfl,rfl⟩:=hr
 obtain ⟨V,h1,h2⟩:=h hC
 exact ⟨V,w,σ,.inl h1,.refl _,fun _ _=>rfl,h2,hM⟩
theorem eg {b:Nat} {f:Blk→Option (Prop × AV)} (hA:gI b f=some A) (hM:MemR E σ M w)
  (h:∀ k C v,ap b M=some k→f k=some (C,v)→C→∃ V,r=.ok (.value V) w∧AVR E σ v V):dZ E σ nm M A r:=by
 intro C' v' M' hr hC
 simp only [gI,Option.some.injEq] at hA
 subst hA
 simp only [Deed.run,bD] at hr
 cases hk:ap b M with
 |none=>simp [hk] at hr
 |some k =>
  cases hf:f k with
  |none=>simp [hk,hf] at hr
  |some x =>
   obtain ⟨C,v⟩:=x
   simp only [hk,hf,bg,put0,Option.some.injEq,Prod.mk.injEq] at hr
   obtain ⟨rfl,rfl,rfl⟩:=hr
   obtain ⟨V,h1,h2⟩:=h k C v hk hf hC
   exact ⟨V,w,σ,.inl h1,.refl _,fun _ _=>rfl,h2,hM⟩
theorem ek {C:Prop} {k:Blk} {v:AV} (hA:jO nm C k v=some A) (hM:MemR E σ M w) (hn:∀ m,nm≤m→m<nm+16→σ m=.unset)
  (h:C→∃ V w' σ',r=.ok (.value V) w'∧Ext σ σ'∧(∀ m,m≠nm→σ' m=σ m)∧AVR E σ' v V∧MemR E σ' (cd nm k M) w'):dZ E σ nm M A r:=by
 intro C' v' M' hr hC
 simp only [jO,Option.some.injEq] at hA
 subst hA
 simp only [Deed.run,bD,bg,put0,Option.some.injEq,Prod.mk.injEq] at hr
 obtain ⟨rfl,rfl,rfl⟩:=hr
 obtain ⟨V,w',σ',h1,h2,h3,h4,h5⟩:=h hC
 exact ⟨V,w',σ',.inl h1,h2,fun m hm=>h3 m (by omega),h4,h5⟩
theorem ly {b:Nat} {f:Blk→Option (Prop × Blk)} (hA:mD b f=some A)
  (h:∀ k C k',ap b M=some k→f k=some (C,k')→C→∃ w',r=.ok .skip w'∧MemR E σ (cd b k' M) w'):dZ E σ nm M A r:=by
 intro C' v' M' hr hC
 simp only [mD,Option.some.injEq] at hA
 subst hA
 simp only [Deed.run,bD] at hr
 cases hk:ap b M with
 |none=>simp [hk] at hr
 |some k =>
  cases hf:f k with
  |none=>simp [hk,hf] at hr
  |some x =>
   obtain ⟨C,k'⟩:=x
   simp only [hk,hf,bg,put0,Option.some.injEq,Prod.mk.injEq] at hr
   obtain ⟨rfl,rfl,rfl⟩:=hr
   obtain ⟨w',h1,h2⟩:=h k C k' hk hf hC
   exact ⟨undef,w',σ,.inr ⟨h1,rfl⟩,.refl _,fun _ _=>rfl,kh E σ,h2⟩
theorem Blk.get?_lt {k:Blk} (hk:k.good) {j:Nat} {s:Sc} (h:k.get? j=some s):j<k.len:=by
 cases k with
 |ints kd n xs =>
  simp only [Blk.get?,Option.map_eq_some_iff] at h
  obtain ⟨x,hx,_⟩:=h
  have:=(List.getElem?_eq_some_iff.1 hx).1
  simp only [Blk.good] at hk
  simp only [Blk.len];omega
 |cells l=>simp only [Blk.get?] at h;exact (List.getElem?_eq_some_iff.1 h).1
 |vec v l =>
  simp only [Blk.get?,Option.map_eq_some_iff] at h
  obtain ⟨x,hx,_⟩:=h
  exact (List.getElem?_eq_some_iff.1 hx).1
theorem dk.ext {σ':Sig} (hx:Ext σ σ') {k:Blk}:∀ {p:Pl},dk E σ w k p→dk E σ' w k p
 |.unset,h=>h
 |.nil,h=>h
 |.at L,⟨hg,arr,elem,lo,hi,h1,h2,h3,h4,h5,h6⟩=>⟨hg,arr,elem,lo,hi,h1,h2,h3,h4,h5,fun j s hs=>let ⟨v,a,b⟩:=h6 j s hs;⟨v,a,b.ext hx⟩⟩
theorem dk.same {w':World} {k:Blk}:∀ {p:Pl},(∀ L,p=.at L→w'.heap[L.g]?=w.heap[L.g]?)→dk E σ w k p→dk E σ w' k p
 |.unset,_,h=>h
 |.nil,_,h=>h
 |.at L,hs,⟨hg,arr,elem,lo,hi,h1,r⟩=>⟨hg,arr,elem,lo,hi,by rw [hs L rfl];exact h1,r⟩
theorem dk.lt {k:Blk} {L:Loc} (h:dk E σ w k (.at L)):L.g<w.heap.size:=by
 obtain ⟨_,arr,elem,lo,hi,h1,_⟩:=h
 exact (Array.getElem?_eq_some_iff.1 h1).1
theorem MemR.fresh (hM:MemR E σ M w):¬ E.fz w.heap.size:=fun h=>by
 have:=hM.olds _ h
 have:=hM.size
 omega
theorem jv {w w':World} {o:Obj} (hw:w'.heap=w.heap.push o) {g:Nat} (h:g<w.heap.size):w'.heap[g]?=w.heap[g]?:=by
 rw [hw];exact heap_alloc_old w o g h
theorem MemR.new' {w':World} {k:Blk} {arr:Array Value} {elem lo hi:Nat} (hM:MemR E σ M w) (hn:σ nm=.unset)
  (hlt:∀ g,g<w.heap.size→w'.heap[g]?=w.heap[g]?) (hat:w'.heap[w.heap.size]?=some (.cells arr elem (lo,hi))) (hos:w'.os=w.os) (htape:w'.tape=w.tape) (hout:w'.output=w.output)
  (hk:k.good) (hlen:k.len≤arr.size) (hfz:pD lo hi arr.size)
  (hc:∀ j s,k.get? j=some s→∃ v,arr[j]?=some v∧ScR E σ s v) :
  MemR E (upd σ nm (.at ⟨w.heap.size,0,arr.size⟩)) (cd nm k M) w':=by
 have hx:=cP (σ:=σ) (.at ⟨w.heap.size,0,arr.size⟩) hn
 have hnot:∀ m x,ap m M=some x→m≠nm:=by
  intro m x hm e
  subst e
  have:=hM.blk m x hm
  rw [hn] at this
  exact this
 refine ⟨?_,?_,?_,?_,hM.olds,by rw [hos,hM.os],by rw [htape,hM.tape],by rw [hout,hM.output]⟩
 ·intro b x hb
  rw [bP] at hb
  by_cases e:b=nm
  ·rw [if_pos e] at hb
   injection hb with hb
   subst hb e
   rw [bq]
   refine ⟨hk,arr,elem,lo,hi,?_,rfl,by simpa using hlen,hM.fresh,hfz,?_⟩
   ·exact hat
   ·intro j s hs
    obtain ⟨v,h1,h2⟩:=hc j s hs
    exact ⟨v,by simpa using h1,h2.ext hx⟩
  ·rw [if_neg e] at hb
   rw [bG _ _ e]
   refine dk.same ?_ ((hM.blk b x hb).ext hx)
   intro L hL
   have:=hM.blk b x hb
   rw [hL] at this
   exact hlt _ this.lt
 ·intro b c x y L L' hb hc' hL hL' hg
  rw [bP] at hb hc'
  by_cases e:b=nm <;> by_cases e':c=nm
  ·omega
  ·exfalso
   rw [if_neg e'] at hc'
   rw [e,bq] at hL
   rw [bG _ _ e'] at hL'
   have:=hM.blk c y hc'
   rw [hL'] at this
   have:=this.lt
   injection hL with hL
   subst hL
   simp only at hg
   omega
  ·exfalso
   rw [if_neg e] at hb
   rw [e',bq] at hL'
   rw [bG _ _ e] at hL
   have:=hM.blk b x hb
   rw [hL] at this
   have:=this.lt
   injection hL' with hL'
   subst hL'
   simp only at hg
   omega
  ·rw [if_neg e] at hb
   rw [if_neg e'] at hc'
   rw [bG _ _ e] at hL
   rw [bG _ _ e'] at hL'
   exact hM.inj b c x y L L' hb hc' hL hL' hg
 ·intro g hg
  rw [hlt g (by have:=hM.olds g hg;have:=hM.size;omega)]
  exact hM.old g hg
 ·have:=hM.size;have:=(Array.getElem?_eq_some_iff.1 hat).1;omega
theorem MemR.new {w':World} {k:Blk} {arr:Array Value} {elem lo hi:Nat} (hM:MemR E σ M w) (hn:σ nm=.unset)
  (hw:w'.heap=w.heap.push (.cells arr elem (lo,hi))) (hos:w'.os=w.os) (htape:w'.tape=w.tape) (hout:w'.output=w.output)
  (hk:k.good) (hlen:k.len≤arr.size) (hfz:pD lo hi arr.size)
  (hc:∀ j s,k.get? j=some s→∃ v,arr[j]?=some v∧ScR E σ s v) :
  MemR E (upd σ nm (.at ⟨w.heap.size,0,arr.size⟩)) (cd nm k M) w' :=
 hM.new' hn (fun g hg=>jv hw hg) (by rw [hw];exact heap_alloc_new w _) hos htape hout hk hlen hfz hc
theorem fJ {w:World} {arr:Array Value} {g elem:Nat} {f:Nat × Nat} (h:w.heap[g]?=some (.cells arr elem f)) (o:Nat):w.cell? ⟨g,o,none⟩=arr[o]? :=
 cell_of_row w g o arr elem f h
theorem MemR.turn {w':World} {b:Nat} {k k':Blk} {L:Loc} {arr arr':Array Value} {elem lo hi:Nat} (hM:MemR E σ M w) (hb:ap b M=some k) (hL:σ b=.at L)
  (harr:w.heap[L.g]?=some (.cells arr elem (lo,hi))) (harr':w'.heap[L.g]?=some (.cells arr' elem (lo,hi))) (hsz:arr'.size=arr.size)
  (hother:∀ g,g≠L.g→w'.heap[g]?=w.heap[g]?) (hsize:w'.heap.size=w.heap.size) (hos:w'.os=w.os) (htape:w'.tape=w.tape) (hout:w'.output=w.output)
  (hk:k'.good) (hlen:k'.len=k.len) (hc:∀ j s,k'.get? j=some s→∃ v,arr'[L.β+j]?=some v∧ScR E σ s v) :
  MemR E σ (cd b k' M) w':=by
 have hB:=hM.blk b k hb
 rw [hL] at hB
 obtain ⟨_,a1,e1,l1,h1,hh,hs,hle,hno,hfz,_⟩:=hB
 have hsame:a1=arr∧e1=elem∧l1=lo∧h1=hi:=by
  have:=hh.symm.trans harr
  simp only [Option.some.injEq,Obj.cells.injEq,Prod.mk.injEq] at this
  exact ⟨this.1,this.2.1,this.2.2.1,this.2.2.2⟩
 obtain ⟨rfl,rfl,rfl,rfl⟩:=hsame
 refine ⟨?_,?_,?_,?_,hM.olds,by rw [hos,hM.os],by rw [htape,hM.tape],by rw [hout,hM.output]⟩
 ·intro c x hcx
  rw [bP] at hcx
  by_cases e:c=b
  ·rw [if_pos e] at hcx
   injection hcx with hcx
   subst hcx e
   rw [hL]
   exact ⟨hk,arr',_,_,_,harr',by omega,by omega,hno,hfz,hc⟩
  ·rw [if_neg e] at hcx
   refine dk.same ?_ (hM.blk c x hcx)
   intro L' hL'
   refine hother _ fun hg=>e ?_
   exact hM.inj c b x k L' L hcx hb hL' hL hg
 ·intro c d x y L1 L2 hc1 hd hL1 hL2 hg
  have get:∀ m z,ap m (cd b k' M)=some z→∃ z',ap m M=some z':=by
   intro m z hm
   rw [bP] at hm
   by_cases e:m=b
   ·subst e;exact ⟨k,hb⟩
   ·rw [if_neg e] at hm;exact ⟨z,hm⟩
  obtain ⟨x',hx'⟩:=get c x hc1
  obtain ⟨y',hy'⟩:=get d y hd
  exact hM.inj c d x' y' L1 L2 hx' hy' hL1 hL2 hg
 ·intro g hg
  rw [hother g (fun e=>hno (e ▸ hg))]
  exact hM.old g hg
 ·rw [hsize];exact hM.size
theorem MemR.drop (hM:MemR E σ M w) (b:Nat):MemR E σ (dE b M) w:=by
 have get:∀ m z,ap m (dE b M)=some z→ap m M=some z:=by
  intro m z hm
  rw [cS] at hm
  split at hm
  ·cases hm
  ·exact hm
 exact ⟨fun m z hm=>hM.blk m z (get m z hm),fun c d x y L1 L2 hc hd=>hM.inj c d x y L1 L2 (get c x hc) (get d y hd),hM.old,hM.size,hM.olds,hM.os,hM.tape,hM.output⟩
theorem MemR.world {w':World} (hM:MemR E σ M w) (hh:w'.heap=w.heap) (hos:w'.os=w.os) (htape:w'.tape=w.tape) (hout:w'.output=w.output):MemR E σ M w' :=
 ⟨fun b k hb=>(hM.blk b k hb).same fun L _=>by rw [hh],hM.inj,fun g hg=>by rw [hh];exact hM.old g hg,by rw [hh];exact hM.size,hM.olds,by rw [hos,hM.os],by rw [htape,hM.tape],by rw [hout,hM.output]⟩
theorem Blk.at_get {k:Blk} (hk:k.good) {j:Nat} (h:(k.at j).1):k.get? j=some (k.at j).2:=by
 cases k with
 |ints kd n xs =>
  simp only [Blk.at,Blk.good] at h hk
  simp only [Blk.get?,Blk.at,List.getD_eq_getElem?_getD]
  have:j<xs.length:=by omega
  simp [List.getElem?_eq_getElem this]
 |cells l =>
  simp only [Blk.at] at h
  simp only [Blk.get?,Blk.at,List.getD_eq_getElem?_getD]
  simp [List.getElem?_eq_getElem h]
 |vec v l =>
  simp only [Blk.at] at h
  simp only [Blk.get?,Blk.at,List.getD_eq_getElem?_getD]
  simp [List.getElem?_eq_getElem h]
theorem dk.read {k:Blk} {L:Loc} (h:dk E σ w k (.at L)) {j:Nat} {s:Sc} (hs:k.get? j=some s):∃ v,w.cell? ⟨L.g,L.β+j,none⟩=some v∧ScR E σ s v:=by
 obtain ⟨_,arr,elem,lo,hi,h1,_,_,_,_,h6⟩:=h
 obtain ⟨v,hv,hr⟩:=h6 j s hs
 exact ⟨v,by rw [fJ h1];exact hv,hr⟩
end
end Go.Vm
namespace Go.Vm
open Go
section
variable {E:Env} {σ:Sig} {nm:Nat} {M:Mem} {w:World} {A:Deed} {r:Result Next}
theorem ow {V:Value} (h:V.oneCell'=true):ScR E σ (nH V) V:=by
 unfold nH
 split
 all_goals first
  |rfl
  |exact ⟨rfl,h⟩
theorem jU {k:IntKind}:∀ {l:List Value} {xs:List Int},fp k l=some xs→l=xs.map (.int k ·)
 |[],xs,h=>by simp [fp] at h;subst h;rfl
 |.int k' n :: r,xs,h=>by
  simp only [fp] at h
  split at h
  ·rename_i hk
   cases hr:fp k r with
   |none=>simp [hr] at h
   |some ys =>
    simp only [hr,Option.some.injEq] at h
    subst h hk
    simp [jU hr]
  ·cases h
 |.bool _ :: _,_,h|.float _ _ :: _,_,h|.complex _ _ _ :: _,_,h|.string _ :: _,_,h|.pointer _ :: _,_,h|.slice _ _ _ :: _,_,h|.map _ :: _,_,h|.chan _ :: _,_,h
 |.func _ _ _ :: _,_,h|.nilFunc :: _,_,h|.iface _ _ :: _,_,h|.nilIface :: _,_,h|.agg _ :: _,_,h|.tuple _ :: _,_,h=>by simp [fp] at h
theorem eb:∀ l:List Value,(∀ v∈l,v.oneCell'=true)→cW (ScR E σ) (l.map nH) l
 |[],_=>trivial
 |_ :: l,h=>⟨ow (h _ (by simp)),eb l fun v hv=>h v (List.mem_cons_of_mem _ hv)⟩
def cT (E:Env) (σ:Sig) (k:Blk) (l:List Value):Prop:=k.good∧k.len=l.length∧∀ j s,k.get? j=some s→∃ v,l[j]?=some v∧ScR E σ s v
theorem cv {k:IntKind} {n:Nat} {xs:List Int} (h:xs.length=n):cT E σ (.ints k n xs) (bC k xs):=by
 refine ⟨h,by simp [Blk.len,bC,h],fun j s hs=>?_⟩
 simp only [Blk.get?,Option.map_eq_some_iff] at hs
 obtain ⟨x,hx,rfl⟩:=hs
 exact ⟨.int k x,by simp [bC,hx],rfl⟩
theorem dJ {l:List Sc} {vs:List Value} (h:cW (ScR E σ) l vs):cT E σ (.cells l) vs :=
 ⟨trivial,h.length,fun j s hs=>h.get j s hs⟩
theorem ll {v:VK} {xs:List v.T} {f:v.T→Value} (h:∀ x∈xs,ScR E σ (v.sc x) (f x)):cT E σ (.vec v xs) (xs.map f):=by
 refine ⟨trivial,by simp [Blk.len],fun j s hs=>?_⟩
 simp only [Blk.get?,Option.map_eq_some_iff] at hs
 obtain ⟨x,hx,rfl⟩:=hs
 exact ⟨f x,by simp [hx],h x (List.mem_of_getElem? hx)⟩
theorem dp {l:List Value} {k:Blk} (h:dx l=some k):cT E σ k l:=by
 unfold dx at h
 split at h
 ·cases h
 ·rename_i hall
  have hone:∀ v∈l,v.oneCell'=true:=by simpa using hall
  split at h
  ·split at h
   ·rename_i xs hx
    have:=jU hx
    simp only [Option.some.injEq] at h
    subst h
    have h2:=cv (E:=E) (σ:=σ) (k:=‹IntKind›) (xs:=xs) rfl
    rw [bC,← this] at h2
    exact h2
   ·simp only [Option.some.injEq] at h
    subst h
    exact dJ (eb _ hone)
  ·simp only [Option.some.injEq] at h
   subst h
   exact dJ (eb _ hone)
theorem cT.av {k:Blk} {l:List Value} (h:cT E σ k l):AVR E σ k.av (.agg l.toArray):=by
 cases k with
 |ints kd n xs =>
  obtain ⟨h1,h2,h3⟩:=h
  refine ⟨h1,?_⟩
  simp only [Blk.good] at h1
  simp only [Blk.len] at h2
  congr 1
  congr 1
  apply List.ext_getElem (by simp [bC];omega)
  intro j h4 h5
  obtain ⟨v,hv,hr⟩:=h3 j (.i kd (xs[j]'(by simp [bC] at h5;omega))) (by simp [Blk.get?,List.getElem?_eq_getElem (show j<xs.length by simp [bC] at h5;omega)])
  simp only [ScR] at hr
  subst hr
  rw [List.getElem?_eq_getElem h4] at hv
  simp only [bC,List.getElem_map]
  injection hv
 |cells ss =>
  obtain ⟨_,h2,h3⟩:=h
  refine ⟨_,rfl,?_⟩
  refine cW.of_get (by simpa [Blk.len] using h2) fun j s v hs hv=>?_
  obtain ⟨v',hv',hr⟩:=h3 j s hs
  have hv2:l[j]?=some v:=by simpa using hv
  rw [hv2] at hv'
  injection hv' with hv'
  subst hv'
  exact hr
 |vec k xs =>
  obtain ⟨_,h2,h3⟩:=h
  refine ⟨_,rfl,?_⟩
  refine cW.of_get (by simpa [Blk.len] using h2) fun j s v hs hv=>?_
  obtain ⟨v',hv',hr⟩:=h3 j s (by simpa [Blk.get?] using hs)
  have hv2:l[j]?=some v:=by simpa using hv
  rw [hv2] at hv'
  injection hv' with hv'
  subst hv'
  exact hr
theorem VK.un_R {v:VK} {s:Sc} {x:v.T} {V:Value} (h:v.un s=some x) (hs:ScR E σ s V):ScR E σ (v.sc x) V:=by
 have nil:∀ {V:Value},ScR E σ .nils V→RoR E .u8 [] V:=fun h=>⟨none,0,h,Nat.le_refl _,fun h=>absurd h (Nat.lt_irrefl _)⟩
 cases v with
 |row =>
  cases s with
  |ro k xs =>
   cases k <;> simp only [VK.un,Option.some.injEq,reduceCtorEq] at h
   subst h
   exact hs
  |nils =>
   simp only [VK.un,Option.some.injEq] at h
   subst h
   exact nil hs
  |_=>simp [VK.un] at h
 |str =>
  cases s with
  |s y =>
   simp only [VK.un,Option.some.injEq] at h
   subst h
   exact hs
  |_=>simp [VK.un] at h
 |tab =>
  cases s with
  |ros y =>
   simp only [VK.un,Option.some.injEq] at h
   subst h
   exact hs
  |nils =>
   simp only [VK.un,Option.some.injEq] at h
   subst h
   exact ⟨none,0,hs,Nat.le_refl _,fun h=>absurd h (Nat.lt_irrefl _)⟩
  |_=>simp [VK.un] at h
theorem VK.unL_len {v:VK}:∀ {l:List Sc} {xs:List v.T},v.unL l=some xs→xs.length=l.length
 |[],xs,h=>by simp only [VK.unL,Option.some.injEq] at h;subst h;rfl
 |s :: r,xs,h=>by
  simp only [VK.unL] at h
  split at h
  ·rename_i x ys h1 h2
   simp only [Option.some.injEq] at h
   subst h
   simp [VK.unL_len h2]
  ·cases h
theorem VK.unL_get {v:VK}:∀ {l:List Sc} {xs:List v.T} {j:Nat} {x:v.T},v.unL l=some xs→xs[j]?=some x→∃ s,l[j]?=some s∧v.un s=some x
 |[],xs,j,x,h,hx=>by simp only [VK.unL,Option.some.injEq] at h;subst h;simp at hx
 |s :: r,xs,j,x,h,hx=>by
  simp only [VK.unL] at h
  split at h
  ·rename_i y ys h1 h2
   simp only [Option.some.injEq] at h
   subst h
   cases j with
   |zero=>simp at hx;subst hx;exact ⟨s,rfl,h1⟩
   |succ j=>simpa using VK.unL_get h2 (by simpa using hx)
  ·cases h
theorem qs {V:Value} {v:AV} (h:qR V=some v):AVR E σ v V:=by
 unfold qR at h
 split at h
 ·rename_i cs
  simp only [Option.map_eq_some_iff] at h
  obtain ⟨k,hk,rfl⟩:=h
  have:=(dp (E:=E) (σ:=σ) hk).av
  simpa using this
 ·cases h
 ·rename_i h1 h2
  simp only [Option.some.injEq] at h
  subst h
  refine ow ?_
  cases V <;> first
   |rfl
   |exact absurd rfl (h1 _)
   |exact absurd rfl (h2 _)
theorem jA {s:Sc} {V:Value} (hs:ScR E σ s V):V.cells.toList=[V]∧V.oneCell'=true:=by
 cases s <;> simp only [ScR] at hs
 case raw v =>
  obtain ⟨rfl,h⟩:=hs
  refine ⟨?_,h⟩
  cases V <;> first
   |rfl
   |simp [Value.oneCell'] at h
 case sl b off len es cap=>rcases hs with ⟨_,_,A,rfl⟩|⟨L,c,_,rfl,_⟩ <;> exact ⟨rfl,rfl⟩
 case p b o=>obtain ⟨L,_,rfl⟩:=hs;exact ⟨rfl,rfl⟩
 case ro k xs=>obtain ⟨A,c,rfl,_⟩:=hs;exact ⟨rfl,rfl⟩
 case ros xs=>obtain ⟨A,c,rfl,_⟩:=hs;exact ⟨rfl,rfl⟩
 case rob xs=>obtain ⟨A,c,rfl,_⟩:=hs;exact ⟨rfl,rfl⟩
 case roc xs=>obtain ⟨A,c,rfl,_⟩:=hs;exact ⟨rfl,rfl⟩
 case rp k xs j=>obtain ⟨ad,rfl,_⟩:=hs;exact ⟨rfl,rfl⟩
 case rps x=>obtain ⟨ad,rfl,_⟩:=hs;exact ⟨rfl,rfl⟩
 case rpb xs=>obtain ⟨ad,_,rfl,_⟩:=hs;exact ⟨rfl,rfl⟩
 case rpc x=>obtain ⟨ad,_,rfl,_⟩:=hs;exact ⟨rfl,rfl⟩
 case clo f b c=>obtain ⟨_,_,_,_,rfl⟩:=hs;exact ⟨rfl,rfl⟩
 all_goals (subst hs;exact ⟨rfl,rfl⟩)
theorem AV.blk_R {v:AV} {V:Value} {k:Blk} (h:AVR E σ v V) (hk:v.blk=some k):cT E σ k V.cells.toList:=by
 cases v with
 |sc s =>
  have hs:ScR E σ s V:=h
  cases s with
  |i kd n =>
   simp only [AV.blk,Option.some.injEq] at hk
   subst hk
   simp only [ScR] at hs
   subst hs
   exact cv rfl
  |_ =>
   simp only [AV.blk,Option.some.injEq] at hk
   subst hk
   rw [(jA hs).1]
   exact dJ ⟨hs,trivial⟩
 |agg l =>
  simp only [AV.blk,Option.some.injEq] at hk
  subst hk
  obtain ⟨arr,rfl,h2⟩:=h
  exact dJ h2
 |ints kd n xs =>
  simp only [AV.blk,Option.some.injEq] at hk
  subst hk
  obtain ⟨h1,rfl⟩:=h
  exact cv h1
 |tup l=>simp [AV.blk] at hk
 |arr v xs =>
  simp only [AV.blk,Option.some.injEq] at hk
  subst hk
  obtain ⟨arr,rfl,h2⟩:=h
  have:=dJ h2
  obtain ⟨_,q2,q3⟩:=this
  refine ⟨trivial,by simpa [Blk.len,Value.cells] using q2,fun j s hs=>q3 j s ?_⟩
  simpa [Blk.get?] using hs
def ck (E:Env) (G:dP):Prop:=∀ g k xs,G g=some (k,xs)→E.Reads ⟨g,0,none⟩ k xs
theorem dS {G:dP} {fr:Fr} {a:Act} {o:Operand} {v:AV} (hG:ck E G) (hf:FrR E σ fr a) (h:ev G fr o=some v):AVR E σ v (a.eval o):=by
 cases o with
 |tmp t =>
  obtain ⟨V,h1,h2⟩:=hf.val t v h
  simp only [Act.eval,Array.getD_eq_getD_getElem?,h1,Option.getD_some]
  exact h2
 |const V=>exact qs h
 |global g =>
  simp only [ev] at h
  split at h
  ·rename_i k xs hg
   simp only [Option.some.injEq] at h
   subst h
   exact ⟨⟨g,0,none⟩,rfl,hG g k xs hg⟩
  ·cases h
 |func f =>
  simp only [ev,Option.some.injEq] at h
  subst h
  exact ⟨rfl,rfl⟩
theorem bL {s:Sem Value} {V:Value} {w':World} {P:Program} (h:s.run P w=.ok V w'):(do pure (.value (← s)):Sem Next).run P w=.ok (.value V) w':=by
 simp [h]
theorem lq {P:Program} {op:BinOp} {k:IntKind} {x y:Int} {C:Prop} {s:Sc} {t:TypeId} (h:li op k x y=some (C,s)) (hC:C) :
  ∃ V,(binOp op t (.int k x) (.int k y)).run P w=.ok V w∧ScR E σ s V:=by
 cases op <;> simp only [li,Option.some.injEq,Prod.mk.injEq,reduceCtorEq] at h
 all_goals (obtain ⟨rfl,rfl⟩:=h)
 all_goals first
  |exact ⟨_,by simp [binOp,Op.intArith];rfl,rfl⟩
  |exact ⟨_,by simp [binOp,Op.intDiv,hC];rfl,rfl⟩
  |exact ⟨_,by simp [binOp,Op.intBits];rfl,rfl⟩
  |exact ⟨_,by simp [binOp,Op.intCmp];rfl,rfl⟩
theorem dI {P:Program} {op:BinOp} {t:TypeId} {x y:Operand} {X Y:Value} (h1:∀ cs,X≠.agg cs) (h2:X≠.nilIface):(eqGuard op t x y X Y).run P w=.ok () w:=by
 unfold eqGuard
 cases X <;> first
  |exact absurd rfl h2
  |exact absurd rfl (h1 _)
  |(cases op <;> simp)
theorem kQ {P:Program} {op:BinOp} {t:TypeId} {x y:Operand} {X Y:Array Value} {n:Nat} {e:TypeId} {k:IntKind} (ht:P.underlying t=some (.array n e)) (he:P.underlying e=some (.int k)) :
  (eqGuard op t x y (.agg X) (.agg Y)).run P w=.ok () w:=by
 have hd:∃ d,P.depth=d+2:=⟨2*(P.types.size+Made.depth),rfl⟩
 obtain ⟨d,hd⟩:=hd
 have:P.eqGuardType P.depth t=false:=by
  rw [hd]
  simp only [Program.eqGuardType,ht,he]
 exact run_eqGuard_agg w op t x y X Y this
theorem gg {P:Program} {t e:TypeId} {n d:Nat} {k k':IntKind} {xs ys:List Int} (ht:P.underlying t=some (.array n e)) (he:P.underlying e=some (.int k')) (hs:(P.info? e).map (·.size)=some 1)
  (hx:xs.length=n) (hy:ys.length=n):(Op.equalIn (d+2) t (.agg (bC k xs).toArray) (.agg (bC k ys).toArray)).run P w=.ok (xs==ys) w:=by
 obtain ⟨i,hi,hi1⟩:∃ i,P.info? e=some i∧i.size=1:=by
  cases h:P.info? e with
  |none=>simp [h] at hs
  |some i=>exact ⟨i,rfl,by simpa [h] using hs⟩
 have hsz:(sizeOf e).run P w=.ok 1 w:=by simp [sizeOf,typeInfo,hi,hi1]
 have hagg:(isAgg e).run P w=.ok false w:=by simp [isAgg,underlying,he]
 have hpart:∀ (zs:List Int) (j:Nat),j<zs.length→(part e (bC k zs).toArray (j*1)).run P w=.ok (.int k (zs.getD j 0)) w:=by
  intro zs j hj
  unfold part
  simp [hagg,bC,List.getElem?_eq_getElem hj]
 have heq:∀ a b:Int,(Op.equalIn (d+1) e (.int k a) (.int k b)).run P w=.ok (a==b) w:=fun a b=>run_equalIn_int w d e k k' a b he
 unfold Op.equalIn
 simp only [underlying,Sem.run_bind,run_program,Result.andThen_ok,ht,Sem.run_pure,hsz]
 have key:∀ m s,s+m=n→(forIn (List.range' s m) ((none,()):Option Bool × Unit) fun i (_:Option Bool × Unit)=>do
      let a ← part e (bC k xs).toArray (i*1)
      let b ← part e (bC k ys).toArray (i*1)
      let c ← Op.equalIn (d+1) e a b
      if (!c)=true then pure (ForInStep.done (some false,())) else pure (ForInStep.yield ((none,()):Option Bool × Unit)):Sem (Option Bool × Unit)).run P w =
   .ok (if xs.drop s==ys.drop s then (none,()) else (some false,())) w:=by
  intro m
  induction m with
  |zero =>
   intro s hs'
   have h1:xs.drop s=[]:=List.drop_eq_nil_of_le (by omega)
   have h2:ys.drop s=[]:=List.drop_eq_nil_of_le (by omega)
   simp [h1,h2]
  |succ m ih =>
   intro s hs'
   have hsx:s<xs.length:=by omega
   have hsy:s<ys.length:=by omega
   have gx:xs.getD s 0=xs[s]:=by simp [List.getElem?_eq_getElem hsx]
   have gy:ys.getD s 0=ys[s]:=by simp [List.getElem?_eq_getElem hsy]
   rw [List.range'_succ,List.forIn_cons]
   simp only [Sem.run_bind,hpart xs s hsx,hpart ys s hsy,Result.andThen_ok,heq,Sem.run_ite,gx,gy]
   rw [List.drop_eq_getElem_cons hsx,List.drop_eq_getElem_cons hsy,List.cons_beq_cons]
   by_cases e1:xs[s]=ys[s]
   ·simp only [e1,beq_self_eq_true,Bool.not_true,Bool.false_eq_true,if_false,Sem.run_pure,Result.andThen_ok]
    rw [ih (s+1) (by omega),Bool.true_and]
   ·have:(xs[s]==ys[s])=false:=by simpa using e1
    simp only [this,Bool.not_false,if_true,Sem.run_pure,Result.andThen_ok,Bool.false_and,Bool.false_eq_true,if_false]
 have hr:(forIn (m:=Sem) [:n] ((none,()):Option Bool × Unit) fun i (_:Option Bool × Unit)=>do
      let a ← part e (bC k xs).toArray (i*1)
      let b ← part e (bC k ys).toArray (i*1)
      let c ← Op.equalIn (d+1) e a b
      if (!c)=true then pure (ForInStep.done (some false,())) else pure (ForInStep.yield ((none,()):Option Bool × Unit))).run P w=.ok (if xs==ys then (none,()) else (some false,())) w:=by
  have:=key n 0 (by omega)
  simp only [List.drop_zero] at this
  rw [Std.Legacy.Range.forIn_eq_forIn_range']
  simpa [Std.Legacy.Range.size] using this
 rw [hr]
 by_cases e1:(xs==ys)=true <;> simp [e1]
end
end Go.Vm
namespace Go.Vm
open Go
section
variable {E:Env} {σ:Sig} {nm:Nat} {M:Mem} {w:World} {A:Deed} {r:Result Next}
theorem cR {P:Program} {op:BinOp} {t:TypeId} {ox oy:Operand} {X Y V:Value} (hg:(eqGuard op t ox oy X Y).run P w=.ok () w) (hb:(binOp op t X Y).run P w=.ok V w) :
  (do pure (.value (← (do eqGuard op t ox oy X Y;binOp op t X Y))):Sem Next).run P w=.ok (.value V) w:=by
 simp [hg,hb]
theorem jt {P:Program} {t:TypeId} {X Y:Value} {b:Bool} (h:(Op.equalIn 10000 t X Y).run P w=.ok b w):(Op.equal t X Y).run P w=.ok b w:=h
theorem be {P:Program} {t:TypeId} {X Y:Value} {b:Bool} (h:(Op.equalIn 10000 t X Y).run P w=.ok b w)
  (hX:(∃ x,X=.bool x)∨(∃ a,X=.pointer a)∨(∃ a n c,X=.slice a n c)∨(∃ cs,X=.agg cs)) :
  (binOp .eql t X Y).run P w=.ok (.bool b) w∧(binOp .neq t X Y).run P w=.ok (.bool (!b)) w:=by
 have h':=jt h
 rcases hX with ⟨x,rfl⟩|⟨a,rfl⟩|⟨a,n,c,rfl⟩|⟨cs,rfl⟩ <;> constructor <;> simp [binOp,h']
theorem fw {P:Program} (d:Nat) {t e:TypeId} (ht:P.underlying t=some (.pointer e)) (a:Option Addr):(Op.equalIn (d+1) t (.pointer a) (.pointer none)).run P w=.ok a.isNone w:=by
 cases a <;> simp [Op.equalIn,underlying,ht]
theorem eq {P:Program} (d:Nat) {t e:TypeId} (ht:P.underlying t=some (.slice e)) (a:Addr) (n c:Nat):(Op.equalIn (d+1) t (.slice (some a) n c) (.slice none 0 0)).run P w=.ok false w:=by
 simp [Op.equalIn,underlying,ht]
theorem hY {P:Program} (d:Nat) {t e:TypeId} (ht:P.underlying t=some (.slice e)):(Op.equalIn (d+1) t (.slice none 0 0) (.slice none 0 0)).run P w=.ok true w:=by
 simp [Op.equalIn,underlying,ht]
theorem lZ {op:BinOp} {t:TypeId} {ox oy:Operand} {x y:AV} {X Y:Value} (hx:AVR E σ x X) (hy:AVR E σ y Y) (hM:MemR E σ M w) (hA:oJ E.P op t x y=some A) :
  dZ E σ nm M A ((do pure (.value (← (do eqGuard op t ox oy X Y;binOp op t X Y))):Sem Next).run E.P w):=by
 unfold oJ at hA
 split at hA
 ·
  rename_i k a k' b
  simp only [AVR,ScR] at hx hy
  subst hx hy
  have hg:(eqGuard op t ox oy (.int k a) (.int k' b)).run E.P w=.ok () w:=dI (by intro cs h;cases h) (by intro h;cases h)
  split at hA
  ·refine am hA hM fun hC=>⟨_,cR hg (by simp [binOp,Op.shift,show ¬ b<0 from by omega];rfl),rfl⟩
  ·refine am hA hM fun hC=>⟨_,cR hg (by simp [binOp,Op.shift,show ¬ b<0 from by omega];rfl),rfl⟩
  ·rename_i h1 h2
   split at hA
   ·rename_i hk
    subst hk
    split at hA
    ·rename_i C s hs
     refine am hA hM fun hC=>?_
     obtain ⟨V,h3,h4⟩:=lq (E:=E) (σ:=σ) (w:=w) (P:=E.P) (t:=t) hs hC
     exact ⟨V,cR hg h3,h4⟩
    ·cases hA
   ·cases hA
 ·
  rename_i a b
  simp only [AVR,ScR] at hx hy
  subst hx hy
  have hg:(eqGuard op t ox oy (.string a) (.string b)).run E.P w=.ok () w:=dI (by intro cs h;cases h) (by intro h;cases h)
  split at hA
  ·refine am hA hM fun hC=>⟨_,cR hg ?_,rfl⟩
   have:¬ (((a.size+b.size:Nat):Int)>IntKind.i64.max):=by
    have:IntKind.i64.max=9223372036854775807:=by decide
    omega
   simp only [binOp,Op.stringOp,if_neg this]
   rfl
  ·exact am hA hM fun hC=>⟨_,cR hg (by simp [binOp,Op.stringOp];rfl),rfl⟩
  ·exact am hA hM fun hC=>⟨_,cR hg (by simp [binOp,Op.stringOp];rfl),rfl⟩
  ·cases hA
 ·
  rename_i a b
  simp only [AVR,ScR] at hx hy
  subst hx hy
  have hg:(eqGuard op t ox oy (.bool a) (.bool b)).run E.P w=.ok () w:=dI (by intro cs h;cases h) (by intro h;cases h)
  split at hA
  ·rename_i ht
   have hq:=be (w:=w) (run_equalIn_bool' w 9999 t a b ht) (.inl ⟨a,rfl⟩)
   split at hA
   ·exact am hA hM fun hC=>⟨_,cR hg hq.1,rfl⟩
   ·exact am hA hM fun hC=>⟨_,cR hg hq.2,rfl⟩
   ·cases hA
  ·cases hA
 ·
  rename_i k n xs k' n' ys
  obtain ⟨hx1,rfl⟩:=hx
  obtain ⟨hy1,rfl⟩:=hy
  split at hA
  ·rename_i m e ht
   split at hA
   ·rename_i kk he hs
    split at hA
    ·rename_i hk
     obtain ⟨rfl,rfl,rfl⟩:=hk
     have hg:(eqGuard op t ox oy (.agg (bC k xs).toArray) (.agg (bC k ys).toArray)).run E.P w=.ok () w:=kQ ht he
     have hq:=be (w:=w) (gg (w:=w) (d:=9998) (k:=k) ht he hs hx1 hy1) (.inr (.inr (.inr ⟨_,rfl⟩)))
     split at hA
     ·exact am hA hM fun hC=>⟨_,cR hg hq.1,rfl⟩
     ·exact am hA hM fun hC=>⟨_,cR hg hq.2,rfl⟩
     ·cases hA
    ·cases hA
   ·cases hA
  ·cases hA
 ·
  rename_i b o
  obtain ⟨L,hL,rfl⟩:=hx
  simp only [AVR,ScR] at hy
  subst hy
  have hg:(eqGuard op t ox oy (.pointer (some ⟨L.g,L.β+o,none⟩)) (.pointer none)).run E.P w=.ok () w:=dI (by intro cs h;cases h) (by intro h;cases h)
  split at hA
  ·rename_i e ht
   have hq:=be (w:=w) (P:=E.P) (t:=t) (X:=.pointer (some ⟨L.g,L.β+o,none⟩)) (Y:=.pointer none) (b:=false) (fw 9999 ht _) (.inr (.inl ⟨_,rfl⟩))
   exact am hA hM fun hC=>⟨_,cR hg hq.1,rfl⟩
  ·rename_i e ht
   have hq:=be (w:=w) (P:=E.P) (t:=t) (X:=.pointer (some ⟨L.g,L.β+o,none⟩)) (Y:=.pointer none) (b:=false) (fw 9999 ht _) (.inr (.inl ⟨_,rfl⟩))
   exact am hA hM fun hC=>⟨_,cR hg hq.2,rfl⟩
  ·cases hA
 ·
  simp only [AVR,ScR] at hx hy
  subst hx hy
  have hg:(eqGuard op t ox oy (.pointer none) (.pointer none)).run E.P w=.ok () w:=dI (by intro cs h;cases h) (by intro h;cases h)
  split at hA
  ·rename_i e ht
   have hq:=be (w:=w) (P:=E.P) (t:=t) (X:=.pointer none) (Y:=.pointer none) (b:=true) (fw 9999 ht _) (.inr (.inl ⟨_,rfl⟩))
   exact am hA hM fun hC=>⟨_,cR hg hq.1,rfl⟩
  ·rename_i e ht
   have hq:=be (w:=w) (P:=E.P) (t:=t) (X:=.pointer none) (Y:=.pointer none) (b:=true) (fw 9999 ht _) (.inr (.inl ⟨_,rfl⟩))
   exact am hA hM fun hC=>⟨_,cR hg hq.2,rfl⟩
  ·cases hA
 ·
  rename_i k xs
  obtain ⟨a,c,rfl,hc,hr⟩:=hx
  simp only [AVR,ScR] at hy
  subst hy
  have hg:(eqGuard op t ox oy (.slice a xs.length c) (.slice none 0 0)).run E.P w=.ok () w:=dI (by intro cs h;cases h) (by intro h;cases h)
  split at hA
  ·rename_i e ht
   refine am hA hM fun hC=>?_
   obtain ⟨ad,rfl,_⟩:=hr hC
   have hq:=be (w:=w) (P:=E.P) (t:=t) (X:=.slice (some ad) xs.length c) (Y:=.slice none 0 0) (b:=false) (eq 9999 ht _ _ _) (.inr (.inr (.inl ⟨_,_,_,rfl⟩)))
   exact ⟨_,cR hg hq.1,rfl⟩
  ·rename_i e ht
   refine am hA hM fun hC=>?_
   obtain ⟨ad,rfl,_⟩:=hr hC
   have hq:=be (w:=w) (P:=E.P) (t:=t) (X:=.slice (some ad) xs.length c) (Y:=.slice none 0 0) (b:=false) (eq 9999 ht _ _ _) (.inr (.inr (.inl ⟨_,_,_,rfl⟩)))
   exact ⟨_,cR hg hq.2,rfl⟩
  ·cases hA
 ·
  rename_i b off len es cap
  simp only [AVR,ScR] at hy
  subst hy
  split at hA
  ·rename_i e ht
   refine am hA hM fun hC=>?_
   rcases hx with ⟨h0,_⟩|⟨L,c,hL,rfl,_⟩
   ·omega
   have hg:(eqGuard .eql t ox oy (.slice (some ⟨L.g,L.β+off,none⟩) len c) (.slice none 0 0)).run E.P w=.ok () w:=dI (by intro cs h;cases h) (by intro h;cases h)
   have hq:=be (w:=w) (P:=E.P) (t:=t) (X:=.slice (some ⟨L.g,L.β+off,none⟩) len c) (Y:=.slice none 0 0) (b:=false) (eq 9999 ht _ _ _) (.inr (.inr (.inl ⟨_,_,_,rfl⟩)))
   exact ⟨_,cR hg hq.1,rfl⟩
  ·rename_i e ht
   refine am hA hM fun hC=>?_
   rcases hx with ⟨h0,_⟩|⟨L,c,hL,rfl,_⟩
   ·omega
   have hg:(eqGuard .neq t ox oy (.slice (some ⟨L.g,L.β+off,none⟩) len c) (.slice none 0 0)).run E.P w=.ok () w:=dI (by intro cs h;cases h) (by intro h;cases h)
   have hq:=be (w:=w) (P:=E.P) (t:=t) (X:=.slice (some ⟨L.g,L.β+off,none⟩) len c) (Y:=.slice none 0 0) (b:=false) (eq 9999 ht _ _ _) (.inr (.inr (.inl ⟨_,_,_,rfl⟩)))
   exact ⟨_,cR hg hq.2,rfl⟩
  ·cases hA
 ·
  simp only [AVR,ScR] at hx hy
  subst hx hy
  have hg:(eqGuard op t ox oy (.slice none 0 0) (.slice none 0 0)).run E.P w=.ok () w:=dI (by intro cs h;cases h) (by intro h;cases h)
  split at hA
  ·rename_i e ht
   have hq:=be (w:=w) (P:=E.P) (t:=t) (X:=.slice none 0 0) (Y:=.slice none 0 0) (b:=true) (hY 9999 ht) (.inr (.inr (.inl ⟨_,_,_,rfl⟩)))
   exact am hA hM fun hC=>⟨_,cR hg hq.1,rfl⟩
  ·rename_i e ht
   have hq:=be (w:=w) (P:=E.P) (t:=t) (X:=.slice none 0 0) (Y:=.slice none 0 0) (b:=true) (hY 9999 ht) (.inr (.inr (.inl ⟨_,_,_,rfl⟩)))
   exact am hA hM fun hC=>⟨_,cR hg hq.2,rfl⟩
  ·cases hA
 ·cases hA
theorem nI {op:UnOp} {x:AV} {X:Value} (hx:AVR E σ x X) (hM:MemR E σ M w) (hA:qe op x=some A) :
  dZ E σ nm M A ((do pure (.value (← Op.unary op X)):Sem Next).run E.P w):=by
 unfold qe at hA
 split at hA
 ·simp only [AVR,ScR] at hx;subst hx
  exact am hA hM fun hC=>⟨_,bL (V:=.int _ _) rfl,rfl⟩
 ·simp only [AVR,ScR] at hx;subst hx
  exact am hA hM fun hC=>⟨_,bL (V:=.int _ _) rfl,rfl⟩
 ·simp only [AVR,ScR] at hx;subst hx
  exact am hA hM fun hC=>⟨_,bL (V:=.bool _) rfl,rfl⟩
 ·cases hA
end
end Go.Vm
namespace Go.Vm
open Go
section
variable {E:Env} {σ:Sig} {nm:Nat} {M:Mem} {w:World} {A:Deed} {r:Result Next} {P:Program}
theorem aq {t:TypeId} {d:TypeDesc} (h:P.underlying t=some d) (w:World):(underlying t).run P w=.ok d w:=by simp [underlying,h]
theorem cg {t:TypeId} {s:Nat} (h:dD P t=some s) (w:World):(sizeOf t).run P w=.ok s w:=by
 unfold dD at h
 cases hi:P.info? t with
 |none=>simp [hi] at h
 |some i=>simp only [hi,Option.map_some,Option.some.injEq] at h;simp [sizeOf,typeInfo,hi,h]
theorem ju {t:TypeId} {b:Bool} (h:eL P t=some b) (w:World):(isAgg t).run P w=.ok b w:=by
 unfold eL at h
 split at h
 ·rename_i d hd;simp only [Option.some.injEq] at h;subst h;simp [isAgg,aq hd]
 ·rename_i d hd;simp only [Option.some.injEq] at h;subst h;simp [isAgg,aq hd]
 ·rename_i d h1 h2 hd
  simp only [Option.some.injEq] at h;subst h
  unfold isAgg
  simp only [Sem.run_bind,aq hd,Result.andThen_ok]
  rfl
 ·cases h
theorem gJ {t:TypeId} {z:Value} (h:(P.info? t).map (·.zero)=some (some z)) (w:World):(zeroValue t).run P w=.ok z w:=by
 cases hi:P.info? t with
 |none=>simp [hi] at h
 |some i=>simp only [hi,Option.map_some,Option.some.injEq] at h;simp [zeroValue,typeInfo,hi,h]
theorem cI (g o n:Nat):(⟨g,o,none⟩:Addr).add n=⟨g,o+n,none⟩:=by
 unfold Addr.add
 split
 ·rename_i h;subst h;rfl
 ·rfl
theorem fu (a:Addr) (n m:Nat):(a.add n).add m=a.add (n+m):=by
 by_cases h:m=0
 ·subst h;rfl
 ·by_cases h':n=0
  ·subst h';simp [Addr.add]
  ·simp [Addr.add,h,h',Nat.add_assoc]
theorem add_zero (a:Addr):a.add 0=a:=rfl
theorem cq (a:Addr) (n:Nat):(a.add n).block=a.block:=by unfold Addr.add;split <;> rfl
theorem iS {s:TypeId} {x:AV} {X:Value} {f:Nat} (hx:AVR E σ x X) (hM:MemR E σ M w) (hA:fL E.P s x f=some A) :
  dZ E σ nm M A ((do pure (.value (← Instr.fieldAt s X f)):Sem Next).run E.P w):=by
 unfold fL at hA
 split at hA
 ·rename_i fs hs
  split at hA
  ·rename_i fd hfd
   split at hA
   ·rename_i sz b o hsz
    obtain ⟨L,hL,rfl⟩:=hx
    have hf:fs[f]?=some fd:=by simpa using hfd
    refine am hA hM fun hC=>⟨_,bL (V:=.pointer (some ⟨L.g,L.β+(o+fd.offset),none⟩)) ?_,⟨L,hL,rfl⟩⟩
    unfold Instr.fieldAt
    simp only [Sem.run_bind,aq hs,Result.andThen_ok,hf]
    simp only [Instr.sureAddr,pure_bind,fieldPlace,Sem.run_bind,cg hsz,Result.andThen_ok,Nat.add_one_ne_zero,if_false,Sem.run_pure,cI,Nat.add_assoc]
   ·cases hA
  ·cases hA
 ·cases hA
theorem im {t:TypeId} {x ix:AV} {X IX:Value} (hx:AVR E σ x X) (hix:AVR E σ ix IX) (hM:MemR E σ M w) (hA:fD E.P t x ix=some A) :
  dZ E σ nm M A ((do pure (.value (← Instr.indexAt t X IX)):Sem Next).run E.P w):=by
 have key:∀ {k:IntKind} {i:Int} {base:Option Addr} {a:Addr} {len e s:Nat} {d:TypeDesc},E.P.underlying t=some d→dD E.P e=some s →
   ((d=.array len e∧X=.pointer (some a))∨(d=.slice e∧∃ c,X=.slice (some a) len c))→0≤i∧i<(len:Int)→(Instr.indexAt t X (.int k i)).run E.P w=.ok (.pointer (some (a.add (i.toNat*s)))) w:=by
  intro k i base a len e s d hd hs hX hi
  unfold Instr.indexAt
  rcases hX with ⟨rfl,rfl⟩|⟨rfl,c,rfl⟩
  ·simp [asIntOf,aq hd,Instr.sureAddr,cg hs,hi]
  ·simp [asIntOf,aq hd,cg hs,hi]
 unfold fD at hA
 split at hA
 ·rename_i n e b o kk i ht
  obtain ⟨L,hL,rfl⟩:=hx
  simp only [AVR,ScR] at hix;subst hix
  split at hA
  ·rename_i s hs
   refine am hA hM fun hC=>⟨_,bL (key (base:=none) ht hs (.inl ⟨rfl,rfl⟩) hC),⟨L,hL,?_⟩⟩
   simp [cI,Nat.add_assoc,cp]
  ·cases hA
 ·rename_i n e k xs j kk i ht
  obtain ⟨ad,rfl,hr⟩:=hx
  simp only [AVR,ScR] at hix;subst hix
  split at hA
  ·rename_i hs
   refine am hA hM fun hC=>⟨_,bL (key (base:=none) ht hs (.inl ⟨rfl,rfl⟩) hC),⟨ad,?_,hr⟩⟩
   simp [fu]
  ·cases hA
 ·rename_i e b off len es cap kk i ht
  simp only [AVR,ScR] at hix;subst hix
  split at hA
  ·rename_i s hs
   split at hA
   ·refine am hA hM fun hC=>?_
    rcases hx with ⟨h0,_⟩|⟨L,c,hL,rfl,_⟩
    ·omega
    ·refine ⟨_,bL (key (base:=none) ht hs (.inr ⟨rfl,c,rfl⟩) hC),⟨L,hL,?_⟩⟩
     simp [cI,Nat.add_assoc,cp]
   ·cases hA
  ·cases hA
 ·rename_i e k xs kk i ht
  simp only [AVR,ScR] at hix;subst hix
  obtain ⟨B,c,rfl,hc,hr⟩:=hx
  split at hA
  ·rename_i hs
   refine am hA hM fun hC=>?_
   obtain ⟨ad,rfl,hr2⟩:=hr (by omega)
   refine ⟨_,bL (key (base:=none) ht hs (.inr ⟨rfl,c,rfl⟩) hC),⟨ad,by simp,hr2⟩⟩
  ·cases hA
 ·rename_i e xs kk i ht
  simp only [AVR,ScR] at hix;subst hix
  obtain ⟨B,c,rfl,hc,hr⟩:=hx
  split at hA
  ·rename_i hs
   refine am hA hM fun hC=>?_
   obtain ⟨ad,rfl,ho,hr⟩:=hr (by omega)
   refine ⟨_,bL (key (base:=none) ht hs (.inr ⟨rfl,c,rfl⟩) hC),⟨ad.add (i.toNat*1),rfl,by rw [cq];exact ho,?_⟩⟩
   have:=hr i.toNat (by omega)
   simpa using this
  ·cases hA
 ·rename_i e xs kk i ht
  simp only [AVR,ScR] at hix;subst hix
  obtain ⟨B,c,rfl,hc,hr⟩:=hx
  split at hA
  ·rename_i hs
   refine am hA hM fun hC=>?_
   obtain ⟨ad,rfl,ho,hr⟩:=hr (by omega)
   obtain ⟨v,hv,hro⟩:=hr i.toNat (by omega)
   refine ⟨_,bL (key (base:=none) ht hs (.inr ⟨rfl,c,rfl⟩) hC),⟨ad.add (i.toNat*1),v,rfl,by rw [cq];exact ho,by simpa using hv,hro⟩⟩
  ·cases hA
 ·rename_i e xs kk i ht
  simp only [AVR,ScR] at hix;subst hix
  obtain ⟨B,c,rfl,hc,hr⟩:=hx
  split at hA
  ·rename_i hs
   refine am hA hM fun hC=>?_
   obtain ⟨ad,rfl,ho,hr⟩:=hr (by omega)
   obtain ⟨h0,v,hv,hro⟩:=hr i.toNat (by omega)
   refine ⟨_,bL (key (base:=none) ht hs (.inr ⟨rfl,c,rfl⟩) hC),⟨ad.add (i.toNat*2),v,rfl,by rw [cq];exact ho,h0,by rw [fu];exact hv,hro⟩⟩
  ·cases hA
 ·cases hA
theorem MemR.oldCell (hM:MemR E σ M w) {a:Addr} (h:E.old a.block):w.cell? a=E.w0.cell? a:=by
 simp only [World.cell?,hM.old _ (E.sub _ h)]
theorem fT {t:TypeId} {a:Addr} {v:Value} (h:eL P t=some false) (hc:w.cell? a=some v):(loadVar t a).run P w=.ok v w:=by
 simp [loadVar,ju h,hc]
theorem fU {t:TypeId} {a:Addr} {cs:List Value} {s:Nat} (h:eL P t=some true) (hs:dD P t=some s) (hl:cs.length=s) (hc:∀ j v,cs[j]?=some v→w.cell? (a.add j)=some v) :
  (loadVar t a).run P w=.ok (.agg cs.toArray) w:=by
 unfold loadVar
 simp only [Sem.run_bind,ju h,Result.andThen_ok,if_true,cg hs]
 rw [← hl,run_loadCells_list w a cs hc]
 simp
theorem Blk.sub_get {k:Blk} (hk:k.good) {o s:Nat} (h:(k.sub o s).1):(k.sub o s).2.good∧(k.sub o s).2.len=s∧o+s≤k.len∧∀ j,j<s→(k.sub o s).2.get? j=k.get? (o+j):=by
 cases k with
 |ints kd n xs =>
  simp only [Blk.good] at hk
  unfold Blk.sub at h ⊢
  simp only at h ⊢
  cases hb:(Nat.beq s n && Nat.beq o 0)
  ·simp only [hb,cond_false] at h ⊢
   refine ⟨?_,rfl,h,?_⟩
   ·simp only [Blk.good,List.length_take,List.length_drop];omega
   ·intro j hj
    simp only [Blk.get?,List.getElem?_take,if_pos hj,List.getElem?_drop]
  ·simp only [hb,cond_true] at h ⊢
   simp only [Bool.and_eq_true] at hb
   have h1:=Nat.eq_of_beq_eq_true hb.1
   have h2:=Nat.eq_of_beq_eq_true hb.2
   subst h1 h2
   refine ⟨hk,rfl,by simp [Blk.len],?_⟩
   intro j hj
   simp
 |cells l =>
  unfold Blk.sub at h ⊢
  simp only at h ⊢
  refine ⟨trivial,?_,h,?_⟩
  ·simp only [Blk.len,List.length_take,List.length_drop];omega
  ·intro j hj
   simp only [Blk.get?,List.getElem?_take,if_pos hj,List.getElem?_drop]
 |vec v l =>
  unfold Blk.sub at h ⊢
  simp only at h ⊢
  cases hb:Nat.beq o 0
  ·simp only [hb,cond_false] at h ⊢
   refine ⟨trivial,?_,h,?_⟩
   ·simp only [Blk.len,List.length_take,List.length_drop];omega
   ·intro j hj
    simp only [Blk.get?,List.getElem?_take,if_pos hj,List.getElem?_drop]
  ·simp only [hb,cond_true] at h ⊢
   have h2:=Nat.eq_of_beq_eq_true hb
   subst h2
   refine ⟨trivial,?_,by simpa [Blk.len] using h,?_⟩
   ·simp only [Blk.len,List.length_take];omega
   ·intro j hj
    simp only [Blk.get?,List.getElem?_take,if_pos hj,Nat.zero_add]
theorem Blk.get_some {k:Blk} (hk:k.good) {j:Nat} (h:j<k.len):∃ s,k.get? j=some s:=by
 cases k with
 |ints kd n xs =>
  simp only [Blk.good,Blk.len] at hk h
  exact ⟨_,by simp [Blk.get?,List.getElem?_eq_getElem (show j<xs.length by omega)];rfl⟩
 |cells l=>exact ⟨_,by simp only [Blk.get?];exact List.getElem?_eq_getElem h⟩
 |vec v l=>exact ⟨_,by simp only [Blk.get?];rw [List.getElem?_eq_getElem h];rfl⟩
theorem fF {xs:List Int} {n off len:Nat} (h:xs.length=n):dY xs n off len=(xs.drop off).take len:=by
 unfold dY
 cases hb:(Nat.beq len n && Nat.beq off 0)
 ·rfl
 ·rw [Bool.and_eq_true] at hb
  have h1:=Nat.eq_of_beq_eq_true hb.1
  have h2:=Nat.eq_of_beq_eq_true hb.2
  subst h1 h2
  simp only [cond_true,List.drop_zero]
  rw [List.take_of_length_le (by omega)]
theorem Blk.subS_sub {k:Blk} (hk:k.good) {off len es:Nat} (h:(k.subS off len es).1):(k.sub off (len*es)).1∧(k.subS off len es).2=(k.sub off (len*es)).2:=by
 cases k with
 |cells l=>exact ⟨h,rfl⟩
 |vec v xs=>exact ⟨h,rfl⟩
 |ints kd n xs =>
  unfold Blk.subS at h ⊢
  simp only at h ⊢
  cases hb:Nat.beq es 1
  ·rw [hb] at h
   exact ⟨h,rfl⟩
  ·rw [hb] at h
   simp only [cond_true] at h ⊢
   have he:=Nat.eq_of_beq_eq_true hb
   subst he
   rw [Nat.mul_one]
   simp only [Blk.good] at hk
   unfold Blk.sub dY
   simp only
   cases hc:(Nat.beq len n && Nat.beq off 0)
   ·exact ⟨h,rfl⟩
   ·rw [Bool.and_eq_true] at hc
    have h1:=Nat.eq_of_beq_eq_true hc.1
    subst h1
    exact ⟨trivial,rfl⟩
theorem Blk.all_sub {k:Blk} {o s:Nat} (h:(k.all o s).1):(k.sub o s).1∧(k.all o s).2=(k.sub o s).2:=by
 cases k with
 |ints kd n xs=>exact ⟨h,rfl⟩
 |cells l=>exact ⟨h,rfl⟩
 |vec v xs =>
  unfold Blk.all at h ⊢
  simp only at h ⊢
  cases hb:Nat.beq o 0
  ·rw [hb] at h
   exact ⟨h,rfl⟩
  ·rw [hb] at h
   simp only [cond_true] at h ⊢
   have ho:=Nat.eq_of_beq_eq_true hb
   subst ho
   subst h
   exact ⟨Nat.le_refl _,by show _=Blk.vec v (xs.take xs.length);rw [List.take_of_length_le (Nat.le_refl _)]⟩
theorem dk.list {k:Blk} {L:Loc} (h:dk E σ w k (.at L)) {o s:Nat} (hs:(k.sub o s).1) :
  ∃ cs:List Value,cs.length=s∧(∀ j v,cs[j]?=some v→w.cell? ((⟨L.g,L.β+o,none⟩:Addr).add j)=some v)∧cT E σ (k.sub o s).2 cs:=by
 obtain ⟨g1,g2,g3,g4⟩:=Blk.sub_get h.1 hs
 have hread:∀ j,j<s→∃ v,w.cell? ⟨L.g,L.β+(o+j),none⟩=some v∧∀ sc,(k.sub o s).2.get? j=some sc→ScR E σ sc v:=by
  intro j hj
  obtain ⟨sc,hsc⟩:=Blk.get_some h.1 (show o+j<k.len by omega)
  obtain ⟨v,h1,h2⟩:=h.read hsc
  refine ⟨v,h1,fun sc' h'=>?_⟩
  rw [g4 j hj,hsc] at h'
  injection h' with h'
  subst h'
  exact h2
 let f:Nat→Value:=fun j=>(w.cell? ⟨L.g,L.β+(o+j),none⟩).getD undef
 have hf:∀ j,j<s→w.cell? ⟨L.g,L.β+(o+j),none⟩=some (f j):=by
  intro j hj
  obtain ⟨v,h1,_⟩:=hread j hj
  simp [f,h1]
 refine ⟨(List.range s).map f,by simp,?_,⟨g1,by simp [g2],?_⟩⟩
 ·intro j v hv
  simp only [List.getElem?_map,Option.map_eq_some_iff] at hv
  obtain ⟨i,hi,rfl⟩:=hv
  obtain ⟨hlt,rfl⟩:=List.getElem?_eq_some_iff.1 hi
  simp only [List.length_range] at hlt
  rw [cI,Nat.add_assoc]
  simpa using hf j hlt
 ·intro j sc hsc
  have hlt:=Blk.get?_lt g1 hsc
  rw [g2] at hlt
  obtain ⟨v,h1,h2⟩:=hread j hlt
  refine ⟨f j,by simp [List.getElem?_range,hlt],?_⟩
  rw [hf j hlt] at h1
  injection h1 with h1
  rw [h1]
  exact h2 sc hsc
theorem kE {t:TypeId} {x:AV} {X:Value} (hx:AVR E σ x X) (hM:MemR E σ M w) (hA:mF E.P t x=some A) :
  dZ E σ nm M A ((do pure (.value (← Instr.loadAt t X)):Sem Next).run E.P w):=by
 unfold mF at hA
 split at hA
 ·rename_i hag hsz
  split at hA
  ·rename_i b o
   obtain ⟨L,hL,rfl⟩:=hx
   refine eg hA hM fun k C v hk hf hC=>?_
   simp only [Option.some.injEq,Prod.mk.injEq] at hf
   obtain ⟨rfl,rfl⟩:=hf
   have hB:=hM.blk b k hk
   rw [hL] at hB
   obtain ⟨v,h1,h2⟩:=hB.read (Blk.at_get hB.1 hC)
   refine ⟨v,bL ?_,h2⟩
   simp [Instr.loadAt,Instr.sureAddr,fT hag h1]
  ·rename_i k xs j
   obtain ⟨ad,rfl,ho,hr⟩:=hx
   refine am hA hM fun hC=>⟨_,bL (V:=.int k (xs.getD j 0)) ?_,rfl⟩
   have:w.cell? (ad.add j)=some (.int k (xs.getD j 0)):=by rw [hM.oldCell (by rw [cq];exact ho)];exact hr j hC
   simp [Instr.loadAt,Instr.sureAddr,fT hag this]
  ·rename_i s
   obtain ⟨ad,rfl,ho,hr⟩:=hx
   refine am hA hM fun hC=>⟨_,bL (V:=.string s) ?_,rfl⟩
   have:w.cell? ad=some (.string s):=by rw [hM.oldCell ho];exact hr
   simp [Instr.loadAt,Instr.sureAddr,fT hag this]
  ·rename_i xs
   obtain ⟨ad,v,rfl,ho,hr,hro⟩:=hx
   refine am hA hM fun hC=>⟨_,bL (V:=v) ?_,hro⟩
   have:w.cell? ad=some v:=by rw [hM.oldCell ho];exact hr
   simp [Instr.loadAt,Instr.sureAddr,fT hag this]
  ·cases hA
 ·rename_i s hag hsz
  split at hA
  ·rename_i b o
   obtain ⟨L,hL,rfl⟩:=hx
   refine eg hA hM fun k C v hk hf hC=>?_
   simp only [Option.some.injEq,Prod.mk.injEq] at hf
   obtain ⟨rfl,rfl⟩:=hf
   have hB:=hM.blk b k hk
   rw [hL] at hB
   obtain ⟨hC1,hC2⟩:=Blk.all_sub hC
   obtain ⟨cs,h1,h2,h3⟩:=hB.list hC1
   rw [← hC2] at h3
   refine ⟨.agg cs.toArray,bL ?_,h3.av⟩
   simp only [Instr.loadAt,Instr.sureAddr,pure_bind]
   exact fU hag hsz h1 h2
  ·rename_i k xs j
   obtain ⟨ad,rfl,ho,hr⟩:=hx
   refine am hA hM fun hC=>⟨_,bL (V:=.agg (bC k ((xs.drop j).take s)).toArray) ?_,by simp;omega,rfl⟩
   simp only [Instr.loadAt,Instr.sureAddr,pure_bind]
   refine fU hag hsz (by simp [bC];omega) fun i v hv=>?_
   simp only [bC,List.getElem?_map,Option.map_eq_some_iff] at hv
   obtain ⟨y,hy,rfl⟩:=hv
   rw [List.getElem?_take] at hy
   split at hy
   ·rename_i hi
    rw [List.getElem?_drop] at hy
    rw [fu,hM.oldCell (by rw [cq];exact ho),hr (j+i) (by omega)]
    simp [hy]
   ·cases hy
  ·rename_i x
   obtain ⟨ad,v,rfl,ho,h0,h1,hro⟩:=hx
   split at hA
   ·rename_i h2
    subst h2
    refine am hA hM fun hC=>⟨_,bL (V:=.agg #[.int .i64 x.1,v]) ?_,⟨_,rfl,⟨rfl,hro,trivial⟩⟩⟩
    simp only [Instr.loadAt,Instr.sureAddr,pure_bind]
    refine fU (cs:=[.int .i64 x.1,v]) hag hsz rfl fun i u hu=>?_
    match i,hu with
    |0,hu =>
     simp at hu
     subst hu
     rw [add_zero,hM.oldCell ho]
     exact h0
    |1,hu =>
     simp at hu
     subst hu
     rw [hM.oldCell (by rw [cq];exact ho)]
     exact h1
    |i+2,hu=>simp at hu
   ·cases hA
  ·cases hA
 ·cases hA
end
end Go.Vm
namespace Go.Vm
open Go
section
variable {E:Env} {σ:Sig} {nm:Nat} {M:Mem} {w:World} {A:Deed} {r:Result Next} {P:Program}
theorem iD (w:World) (g i:Nat) (arr:Array Value) (e:TypeId) (f:Nat × Nat) (v:Value) (hg:w.heap[g]?=some (.cells arr e f)) :
  (w.setCell ⟨g,i,none⟩ v).heap[g]?=some (.cells (arr.setIfInBounds i v) e f):=by
 simp only [World.setCell,Array.getElem?_modify,if_true,hg,Option.map_some,Option.isSome_none,Bool.false_eq_true,if_false]
theorem dL (g o e lo hi:Nat):∀ (vs:List Value) (i:Nat) (arr:Array Value) (w:World),w.heap[g]?=some (.cells arr e (lo,hi))→o+i+vs.length≤arr.size →
  (∀ v∈vs,v.oneCell'=true)→(∀ j,j<arr.size→¬ (lo≤j∧j<hi)) →
  ∃ w' arr',(storeCells ⟨g,o,none⟩ vs i).run P w=.ok () w'∧w'.heap[g]?=some (.cells arr' e (lo,hi))∧arr'.size=arr.size ∧
   (∀ j,arr'[j]?=if o+i≤j∧j<o+i+vs.length then vs[j-(o+i)]? else arr[j]?)∧(∀ g',g'≠g→w'.heap[g']?=w.heap[g']?)∧w'.heap.size=w.heap.size ∧
   w'.os=w.os∧w'.tape=w.tape∧w'.output=w.output
 |[],i,arr,w,hg,_,_,_=>⟨w,arr,by simp [storeCells],hg,rfl,fun j=>by rw [if_neg (by simp only [List.length_nil];omega)],fun _ _=>rfl,rfl,rfl,rfl,rfl⟩
 |v :: vs,i,arr,w,hg,hle,hone,hfz=>by
  simp only [List.length_cons] at hle
  have hlt:o+i<arr.size:=by omega
  have hc:w.cell? ((⟨g,o,none⟩:Addr).add i)=some arr[o+i]:=by rw [cI,fJ hg];exact Array.getElem?_eq_getElem hlt
  have hfr:w.frozen? ((⟨g,o,none⟩:Addr).add i)=false:=by
   rw [cI]
   simp only [World.frozen?,hg]
   have:=hfz (o+i) hlt
   simp;omega
  have h1:(store ((⟨g,o,none⟩:Addr).add i) v).run P w=.ok () (w.setCell ⟨g,o+i,none⟩ v):=by
   rw [run_store P w _ v .plain (hone v (by simp)),hc]
   rw [cI] at hfr ⊢
   simp only [hfr,Bool.false_eq_true,if_false]
  have hg1:=iD w g (o+i) arr e (lo,hi) v hg
  obtain ⟨w',arr',a1,a2,a3,a4,a5,a6,a7,a8,a9⟩:=dL g o e lo hi vs (i+1) (arr.setIfInBounds (o+i) v) (w.setCell ⟨g,o+i,none⟩ v) hg1 (by simp;omega)
   (fun u hu=>hone u (List.mem_cons_of_mem _ hu)) (by simpa using hfz)
  refine ⟨w',arr',?_,a2,by simpa using a3,?_,fun g' hg'=>?_,by rw [a6];simp,a7,a8,a9⟩
  ·simp only [storeCells,Sem.run_bind,h1,Result.andThen_ok]
   exact a1
  ·intro j
   rw [a4 j]
   by_cases hj:o+i≤j∧j<o+i+(v :: vs).length
   ·rw [if_pos hj]
    simp only [List.length_cons] at hj
    by_cases hj2:j=o+i
    ·subst hj2
     rw [if_neg (by omega)]
     simp [hlt]
    ·rw [if_pos (by omega)]
     have:j-(o+i)=(j-(o+(i+1)))+1:=by omega
     rw [this,List.getElem?_cons_succ]
   ·rw [if_neg hj]
    simp only [List.length_cons] at hj
    rw [if_neg (by omega),Array.getElem?_setIfInBounds_ne (by omega)]
  ·rw [a5 g' hg']
   exact heap_setCell_other w ⟨g,o+i,none⟩ g' v hg'
theorem dM {k:IntKind} {xs:List Int}:∀ v∈bC k xs,v.oneCell'=true:=by
 intro v hv
 simp only [bC,List.mem_map] at hv
 obtain ⟨x,_,rfl⟩:=hv
 rfl
theorem cW.one:∀ {l:List Sc} {vs:List Value},cW (ScR E σ) l vs→∀ u∈vs,u.oneCell'=true
 |[],[],_,u,hu=>by simp at hu
 |_ :: _,_ :: _,⟨h1,h2⟩,u,hu=>by
  rcases List.mem_cons.1 hu with rfl|h
  ·exact (jA h1).2
  ·exact cW.one h2 u h
theorem Blk.put_get {k k':Blk} {o m:Nat} {v:AV} {V:Value} {C:Prop} (hk:k.good) (hv:AVR E σ v V) (h:k.put o v=some (C,m,k')) (hC:C) :
  k'.good∧k'.len=k.len∧o+m≤k.len∧V.cells.toList.length=m∧(∀ u∈V.cells.toList,u.oneCell'=true) ∧
   ∀ j s,k'.get? j=some s→if o≤j∧j<o+m then ∃ u,V.cells.toList[j-o]?=some u∧ScR E σ s u else k.get? j=some s:=by
 unfold Blk.put at h
 split at h
 ·
  rename_i kd n xs k1 x
  split at h
  ·rename_i hkk
   subst hkk
   simp only [Option.some.injEq,Prod.mk.injEq] at h
   obtain ⟨rfl,rfl,rfl⟩:=h
   simp only [AVR,ScR] at hv
   subst hv
   simp only [Blk.good] at hk
   refine ⟨by simp [Blk.good,hk],rfl,by simp only [Blk.len];omega,by simp [Value.cells],fun u hu=>by simp [Value.cells] at hu;subst hu;rfl,fun j s hs=>?_⟩
   simp only [Blk.get?,Option.map_eq_some_iff] at hs ⊢
   obtain ⟨y,hy,rfl⟩:=hs
   by_cases hj:o≤j∧j<o+1
   ·have:j=o:=by omega
    subst this
    rw [if_pos hj]
    rw [List.getElem?_set_self (by omega)] at hy
    injection hy with hy
    subst hy
    exact ⟨.int kd x,by simp [Value.cells],rfl⟩
   ·rw [if_neg hj]
    rw [List.getElem?_set_ne (by omega)] at hy
    exact ⟨y,hy,rfl⟩
  ·cases h
 ·
  rename_i l sc
  simp only [Option.some.injEq,Prod.mk.injEq] at h
  obtain ⟨rfl,rfl,rfl⟩:=h
  have hone:=jA (show ScR E σ sc V from hv)
  refine ⟨trivial,by simp [Blk.len],by simp only [Blk.len];omega,by simp [hone.1],fun u hu=>by rw [hone.1] at hu;simp at hu;subst hu;exact hone.2,fun j s hs=>?_⟩
  simp only [Blk.get?] at hs ⊢
  by_cases hj:o≤j∧j<o+1
  ·have:j=o:=by omega
   subst this
   rw [if_pos hj]
   rw [List.getElem?_set_self (by simpa using hC)] at hs
   injection hs with hs
   subst hs
   exact ⟨V,by simp [hone.1],hv⟩
  ·rw [if_neg hj]
   rw [List.getElem?_set_ne (by omega)] at hs
   exact hs
 ·
  rename_i kd n xs k1 m1 ys
  split at h
  ·rename_i hkk
   subst hkk
   obtain ⟨hv1,rfl⟩:=hv
   simp only [Blk.good] at hk
   have hcells:(Value.agg (bC kd ys).toArray).cells.toList=bC kd ys:=by simp [Value.cells]
   cases hb:(Nat.beq m1 n && Nat.beq o 0)
   ·simp only [hb,cond_false,Option.some.injEq,Prod.mk.injEq] at h
    obtain ⟨rfl,rfl,rfl⟩:=h
    refine ⟨by simp [Blk.good,dy];omega,rfl,by simpa [Blk.len] using hC,by rw [hcells];simp [bC,hv1],by rw [hcells];exact dM,fun j s hs=>?_⟩
    simp only [Blk.get?,Option.map_eq_some_iff] at hs ⊢
    obtain ⟨y,hy,rfl⟩:=hs
    rw [hcells]
    unfold dy at hy
    by_cases hj:o≤j∧j<o+m1
    ·rw [if_pos hj]
     rw [List.append_assoc,List.getElem?_append_right (by simp;omega),List.getElem?_append_left (by simp;omega)] at hy
     refine ⟨.int kd y,?_,rfl⟩
     have:j-(xs.take o).length=j-o:=by simp;omega
     rw [this] at hy
     simp [bC,hy]
    ·rw [if_neg hj]
     refine ⟨y,?_,rfl⟩
     by_cases hj2:j<o
     ·rw [List.append_assoc,List.getElem?_append_left (by simp;omega),List.getElem?_take,if_pos hj2] at hy
      exact hy
     ·rw [List.getElem?_append_right (by simp;omega),List.getElem?_drop] at hy
      have:o+ys.length+(j-(xs.take o++ys).length)=j:=by simp;omega
      rw [this] at hy
      exact hy
   ·simp only [hb,cond_true,Option.some.injEq,Prod.mk.injEq] at h
    obtain ⟨rfl,rfl,rfl⟩:=h
    simp only [Bool.and_eq_true] at hb
    have h1:=Nat.eq_of_beq_eq_true hb.1
    have h2:=Nat.eq_of_beq_eq_true hb.2
    subst h1 h2
    refine ⟨hv1,rfl,by simp [Blk.len],by rw [hcells];simp [bC,hv1],by rw [hcells];exact dM,fun j s hs=>?_⟩
    simp only [Blk.get?,Option.map_eq_some_iff] at hs ⊢
    obtain ⟨y,hy,rfl⟩:=hs
    have:=(List.getElem?_eq_some_iff.1 hy).1
    rw [if_pos (by omega),hcells]
    exact ⟨.int kd y,by simp [bC,hy],rfl⟩
  ·cases h
 ·
  rename_i l k1 m1 ys
  simp only [Option.some.injEq,Prod.mk.injEq] at h
  obtain ⟨rfl,rfl,rfl⟩:=h
  obtain ⟨hv1,rfl⟩:=hv
  have hcells:(Value.agg (bC k1 ys).toArray).cells.toList=bC k1 ys:=by simp [Value.cells]
  refine ⟨trivial,by simp [Blk.len,dy];omega,by simpa [Blk.len] using hC,by rw [hcells];simp [bC,hv1],by rw [hcells];exact dM,fun j s hs=>?_⟩
  simp only [Blk.get?] at hs ⊢
  rw [hcells]
  unfold dy at hs
  by_cases hj:o≤j∧j<o+m1
  ·rw [if_pos hj]
   rw [List.append_assoc,List.getElem?_append_right (by simp;omega),List.getElem?_append_left (by simp;omega)] at hs
   have:j-(l.take o).length=j-o:=by simp;omega
   rw [this,List.getElem?_map,Option.map_eq_some_iff] at hs
   obtain ⟨y,hy,rfl⟩:=hs
   exact ⟨.int k1 y,by simp [bC,hy],rfl⟩
  ·rw [if_neg hj]
   by_cases hj2:j<o
   ·rw [List.append_assoc,List.getElem?_append_left (by simp;omega),List.getElem?_take,if_pos hj2] at hs
    exact hs
   ·rw [List.getElem?_append_right (by simp;omega),List.getElem?_drop] at hs
    have:o+(ys.map (Sc.i k1 ·)).length+(j-(l.take o++ys.map (Sc.i k1 ·)).length)=j:=by simp;omega
    rw [this] at hs
    exact hs
 ·
  rename_i l ss
  simp only [Option.some.injEq,Prod.mk.injEq] at h
  obtain ⟨rfl,rfl,rfl⟩:=h
  obtain ⟨arr,rfl,h2⟩:=hv
  have hlen:=h2.length
  refine ⟨trivial,by simp [Blk.len,dy];omega,by simpa [Blk.len] using hC,by simp [Value.cells,hlen],fun u hu=>h2.one u (by simpa [Value.cells] using hu),fun j s hs=>?_⟩
  simp only [Blk.get?] at hs ⊢
  unfold dy at hs
  by_cases hj:o≤j∧j<o+ss.length
  ·rw [if_pos hj]
   rw [List.append_assoc,List.getElem?_append_right (by simp;omega),List.getElem?_append_left (by simp;omega)] at hs
   have:j-(l.take o).length=j-o:=by simp;omega
   rw [this] at hs
   obtain ⟨u,hu,hr⟩:=h2.get _ _ hs
   exact ⟨u,by simpa [Value.cells] using hu,hr⟩
  ·rw [if_neg hj]
   by_cases hj2:j<o
   ·rw [List.append_assoc,List.getElem?_append_left (by simp;omega),List.getElem?_take,if_pos hj2] at hs
    exact hs
   ·rw [List.getElem?_append_right (by simp;omega),List.getElem?_drop] at hs
    have:o+ss.length+(j-(l.take o++ss).length)=j:=by simp;omega
    rw [this] at hs
    exact hs
 ·
  rename_i vk l sc
  split at h
  ·rename_i x hx
   simp only [Option.some.injEq,Prod.mk.injEq] at h
   obtain ⟨rfl,rfl,rfl⟩:=h
   have hone:=jA (show ScR E σ sc V from hv)
   refine ⟨trivial,by simp [Blk.len],by simp only [Blk.len];omega,by simp [hone.1],fun u hu=>by rw [hone.1] at hu;simp at hu;subst hu;exact hone.2,fun j s hs=>?_⟩
   simp only [Blk.get?,Option.map_eq_some_iff] at hs ⊢
   obtain ⟨y,hy,rfl⟩:=hs
   by_cases hj:o≤j∧j<o+1
   ·have:j=o:=by omega
    subst this
    rw [if_pos hj]
    rw [List.getElem?_set_self (by simpa using hC)] at hy
    injection hy with hy
    subst hy
    exact ⟨V,by simp [hone.1],VK.un_R hx hv⟩
   ·rw [if_neg hj]
    rw [List.getElem?_set_ne (by omega)] at hy
    exact ⟨y,hy,rfl⟩
  ·cases h
 ·
  rename_i l vk ys
  cases hb:Nat.beq o 0
  ·rw [hb] at h;cases h
  rw [hb] at h
  simp only [cond_true,Option.some.injEq,Prod.mk.injEq] at h
  obtain ⟨rfl,rfl,rfl⟩:=h
  obtain ⟨arr,rfl,h2⟩:=hv
  have ho:=Nat.eq_of_beq_eq_true hb
  subst ho
  have hlen:=h2.length
  simp only [List.length_map,Array.length_toList] at hlen
  refine ⟨trivial,hC,by simp [Blk.len],by simp [Value.cells];omega,fun u hu=>h2.one u (by simpa [Value.cells] using hu),fun j s hs=>?_⟩
  simp only [Blk.get?] at hs ⊢
  have hj:j<ys.length:=by
   rw [Option.map_eq_some_iff] at hs
   obtain ⟨y,hy,_⟩:=hs
   exact (List.getElem?_eq_some_iff.1 hy).1
  rw [if_pos (by omega)]
  obtain ⟨u,hu,hr⟩:=h2.get j s (by simpa using hs)
  exact ⟨u,by simpa [Value.cells] using hu,hr⟩
 ·cases h
theorem Blk.putS_get {k k':Blk} {o m:Nat} {v:AV} {V:Value} {C:Prop} (hk:k.good) (hv:AVR E σ v V) (h:k.putS o v=some (C,m,k')) (hC:C) :
  k'.good∧k'.len=k.len∧o+m≤k.len∧V.cells.toList.length=m∧(∀ u∈V.cells.toList,u.oneCell'=true) ∧
   ∀ j s,k'.get? j=some s→if o≤j∧j<o+m then ∃ u,V.cells.toList[j-o]?=some u∧ScR E σ s u else k.get? j=some s:=by
 unfold Blk.putS at h
 split at h
 ·rename_i kd n xs k1 m1 ys
  split at h
  ·rename_i hkk
   subst hkk
   obtain ⟨hv1,rfl⟩:=hv
   simp only [Blk.good] at hk
   have hcells:(Value.agg (bC kd ys).toArray).cells.toList=bC kd ys:=by simp [Value.cells]
   simp only [Option.some.injEq,Prod.mk.injEq] at h
   obtain ⟨rfl,rfl,rfl⟩:=h
   refine ⟨by simp [Blk.good,dy];omega,rfl,by simpa [Blk.len] using hC,by rw [hcells];simp [bC,hv1],by rw [hcells];exact dM,fun j s hs=>?_⟩
   simp only [Blk.get?,Option.map_eq_some_iff] at hs ⊢
   obtain ⟨y,hy,rfl⟩:=hs
   rw [hcells]
   unfold dy at hy
   by_cases hj:o≤j∧j<o+m1
   ·rw [if_pos hj]
    rw [List.append_assoc,List.getElem?_append_right (by simp;omega),List.getElem?_append_left (by simp;omega)] at hy
    refine ⟨.int kd y,?_,rfl⟩
    have:j-(xs.take o).length=j-o:=by simp;omega
    rw [this] at hy
    simp [bC,hy]
   ·rw [if_neg hj]
    refine ⟨y,?_,rfl⟩
    by_cases hj2:j<o
    ·rw [List.append_assoc,List.getElem?_append_left (by simp;omega),List.getElem?_take,if_pos hj2] at hy
     exact hy
    ·rw [List.getElem?_append_right (by simp;omega),List.getElem?_drop] at hy
     have:o+ys.length+(j-(xs.take o++ys).length)=j:=by simp;omega
     rw [this] at hy
     exact hy
  ·cases h
 ·exact Blk.put_get hk hv h hC
end
end Go.Vm
namespace Go.Vm
open Go
section
variable {E:Env} {σ:Sig} {nm:Nat} {M:Mem} {w:World} {A:Deed} {r:Result Next} {P:Program}
theorem jN {t:TypeId} {x v:AV} {X V:Value} (hx:AVR E σ x X) (hv:AVR E σ v V) (hM:MemR E σ M w) (hA:jm E.P t x v=some A) :
  dZ E σ nm M A ((do Instr.storeAt t X V;pure .skip:Sem Next).run E.P w):=by
 unfold jm at hA
 split at hA
 ·rename_i s b o hsz
  obtain ⟨L,hL,rfl⟩:=hx
  refine ly hA fun k C k' hk hf hC=>?_
  split at hf
  ·rename_i C1 m k1 hput
   simp only [Option.some.injEq,Prod.mk.injEq] at hf
   obtain ⟨rfl,rfl⟩:=hf
   obtain ⟨hC1,rfl⟩:=hC
   have hB:=hM.blk b k hk
   rw [hL] at hB
   obtain ⟨p1,p2,p3,p4,p5,p6⟩:=Blk.put_get hB.1 hv hput hC1
   have hB':=hB
   obtain ⟨hgood,arr,elem,lo,hi,h1,h2,h3,h4,h5,h6⟩:=hB'
   obtain ⟨w',arr',a1,a2,a3,a4,a5,a6,a7,a8,a9⟩:=dL (P:=E.P) L.g (L.β+o) elem lo hi V.cells.toList 0 arr w h1 (by omega) p5 (by rw [h2];exact h5.1)
   refine ⟨w',?_,?_⟩
   ·have hcs:V.cells.size=m:=by simpa using p4
    simp only [Instr.storeAt,Instr.sureAddr,pure_bind,storeVar,Sem.run_bind,cg hsz,Result.andThen_ok,hcs,ne_eq,not_true_eq_false,if_false]
    simp [a1]
   ·refine hM.turn hk hL h1 a2 a3 a5 a6 a7 a8 a9 p1 p2 fun j sc hs=>?_
    have hj:=Blk.get?_lt p1 hs
    have:=p6 j sc hs
    rw [a4]
    by_cases hjo:o≤j∧j<o+m
    ·rw [if_pos hjo] at this
     obtain ⟨u,hu,hr⟩:=this
     rw [if_pos (by omega)]
     refine ⟨u,?_,hr⟩
     have:L.β+j-(L.β+o+0)=j-o:=by omega
     rw [this];exact hu
    ·rw [if_neg hjo] at this
     rw [if_neg (by omega)]
     exact h6 j sc this
  ·cases hf
 ·cases hA
theorem MemR.cells {w':World} {k:Blk} {arr:Array Value} {elem lo hi:Nat} (hM:MemR E σ M w) (hn:σ nm=.unset)
  (hw:w'.heap=w.heap.push (.cells arr elem (lo,hi))) (hos:w'.os=w.os) (htape:w'.tape=w.tape) (hout:w'.output=w.output)
  (hfz:pD lo hi arr.size) {l:List Value} (hk:cT E σ k l) (hl:∀ (j:Nat) (v:Value),l[j]?=some v→arr[j]?=some v) (hle:l.length≤arr.size) :
  MemR E (upd σ nm (.at ⟨w.heap.size,0,arr.size⟩)) (cd nm k M) w':=by
 obtain ⟨h1,h2,h3⟩:=hk
 refine hM.new hn hw hos htape hout h1 (by omega) hfz fun j s hs=>?_
 obtain ⟨v,hv,hr⟩:=h3 j s hs
 exact ⟨v,hl j v hv,hr⟩
theorem iZ {C:Prop} {k:Blk} (hM:MemR E σ M w) (hn:∀ m,nm≤m→m<nm+16→σ m=.unset) (hA:jO nm C k (.sc (.p nm 0))=some A)
  {elem:TypeId} {cs:Array Value} (hr:C→r=.ok (.value (.pointer (some ⟨w.heap.size,0,none⟩))) { w with heap:=w.heap.push (.cells cs elem) }) (hk:C→cT E σ k cs.toList):dZ E σ nm M A r:=by
 refine ek hA hM hn fun hC=>⟨_,_,upd σ nm (.at ⟨w.heap.size,0,cs.size⟩),hr hC,cP _ (hn nm (Nat.le_refl _) (by omega)),fun m hm=>bG σ _ hm,⟨_,bq ..,by simp⟩,?_⟩
 exact hM.cells (hn nm (Nat.le_refl _) (by omega)) rfl rfl rfl rfl ⟨fun j hj=>by omega,Nat.le_refl _⟩ (hk hC) (fun j v hv=>by simpa using hv) (by simp)
theorem le {t:TypeId} (hM:MemR E σ M w) (hn:∀ m,nm≤m→m<nm+16→σ m=.unset) (hA:jl E.P t nm=some A) :
  dZ E σ nm M A ((do pure (.value (← Instr.alloc t true (.tuple #[]))):Sem Next).run E.P w):=by
 unfold jl at hA
 split at hA
 ·rename_i z hz
  split at hA
  ·rename_i k hk
   refine iZ hM hn hA (elem:=t) (cs:=z.cells) (fun _=>bL ?_) (fun _=>dp hk)
   simp only [Instr.alloc,Sem.run_bind,gJ hz,Result.andThen_ok]
   simp [newVar,newRow]
  ·cases hA
 ·cases hA
theorem pR {t:TypeId} {v:AV} {V:Value} (hv:AVR E σ v V) (hM:MemR E σ M w) (hn:∀ m,nm≤m→m<nm+16→σ m=.unset) (hA:nv v nm=some A) :
  dZ E σ nm M A ((do pure (.value (← Instr.box t V)):Sem Next).run E.P w):=by
 unfold nv at hA
 split at hA
 ·rename_i k hk
  refine iZ hM hn hA (elem:=t) (cs:=V.cells) (fun _=>bL ?_) (fun _=>AV.blk_R hv hk)
  simp [Instr.box,newVar,newRow]
 ·cases hA
theorem gX (off:Nat):∀ (vs:List Value) (i:Nat) (cs:Array Value) (j:Nat),off+i+vs.length≤cs.size →
  ((vs.zipIdx i).foldl (fun (cs:Array Value) (x:Value × Nat)=>cs.setIfInBounds (off+x.2) x.1) cs).size=cs.size ∧
  ((vs.zipIdx i).foldl (fun (cs:Array Value) (x:Value × Nat)=>cs.setIfInBounds (off+x.2) x.1) cs)[j]?=if off+i≤j∧j<off+i+vs.length then vs[j-(off+i)]? else cs[j]?
 |[],i,cs,j,_=>by refine ⟨rfl,?_⟩;rw [if_neg (by simp only [List.length_nil];omega)];rfl
 |v :: vs,i,cs,j,h=>by
  simp only [List.length_cons] at h
  have ih:=gX off vs (i+1) (cs.setIfInBounds (off+i) v) j (by simp;omega)
  simp only [List.zipIdx_cons,List.foldl_cons]
  refine ⟨by simpa using ih.1,?_⟩
  rw [ih.2]
  by_cases hj:off+i≤j∧j<off+i+(v :: vs).length
  ·rw [if_pos hj]
   simp only [List.length_cons] at hj
   by_cases hj2:j=off+i
   ·subst hj2
    rw [if_neg (by omega),Array.getElem?_setIfInBounds_self]
    simp;omega
   ·rw [if_pos (by omega)]
    have:j-(off+i)=(j-(off+(i+1)))+1:=by omega
    rw [this,List.getElem?_cons_succ]
  ·rw [if_neg hj]
   simp only [List.length_cons] at hj
   rw [if_neg (by omega),Array.getElem?_setIfInBounds_ne (by omega)]
theorem kI (place:Nat→Option (Nat × Nat)):∀ (cB:List (Nat × AV)) (vs:List (Nat × Value)) (k k':Blk) (cs:Array Value) (C:Prop),
  cW (fun (p:Nat × AV) (q:Nat × Value)=>p.1=q.1∧AVR E σ p.2 q.2) cB vs→cT E σ k cs.toList→it place k cB=some (C,k')→C →
  ∃ cs',Instr.fill place cs vs=some cs'∧cT E σ k' cs'.toList∧cs'.size=cs.size
 |[],[],k,k',cs,C,_,hk,h,_=>by
  simp only [it,Option.some.injEq,Prod.mk.injEq] at h
  obtain ⟨_,rfl⟩:=h
  exact ⟨cs,rfl,hk,rfl⟩
 |(i,v) :: cB,(i',V) :: vs,k,k',cs,C,⟨⟨hi,hv⟩,hrest⟩,hk,h,hC=>by
  simp only at hi hv
  subst hi
  simp only [it] at h
  split at h
  ·cases h
  ·rename_i off size hp
   split at h
   ·cases h
   ·rename_i C1 m k1 hput
    split at h
    ·cases h
    ·rename_i C2 k2 hfill
     simp only [Option.some.injEq,Prod.mk.injEq] at h
     obtain ⟨rfl,rfl⟩:=h
     obtain ⟨⟨hC1,rfl⟩,hC2⟩:=hC
     obtain ⟨g1,g2,g3⟩:=hk
     obtain ⟨p1,p2,p3,p4,p5,p6⟩:=Blk.put_get g1 hv hput hC1
     have hsz:V.cells.size=m:=by simpa using p4
     have hcs:cs.toList.length=cs.size:=by simp
     have hle:off+V.cells.toList.length≤cs.size:=by omega
     let cs1:Array Value:=V.cells.zipIdx.foldl (fun cs (x:Value × Nat)=>cs.setIfInBounds (off+x.2) x.1) cs
     have e1:cs1=(V.cells.toList.zipIdx 0).foldl (fun (cs:Array Value) (x:Value × Nat)=>cs.setIfInBounds (off+x.2) x.1) cs:=by
      simp only [cs1]
      rw [← Array.foldl_toList,Array.toList_zipIdx]
     have hs1:cs1.size=cs.size:=by rw [e1];exact (gX off V.cells.toList 0 cs 0 (by omega)).1
     have hg:∀ j,cs1[j]?=if off≤j∧j<off+m then V.cells.toList[j-off]? else cs[j]?:=by
      intro j
      rw [e1,(gX off V.cells.toList 0 cs j (by omega)).2,p4]
      rfl
     have hk1:cT E σ k1 cs1.toList:=by
      refine ⟨p1,by rw [p2,g2];simp [hs1],fun j s hs=>?_⟩
      have:=p6 j s hs
      simp only [Array.getElem?_toList]
      rw [hg]
      by_cases hj:off≤j∧j<off+m
      ·rw [if_pos hj] at this ⊢
       exact this
      ·rw [if_neg hj] at this ⊢
       have:=g3 j s this
       simpa using this
     obtain ⟨cs',q1,q2,q3⟩:=kI place cB vs k1 k2 cs1 C2 hrest hk1 hfill hC2
     refine ⟨cs',?_,q2,by rw [q3,hs1]⟩
     simp only [Instr.fill,hp]
     have:(V.cells.size≠m || off+V.cells.size>cs.size)=false:=by
      simp [hsz];omega
     simp only [hsz,ne_eq,not_true_eq_false,decide_false,Bool.false_or]
     rw [if_neg (by simp;omega)]
     exact q1
 |[],_ :: _,_,_,_,_,h,_,_,_=>h.elim
 |_ :: _,[],_,_,_,_,h,_,_,_=>h.elim
end
end Go.Vm
namespace Go.Vm
open Go
section
variable {E:Env} {σ:Sig} {nm:Nat} {M:Mem} {w:World} {A:Deed} {r:Result Next} {P:Program}
abbrev lb (E:Env) (σ:Sig) (cB:List (Nat × AV)) (vs:List (Nat × Value)):Prop:=cW (fun (p:Nat × AV) (q:Nat × Value)=>p.1=q.1∧AVR E σ p.2 q.2) cB vs
theorem jE:∀ (fs:List Field) (ps:List (Nat × Nat)),fI P fs=some ps→(fs.mapM fun f=>(do pure (f.offset,← sizeOf f.type):Sem (Nat × Nat))).run P w=.ok ps w
 |[],ps,h=>by simp only [fI,Option.some.injEq] at h;subst h;simp
 |f :: fs,ps,h=>by
  simp only [fI] at h
  split at h
  ·cases h
  ·rename_i s hs
   split at h
   ·cases h
   ·rename_i l hl
    simp only [Option.some.injEq] at h
    subst h
    simp only [List.mapM_cons,Sem.run_bind,cg hs,Result.andThen_ok,Sem.run_pure,jE fs l hl]
theorem ln {t:TypeId} {cB:List (Nat × AV)} {vs:Array (Nat × Value)} (hp:lb E σ cB vs.toList) (hM:MemR E σ M w) (hA:kR E.P t cB=some A) :
  dZ E σ nm M A ((do pure (.value (← Instr.build t vs)):Sem Next).run E.P w):=by
 unfold kR at hA
 split at hA
 ·rename_i z fs hz ht
  split at hA
  ·cases hA
  ·rename_i ps hps
   split at hA
   ·cases hA
   ·rename_i k0 hk0
    split at hA
    ·rename_i C k hf
     refine am hA hM fun hC=>?_
     obtain ⟨cs',h1,h2,h3⟩:=kI (fun i=>ps[i]?) cB vs.toList k0 k z.cells C hp (dp hk0) hf hC
     refine ⟨.agg cs',bL ?_,by simpa using h2.av⟩
     have hm:(fs.mapM fun f=>(do pure (f.offset,← sizeOf f.type):Sem (Nat × Nat))).run E.P w=.ok ps.toArray w:=by
      rw [Array.mapM_eq_mapM_toList]
      simp only [Sem.run_map,jE fs.toList ps hps,Result.andThen_ok]
     simp only [Instr.build,Sem.run_bind,gJ hz,aq ht,Result.andThen_ok,hm]
     have:(fun x:Nat=>ps.toArray[x]?)=fun i:Nat=>ps[i]?:=by funext i;simp
     simp only [this,h1]
     rfl
    ·cases hA
 ·rename_i z len e hz ht
  split at hA
  ·cases hA
  ·rename_i s hs
   split at hA
   ·cases hA
   ·rename_i k0 hk0
    split at hA
    ·rename_i C k hf
     refine am hA hM fun hC=>?_
     obtain ⟨cs',h1,h2,h3⟩:=kI (fun i=>some (i*s,s)) cB vs.toList k0 k z.cells C hp (dp hk0) hf hC
     refine ⟨.agg cs',bL ?_,by simpa using h2.av⟩
     simp only [Instr.build,Sem.run_bind,gJ hz,aq ht,Result.andThen_ok,cg hs,h1]
     rfl
    ·cases hA
 ·cases hA
theorem eP {α:Type} (l:List α):∀ n,(cQ l n).length=n*l.length
 |0=>by simp [cQ]
 |n+1=>by simp [cQ,eP l n,Nat.succ_mul,Nat.add_comm]
theorem gv {α:Type} (l:List α) (hl:0<l.length):∀ n j,j<n*l.length→(cQ l n)[j]?=l[j % l.length]?
 |0,j,h=>by omega
 |n+1,j,h=>by
  simp only [cQ]
  by_cases hj:j<l.length
  ·rw [List.getElem?_append_left hj,Nat.mod_eq_of_lt hj]
  ·rw [List.getElem?_append_right (by omega),gv l hl n (j-l.length) (by rw [Nat.add_mul,Nat.one_mul] at h;omega)]
   congr 1
   rw [← Nat.mod_eq_sub_mod (by omega)]
theorem gK (z:Array Value) (n:Nat) (hz:0<z.size):((Array.range (n*z.size)).map (z[· % z.size]!)).toList=cQ z.toList n:=by
 apply List.ext_getElem?
 intro j
 by_cases hj:j<n*z.size
 ·rw [gv z.toList (by simpa using hz) n j (by simpa using hj)]
  have:j % z.size<z.size:=Nat.mod_lt _ hz
  simp [hj,this]
 ·rw [List.getElem?_eq_none (by simp;omega),List.getElem?_eq_none (by rw [eP];simp;omega)]
theorem iG {t:TypeId} {len:Nat} {cB:List (Nat × AV)} {vs:Array (Nat × Value)} (hp:lb E σ cB vs.toList) (hM:MemR E σ M w) (hn:∀ m,nm≤m→m<nm+16→σ m=.unset)
  (hA:et E.P t len cB nm=some A):dZ E σ nm M A ((do pure (.value (← Instr.buildSlice t len vs)):Sem Next).run E.P w):=by
 unfold et at hA
 split at hA
 ·rename_i e ht
  split at hA
  ·rename_i s z hs hz
   cases h0:Nat.beq s 0
   ·simp only [h0,cond_false] at hA
    split at hA
    ·cases hA
    ·rename_i k0 hk0
     split at hA
     ·rename_i C k hf
      have hs0:s≠0:=Nat.ne_of_beq_eq_false h0
      refine ek hA hM hn fun hC=>?_
      obtain ⟨hC1,hC2,hC3⟩:=hC
      have hrep:=gK z.cells len (by omega)
      obtain ⟨cs',h1,h2,h3⟩:=kI (fun i=>some (i*s,s)) cB vs.toList k0 k ((Array.range (len*s)).map (z.cells[· % z.cells.size]!)) C hp
       (by have:=dp (E:=E) (σ:=σ) hk0;rw [← hC3,hrep];exact this) hf hC1
      have hsize:cs'.size=len*s:=by rw [h3];simp
      refine ⟨.slice (some ⟨w.heap.size,0,none⟩) len len,{ w with heap:=w.heap.push (.cells cs' e) },upd σ nm (.at ⟨w.heap.size,0,cs'.size⟩),bL ?_,cP _ (hn nm (Nat.le_refl _) (by omega)),fun m hm=>bG σ _ hm,?_,?_⟩
      ·unfold Instr.buildSlice
       simp only [Sem.run_bind,aq ht,Result.andThen_ok,cg hs]
       rw [if_neg (by omega)]
       by_cases hl:len*s=0
       ·simp only [hl,if_true,Sem.run_pure,Result.andThen_ok]
        rw [hl] at h1
        have e0:∀ f:Nat→Value,(Array.range 0).map f=#[]:=fun f=>by simp [Array.range]
        simp only [e0] at h1
        simp only [pure_bind,e0,h1]
        simp [newRow]
       ·simp only [hl,if_false,Sem.run_bind,gJ hz,Result.andThen_ok,Sem.run_pure]
        simp [h1,newRow]
      ·refine .inr ⟨⟨w.heap.size,0,cs'.size⟩,len,bq ..,by simp,Nat.le_refl _,by simp only;omega,by simp only;omega⟩
      ·exact hM.cells (hn nm (Nat.le_refl _) (by omega)) rfl rfl rfl rfl ⟨fun j hj=>by omega,Nat.le_refl _⟩ h2 (fun j v hv=>by simpa using hv) (by simp)
     ·cases hA
   ·simp only [h0,cond_true] at hA
    cases hA
  ·cases hA
 ·cases hA
theorem ig {k:Blk} {cs:List Value} {t:TypeId} {a:Bool} {o s:Nat} (hk:cT E σ k cs) (ha:eL P t=some a) (hs:dD P t=some s) (hC:(k.part a o s).1) :
  ∃ V,(part t cs.toArray o).run P w=.ok V w∧AVR E σ (k.part a o s).2 V:=by
 obtain ⟨g1,g2,g3⟩:=hk
 cases a with
 |true =>
  simp only [Blk.part] at hC ⊢
  obtain ⟨h1,h2,h3,h4⟩:=Blk.sub_get g1 hC
  have hk2:cT E σ (k.sub o s).2 ((cs.drop o).take s):=by
   refine ⟨h1,by simp;omega,fun j sc hsc=>?_⟩
   have hj:=Blk.get?_lt h1 hsc
   rw [h2] at hj
   rw [h4 j hj] at hsc
   obtain ⟨v,hv,hr⟩:=g3 _ _ hsc
   exact ⟨v,by rw [List.getElem?_take,if_pos hj,List.getElem?_drop];exact hv,hr⟩
  refine ⟨.agg ((cs.drop o).take s).toArray,?_,hk2.av⟩
  unfold part
  simp only [Sem.run_bind,ju ha,Result.andThen_ok,if_true,cg hs,Sem.run_pure]
  congr 2
  rw [List.extract_toArray,List.extract_eq_take_drop,Nat.add_sub_cancel_left]
 |false =>
  simp only [Blk.part] at hC ⊢
  obtain ⟨v,hv,hr⟩:=g3 o _ (Blk.at_get g1 hC)
  refine ⟨v,?_,hr⟩
  unfold part
  simp [ju ha,hv]
theorem ls {t:TypeId} {x:AV} {X:Value} {f:Nat} (hx:AVR E σ x X) (hM:MemR E σ M w) (hA:kS E.P t x f=some A) :
  dZ E σ nm M A ((do pure (.value (← Instr.field t X f)):Sem Next).run E.P w):=by
 unfold kS at hA
 split at hA
 ·rename_i fs ht
  split at hA
  ·rename_i fd hfd
   have hf:fs[f]?=some fd:=by simpa using hfd
   split at hA
   ·rename_i a s k n xs ha hs
    obtain ⟨hx1,rfl⟩:=hx
    refine am hA hM fun hC=>?_
    obtain ⟨V,h1,h2⟩:=ig (w:=w) (E:=E) (σ:=σ) (cv hx1) ha hs hC
    refine ⟨V,bL ?_,h2⟩
    simp only [Instr.field,Sem.run_bind,aq ht,Result.andThen_ok,hf,asAgg,Sem.run_pure]
    exact h1
   ·rename_i a s l ha hs
    obtain ⟨arr,rfl,hx2⟩:=hx
    refine am hA hM fun hC=>?_
    obtain ⟨V,h1,h2⟩:=ig (w:=w) (E:=E) (σ:=σ) (dJ hx2) ha hs hC
    refine ⟨V,bL ?_,h2⟩
    simp only [Instr.field,Sem.run_bind,aq ht,Result.andThen_ok,hf,asAgg,Sem.run_pure]
    exact h1
   ·cases hA
  ·cases hA
 ·cases hA
theorem bV (x:ByteArray):(bt x).length=x.size:=by simp [bt]
theorem nM (x:ByteArray) (i:Nat) (h:i<x.size):(bt x).getD i 0=((x[i]'h).toNat:Int):=by
 have:i<x.data.toList.length:=by simpa using h
 simp only [bt,List.getD_eq_getElem?_getD,List.getElem?_map,List.getElem?_eq_getElem this,Option.map_some,Option.getD_some]
 rfl
theorem lp {t:TypeId} {x ix:AV} {X IX:Value} (hx:AVR E σ x X) (hix:AVR E σ ix IX) (hM:MemR E σ M w) (hA:kP E.P t x ix=some A) :
  dZ E σ nm M A ((do pure (.value (← Instr.index t X IX)):Sem Next).run E.P w):=by
 unfold kP at hA
 split at hA
 ·rename_i n e k m xs kk i ht
  simp only [AVR,ScR] at hix;subst hix
  obtain ⟨hx1,rfl⟩:=hx
  split at hA
  ·rename_i a s ha hs
   refine am hA hM fun hC=>?_
   obtain ⟨hi,hC⟩:=hC
   obtain ⟨V,h1,h2⟩:=ig (w:=w) (E:=E) (σ:=σ) (cv hx1) ha hs hC
   refine ⟨V,bL ?_,h2⟩
   simp only [Instr.index,asIntOf,Sem.run_bind,Sem.run_pure,Result.andThen_ok,aq ht,if_pos hi,cg hs]
   rw [cp,Nat.zero_add] at h1
   exact h1
  ·cases hA
 ·rename_i n e l kk i ht
  simp only [AVR,ScR] at hix;subst hix
  obtain ⟨arr,rfl,hx2⟩:=hx
  split at hA
  ·rename_i a s ha hs
   refine am hA hM fun hC=>?_
   obtain ⟨hi,hC⟩:=hC
   obtain ⟨V,h1,h2⟩:=ig (w:=w) (E:=E) (σ:=σ) (dJ hx2) ha hs hC
   refine ⟨V,bL ?_,h2⟩
   simp only [Instr.index,asIntOf,Sem.run_bind,Sem.run_pure,Result.andThen_ok,aq ht,if_pos hi,cg hs]
   rw [cp,Nat.zero_add] at h1
   simpa using h1
  ·cases hA
 ·rename_i n e vk l kk i ht
  simp only [AVR,ScR] at hix;subst hix
  have hx':=AV.blk_R hx rfl
  obtain ⟨arr,rfl,_⟩:=hx
  split at hA
  ·rename_i a s ha hs
   refine am hA hM fun hC=>?_
   obtain ⟨hi,hC⟩:=hC
   obtain ⟨V,h1,h2⟩:=ig (w:=w) (E:=E) (σ:=σ) hx' ha hs hC
   refine ⟨V,bL ?_,h2⟩
   simp only [Instr.index,asIntOf,Sem.run_bind,Sem.run_pure,Result.andThen_ok,aq ht,if_pos hi,cg hs]
   rw [cp,Nat.zero_add] at h1
   simpa [Value.cells] using h1
  ·cases hA
 ·rename_i s kk i ht
  simp only [AVR,ScR] at hx hix;subst hx hix
  refine am hA hM fun hC=>?_
  obtain ⟨h0,h1⟩:=hC
  have hlt:i.toNat<s.size:=by omega
  refine ⟨.int .u8 (lx s i),bL ?_,rfl⟩
  have hg:s[i.toNat]?=some s[i.toNat]:=getElem?_pos s i.toNat hlt
  simp only [Instr.index,asIntOf,Sem.run_bind,Sem.run_pure,Result.andThen_ok,aq ht,if_pos h0,hg]
  simp only [lx,nM s i.toNat hlt]
 ·cases hA
theorem oX {t:TypeId} {ats:Array TypeId} {ty:TypeId} {x:AV} {X:Value} (hat:ats[0]?=some t) (hx:AVR E σ x X) (hM:MemR E σ M w) (hA:pF E.P t x=some A) :
  dZ E σ nm M A ((do pure (.value (← Builtin.len_ ats ty #[X])):Sem Next).run E.P w):=by
 unfold pF at hA
 split at hA
 ·rename_i s ht
  simp only [AVR,ScR] at hx;subst hx
  exact am hA hM fun hC=>⟨.int .i64 s.size,bL (by simp [Builtin.len_,hat,aq ht,goInt]),rfl⟩
 ·rename_i _x n e ht
  exact am hA hM fun hC=>⟨.int .i64 n,bL (by simp [Builtin.len_,hat,aq ht,goInt]),rfl⟩
 ·rename_i e b off len es cap ht
  refine am hA hM fun hC=>⟨.int .i64 len,bL ?_,rfl⟩
  rcases hx with ⟨rfl,_,B,rfl⟩|⟨L,c,_,rfl,_⟩
  ·simp [Builtin.len_,hat,aq ht,goInt]
  ·simp [Builtin.len_,hat,aq ht,goInt]
 ·rename_i e ht
  simp only [AVR,ScR] at hx;subst hx
  exact am hA hM fun hC=>⟨.int .i64 0,bL (by simp [Builtin.len_,hat,aq ht,goInt]),rfl⟩
 ·rename_i e k xs ht
  obtain ⟨B,c,rfl,_⟩:=hx
  exact am hA hM fun hC=>⟨.int .i64 xs.length,bL (by simp [Builtin.len_,hat,aq ht,goInt]),rfl⟩
 ·rename_i e xs ht
  obtain ⟨B,c,rfl,_⟩:=hx
  exact am hA hM fun hC=>⟨.int .i64 xs.length,bL (by simp [Builtin.len_,hat,aq ht,goInt]),rfl⟩
 ·rename_i e xs ht
  obtain ⟨B,c,rfl,_⟩:=hx
  exact am hA hM fun hC=>⟨.int .i64 xs.length,bL (by simp [Builtin.len_,hat,aq ht,goInt]),rfl⟩
 ·rename_i e xs ht
  obtain ⟨B,c,rfl,_⟩:=hx
  exact am hA hM fun hC=>⟨.int .i64 xs.length,bL (by simp [Builtin.len_,hat,aq ht,goInt]),rfl⟩
 ·cases hA
theorem oI {ats:Array TypeId} {ty:TypeId} {xs:List AV} {Xs:Array Value} (hx:cW (AVR E σ) xs Xs.toList) (hM:MemR E σ M w) (hA:nu xs=some A) :
  dZ E σ nm M A ((do pure (.value (← Builtin.min_ ats ty Xs)):Sem Next).run E.P w):=by
 unfold nu at hA
 split at hA
 ·rename_i k x k' y
  obtain ⟨L⟩:=Xs
  simp only at hx
  match L,hx with
  |[X,Y],⟨h1,h2,_⟩ =>
   simp only [AVR,ScR] at h1 h2;subst h1 h2
   exact am hA hM fun hC=>⟨.int k (bU x y),bL (by simp [Builtin.min_,Builtin.min2,bU]),rfl⟩
 ·rename_i k x k' y k'' z
  obtain ⟨L⟩:=Xs
  simp only at hx
  match L,hx with
  |[X,Y,Z],⟨h1,h2,h3,_⟩ =>
   simp only [AVR,ScR] at h1 h2 h3;subst h1 h2 h3
   exact am hA hM fun hC=>⟨.int k (bU (bU x y) z),bL (by simp [Builtin.min_,Builtin.min2];rfl),rfl⟩
 ·cases hA
theorem np {ats:Array TypeId} {ty:TypeId} {xs:List AV} {Xs:Array Value} (hx:cW (AVR E σ) xs Xs.toList) (hM:MemR E σ M w) (hA:oe xs=some A) :
  dZ E σ nm M A ((do pure (.value (← Builtin.max_ ats ty Xs)):Sem Next).run E.P w):=by
 unfold oe at hA
 split at hA
 ·rename_i k x k' y
  obtain ⟨L⟩:=Xs
  simp only at hx
  match L,hx with
  |[X,Y],⟨h1,h2,_⟩ =>
   simp only [AVR,ScR] at h1 h2;subst h1 h2
   exact am hA hM fun hC=>⟨.int k (qS x y),bL (by simp [Builtin.max_,Builtin.max2,qS]),rfl⟩
 ·cases hA
end
end Go.Vm
namespace Go.Vm
open Go
section
variable {E:Env} {σ:Sig} {nm:Nat} {M:Mem} {w:World} {A:Deed} {r:Result Next} {P:Program}
def ga (E:Env) (σ:Sig):Option AV→Option Value→Prop
 |none,none=>True
 |some v,some V=>AVR E σ v V
 |_,_=>False
theorem fV {x:Option AV} {X:Option Value} {d:Int} {i:Int} {y dn:Nat} {code:BoundsCode} (hx:ga E σ x X) (h:bnd d x=some i) (hd:d=(dn:Int)) (h0:0≤i) (h1:i≤(y:Int)) :
  (match X with|some v=>Instr.sliceBound v y code|none=>pure dn:Sem Nat).run P w=.ok i.toNat w:=by
 cases x with
 |none =>
  cases X with
  |none=>simp only [bnd,Option.some.injEq] at h;simp only [Sem.run_pure];congr 1;omega
  |some V=>exact hx.elim
 |some v =>
  cases X with
  |none=>exact hx.elim
  |some V =>
   cases v with
   |sc s =>
    cases s with
    |i k n =>
     simp only [bnd,Option.some.injEq] at h
     subst h
     simp only [ga,AVR,ScR] at hx
     subst hx
     simp [Instr.sliceBound,asIntOf,h0,h1]
    |_=>simp [bnd] at h
   |_=>simp [bnd] at h
theorem df {lo hi:Option AV} {LO HI:Option Value} {l h:Int} {b:Bool} {len cap:Nat} (hlo:ga E σ lo LO) (hhi:ga E σ hi HI) (hl:bnd 0 lo=some l) (hh:bnd len hi=some h)
  (h0:0≤l) (h1:l≤h) (h2:h≤(len:Int)) (h3:len≤cap):(Instr.sliceBounds b len cap LO HI none).run P w=.ok (l.toNat,h.toNat,cap) w:=by
 have e1:(match HI with|some v=>Instr.sliceBound v cap (if b then .sliceAcap else .sliceAlen)|none=>pure len:Sem Nat).run P w=.ok h.toNat w:=fV hhi hh rfl (by omega) (by omega)
 have e2:(match LO with|some v=>Instr.sliceBound v h.toNat .sliceB|none=>pure 0:Sem Nat).run P w=.ok l.toNat w:=fV hlo hl rfl h0 (by omega)
 unfold Instr.sliceBounds
 cases HI <;> cases LO <;> simp only [pure_bind,Sem.run_bind,Option.isSome_none,Bool.false_eq_true,if_false] at e1 e2 ⊢ <;> simp_all
theorem ea {lo hi:Option AV} {LO HI:Option Value} {l h m:Int} {k:IntKind} {b:Bool} {len cap:Nat} (hlo:ga E σ lo LO) (hhi:ga E σ hi HI) (hl:bnd 0 lo=some l) (hh:bnd len hi=some h) (hsome:hi≠none)
  (h0:0≤l) (h1:l≤h) (h2:h≤m) (h3:m≤(cap:Int)):(Instr.sliceBounds b len cap LO HI (some (.int k m))).run P w=.ok (l.toNat,h.toNat,m.toNat) w:=by
 cases hi with
 |none=>exact absurd rfl hsome
 |some hv =>
  cases HI with
  |none=>exact hhi.elim
  |some HV =>
   have e1:(Instr.sliceBound HV m.toNat .slice3B).run P w=.ok h.toNat w:=fV (X:=some HV) (d:=(len:Int)) (dn:=len) hhi hh rfl (by omega) (by omega)
   have e2:(match LO with|some v=>Instr.sliceBound v h.toNat .slice3C|none=>pure 0:Sem Nat).run P w=.ok l.toNat w:=fV hlo hl rfl h0 (by omega)
   have e3:∀ code,(Instr.sliceBound (.int k m) cap code).run P w=.ok m.toNat w:=fun code=>by
    simp [Instr.sliceBound,asIntOf,show 0≤m from by omega,h3]
   unfold Instr.sliceBounds
   cases LO <;> simp only [Sem.run_bind,e3,Result.andThen_ok,e1,Option.isSome_some,if_true] at e2 ⊢ <;> simp_all
theorem RoR.cut {k:IntKind} {xs:List Int} {B:Option Addr} {c l h m:Nat} (hr:0<xs.length→∃ ad,B=some ad∧E.Reads ad k xs) (h1:l≤h) (h2:h≤m) (h3:h≤xs.length) :
  RoR E k ((xs.drop l).take (h-l)) (.slice (if m=l then B else B.map (·.add l)) (h-l) (m-l)):=by
 have hlen:((xs.drop l).take (h-l)).length=h-l:=by simp;omega
 refine ⟨if m=l then B else B.map (·.add l),m-l,by rw [hlen],by omega,fun h0=>?_⟩
 rw [hlen] at h0
 rw [if_neg (by omega)]
 obtain ⟨ad,rfl,ho,hr⟩:=hr (by omega)
 refine ⟨ad.add l,rfl,by rw [cq];exact ho,fun j hj=>?_⟩
 rw [hlen] at hj
 rw [fu,hr (l+j) (by omega)]
 simp [List.getD_eq_getElem?_getD,List.getElem?_take,hj]
theorem lT {t:TypeId} {x:AV} {X:Value} {lo hi mx:Option AV} {LO HI MX:Option Value} (hx:AVR E σ x X) (hlo:ga E σ lo LO) (hhi:ga E σ hi HI) (hmx:ga E σ mx MX) (hM:MemR E σ M w)
  (hh3:mx≠none→hi≠none) (hA:kJ E.P t x lo hi mx=some A):dZ E σ nm M A ((do pure (.value (← Instr.sliceAt t X LO HI MX)):Sem Next).run E.P w):=by
 unfold kJ at hA
 split at hA
 ·
  rename_i s ht
  simp only [AVR,ScR] at hx;subst hx
  split at hA
  ·rename_i l h hl hh
   cases MX with
   |some V=>exact hmx.elim
   |none =>
    refine am hA hM fun hC=>⟨.string (s.extract l.toNat h.toNat),bL ?_,rfl⟩
    have:=df (P:=E.P) (w:=w) (b:=false) (len:=s.size) (cap:=s.size) hlo hhi hl hh hC.1 hC.2.1 hC.2.2 (Nat.le_refl _)
    simp only [Instr.sliceAt,Sem.run_bind,aq ht,Result.andThen_ok,Instr.slice,Option.isSome_none,Bool.false_eq_true,if_false,pure_bind,this,Sem.run_pure]
  ·cases hA
 ·
  rename_i e k xs ht
  obtain ⟨B,c,rfl,hc,hr⟩:=hx
  split at hA
  ·rename_i l h hs hl hh
   cases MX with
   |some V=>exact hmx.elim
   |none =>
    refine am hA hM fun hC=>⟨_,bL ?_,RoR.cut (c:=c) hr (l:=l.toNat) (h:=h.toNat) (m:=c) (by omega) (by omega) (by omega)⟩
    have:=df (P:=E.P) (w:=w) (b:=true) (len:=xs.length) (cap:=c) hlo hhi hl hh hC.1 hC.2.1 hC.2.2 hc
    simp only [Instr.sliceAt,Sem.run_bind,aq ht,Result.andThen_ok,Instr.slice,this,cg hs,Sem.run_pure,Nat.mul_one]
  ·rename_i l h kk m hs hl hh
   cases MX with
   |none=>exact hmx.elim
   |some V =>
    simp only [ga,AVR,ScR] at hmx;subst hmx
    refine am hA hM fun hC=>⟨_,bL ?_,RoR.cut (c:=c) hr (l:=l.toNat) (h:=h.toNat) (m:=m.toNat) (by omega) (by omega) (by omega)⟩
    have:=ea (P:=E.P) (w:=w) (b:=true) (k:=kk) (len:=xs.length) (cap:=c) hlo hhi hl hh (hh3 (by simp)) hC.1 hC.2.1 hC.2.2.1 (by omega)
    simp only [Instr.sliceAt,Sem.run_bind,aq ht,Result.andThen_ok,Instr.slice,this,cg hs,Sem.run_pure,Nat.mul_one]
  ·cases hA
 ·
  rename_i e b off len es cap ht
  have key:∀ (l h m cc:Nat) (X':Option Addr),True:=fun _ _ _ _ _=>trivial
  split at hA
  ·rename_i s l h hs hl hh
   split at hA
   ·rename_i hse
    subst hse
    cases MX with
    |some V=>exact hmx.elim
    |none =>
     refine am hA hM fun hC=>?_
     obtain ⟨c0,c1,c2⟩:=hC
     rcases hx with ⟨rfl,hcap,B,rfl⟩|⟨L,c,hL,rfl,hlc,hfit,hcap⟩
     ·have:=df (P:=E.P) (w:=w) (b:=true) (len:=0) (cap:=0) hlo hhi hl hh c0 c1 c2 (Nat.le_refl _)
      refine ⟨_,bL (V:=.slice B 0 0) ?_,.inl ⟨by omega,?_,B,rfl⟩⟩
      ·have hl0:l.toNat=0:=by omega
       have hh0:h.toNat=0:=by omega
       rw [hl0,hh0] at this
       simp only [Instr.sliceAt,Sem.run_bind,aq ht,Result.andThen_ok,Instr.slice,this,cg hs,Sem.run_pure,if_true,Nat.sub_self]
      ·rcases hcap with rfl|rfl
       ·exact .inl rfl
       ·right;simp
     ·have:=df (P:=E.P) (w:=w) (b:=true) (len:=len) (cap:=c) hlo hhi hl hh c0 c1 c2 hlc
      refine ⟨_,bL (V:=.slice (if c=l.toNat then some ⟨L.g,L.β+off,none⟩ else some (⟨L.g,L.β+(off+l.toNat*s),none⟩)) (h.toNat-l.toNat) (c-l.toNat)) ?_,?_⟩
      ·simp only [Instr.sliceAt,Sem.run_bind,aq ht,Result.andThen_ok,Instr.slice,this,cg hs,Sem.run_pure,Option.map_some,cI,Nat.add_assoc]
      ·by_cases hcl:c=l.toNat
       ·rw [if_pos hcl]
        refine .inl ⟨by omega,?_,some ⟨L.g,L.β+off,none⟩,by congr 1 <;> omega⟩
        cases cap with
        |none=>exact .inl rfl
        |some n=>right;simp only at hcap;simp;omega
       ·rw [if_neg hcl]
        have e1:c*s=l.toNat*s+(c-l.toNat)*s:=by rw [← Nat.add_mul];congr 1;omega
        refine .inr ⟨L,c-l.toNat,hL,rfl,by omega,by omega,?_⟩
        cases cap with
        |none=>simp only at hcap ⊢;simp only [Option.map_none];omega
        |some n=>simp only at hcap ⊢;simp only [Option.map_some];omega
   ·cases hA
  ·rename_i s l h kk m hs hl hh
   split at hA
   ·rename_i hse
    subst hse
    cases MX with
    |none=>exact hmx.elim
    |some V =>
     simp only [ga,AVR,ScR] at hmx;subst hmx
     refine am hA hM fun hC=>?_
     obtain ⟨c0,c1,c2,c3⟩:=hC
     rcases hx with ⟨rfl,hcap,B,rfl⟩|⟨L,c,hL,rfl,hlc,hfit,hcap⟩
     ·have:=ea (P:=E.P) (w:=w) (b:=true) (k:=kk) (len:=0) (cap:=0) hlo hhi hl hh (hh3 (by simp)) c0 c1 c2 (by omega)
      refine ⟨_,bL (V:=.slice B 0 0) ?_,.inl ⟨by omega,.inr (by congr 1;omega),B,rfl⟩⟩
      have hl0:l.toNat=0:=by omega
      have hh0:h.toNat=0:=by omega
      have hm0:m.toNat=0:=by omega
      rw [hl0,hh0,hm0] at this
      simp only [Instr.sliceAt,Sem.run_bind,aq ht,Result.andThen_ok,Instr.slice,this,cg hs,Sem.run_pure,if_true,Nat.sub_self]
     ·have:=ea (P:=E.P) (w:=w) (b:=true) (k:=kk) (len:=len) (cap:=c) hlo hhi hl hh (hh3 (by simp)) c0 c1 c2 (by omega)
      refine ⟨_,bL (V:=.slice (if m.toNat=l.toNat then some ⟨L.g,L.β+off,none⟩ else some (⟨L.g,L.β+(off+l.toNat*s),none⟩)) (h.toNat-l.toNat) (m.toNat-l.toNat)) ?_,?_⟩
      ·simp only [Instr.sliceAt,Sem.run_bind,aq ht,Result.andThen_ok,Instr.slice,this,cg hs,Sem.run_pure,Option.map_some,cI,Nat.add_assoc]
      ·by_cases hcl:m.toNat=l.toNat
       ·rw [if_pos hcl]
        exact .inl ⟨by omega,.inr (by congr 1;omega),some ⟨L.g,L.β+off,none⟩,by congr 1 <;> omega⟩
       ·rw [if_neg hcl]
        have e1:m.toNat*s=l.toNat*s+(m.toNat-l.toNat)*s:=by rw [← Nat.add_mul];congr 1;omega
        have e2:m.toNat*s≤c*s:=Nat.mul_le_mul_right s (by omega)
        exact .inr ⟨L,m.toNat-l.toNat,hL,rfl,by omega,by omega,rfl⟩
   ·cases hA
  ·cases hA
 ·
  rename_i e ht
  simp only [AVR,ScR] at hx;subst hx
  split at hA
  ·rename_i s l h hs hl hh
   cases MX with
   |some V=>exact hmx.elim
   |none =>
    refine am hA hM fun hC=>⟨.slice none 0 0,bL ?_,rfl⟩
    obtain ⟨rfl,rfl⟩:=hC
    have:=df (P:=E.P) (w:=w) (b:=true) (len:=0) (cap:=0) hlo hhi hl hh (by omega) (by omega) (by omega) (Nat.le_refl _)
    simp only [Instr.sliceAt,Sem.run_bind,aq ht,Result.andThen_ok,Instr.slice,this,cg hs,Sem.run_pure]
    rfl
  ·cases hA
 ·
  rename_i n e b o ht
  obtain ⟨L,hL,rfl⟩:=hx
  split at hA
  ·rename_i s l h hs hl hh
   cases MX with
   |some V=>exact hmx.elim
   |none =>
    refine eg hA hM fun k C v hk hf hC=>?_
    simp only [Option.some.injEq,Prod.mk.injEq] at hf
    obtain ⟨rfl,rfl⟩:=hf
    obtain ⟨⟨c0,c1,c2⟩,c3⟩:=hC
    have hB:=hM.blk b k hk
    rw [hL] at hB
    obtain ⟨_,_,_,_,_,_,_,hle,_⟩:=hB
    have:=df (P:=E.P) (w:=w) (b:=false) (len:=n) (cap:=n) hlo hhi hl hh c0 c1 c2 (Nat.le_refl _)
    refine ⟨.slice (some (if n=l.toNat then ⟨L.g,L.β+o,none⟩ else ⟨L.g,L.β+(o+l.toNat*s),none⟩)) (h.toNat-l.toNat) (n-l.toNat),bL ?_,?_⟩
    ·simp only [Instr.sliceAt,Sem.run_bind,aq ht,Result.andThen_ok,Instr.sureAddr,this,cg hs,Sem.run_pure,cI,Nat.add_assoc]
    ·by_cases hcl:n=l.toNat
     ·exact .inl ⟨by omega,.inr (by congr 1;omega),some (if n=l.toNat then ⟨L.g,L.β+o,none⟩ else ⟨L.g,L.β+(o+l.toNat*s),none⟩),by congr 1 <;> omega⟩
     ·rw [if_neg hcl]
      have e1:n*s=l.toNat*s+(n-l.toNat)*s:=by rw [← Nat.add_mul];congr 1;omega
      exact .inr ⟨L,n-l.toNat,hL,rfl,by omega,by omega,rfl⟩
  ·rename_i s l h kk m hs hl hh
   cases MX with
   |none=>exact hmx.elim
   |some V =>
    simp only [ga,AVR,ScR] at hmx;subst hmx
    refine eg hA hM fun k C v hk hf hC=>?_
    simp only [Option.some.injEq,Prod.mk.injEq] at hf
    obtain ⟨rfl,rfl⟩:=hf
    obtain ⟨⟨c0,c1,c2,c2'⟩,c3⟩:=hC
    have hB:=hM.blk b k hk
    rw [hL] at hB
    obtain ⟨_,_,_,_,_,_,_,hle,_⟩:=hB
    have:=ea (P:=E.P) (w:=w) (b:=false) (k:=kk) (len:=n) (cap:=n) hlo hhi hl hh (hh3 (by simp)) c0 c1 c2 c2'
    refine ⟨.slice (some (if m.toNat=l.toNat then ⟨L.g,L.β+o,none⟩ else ⟨L.g,L.β+(o+l.toNat*s),none⟩)) (h.toNat-l.toNat) (m.toNat-l.toNat),bL ?_,?_⟩
    ·simp only [Instr.sliceAt,Sem.run_bind,aq ht,Result.andThen_ok,Instr.sureAddr,this,cg hs,Sem.run_pure,cI,Nat.add_assoc]
    ·by_cases hcl:m.toNat=l.toNat
     ·exact .inl ⟨by omega,.inr (by congr 1;omega),some (if m.toNat=l.toNat then ⟨L.g,L.β+o,none⟩ else ⟨L.g,L.β+(o+l.toNat*s),none⟩),by congr 1 <;> omega⟩
     ·rw [if_neg hcl]
      have e1:m.toNat*s=l.toNat*s+(m.toNat-l.toNat)*s:=by rw [← Nat.add_mul];congr 1;omega
      have e2:m.toNat*s≤n*s:=Nat.mul_le_mul_right s (by omega)
      exact .inr ⟨L,m.toNat-l.toNat,hL,rfl,by omega,by omega,rfl⟩
  ·cases hA
 ·cases hA
theorem jp {t:TypeId} {x:AV} {X:Value} (hx:AVR E σ x X) (hM:MemR E σ M w) (hA:gW E.P t x=some A) :
  dZ E σ nm M A ((do pure (.value (← Instr.arrayAt t X)):Sem Next).run E.P w):=by
 unfold gW at hA
 split at hA
 ·rename_i n e k xs ht
  obtain ⟨B,c,rfl,hc,hr⟩:=hx
  refine am hA hM fun hC=>?_
  obtain ⟨ad,rfl,hr2⟩:=hr (by omega)
  refine ⟨.pointer (some ad),bL ?_,ad,rfl,hr2⟩
  simp only [Instr.arrayAt,Sem.run_bind,aq ht,Result.andThen_ok]
  rw [if_neg (by omega)]
  rfl
 ·rename_i n e b off len es cap ht
  refine am hA hM fun hC=>?_
  rcases hx with ⟨rfl,_⟩|⟨L,c,hL,rfl,_⟩
  ·omega
  ·refine ⟨.pointer (some ⟨L.g,L.β+off,none⟩),bL ?_,L,hL,rfl⟩
   simp only [Instr.arrayAt,Sem.run_bind,aq ht,Result.andThen_ok]
   rw [if_neg (by omega)]
   rfl
 ·cases hA
theorem hZ:∀ (xs:List Int) (s:ByteArray),xs.foldl (fun r n=>r.push (UInt8.ofNat n.toNat)) s=⟨s.data++(xs.map fun n=>UInt8.ofNat n.toNat).toArray⟩
 |[],s=>by simp
 |x :: xs,s=>by
  rw [List.foldl_cons,hZ xs]
  simp [ByteArray.push]
theorem fW {P:Program} {ad:Addr} {xs:List Int} {n c:Nat} (hn:n=xs.length) (h:∀ j,j<xs.length→w.cell? (ad.add j)=some (.int .u8 (xs.getD j 0))) :
  (Conv.bytesToString (.slice (some ad) n c)).run P w=.ok (.string (bytesOf xs)) w:=by
 subst hn
 have hl:(loadCells ad xs.length).run P w=.ok (xs.map (Value.int .u8)).toArray w:=by
  have:=run_loadCells_list (P:=P) w ad (xs.map (Value.int .u8)) (fun j v hv=>by
   simp only [List.getElem?_map,Option.map_eq_some_iff] at hv
   obtain ⟨y,hy,rfl⟩:=hv
   have hlt:=(List.getElem?_eq_some_iff.1 hy).1
   rw [h j hlt]
   simp [hy])
  simpa using this
 rw [run_bytesToString w ad xs.length c xs hl,hZ]
 congr 2
 simp [bytesOf,ByteArray.empty,ByteArray.emptyWithCapacity]
 rfl
theorem MemR.marked (hM:MemR E σ M w) {b:Nat} {k:Blk} {L:Loc} (hb:ap b M=some k) (hL:σ b=.at L):∃ elem,w.shape? L.g=some (elem,L.sz)∧MemR E σ M (w.freeze ⟨L.g,L.sz,none⟩ 1):=by
 have hB:=hM.blk b k hb
 rw [hL] at hB
 obtain ⟨hg,arr,elem,lo,hi,h1,h2,h3,h4,h5,h6⟩:=hB
 refine ⟨elem,by unfold World.shape?;rw [h1];simp [h2],?_⟩
 have hheap:(w.freeze ⟨L.g,L.sz,none⟩ 1).heap=w.heap.modify L.g fun
   |.cells c elem (lo,hi)=>.cells c elem (if lo==hi then (L.sz,L.sz+1) else (min lo L.sz,max hi (L.sz+1)))
   |o=>o:=by unfold World.freeze;rw [if_neg (by decide)];rfl
 have hother:∀ g,g≠L.g→(w.freeze ⟨L.g,L.sz,none⟩ 1).heap[g]?=w.heap[g]?:=fun g hne=>by
  rw [hheap,Array.getElem?_modify,if_neg (Ne.symm hne)]
 have hat:(w.freeze ⟨L.g,L.sz,none⟩ 1).heap[L.g]?=some (.cells arr elem (if lo==hi then (L.sz,L.sz+1) else (min lo L.sz,max hi (L.sz+1)))):=by
  rw [hheap,Array.getElem?_modify,if_pos rfl,h1];rfl
 have hsize:(w.freeze ⟨L.g,L.sz,none⟩ 1).heap.size=w.heap.size:=by rw [hheap,Array.size_modify]
 have hrest:(w.freeze ⟨L.g,L.sz,none⟩ 1).os=w.os∧(w.freeze ⟨L.g,L.sz,none⟩ 1).tape=w.tape∧(w.freeze ⟨L.g,L.sz,none⟩ 1).output=w.output:=by
  unfold World.freeze;rw [if_neg (by decide)];exact ⟨rfl,rfl,rfl⟩
 have hu:∃ lo' hi',(if lo==hi then (L.sz,L.sz+1) else (min lo L.sz,max hi (L.sz+1)))=(lo',hi')∧pD lo' hi' L.sz:=by
  by_cases he:lo=hi
  ·subst he
   refine ⟨L.sz,L.sz+1,by simp,fun j hj=>by omega,by omega⟩
  ·have h7:L.sz≤lo:=by
    apply Classical.byContradiction
    intro hn
    exact h5.1 lo (by omega) ⟨Nat.le_refl _,by have:=h5.2;omega⟩
   refine ⟨min lo L.sz,max hi (L.sz+1),by simp [he],fun j hj=>by omega,by omega⟩
 obtain ⟨lo',hi',e1,e2⟩:=hu
 rw [e1] at hat
 refine ⟨?_,hM.inj,?_,by rw [hsize];exact hM.size,hM.olds,by rw [hrest.1,hM.os],by rw [hrest.2.1,hM.tape],by rw [hrest.2.2,hM.output]⟩
 ·intro c x hcx
  have hx:=hM.blk c x hcx
  cases hc:σ c with
  |unset=>rw [hc] at hx;exact hx
  |nil=>rw [hc] at hx;exact hx
  |«at» L' =>
   rw [hc] at hx
   by_cases hg':L'.g=L.g
   ·have hcb:=hM.inj c b x k L' L hcx hb hc hL hg'
    subst hcb
    rw [hL] at hc
    injection hc with hc
    subst hc
    obtain ⟨q0,a2,e2',l2,i2,q1,q2,q3,q4,q5,q6⟩:=hx
    have hsame:=q1.symm.trans h1
    simp only [Option.some.injEq,Obj.cells.injEq,Prod.mk.injEq] at hsame
    obtain ⟨rfl,rfl,_,_⟩:=hsame
    exact ⟨q0,a2,e2',lo',hi',hat,q2,q3,q4,e2,q6⟩
   ·exact dk.same (fun L2 h=>by cases h;exact hother _ hg') hx
 ·intro g hg'
  rw [hother g (fun e=>h4 (e ▸ hg'))]
  exact hM.old g hg'
theorem kX {src dst:TypeId} {x:AV} {X:Value} (hx:AVR E σ x X) (hM:MemR E σ M w) (hn:∀ m,nm≤m→m<nm+16→σ m=.unset) (hA:gl E.P src dst x nm=some A) :
  dZ E σ nm M A ((do pure (.value (← convert src dst X)):Sem Next).run E.P w):=by
 unfold gl at hA
 split at hA
 ·
  rename_i k kk n hd
  simp only [AVR,ScR] at hx;subst hx
  split at hA
  ·rename_i d hs
   refine am hA hM fun hC=>⟨.int k (k.wrap n),bL ?_,rfl⟩
   simp [convert,aq hs,aq hd,Conv.intToInt]
  ·cases hA
 ·rename_i d s hs hd
  simp only [AVR,ScR] at hx;subst hx
  refine am hA hM fun hC=>⟨.string s,bL ?_,rfl⟩
  simp only [convert,Sem.run_bind,aq hs,aq hd,Result.andThen_ok]
  rfl
 ·
  rename_i d e s hs hd
  simp only [AVR,ScR] at hx;subst hx
  split at hA
  ·rename_i he
   refine ek hA hM hn fun hC=>?_
   have hrun:=Lib.run_convert_string_bytes (P:=E.P) w src dst e s hs hd he
   have hge:=grownCap_ge w s.size 0 e
   have hsz:(Lib.bytesCells w e s).size=grownCap w s.size 0 e:=by
    have:s.data.size=s.size:=rfl
    simp only [Lib.bytesCells,Array.size_append,Array.size_map,Array.size_replicate,this]
    omega
   refine ⟨_,_,upd σ nm (.at ⟨w.heap.size,0,(Lib.bytesCells w e s).size⟩),bL hrun,cP _ (hn nm (Nat.le_refl _) (by omega)),fun m hm=>bG σ _ hm,?_,?_⟩
   ·exact .inr ⟨⟨w.heap.size,0,(Lib.bytesCells w e s).size⟩,grownCap w s.size 0 e,bq ..,by simp,hge,by simp only;omega,by simp only;omega⟩
   ·refine hM.new' (hn nm (Nat.le_refl _) (by omega)) (fun g hg=>Lib.bytesWorld_at_old w e s g hg) (Lib.bytesWorld_at_new w e s) rfl rfl rfl (by simp [Blk.good,bV]) (by simp only [Blk.len];omega) ⟨by intro j hj;omega,by omega⟩ ?_
    intro j sc hsc
    simp only [Blk.get?,Option.map_eq_some_iff] at hsc
    obtain ⟨y,hy,rfl⟩:=hsc
    have hlt:j<s.size:=by
     have:=(List.getElem?_eq_some_iff.1 hy).1
     rwa [bV] at this
    have hlt2:j<s.data.size:=hlt
    refine ⟨.int .u8 y,?_,rfl⟩
    simp only [bt,List.getElem?_map,Option.map_eq_some_iff] at hy
    obtain ⟨z,hz,rfl⟩:=hy
    simp only [Lib.bytesCells]
    rw [Array.getElem?_append_left (by simpa using hlt2)]
    simp only [Array.getElem?_map,Option.map_eq_some_iff]
    exact ⟨z,by simpa using hz,rfl⟩
  ·cases hA
 ·
  rename_i e' e b off len cap hs hd
  split at hA
  ·rename_i he hsd
   have hsd:=Nat.eq_of_beq_eq_true hsd
   subst hsd
   obtain rfl:e'=e:=by
    have:=hs.symm.trans hd
    injection this with this
    injection this
   simp only [gI,Option.some.injEq] at hA
   subst hA
   intro C v M' hrun hC
   simp only [Deed.run,bD] at hrun
   cases hk:ap b M with
   |none=>simp [hk] at hrun
   |some k =>
    simp only [hk,bg,Option.some.injEq,Prod.mk.injEq] at hrun
    obtain ⟨rfl,rfl,rfl⟩:=hrun
    obtain ⟨c1,c2,c3⟩:=hC
    rcases hx with ⟨h0,_⟩|⟨L,c,hL,rfl,hrest⟩
    ·omega
    ·obtain ⟨elem,q1,q2⟩:=hM.marked hk hL
     refine ⟨_,_,σ,.inl (bL ?_),.refl _,fun _ _=>rfl,.inr ⟨L,c,hL,rfl,hrest⟩,q2⟩
     simp [convert,aq hs,aq he,markStringish,q1]
  ·cases hA
 ·
  rename_i _o1 _o2 x' e hs hd h3
  split at hA
  ·rename_i he
   split at hA
   ·rename_i xs
    obtain ⟨B,c,rfl,hc,hr⟩:=hx
    refine am hA hM fun hC=>⟨.string (bytesOf xs),bL ?_,rfl⟩
    simp only [convert,Sem.run_bind,aq hs,aq hd,Result.andThen_ok,aq he]
    cases hxs:xs with
    |nil =>
     cases B with
     |none=>simp [Conv.bytesToString,bytesOf,ByteArray.empty,ByteArray.emptyWithCapacity];rfl
     |some ad=>exact fW (xs:=[]) rfl (by simp)
    |cons y ys =>
     rw [← hxs]
     obtain ⟨ad,rfl,ho,hrd⟩:=hr (by rw [hxs];simp)
     exact fW rfl fun j hj=>by rw [hM.oldCell (by rw [cq];exact ho)];exact hrd j hj
   ·simp only [AVR,ScR] at hx;subst hx
    refine am hA hM fun hC=>⟨.string ⟨#[]⟩,bL ?_,rfl⟩
    simp only [convert,Sem.run_bind,aq hs,aq hd,Result.andThen_ok,aq he]
    rfl
   ·rename_i b off len cap
    refine eg hA hM fun k C v hk hf hC=>?_
    split at hf
    ·rename_i n xs
     simp only [Option.some.injEq,Prod.mk.injEq] at hf
     obtain ⟨rfl,rfl⟩:=hf
     refine ⟨.string (bytesOf ((xs.drop off).take len)),bL ?_,rfl⟩
     have hB:=hM.blk b _ hk
     rcases hx with ⟨rfl,_,B,rfl⟩|⟨L,c,hL,rfl,_⟩
     ·simp only [convert,Sem.run_bind,aq hs,aq hd,Result.andThen_ok,aq he]
      cases B with
      |none=>simp [Conv.bytesToString,bytesOf,ByteArray.empty,ByteArray.emptyWithCapacity];rfl
      |some ad=>exact fW (xs:=(xs.drop off).take 0) (by simp) (by simp)
     ·rw [hL] at hB
      have hgood:xs.length=n:=hB.1
      simp only [convert,Sem.run_bind,aq hs,aq hd,Result.andThen_ok,aq he]
      refine fW (by simp;omega) fun j hj=>?_
      have hj':j<len:=by simp at hj;omega
      have hget:(Blk.ints .u8 n xs).get? (off+j)=some (.i .u8 (((xs.drop off).take len).getD j 0)):=by
       have hlt:off+j<xs.length:=by omega
       simp [Blk.get?,List.getElem?_eq_getElem hlt,List.getElem?_take,hj']
      obtain ⟨v,h4,h5⟩:=hB.read hget
      simp only [ScR] at h5
      subst h5
      rw [cI,Nat.add_assoc]
      exact h4
    ·cases hf
   ·cases hA
  ·cases hA
 ·cases hA
theorem iW {t:TypeId} {l c:AV} {LV CV:Value} (hl:AVR E σ l LV) (hc:AVR E σ c CV) (hM:MemR E σ M w) (hn:∀ m,nm≤m→m<nm+16→σ m=.unset) (hA:fG E.P t l c nm=some A) :
  dZ E σ nm M A ((do pure (.value (← Instr.makeSlice t LV CV)):Sem Next).run E.P w):=by
 unfold fG at hA
 split at hA
 ·rename_i e l c ht
  simp only [AVR,ScR] at hl hc;subst hl hc
  split at hA
  ·rename_i i hi
   have key:∀ {z:Value} {s:Nat},i.zero=some z→i.size=s→0<s→z.cells.size=s→(0≤l∧l=c)→l≤140737488355328→(i.bytes:Int)*l≤281474976710656 →
     (Instr.makeSlice t (.int .i64 l) (.int .i64 c)).run E.P w=.ok (.slice (some ⟨w.heap.size,0,none⟩) l.toNat l.toNat) { w with heap:=w.heap.push (.cells (cQ z.cells.toList l.toNat).toArray e) }:=by
    intro z s hz hs h0 hzs hl hb1 hb2
    obtain ⟨hl0,rfl⟩:=hl
    have hw:IntKind.i64.wrap l=l:=by rw [IntKind.wrap_i64];omega
    have hti:(typeInfo e).run E.P w=.ok i w:=by simp [typeInfo,hi]
    have hsz:(sizeOf e).run E.P w=.ok s w:=by simp [sizeOf,typeInfo,hi,hs]
    have hzero:(zeroValue e).run E.P w=.ok z w:=by simp [zeroValue,typeInfo,hi,hz]
    have hrep:=gK z.cells l.toNat (by omega)
    rw [hzs] at hrep
    have hc1:(decide (l<0) || decide ((i.bytes:Int)*l>2 ^ 48))=false:=by
     have:(2:Int) ^ 48=281474976710656:=by decide
     simp;omega
    unfold Instr.makeSlice
    simp only [Sem.run_bind,aq ht,Result.andThen_ok,asInt,asIntOf,Sem.run_pure,pure_bind,hti,hw,hc1]
    rw [if_neg (by simp;omega)]
    simp only [pure_bind,Sem.run_bind,run_askRoom,Result.andThen_ok,hsz]
    by_cases hn0:l.toNat*s=0
    ·have hl0':l.toNat=0:=by
      rcases Nat.mul_eq_zero.1 hn0 with h|h
      ·exact h
      ·omega
     have e0:∀ f:Nat→Value,(Array.range 0).map f=#[]:=fun f=>by simp [Array.range]
     simp only [hl0',Nat.zero_mul,e0,if_true,Sem.run_pure,Result.andThen_ok,newRow,run_newObj,Sem.run_bind,cQ,Int.toNat_zero]
    ·simp only [hn0,if_false,Sem.run_bind,hzero,Result.andThen_ok,Sem.run_pure,newRow,run_newObj,hzs]
     congr 3
     congr 1
     rw [← hrep]
   split at hA
   ·rename_i k z hz hs
    refine ek hA hM hn fun hC=>?_
    obtain ⟨c1,c2,c3⟩:=hC
    have hrun:=key hz hs (by decide) rfl c1 c2 c3
    have hrep:cQ (Value.int k z).cells.toList l.toNat=bC k (List.replicate l.toNat z):=by
     have:∀ n,cQ [Value.int k z] n=bC k (List.replicate n z):=by
      intro n
      induction n with
      |zero=>rfl
      |succ n ih=>simp [cQ,ih,bC,List.replicate_succ]
     exact this _
    rw [hrep] at hrun
    refine ⟨_,_,upd σ nm (.at ⟨w.heap.size,0,l.toNat⟩),bL hrun,cP _ (hn nm (Nat.le_refl _) (by omega)),fun m hm=>bG σ _ hm,?_,?_⟩
    ·exact .inr ⟨⟨w.heap.size,0,l.toNat⟩,l.toNat,bq ..,by simp,Nat.le_refl _,by simp only;omega,by simp only;omega⟩
    ·have:=hM.cells (w':={ w with heap:=w.heap.push (.cells (bC k (List.replicate l.toNat z)).toArray e) }) (elem:=e) (arr:=(bC k (List.replicate l.toNat z)).toArray) (lo:=0) (hi:=0) (hn nm (Nat.le_refl _) (by omega)) rfl rfl rfl rfl ⟨fun j hj=>by omega,Nat.le_refl _⟩
      (cv (E:=E) (σ:=σ) (k:=k) (n:=l.toNat) (xs:=List.replicate l.toNat z) (by simp)) (fun j v hv=>by simpa using hv) (by simp)
     simpa [bC] using this
   ·rename_i z hz hs
    refine ek hA hM hn fun hC=>?_
    obtain ⟨c1,c2,c3⟩:=hC
    have hrun:=key hz hs (by decide) rfl c1 c2 c3
    have hrep:cQ (Value.string z).cells.toList l.toNat=(List.replicate l.toNat z).map Value.string:=by
     have:∀ n,cQ [Value.string z] n=(List.replicate n z).map Value.string:=by
      intro n
      induction n with
      |zero=>rfl
      |succ n ih=>simp [cQ,ih,List.replicate_succ]
     exact this _
    rw [hrep] at hrun
    refine ⟨_,_,upd σ nm (.at ⟨w.heap.size,0,l.toNat⟩),bL hrun,cP _ (hn nm (Nat.le_refl _) (by omega)),fun m hm=>bG σ _ hm,?_,?_⟩
    ·exact .inr ⟨⟨w.heap.size,0,l.toNat⟩,l.toNat,bq ..,by simp,Nat.le_refl _,by simp only;omega,by simp only;omega⟩
    ·have:=hM.cells (w':={ w with heap:=w.heap.push (.cells ((List.replicate l.toNat z).map Value.string).toArray e) }) (elem:=e) (arr:=((List.replicate l.toNat z).map Value.string).toArray) (lo:=0) (hi:=0) (hn nm (Nat.le_refl _) (by omega)) rfl rfl rfl rfl ⟨fun j hj=>by omega,Nat.le_refl _⟩
      (ll (E:=E) (σ:=σ) (v:=.str) (xs:=List.replicate l.toNat z) (fun _ _=>rfl)) (fun j v hv=>by simpa only [List.getElem?_toArray] using hv) (by simp)
     simpa using this
   ·rename_i z hz hno hno'
    split at hA
    ·rename_i k hk
     refine ek hA hM hn fun hC=>?_
     obtain ⟨⟨c1,c2,c3⟩,c4,c5⟩:=hC
     have hrun:=key hz rfl (by omega) (by omega) c1 c2 c3
     have hlen:(cQ z.cells.toList l.toNat).length=l.toNat*i.size:=by rw [eP];simp [c4]
     refine ⟨_,_,upd σ nm (.at ⟨w.heap.size,0,l.toNat*i.size⟩),bL hrun,cP _ (hn nm (Nat.le_refl _) (by omega)),fun m hm=>bG σ _ hm,?_,?_⟩
     ·exact .inr ⟨⟨w.heap.size,0,l.toNat*i.size⟩,l.toNat,bq ..,by simp,Nat.le_refl _,by simp only;omega,by simp only;omega⟩
     ·have:=hM.cells (w':={ w with heap:=w.heap.push (.cells (cQ z.cells.toList l.toNat).toArray e) }) (elem:=e) (arr:=(cQ z.cells.toList l.toNat).toArray) (lo:=0) (hi:=0) (hn nm (Nat.le_refl _) (by omega)) rfl rfl rfl rfl ⟨fun j hj=>by omega,Nat.le_refl _⟩
       (dp (E:=E) (σ:=σ) hk) (fun j v hv=>by simpa using hv) (by simp)
      simpa [hlen] using this
    ·cases hA
   ·cases hA
  ·cases hA
 ·cases hA
end
end Go.Vm
namespace Go.Vm
open Go
section
variable {E:Env} {σ:Sig} {nm:Nat} {M:Mem} {w:World} {A:Deed} {r:Result Next} {P:Program}
theorem Blk.cat_R {a b k:Blk} {xs ys:List Value} (ha:cT E σ a xs) (hb:cT E σ b ys) (h:a.cat b=some k):cT E σ k (xs++ys)∧k.len=a.len+b.len:=by
 obtain ⟨a1,a2,a3⟩:=ha
 obtain ⟨b1,b2,b3⟩:=hb
 unfold Blk.cat at h
 split at h
 ·rename_i k1 n xs1 k2 m ys1
  split at h
  ·rename_i hk
   subst hk
   simp only [Option.some.injEq] at h
   subst h
   simp only [Blk.good,Blk.len] at a1 b1 a2 b2 ⊢
   refine ⟨⟨by simp [Blk.good,a1,b1],by simp [Blk.len];omega,fun j s hs=>?_⟩,trivial⟩
   simp only [Blk.get?,Option.map_eq_some_iff] at hs
   obtain ⟨y,hy,rfl⟩:=hs
   by_cases hj:j<xs1.length
   ·rw [List.getElem?_append_left hj] at hy
    obtain ⟨v,hv,hr⟩:=a3 j (.i k1 y) (by simp [Blk.get?,hy])
    exact ⟨v,by rw [List.getElem?_append_left (by omega)];exact hv,hr⟩
   ·rw [List.getElem?_append_right (by omega)] at hy
    obtain ⟨v,hv,hr⟩:=b3 (j-xs1.length) (.i k1 y) (by simp [Blk.get?,hy])
    refine ⟨v,?_,hr⟩
    rw [List.getElem?_append_right (by omega)]
    have:j-xs.length=j-xs1.length:=by omega
    rw [this];exact hv
  ·cases h
 ·rename_i l m
  simp only [Option.some.injEq] at h
  subst h
  simp only [Blk.len] at a2 b2 ⊢
  refine ⟨⟨trivial,by simp [Blk.len];omega,fun j s hs=>?_⟩,by simp⟩
  simp only [Blk.get?] at hs
  by_cases hj:j<l.length
  ·rw [List.getElem?_append_left hj] at hs
   obtain ⟨v,hv,hr⟩:=a3 j s hs
   exact ⟨v,by rw [List.getElem?_append_left (by omega)];exact hv,hr⟩
  ·rw [List.getElem?_append_right (by omega)] at hs
   obtain ⟨v,hv,hr⟩:=b3 (j-l.length) s hs
   refine ⟨v,?_,hr⟩
   rw [List.getElem?_append_right (by omega)]
   have:j-xs.length=j-l.length:=by omega
   rw [this];exact hv
 ·rename_i v l m
  split at h
  ·rename_i zs hz
   simp only [Option.some.injEq] at h
   subst h
   simp only [Blk.len] at a2 b2 ⊢
   have hzl:=VK.unL_len hz
   refine ⟨⟨trivial,by simp [Blk.len];omega,fun j s hs=>?_⟩,by simp [hzl]⟩
   simp only [Blk.get?,Option.map_eq_some_iff] at hs
   obtain ⟨x,hx,rfl⟩:=hs
   by_cases hj:j<l.length
   ·rw [List.getElem?_append_left hj] at hx
    obtain ⟨u,hu,hr⟩:=a3 j _ (by simp only [Blk.get?,hx,Option.map_some];rfl)
    exact ⟨u,by rw [List.getElem?_append_left (by omega)];exact hu,hr⟩
   ·rw [List.getElem?_append_right (by omega)] at hx
    obtain ⟨s,hs,hun⟩:=VK.unL_get hz hx
    obtain ⟨u,hu,hr⟩:=b3 (j-l.length) s (by simpa [Blk.get?] using hs)
    refine ⟨u,?_,VK.un_R hun hr⟩
    rw [List.getElem?_append_right (by omega)]
    have:j-xs.length=j-l.length:=by omega
    rw [this];exact hu
  ·cases h
 ·rename_i l v m
  split at h
  ·rename_i zs hz
   simp only [Option.some.injEq] at h
   subst h
   simp only [Blk.len] at a2 b2 ⊢
   have hzl:=VK.unL_len hz
   refine ⟨⟨trivial,by simp [Blk.len];omega,fun j s hs=>?_⟩,by simp [hzl]⟩
   simp only [Blk.get?,Option.map_eq_some_iff] at hs
   obtain ⟨x,hx,rfl⟩:=hs
   by_cases hj:j<l.length
   ·rw [List.getElem?_append_left (by omega)] at hx
    obtain ⟨s,hs,hun⟩:=VK.unL_get hz hx
    obtain ⟨u,hu,hr⟩:=a3 j s (by simpa [Blk.get?] using hs)
    exact ⟨u,by rw [List.getElem?_append_left (by omega)];exact hu,VK.un_R hun hr⟩
   ·rw [List.getElem?_append_right (by omega),hzl] at hx
    obtain ⟨u,hu,hr⟩:=b3 (j-l.length) _ (by simp only [Blk.get?,hx,Option.map_some];rfl)
    refine ⟨u,?_,hr⟩
    rw [List.getElem?_append_right (by omega)]
    have:j-xs.length=j-l.length:=by omega
    rw [this];exact hu
  ·cases h
 all_goals first
  |cases h;done
  |skip
 all_goals
  rename_i l m
  simp only [Option.some.injEq] at h
  subst h
  simp only [Blk.len] at a2 b2 ⊢
  refine ⟨⟨trivial,by simp [Blk.len];omega,fun j s hs=>?_⟩,by simp⟩
  simp only [Blk.get?,Option.map_eq_some_iff] at hs
  obtain ⟨x,hx,rfl⟩:=hs
  by_cases hj:j<l.length
  ·rw [List.getElem?_append_left hj] at hx
   obtain ⟨u,hu,hr⟩:=a3 j _ (by simp only [Blk.get?,hx,Option.map_some];rfl)
   exact ⟨u,by rw [List.getElem?_append_left (by omega)];exact hu,hr⟩
  ·rw [List.getElem?_append_right (by omega)] at hx
   obtain ⟨u,hu,hr⟩:=b3 (j-l.length) _ (by simp only [Blk.get?,hx,Option.map_some];rfl)
   refine ⟨u,?_,hr⟩
   rw [List.getElem?_append_right (by omega)]
   have:j-xs.length=j-l.length:=by omega
   rw [this];exact hu
theorem Blk.from_get {k:Blk} (hk:k.good) (o:Nat):(k.from o).good∧(k.from o).len=k.len-o∧∀ j,(k.from o).get? j=k.get? (o+j):=by
 cases k with
 |ints kd n xs =>
  simp only [Blk.good] at hk
  unfold Blk.from
  simp only
  cases hb:Nat.beq o 0
  ·simp only [cond_false]
   refine ⟨by simp [Blk.good,hk],rfl,fun j=>by simp [Blk.get?]⟩
  ·simp only [cond_true]
   have:=Nat.eq_of_beq_eq_true hb
   subst this
   exact ⟨hk,by simp [Blk.len],fun j=>by simp⟩
 |cells l=>exact ⟨trivial,by simp [Blk.from,Blk.len],fun j=>by simp [Blk.from,Blk.get?]⟩
 |vec v l =>
  unfold Blk.from
  simp only
  cases hb:Nat.beq o 0
  ·simp only [cond_false]
   exact ⟨trivial,by simp [Blk.len],fun j=>by simp [Blk.get?]⟩
  ·simp only [cond_true]
   have:=Nat.eq_of_beq_eq_true hb
   subst this
   exact ⟨trivial,by simp [Blk.len],fun j=>by simp⟩
theorem dk.first {k:Blk} {L:Loc} (h:dk E σ w k (.at L)) {o n size:Nat} (hs:(k.sub o (n*size)).1) :
  ∃ cs:List Value,cs.length=n*size∧cT E σ (k.sub o (n*size)).2 cs∧(∀ v∈cs,v.oneCell'=true) ∧
   ∀ (w':World) (P:Program) (len cap:Nat),w'.heap=w.heap→(Builtin.firstCells size n (.slice (some ⟨L.g,L.β+o,none⟩) len cap)).run P w'=.ok cs.toArray w':=by
 obtain ⟨cs,h1,h2,h3⟩:=h.list hs
 refine ⟨cs,h1,h3,?_,fun w' P len cap hw=>?_⟩
 ·intro v hv
  obtain ⟨j,hj⟩:=List.getElem?_of_mem hv
  obtain ⟨g1,g2,g3⟩:=h3
  have hlt:j<(k.sub o (n*size)).2.len:=by
   have:=(List.getElem?_eq_some_iff.1 hj).1
   omega
  obtain ⟨s,hs'⟩:=Blk.get_some g1 hlt
  obtain ⟨v',hv',hr⟩:=g3 j s hs'
  rw [hj] at hv'
  injection hv' with hv'
  subst hv'
  exact (jA hr).2
 ·have hc:∀ j v,cs[j]?=some v→w'.cell? ((⟨L.g,L.β+o,none⟩:Addr).add j)=some v:=by
   intro j v hj
   rw [← h2 j v hj]
   simp only [World.cell?,hw]
  have:=run_loadCells_list (P:=P) w' ⟨L.g,L.β+o,none⟩ cs hc
  rw [h1] at this
  simp only [Builtin.firstCells]
  exact this
theorem pP {x:AV} {X:Value} {rs:List Nat} {f:List Blk→Option (Prop × Nat × Blk)} {bs:List Blk} {C:Prop} {m size:Nat} {k:Blk} (hx:AVR E σ x X) (hM:MemR E σ M w) (h:lE x=some (rs,f)) (hbs:bD M rs=some bs)
  (hf:f bs=some (C,m,k)) (hC:C) (hlen:k.len=m*size) (h0:0<size) :
  (∀ w',(Builtin.lenOf X).run P w'=.ok m w')∧∃ cs:List Value,cs.length=m*size∧cT E σ k cs∧(∀ v∈cs,v.oneCell'=true)∧∀ w',w'.heap=w.heap→(Builtin.firstCells size m X).run P w'=.ok cs.toArray w':=by
 unfold lE at h
 split at h
 ·rename_i s
  simp only [Option.some.injEq,Prod.mk.injEq] at h
  obtain ⟨rfl,rfl⟩:=h
  simp only [Option.some.injEq,Prod.mk.injEq] at hf
  obtain ⟨rfl,rfl,rfl⟩:=hf
  simp only [AVR,ScR] at hx;subst hx
  simp only [Blk.len] at hlen
  refine ⟨fun w'=>by simp [Builtin.lenOf],bC .u8 (bt s),?_,cv (bV s),dM,fun w' _=>?_⟩
  ·simp only [bC,List.length_map,bV];exact hlen
  ·simp only [Builtin.firstCells,Sem.run_pure]
   congr 1
   have:s.extract 0 s.size=s:=by
    apply ByteArray.ext
    simp
   rw [this]
   apply Array.toList_inj.1
   simp [bC,bt]
 ·rename_i kd xs
  simp only [Option.some.injEq,Prod.mk.injEq] at h
  obtain ⟨rfl,rfl⟩:=h
  simp only [Option.some.injEq,Prod.mk.injEq] at hf
  obtain ⟨rfl,rfl,rfl⟩:=hf
  obtain ⟨B,c,rfl,hc,hr⟩:=hx
  simp only [Blk.len] at hlen
  refine ⟨fun w'=>by simp [Builtin.lenOf],bC kd xs,by simp only [bC,List.length_map];exact hlen,cv rfl,dM,fun w' hw=>?_⟩
  cases hxs:xs with
  |nil =>
   cases B with
   |none=>simp [Builtin.firstCells,bC]
   |some ad=>simp [Builtin.firstCells,bC,loadCells,loadCellsFrom]
  |cons y ys =>
   rw [← hxs]
   obtain ⟨ad,rfl,ho,hrd⟩:=hr (by rw [hxs];simp)
   have:=run_loadCells_list (P:=P) w' ad (bC kd xs) (fun j v hv=>by
    simp only [bC,List.getElem?_map,Option.map_eq_some_iff] at hv
    obtain ⟨z,hz,rfl⟩:=hv
    have hlt:=(List.getElem?_eq_some_iff.1 hz).1
    have h2:=hM.oldCell (a:=ad.add j) (by rw [cq];exact ho)
    have h3:w'.cell? (ad.add j)=w.cell? (ad.add j):=by simp only [World.cell?,hw]
    rw [h3,h2,hrd j hlt]
    simp [hz])
   simp only [bC,List.length_map] at this
   simp only [Builtin.firstCells,← hlen]
   exact this
 ·rename_i xs
  simp only [Option.some.injEq,Prod.mk.injEq] at h
  obtain ⟨rfl,rfl⟩:=h
  simp only [Option.some.injEq,Prod.mk.injEq] at hf
  obtain ⟨rfl,rfl,rfl⟩:=hf
  obtain ⟨B,c,rfl,hc,hr⟩:=hx
  simp only [Blk.len] at hlen
  refine ⟨fun w'=>by simp [Builtin.lenOf],xs.map .string,by simp only [List.length_map];exact hlen,⟨trivial,by simp [Blk.len],fun j s hs=>?_⟩,fun v hv=>?_,fun w' hw=>?_⟩
  ·simp only [Blk.get?,Option.map_eq_some_iff] at hs
   obtain ⟨x,hx,rfl⟩:=hs
   exact ⟨.string x,by simp [hx],rfl⟩
  ·obtain ⟨x,_,rfl⟩:=List.mem_map.1 hv
   rfl
  ·cases hxs:xs with
   |nil =>
    cases B with
    |none=>simp [Builtin.firstCells]
    |some ad=>simp [Builtin.firstCells,loadCells,loadCellsFrom]
   |cons y ys =>
    rw [← hxs]
    obtain ⟨ad,rfl,ho,hrd⟩:=hr (by rw [hxs];simp)
    have:=run_loadCells_list (P:=P) w' ad (xs.map .string) (fun j v hv=>by
     simp only [List.getElem?_map,Option.map_eq_some_iff] at hv
     obtain ⟨z,hz,rfl⟩:=hv
     have hlt:=(List.getElem?_eq_some_iff.1 hz).1
     have h2:=hM.oldCell (a:=ad.add j) (by rw [cq];exact ho)
     have h3:w'.cell? (ad.add j)=w.cell? (ad.add j):=by simp only [World.cell?,hw]
     rw [h3,h2,hrd j hlt]
     simp [hz])
    simp only [List.length_map] at this
    simp only [Builtin.firstCells,← hlen]
    exact this
 ·rename_i b off len es cap
  simp only [Option.some.injEq,Prod.mk.injEq] at h
  obtain ⟨rfl,rfl⟩:=h
  simp only [bD] at hbs
  split at hbs
  ·cases hbs
  ·rename_i k0 hk0
   simp only [Option.some.injEq] at hbs
   subst hbs
   simp only [Option.some.injEq,Prod.mk.injEq] at hf
   obtain ⟨rfl,rfl,rfl⟩:=hf
   have hB:=hM.blk b k0 hk0
   have hgood:k0.good:=by
    revert hB
    cases σ b with
    |unset=>exact fun h=>h.elim
    |nil=>exact fun h=>h.2
    |«at» L=>exact fun h=>h.1
   obtain ⟨hC,e2⟩:=Blk.subS_sub hgood hC
   rw [e2] at hlen ⊢
   have hes:len*es=len*size:=by
    have:=(Blk.sub_get hgood hC).2.1
    omega
   rcases hx with ⟨rfl,_,B,rfl⟩|⟨L,c,hL,rfl,_⟩
   ·refine ⟨fun w'=>by simp [Builtin.lenOf],[],by simp,?_,by simp,fun w' hw=>?_⟩
    ·obtain ⟨s1,s2,s3,s4⟩:=Blk.sub_get hgood hC
     refine ⟨s1,by rw [s2];simp,fun j s hs=>?_⟩
     have:=Blk.get?_lt s1 hs
     omega
    ·cases B with
     |none=>simp [Builtin.firstCells]
     |some ad=>simp [Builtin.firstCells,loadCells,loadCellsFrom]
   ·rw [hL] at hB
    rw [hes] at hC hlen ⊢
    obtain ⟨cs,h1,h2,h3,h4⟩:=hB.first hC
    exact ⟨fun w'=>by simp [Builtin.lenOf],cs,h1,h2,h3,fun w' hw=>h4 w' P len c hw⟩
 ·cases h
def jg (P:Program) (u:TypeId) (i:TypeInfo) (z:Value) (m:Nat) (X:Value) (cs:List Value) (w:World):Prop :=
 ((∃ d,P.underlying u=some d∧(d=.string∨∃ e',d=.slice e'))∧(∀ w',(Builtin.lenOf X).run P w'=.ok m w')∧∀ w',w'.heap=w.heap→(Builtin.firstCells i.size m X).run P w'=.ok cs.toArray w') ∨
 ((∃ k,P.underlying u=some (.int k))∧X=.int .i64 (m:Int)∧m≤140737488355328∧(i.bytes:Int)*(m:Int)≤281474976710656∧cs.toArray=Builtin.zeroCells z.cells m∧z.cells.size=i.size)
theorem fP {t u ty e:TypeId} {i:TypeInfo} {z:Value} (ht:P.underlying t=some (.slice e)) (hi:P.info? e=some i) (hz:i.zero=some z)
  {base:Option Addr} {sLen sCap n:Nat} {X:Value} {olds news:List Value} (hS:jg P u i z n X news w)
  (hfo:(Builtin.firstCells i.size sLen (.slice base sLen sCap)).run P w.drew=.ok olds.toArray w.drew)
  (hg:sCap<sLen+n) (h63:sLen+n≤140737488355328) (hb:(sLen+n)*i.bytes≤140737488355328) :
  (Builtin.append_ #[t,u] ty #[.slice base sLen sCap,X]).run P w =
   .ok (.slice (some ⟨w.heap.size,0,none⟩) (sLen+n) (grownCap w (sLen+n) sCap e))
    (w.drew.alloc (.cells ((olds++news).toArray++Builtin.zeroCells z.cells (grownCap w (sLen+n) sCap e-(sLen+n))) e)):=by
 have hn:¬ (sLen+n≤sCap):=by omega
 have h63':¬ (9223372036854775807<((sLen:Int)+(n:Int))):=by omega
 have hfit:=growslice_fits (bytes:=i.bytes) hg hb
 have h48':¬ (281474976710656<Builtin.nextslicecap (sLen+n) sCap*i.bytes):=by omega
 rcases hS with ⟨⟨d,hu,hd⟩,hl,hf0⟩|⟨⟨k,hu⟩,rfl,q1,q2,q3,q4⟩
 ·have hf:=hf0 w.drew rfl
  rcases hd with rfl|⟨e',rfl⟩
  all_goals
   simp [Builtin.append_,aq ht,aq hu,sizeOf,typeInfo,zeroValue,hi,hz,hl,hn,h63',h48',Question.forced,hf,hfo,newRow,grownCap]
   rw [← List.append_toArray,Array.append_assoc]
 ·have w1:IntKind.wrap .i64 (n:Int)=(n:Int):=by rw [IntKind.wrap_i64];omega
  have q2':¬ (281474976710656<(n:Int)*(i.bytes:Int)):=by rw [Int.mul_comm];omega
  have q5:¬ ((n:Int)<0):=by omega
  have q6:¬ (9223372036854775807<((sLen:Int)+max (n:Int) 0)):=by omega
  by_cases h0:n*i.size=0
  ·have h1:news.toArray=#[]:=by
    rw [q3]
    rcases Nat.mul_eq_zero.1 h0 with h2|h2
    ·rw [h2];simp [Builtin.zeroCells]
    ·rw [← q4] at h2
     apply Array.eq_empty_of_size_eq_zero
     rw [size_zeroCells,h2,Nat.mul_zero]
   have h2:news=[]:=by simpa using h1
   subst h2
   simp [Builtin.append_,aq ht,aq hu,sizeOf,typeInfo,zeroValue,hi,hz,hn,h63',h48',Question.forced,hfo,newRow,grownCap,w1,q2',q5,q6,h0,asInt,asIntOf]
  ·simp [Builtin.append_,aq ht,aq hu,sizeOf,typeInfo,zeroValue,hi,hz,hn,h63',h48',Question.forced,hfo,newRow,grownCap,w1,q2',q5,q6,h0,asInt,asIntOf]
   rw [← q3,← List.append_toArray,Array.append_assoc]
theorem oC {t u ty e:TypeId} {i:TypeInfo} {z:Value} (ht:P.underlying t=some (.slice e)) (hi:P.info? e=some i) (hz:i.zero=some z)
  {base:Addr} {sLen sCap n:Nat} {X:Value} {news:List Value} {w':World} (hS:jg P u i z n X news w)
  (hg:sLen+n≤sCap) (hs:(storeCells (base.add (sLen*i.size)) news).run P w=.ok () w') :
  (Builtin.append_ #[t,u] ty #[.slice (some base) sLen sCap,X]).run P w=.ok (.slice (some base) (sLen+n) sCap) w':=by
 rcases hS with ⟨⟨d,hu,hd⟩,hl,hf0⟩|⟨⟨k,hu⟩,rfl,q1,q2,q3,q4⟩
 ·have hf:=hf0 w rfl
  rcases hd with rfl|⟨e',rfl⟩ <;> simp [Builtin.append_,aq ht,aq hu,sizeOf,typeInfo,hi,hl,hg,hf,hs]
 ·have w1:IntKind.wrap .i64 (n:Int)=(n:Int):=by rw [IntKind.wrap_i64];omega
  have q2':¬ (281474976710656<(n:Int)*(i.bytes:Int)):=by rw [Int.mul_comm];omega
  have q5:¬ ((n:Int)<0):=by omega
  by_cases h0:n*i.size=0
  ·have h1:news.toArray=#[]:=by
    rw [q3]
    rcases Nat.mul_eq_zero.1 h0 with h2|h2
    ·rw [h2];simp [Builtin.zeroCells]
    ·rw [← q4] at h2
     apply Array.eq_empty_of_size_eq_zero
     rw [size_zeroCells,h2,Nat.mul_zero]
   have h2:news=[]:=by simpa using h1
   subst h2
   simp [Builtin.append_,aq ht,aq hu,sizeOf,typeInfo,hi,hg,w1,q2',q5,h0,asInt,asIntOf,hs]
  ·simp [Builtin.append_,aq ht,aq hu,sizeOf,typeInfo,zeroValue,hi,hz,hg,w1,q2',q5,h0,asInt,asIntOf,hs]
   rw [← q3]
   simp [hs]
theorem jc {t u ty e:TypeId} {i:TypeInfo} {z:Value} (ht:P.underlying t=some (.slice e)) (hi:P.info? e=some i)
  {base:Option Addr} {X:Value} (hS:jg P u i z 0 X [] w) :
  (Builtin.append_ #[t,u] ty #[.slice base 0 0,X]).run P w=.ok (.slice base 0 0) w:=by
 rcases hS with ⟨⟨d,hu,hd⟩,hl,hf0⟩|⟨⟨k,hu⟩,rfl,q1,q2,q3,q4⟩
 ·have hf:(Builtin.firstCells i.size 0 X).run P w=.ok #[] w:=hf0 w rfl
  rcases hd with rfl|⟨e',rfl⟩ <;> cases base <;> simp [Builtin.append_,aq ht,aq hu,sizeOf,typeInfo,hi,hl,hf,storeCells]
 ·have w1:IntKind.wrap .i64 (0:Int)=0:=by rw [IntKind.wrap_i64];omega
  cases base <;> simp [Builtin.append_,aq ht,aq hu,sizeOf,typeInfo,hi,w1,asInt,asIntOf,storeCells]
theorem jK (v:Value) (n:Nat):Builtin.zeroCells #[v] n=(List.replicate n v).toArray:=by
 apply Array.ext
 ·simp [size_zeroCells]
 ·intro j h1 h2
  simp [Builtin.zeroCells,Nat.mod_one]
theorem la {e u:TypeId} {i:TypeInfo} {z:Value} {x:AV} {X:Value} {rs:List Nat} {f:List Blk→Option (Prop × Nat × Blk)} {bs:List Blk} {C:Prop} {m:Nat} {k:Blk} (hx:AVR E σ x X) (hM:MemR E σ M w) (hi:P.info? e=some i) (hz:i.zero=some z) (h:lf P e u x=some (rs,f)) (hbs:bD M rs=some bs)
  (hf:f bs=some (C,m,k)) (hC:C) (hlen:k.len=m*i.size) (h0:0<i.size) :
  ∃ cs:List Value,cs.length=m*i.size∧cT E σ k cs∧(∀ v∈cs,v.oneCell'=true)∧jg P u i z m X cs w∧jg P u i z m X cs w.drew:=by
 unfold lf at h
 split at h
 ·rename_i hu
  obtain ⟨s1,cs,s2,s3,s4,s5⟩:=pP (P:=P) hx hM h hbs hf hC hlen h0
  exact ⟨cs,s2,s3,s4,.inl ⟨⟨_,hu,.inl rfl⟩,s1,s5⟩,.inl ⟨⟨_,hu,.inl rfl⟩,s1,fun w' hw=>s5 w' hw⟩⟩
 ·rename_i e' hu
  obtain ⟨s1,cs,s2,s3,s4,s5⟩:=pP (P:=P) hx hM h hbs hf hC hlen h0
  exact ⟨cs,s2,s3,s4,.inl ⟨⟨_,hu,.inr ⟨_,rfl⟩⟩,s1,s5⟩,.inl ⟨⟨_,hu,.inr ⟨_,rfl⟩⟩,s1,fun w' hw=>s5 w' hw⟩⟩
 ·rename_i ku hu
  unfold mZ at h
  rw [hi] at h
  split at h
  ·rename_i n i' hi'
   injection hi' with hi'
   subst hi'
   rw [hz] at h
   split at h
   ·rename_i kz v hz' hs1
    injection hz' with hz'
    subst hz'
    simp only [Option.some.injEq,Prod.mk.injEq] at h
    obtain ⟨rfl,rfl⟩:=h
    simp only [Option.some.injEq,Prod.mk.injEq] at hf
    obtain ⟨rfl,rfl,rfl⟩:=hf
    simp only [AVR,ScR] at hx;subst hx
    obtain ⟨⟨c1,c2⟩,c3⟩:=hC
    have en:((n.toNat:Nat):Int)=n:=Int.toNat_of_nonneg c1
    have hok:∀ w,jg P u i (.int kz v) n.toNat (.int .i64 n) (bC kz (List.replicate n.toNat v)) w:=fun w=>by
     refine .inr ⟨⟨_,hu⟩,by rw [en],by omega,by rw [en];exact c3,?_,?_⟩
     ·show _=Builtin.zeroCells #[.int kz v] n.toNat
      rw [jK,bC,List.map_replicate]
     ·rw [hs1];rfl
    exact ⟨_,by rw [bC,List.length_map,List.length_replicate,hs1,Nat.mul_one],cv (by simp),dM,hok w,hok _⟩
   ·cases h
  ·cases h
 ·cases h
theorem MemR.nil {k:Blk} (hM:MemR E σ M w) (hn:σ nm=.unset) (hk:k.good) (hlen:k.len=0):MemR E (upd σ nm .nil) (cd nm k M) w:=by
 have hx:=cP (σ:=σ) .nil hn
 refine ⟨fun b x hb=>?_,fun b c x y L L' hb hc hL hL' hg=>?_,hM.old,hM.size,hM.olds,hM.os,hM.tape,hM.output⟩
 ·rw [bP] at hb
  by_cases e:b=nm
  ·rw [if_pos e] at hb
   injection hb with hb
   subst hb e
   rw [bq]
   exact ⟨hlen,hk⟩
  ·rw [if_neg e] at hb
   rw [bG _ _ e]
   exact (hM.blk b x hb).ext hx
 ·have ne:∀ m L1,upd σ nm .nil m=.at L1→m≠nm:=by
   intro m L1 h e
   rw [e,bq] at h
   cases h
  have e1:=ne b L hL
  have e2:=ne c L' hL'
  rw [bP,if_neg e1] at hb
  rw [bP,if_neg e2] at hc
  rw [bG _ _ e1] at hL
  rw [bG _ _ e2] at hL'
  exact hM.inj b c x y L L' hb hc hL hL' hg
theorem MemR.move {w':World} {b:Nat} {k k':Blk} {L:Loc} {β':Nat} {arr arr':Array Value} {elem lo hi:Nat} (hM:MemR E σ M w) (hn:σ nm=.unset) (hb:ap b M=some k) (hL:σ b=.at L)
  (harr:w.heap[L.g]?=some (.cells arr elem (lo,hi))) (harr':w'.heap[L.g]?=some (.cells arr' elem (lo,hi))) (hsz:arr'.size=arr.size)
  (hother:∀ g,g≠L.g→w'.heap[g]?=w.heap[g]?) (hsize:w'.heap.size=w.heap.size) (hos:w'.os=w.os) (htape:w'.tape=w.tape) (hout:w'.output=w.output)
  (hk:k'.good) (hlen:β'+k'.len≤L.sz) (hc:∀ j s,k'.get? j=some s→∃ v,arr'[β'+j]?=some v∧ScR E σ s v) :
  MemR E (upd σ nm (.at ⟨L.g,β',L.sz⟩)) (cd nm k' (dE b M)) w':=by
 have hx:=cP (σ:=σ) (.at ⟨L.g,β',L.sz⟩) hn
 have hB:=hM.blk b k hb
 rw [hL] at hB
 obtain ⟨_,a1,e1,l1,h1,hh,hs,hle,hno,hfz,_⟩:=hB
 have hsame:a1=arr∧e1=elem∧l1=lo∧h1=hi:=by
  have:=hh.symm.trans harr
  simp only [Option.some.injEq,Obj.cells.injEq,Prod.mk.injEq] at this
  exact ⟨this.1,this.2.1,this.2.2.1,this.2.2.2⟩
 obtain ⟨rfl,rfl,rfl,rfl⟩:=hsame
 have get:∀ m z,m≠nm→ap m (cd nm k' (dE b M))=some z→ap m M=some z∧m≠b:=by
  intro m z hm h
  rw [bP,if_neg hm,cS] at h
  split at h
  ·cases h
  ·exact ⟨h,by assumption⟩
 refine ⟨fun c x hcx=>?_,fun c d x y L1 L2 hc1 hd hL1 hL2 hg=>?_,fun g hg=>?_,by rw [hsize];exact hM.size,hM.olds,by rw [hos,hM.os],by rw [htape,hM.tape],by rw [hout,hM.output]⟩
 ·by_cases e:c=nm
  ·rw [bP,if_pos e] at hcx
   injection hcx with hcx
   subst hcx e
   rw [bq]
   exact ⟨hk,arr',_,_,_,harr',by simp only;omega,hlen,hno,hfz,fun j s hs=>let ⟨v,h1,h2⟩:=hc j s hs;⟨v,h1,h2.ext hx⟩⟩
  ·obtain ⟨hcM,hcb⟩:=get c x e hcx
   rw [bG _ _ e]
   refine dk.same ?_ ((hM.blk c x hcM).ext hx)
   intro L' hL'
   refine hother _ fun hg=>hcb ?_
   exact hM.inj c b x k L' L hcM hb hL' hL hg
 ·by_cases e:c=nm <;> by_cases e':d=nm
  ·omega
  ·exfalso
   obtain ⟨hdM,hdb⟩:=get d y e' hd
   rw [e,bq] at hL1
   rw [bG _ _ e'] at hL2
   injection hL1 with hL1
   subst hL1
   exact hdb (hM.inj d b y k L2 L hdM hb hL2 hL hg.symm)
  ·exfalso
   obtain ⟨hcM,hcb⟩:=get c x e hc1
   rw [e',bq] at hL2
   rw [bG _ _ e] at hL1
   injection hL2 with hL2
   subst hL2
   exact hcb (hM.inj c b x k L1 L hcM hb hL1 hL hg)
  ·obtain ⟨hdM,_⟩:=get d y e' hd
   obtain ⟨hcM,_⟩:=get c x e hc1
   rw [bG _ _ e] at hL1
   rw [bG _ _ e'] at hL2
   exact hM.inj c d x y L1 L2 hcM hdM hL1 hL2 hg
 ·rw [hother g (fun e=>hno (e ▸ hg))]
  exact hM.old g hg
theorem MemR.grown {k:Blk} {cs:List Value} {e n c:Nat} {z:Array Value} (hM:MemR E σ M w) (hn:σ nm=.unset) (hk:cT E σ k cs) :
  MemR E (upd σ nm (.at ⟨w.heap.size,0,(cs.toArray++Builtin.zeroCells z n).size⟩)) (cd nm k M) (w.drew.alloc (.cells (cs.toArray++Builtin.zeroCells z n) e)):=by
 refine hM.cells hn (l:=cs) (elem:=e) (lo:=0) (hi:=0) rfl rfl rfl rfl ⟨fun j hj=>by omega,Nat.le_refl _⟩ hk (fun j v hv=>?_) (by simp)
 have:=(List.getElem?_eq_some_iff.1 hv).1
 rw [Array.getElem?_append_left (by simpa using this)]
 simpa using hv
theorem ko {k:Blk} {cs:List Value} {o s:Nat} (hk:k.good) (hC:(k.sub o s).1) (hs:o+s=k.len) (h:cT E σ (k.sub o s).2 cs):cT E σ (k.from o) cs:=by
 obtain ⟨h1,h2,h3⟩:=h
 obtain ⟨s1,s2,s3,s4⟩:=Blk.sub_get hk hC
 obtain ⟨f1,f2,f3⟩:=Blk.from_get hk o
 refine ⟨f1,by omega,fun j sc hsc=>?_⟩
 have hj:=Blk.get?_lt f1 hsc
 rw [f3] at hsc
 rw [← s4 j (by omega)] at hsc
 exact h3 j sc hsc
theorem oq {k:Blk} {o s:Nat} (h:o+s≤k.len):(k.sub o s).1:=by
 cases k with
 |ints kd n xs =>
  unfold Blk.sub
  simp only
  cases hb:(Nat.beq s n && Nat.beq o 0)
  ·simpa [Blk.len] using h
  ·trivial
 |cells l=>simpa [Blk.sub,Blk.len] using h
 |vec v l =>
  unfold Blk.sub
  simp only
  cases hb:Nat.beq o 0
  ·simpa [Blk.len] using h
  ·simp only [cond_true,Blk.len] at h ⊢
   omega
theorem MemR.good (hM:MemR E σ M w) {b:Nat} {k:Blk} (h:ap b M=some k):k.good:=by
 have hB:=hM.blk b k h
 revert hB
 cases σ b with
 |unset=>exact fun h=>h.elim
 |nil=>exact fun h=>h.2
 |«at» L=>exact fun h=>h.1
theorem eI {B c n m size:Nat} {cs:List Value} {z:Array Value} (hcs:cs.length=n*size) (hz:z.size=size) (hc:n≤c):0+0+c*size=(cs.toArray++Builtin.zeroCells z (c-n)).size:=by
 simp only [Array.size_append,List.size_toArray,size_zeroCells,hz,hcs,← Nat.add_mul]
 rw [show n+(c-n)=c by omega]
 omega
theorem ky {t u ty:TypeId} {dst src:AV} {D S:Value} (hd:AVR E σ dst D) (hs:AVR E σ src S) (hM:MemR E σ M w) (hn:∀ m,nm≤m→m<nm+16→σ m=.unset)
  (hA:iv E.P t u dst src nm=some A):dZ E σ nm M A ((do pure (.value (← Builtin.append_ #[t,u] ty #[D,S])):Sem Next).run E.P w):=by
 have hnm:=hn nm (Nat.le_refl _) (by omega)
 unfold iv at hA
 split at hA
 ·rename_i e ht
  split at hA
  ·rename_i i rs f hi hsrc
   split at hA
   ·cases hA
   ·rename_i z hz
    split at hA
    ·
     simp only [AVR,ScR] at hd;subst hd
     simp only [Option.some.injEq] at hA
     subst hA
     intro C v M' hrun hC
     simp only [Deed.run] at hrun
     cases hbs:bD M rs with
     |none=>simp [hbs] at hrun
     |some bs =>
      cases hf:f bs with
      |none=>simp [hbs,hf] at hrun
      |some x =>
       obtain ⟨C1,m,k⟩:=x
       simp only [hbs,hf,bg,put0,Option.some.injEq,Prod.mk.injEq] at hrun
       obtain ⟨rfl,rfl,rfl⟩:=hrun
       obtain ⟨⟨⟨c1,c2⟩,c3,c4,c5⟩,c6⟩:=hC
       obtain ⟨cs,s2,s3,s4,hS,hSd⟩:=la hs hM hi hz hsrc hbs hf c1 c6 c3
       by_cases hm:m=0
       ·subst hm
        have hcs:cs=[]:=List.eq_nil_of_length_eq_zero (by omega)
        subst hcs
        refine ⟨.slice none 0 0,w,upd σ nm .nil,.inl (bL (jc ht hi hS)),cP _ hnm,fun m hm=>bG σ _ (by omega),?_,?_⟩
        ·exact .inl ⟨rfl,.inl rfl,none,rfl⟩
        ·exact hM.nil hnm s3.1 (by omega)
       ·have hg:=grownCap_ge w (0+m) 0 e
        refine ⟨_,_,upd σ nm (.at ⟨w.heap.size,0,(([]++cs).toArray++Builtin.zeroCells z.cells (grownCap w (0+m) 0 e-(0+m))).size⟩),.inl (bL (fP (base:=none) (sLen:=0) (sCap:=0) (olds:=[]) (news:=cs) ht hi hz hS (by simp [Builtin.firstCells]) (by omega) (by omega) (by simpa using c4))),cP _ hnm,fun m hm=>bG σ _ (by omega),?_,?_⟩
        ·refine .inr ⟨_,grownCap w (0+m) 0 e,bq ..,by simp,by omega,?_,?_⟩
         ·have:=eI (B:=0) (m:=0) (cs:=[]++cs) (z:=z.cells) (c:=grownCap w (0+m) 0 e) (n:=0+m) (size:=i.size) (by simpa using s2) c2 hg
          simp only;omega
         ·have:=eI (B:=0) (m:=0) (cs:=[]++cs) (z:=z.cells) (c:=grownCap w (0+m) 0 e) (n:=0+m) (size:=i.size) (by simpa using s2) c2 hg
          simp only;omega
        ·exact hM.grown (c:=0) hnm (by simpa using s3)
    ·
     rename_i b off len es
     split at hA
     ·cases hA
     ·rename_i hbrs
      simp only [Option.some.injEq] at hA
      subst hA
      intro C v M' hrun hC
      simp only [Deed.run,bD] at hrun
      cases hk0:ap b M with
      |none=>simp [hk0] at hrun
      |some k0 =>
       cases hbs:bD M rs with
       |none=>simp [hk0,hbs] at hrun
       |some bs =>
        cases hf:f bs with
        |none=>simp [hk0,hbs,hf] at hrun
        |some x =>
         obtain ⟨C1,m,k⟩:=x
         cases hcat:(k0.from off).cat k with
         |none=>simp [hk0,hbs,hf,hcat] at hrun
         |some k' =>
          simp only [hk0,hbs,hf,hcat,bg,put0,Option.some.injEq,Prod.mk.injEq] at hrun
          obtain ⟨rfl,rfl,rfl⟩:=hrun
          obtain ⟨⟨⟨⟨c1,c2⟩,c3,c4,c5⟩,c6⟩,rfl,c8⟩:=hC
          obtain ⟨cs,s2,s3,s4,hS,hSd⟩:=la hs hM hi hz hsrc hbs hf c1 c6 c3
          have hgood:=hM.good hk0
          have hM':=hM.drop b
          rcases hd with ⟨rfl,_,B,rfl⟩|⟨L,c,hL,rfl,hlc,hfit,hcap⟩
          ·
           obtain ⟨f1,f2,f3⟩:=Blk.from_get hgood off
           have hold:cT E σ (k0.from off) []:=⟨f1,by rw [f2];simp;omega,fun j s hj=>by have:=Blk.get?_lt f1 hj;omega⟩
           obtain ⟨hk',hlen'⟩:=Blk.cat_R hold s3 hcat
           by_cases hm:m=0
           ·subst hm
            have hcs:cs=[]:=List.eq_nil_of_length_eq_zero (by omega)
            subst hcs
            refine ⟨.slice B 0 0,w,upd σ nm .nil,.inl (bL (jc ht hi hS)),cP _ hnm,fun m hm=>bG σ _ (by omega),?_,?_⟩
            ·exact .inl ⟨rfl,.inl rfl,B,rfl⟩
            ·exact hM'.nil hnm hk'.1 (by rw [hk'.2.1];rfl)
           ·have hg:=grownCap_ge w (0+m) 0 e
            have hfo:(Builtin.firstCells i.size 0 (.slice B 0 0)).run E.P w.drew=.ok ([]:List Value).toArray w.drew:=by
             cases B <;> simp [Builtin.firstCells,loadCells,loadCellsFrom]
            refine ⟨_,_,upd σ nm (.at ⟨w.heap.size,0,(([]++cs).toArray++Builtin.zeroCells z.cells (grownCap w (0+m) 0 e-(0+m))).size⟩),.inl (bL (fP (base:=B) (sLen:=0) (sCap:=0) (olds:=[]) (news:=cs) ht hi hz hS hfo (by omega) (by omega) (by simpa using c4))),cP _ hnm,fun m hm=>bG σ _ (by omega),?_,?_⟩
            ·have:=eI (B:=0) (m:=0) (cs:=[]++cs) (z:=z.cells) (c:=grownCap w (0+m) 0 e) (n:=0+m) (size:=i.size) (by simpa using s2) c2 hg
             exact .inr ⟨_,grownCap w (0+m) 0 e,bq ..,by simp,by omega,by simp only;omega,by simp only;omega⟩
            ·exact hM'.grown (c:=0) hnm hk'
          ·have hB:=hM.blk b k0 hk0
           rw [hL] at hB
           simp only at hcap
           have hsub:(k0.sub off (len*i.size)).1:=oq (by omega)
           obtain ⟨olds,o1,o2,o3,o4⟩:=hB.first hsub
           have hold:=ko hgood hsub c8 o2
           obtain ⟨hk',hlen'⟩:=Blk.cat_R hold s3 hcat
           by_cases hroom:len+m≤c
           ·
            have hB':=hB
            obtain ⟨_,arr,elem,lo,hi',h1,h2,h3,h4,h5,h6⟩:=hB'
            have e1:(len+m)*i.size≤c*i.size:=Nat.mul_le_mul_right _ hroom
            rw [Nat.add_mul] at e1
            obtain ⟨w',arr',a1,a2,a3,a4,a5,a6,a7,a8,a9⟩:=dL (P:=E.P) L.g (L.β+off+len*i.size) elem lo hi' cs 0 arr w h1 (by omega) s4 (by rw [h2];exact h5.1)
            refine ⟨.slice (some ⟨L.g,L.β+off,none⟩) (len+m) c,w',upd σ nm (.at ⟨L.g,L.β+off,L.sz⟩),.inl (bL (oC ht hi hz hS hroom (by rw [cI];exact a1))),cP _ hnm,fun m hm=>bG σ _ (by omega),?_,?_⟩
            ·exact .inr ⟨⟨L.g,L.β+off,L.sz⟩,c,bq ..,by simp,hroom,by simp only;omega,by simp only;omega⟩
            ·refine hM.move hnm hk0 hL h1 a2 a3 a5 a6 a7 a8 a9 hk'.1 (by have:=hk'.2.1;simp at this;omega) fun j sc hsc=>?_
             obtain ⟨v,hv,hr⟩:=hk'.2.2 j sc hsc
             refine ⟨v,?_,hr⟩
             rw [a4]
             by_cases hj:j<len*i.size
             ·rw [if_neg (by omega)]
              rw [List.getElem?_append_left (by omega)] at hv
              have hj0:off+j<k0.len:=by omega
              obtain ⟨s0,hs0⟩:=Blk.get_some hgood hj0
              obtain ⟨v0,hv0,_⟩:=h6 (off+j) s0 hs0
              have hcell:=o4 w E.P len c rfl
              rw [Nat.add_assoc]
              rw [hv0]
              have hloads:∀ (q:Nat) (x:Value),olds[q]?=some x→arr[L.β+off+q]?=some x:=by
               intro q x hx
               obtain ⟨cs2,l1,l2,l3⟩:=hB.list hsub
               have hrun2:=run_loadCells_list (P:=E.P) w ⟨L.g,L.β+off,none⟩ cs2 l2
               rw [l1] at hrun2
               simp only [Builtin.firstCells] at hcell
               rw [hrun2] at hcell
               simp only [Result.ok.injEq,and_true] at hcell
               have:cs2=olds:=by simpa using hcell
               rw [← this] at hx
               have:=l2 q x hx
               rw [cI,fJ h1] at this
               exact this
              have:=hloads j v hv
              rw [Nat.add_assoc,hv0] at this
              exact this
             ·have hjl:j<len*i.size+m*i.size:=by
               have:=(List.getElem?_eq_some_iff.1 hv).1
               simp at this
               omega
              rw [if_pos (by omega)]
              rw [List.getElem?_append_right (by omega)] at hv
              have:L.β+off+j-(L.β+off+len*i.size+0)=j-olds.length:=by omega
              rw [this];exact hv
           ·
            have hg:=grownCap_ge w (len+m) c e
            refine ⟨_,_,upd σ nm (.at ⟨w.heap.size,0,((olds++cs).toArray++Builtin.zeroCells z.cells (grownCap w (len+m) c e-(len+m))).size⟩),.inl (bL (fP (base:=some ⟨L.g,L.β+off,none⟩) (sLen:=len) (sCap:=c) (olds:=olds) (news:=cs) ht hi hz hS (o4 w.drew E.P len c rfl) (by omega) c5 c4)),cP _ hnm,fun m hm=>bG σ _ (by omega),?_,?_⟩
            ·have:=eI (B:=0) (m:=0) (cs:=olds++cs) (z:=z.cells) (c:=grownCap w (len+m) c e) (n:=len+m) (size:=i.size) (by simp [o1,s2,Nat.add_mul]) c2 hg
             exact .inr ⟨_,grownCap w (len+m) c e,bq ..,by simp,by omega,by simp only;omega,by simp only;omega⟩
            ·exact hM'.grown (c:=0) hnm hk'
    ·
     rename_i b off len es c
     simp only [Option.some.injEq] at hA
     subst hA
     intro C v M' hrun hC
     simp only [Deed.run,bD] at hrun
     cases hk0:ap b M with
     |none=>simp [hk0] at hrun
     |some k0 =>
      cases hbs:bD M rs with
      |none=>simp [hk0,hbs] at hrun
      |some bs =>
       cases hf:f bs with
       |none=>simp [hk0,hbs,hf] at hrun
       |some x =>
        obtain ⟨C1,m,k⟩:=x
        cases hcat:(k0.sub off (len*es)).2.cat k with
        |none=>simp [hk0,hbs,hf,hcat] at hrun
        |some k' =>
         simp only [hk0,hbs,hf,hcat,bg,put0,Option.some.injEq,Prod.mk.injEq] at hrun
         obtain ⟨rfl,rfl,rfl⟩:=hrun
         obtain ⟨⟨⟨⟨⟨c1,c1'⟩,c2⟩,c3,c4,c5⟩,c6⟩,rfl,rfl,c9⟩:=hC
         obtain ⟨cs,s2,s3,s4,hS,hSd⟩:=la hs hM hi hz hsrc hbs hf c1 c6 c3
         have hgood:=hM.good hk0
         have hg:=grownCap_ge w (c+m) c e
         rcases hd with ⟨rfl,_,B,rfl⟩|⟨L,c',hL,rfl,hlc,hfit,rfl⟩
         ·have hold:cT E σ (k0.sub off (0*i.size)).2 []:=by
           obtain ⟨f1,f2,f3,f4⟩:=Blk.sub_get hgood c1'
           exact ⟨f1,by rw [f2];simp,fun j s hj=>by have:=Blk.get?_lt f1 hj;omega⟩
          obtain ⟨hk',hlen'⟩:=Blk.cat_R hold s3 hcat
          have hfo:(Builtin.firstCells i.size 0 (.slice B 0 0)).run E.P w.drew=.ok ([]:List Value).toArray w.drew:=by
           cases B <;> simp [Builtin.firstCells,loadCells,loadCellsFrom]
          refine ⟨_,_,upd σ nm (.at ⟨w.heap.size,0,(([]++cs).toArray++Builtin.zeroCells z.cells (grownCap w (0+m) 0 e-(0+m))).size⟩),.inl (bL (fP (base:=B) (sLen:=0) (sCap:=0) (olds:=[]) (news:=cs) ht hi hz hS hfo (by omega) c5 c4)),cP _ hnm,fun m hm=>bG σ _ (by omega),?_,?_⟩
          ·have:=eI (B:=0) (m:=0) (cs:=[]++cs) (z:=z.cells) (c:=grownCap w (0+m) 0 e) (n:=0+m) (size:=i.size) (by simpa using s2) c2 hg
           exact .inr ⟨_,grownCap w (0+m) 0 e,bq ..,by simp,by omega,by simp only;omega,by simp only;omega⟩
          ·exact hM.grown (c:=0) hnm hk'
         ·have hB:=hM.blk b k0 hk0
          rw [hL] at hB
          obtain ⟨olds,o1,o2,o3,o4⟩:=hB.first c1'
          obtain ⟨hk',hlen'⟩:=Blk.cat_R o2 s3 hcat
          refine ⟨_,_,upd σ nm (.at ⟨w.heap.size,0,((olds++cs).toArray++Builtin.zeroCells z.cells (grownCap w (c'+m) c' e-(c'+m))).size⟩),.inl (bL (fP (base:=some ⟨L.g,L.β+off,none⟩) (sLen:=c') (sCap:=c') (olds:=olds) (news:=cs) ht hi hz hS (o4 w.drew E.P c' c' rfl) (by omega) c5 c4)),cP _ hnm,fun m hm=>bG σ _ (by omega),?_,?_⟩
          ·have:=eI (B:=0) (m:=0) (cs:=olds++cs) (z:=z.cells) (c:=grownCap w (c'+m) c' e) (n:=c'+m) (size:=i.size) (by simp [o1,s2,Nat.add_mul]) c2 hg
           exact .inr ⟨_,grownCap w (c'+m) c' e,bq ..,by simp,by omega,by simp only;omega,by simp only;omega⟩
          ·exact hM.grown (c:=0) hnm hk'
    ·cases hA
  ·cases hA
 ·cases hA
end
end Go.Vm
namespace Go.Vm
open Go
section
variable {E:Env} {σ:Sig} {nm:Nat} {M:Mem} {w:World} {A:Deed} {r:Result Next} {P:Program} {G:dP} {fr:Fr} {a:Act}
theorem fy (hG:ck E G) (hf:FrR E σ fr a):∀ {l:List Operand} {vs:List AV},dX (ev G fr) l=some vs→cW (AVR E σ) vs (l.map a.eval)
 |[],vs,h=>by simp only [dX,Option.some.injEq] at h;subst h;trivial
 |o :: l,vs,h=>by
  simp only [dX] at h
  split at h
  ·cases h
  ·rename_i v hv
   split at h
   ·cases h
   ·rename_i us hus
    simp only [Option.some.injEq] at h
    subst h
    exact ⟨dS hG hf hv,fy hG hf hus⟩
theorem gS (hG:ck E G) (hf:FrR E σ fr a):∀ {l:List (Nat × Operand)} {vs:List (Nat × AV)},eD (ev G fr) l=some vs→lb E σ vs (l.map fun x=>(x.1,a.eval x.2))
 |[],vs,h=>by simp only [eD,Option.some.injEq] at h;subst h;trivial
 |(i,o) :: l,vs,h=>by
  simp only [eD] at h
  split at h
  ·cases h
  ·rename_i v hv
   split at h
   ·cases h
   ·rename_i us hus
    simp only [Option.some.injEq] at h
    subst h
    exact ⟨⟨rfl,dS hG hf hv⟩,gS hG hf hus⟩
theorem kW (hG:ck E G) (hf:FrR E σ fr a) {o:Option Operand} {v:Option AV} (h:eR (ev G fr) o=some v):ga E σ v (o.map a.eval):=by
 cases o with
 |none=>simp only [eR,Option.some.injEq] at h;subst h;trivial
 |some x =>
  simp only [eR] at h
  split at h
  ·rename_i u hu
   simp only [Option.some.injEq] at h
   subst h
   exact dS hG hf hu
  ·cases h
theorem A1R.up {v:A1} {V:Value} (h:A1R E σ v V):AVR E σ v.up V:=by cases v <;> exact h
theorem nW {t u ty:TypeId} {dst src:AV} {D S:Value} (hd:AVR E σ dst D) (hs:AVR E σ src S) (hM:MemR E σ M w) (hA:lg E.P t dst src=some A) :
  dZ E σ nm M A ((do pure (.value (← Builtin.copy_ #[t,u] ty #[D,S])):Sem Next).run E.P w):=by
 unfold lg at hA
 split at hA
 ·rename_i e ht
  split at hA
  ·rename_i s b off len es cap rs f hsz hsrc
   split at hA
   ·cases hA
   ·simp only [Option.some.injEq] at hA
    subst hA
    intro C v M' hrun hC
    simp only [Deed.run,bD] at hrun
    cases hk0:ap b M with
    |none=>simp [hk0] at hrun
    |some k0 =>
     cases hbs:bD M rs with
     |none=>simp [hk0,hbs] at hrun
     |some bs =>
      cases hf:f bs with
      |none=>simp [hk0,hbs,hf] at hrun
      |some x =>
       obtain ⟨C1,m,k⟩:=x
       cases hput:k0.putS off k.av with
       |none=>simp [hk0,hbs,hf,hput] at hrun
       |some y =>
        obtain ⟨C2,m',k'⟩:=y
        simp only [hk0,hbs,hf,hput,bg,put0,Option.some.injEq,Prod.mk.injEq] at hrun
        obtain ⟨rfl,rfl,rfl⟩:=hrun
        obtain ⟨⟨⟨⟨c1,c2⟩,c3,rfl⟩,c5,c6⟩,rfl⟩:=hC
        obtain ⟨s1,cs,s2,s3,s4,s5⟩:=pP (P:=E.P) hs hM hsrc hbs hf c1 c6 c3
        have hgood:=hM.good hk0
        have hav:=s3.av
        obtain ⟨p1,p2,p3,p4,p5,p6⟩:=Blk.putS_get hgood hav hput c2
        simp only [Value.cells] at p4 p5 p6
        have hmin:Nat.min m len=m:=Nat.min_eq_left c5
        rcases hd with ⟨rfl,_,B,rfl⟩|⟨L,c,hL,rfl,hlc,_⟩
        ·
         have hm:m=0:=by omega
         subst hm
         have hcs:cs=[]:=List.eq_nil_of_length_eq_zero (by omega)
         subst hcs
         refine ⟨.int .i64 (0:Nat),w,σ,.inl (bL ?_),.refl _,fun _ _=>rfl,rfl,?_⟩
         ·have:=s5 w rfl
          cases B <;> simp [Builtin.copy_,aq ht,cg hsz,s1,this,storeCells,goInt]
         ·
          refine ⟨fun b' x hb'=>?_,fun b' c' x y L L' hb' hc'=>?_,hM.old,hM.size,hM.olds,hM.os,hM.tape,hM.output⟩
          ·rw [bP] at hb'
           by_cases e:b'=b
           ·rw [if_pos e] at hb'
            injection hb' with hb'
            subst hb' e
            have hB:=hM.blk b' k0 hk0
            revert hB
            cases σ b' with
            |unset=>exact fun h=>h
            |nil=>exact fun h=>⟨by rw [p2];exact h.1,p1⟩
            |«at» L =>
             rintro ⟨_,arr,elem,lo,hi,q1,q2,q3,q4,q5,q6⟩
             refine ⟨p1,arr,elem,lo,hi,q1,q2,by omega,q4,q5,fun j sc hsc=>?_⟩
             have:=p6 j sc hsc
             rw [if_neg (by omega)] at this
             exact q6 j sc this
           ·rw [if_neg e] at hb'
            exact hM.blk b' x hb'
          ·have get:∀ q z,ap q (cd b k' M)=some z→∃ z',ap q M=some z':=by
            intro q z hq
            rw [bP] at hq
            by_cases e:q=b
            ·subst e;exact ⟨k0,hk0⟩
            ·rw [if_neg e] at hq;exact ⟨z,hq⟩
           obtain ⟨x',hx'⟩:=get b' x hb'
           obtain ⟨y',hy'⟩:=get c' y hc'
           exact hM.inj b' c' x' y' L L' hx' hy'
        ·have hB:=hM.blk b k0 hk0
         rw [hL] at hB
         obtain ⟨_,arr,elem,lo,hi,h1,h2,h3,h4,h5,h6⟩:=hB
         obtain ⟨w',arr',a1,a2,a3,a4,a5,a6,a7,a8,a9⟩:=dL (P:=E.P) L.g (L.β+off) elem lo hi cs 0 arr w h1 (by omega) s4 (by rw [h2];exact h5.1)
         refine ⟨.int .i64 (m:Nat),w',σ,.inl (bL ?_),.refl _,fun _ _=>rfl,rfl,?_⟩
         ·simp only [Builtin.copy_,Sem.run_bind,aq ht,Result.andThen_ok,List.getElem?_toArray,List.getElem?_cons_zero,List.getElem?_cons_succ,s1,hmin,cg hsz,s5 w rfl]
          simp [a1,goInt]
         ·refine hM.turn hk0 hL h1 a2 a3 a5 a6 a7 a8 a9 p1 p2 fun j sc hsc=>?_
          have:=p6 j sc hsc
          rw [a4]
          by_cases hj:off≤j∧j<off+m*s
          ·rw [if_pos hj] at this
           obtain ⟨u,hu,hr⟩:=this
           rw [if_pos (by omega)]
           refine ⟨u,?_,hr⟩
           have:L.β+j-(L.β+off+0)=j-off:=by omega
           rw [this];simpa using hu
          ·rw [if_neg hj] at this
           rw [if_neg (by omega)]
           exact h6 j sc this
  ·cases hA
 ·cases hA
theorem mp {o:Oper} (hG:ck E G) (hf:FrR E σ fr a) (hM:MemR E σ M w) (hn:∀ m,nm≤m→m<nm+16→σ m=.unset) (hA:em E.P (ev G fr) nm o=some A) :
  dZ E σ nm M A ((execOp a.eval o).run E.P w):=by
 unfold em at hA
 unfold execOp
 split at hA
 ·rename_i x hop
  rw [hop]
  split at hA
  ·rename_i v hv;exact am hA hM fun _=>⟨_,rfl,dS hG hf hv⟩
  ·cases hA
 ·rename_i x hop
  rw [hop]
  split at hA
  ·rename_i v hv;exact am hA hM fun _=>⟨_,rfl,dS hG hf hv⟩
  ·cases hA
 ·rename_i c x y hop
  rw [hop]
  split at hA
  ·rename_i b va vb hc hx hy
   have h1:=dS hG hf hc
   simp only [AVR,ScR] at h1
   refine am hA hM fun _=>?_
   cases b
   ·exact ⟨a.eval y,by simp [h1,asBool],dS hG hf hy⟩
   ·exact ⟨a.eval x,by simp [h1,asBool],dS hG hf hx⟩
  ·rename_i b va hc hx hy
   have h1:=dS hG hf hc
   simp only [AVR,ScR] at h1
   refine am hA hM fun hC=>?_
   subst hC
   exact ⟨a.eval x,by simp [h1,asBool],dS hG hf hx⟩
  ·rename_i b vb hc hx hy
   have h1:=dS hG hf hc
   simp only [AVR,ScR] at h1
   refine am hA hM fun hC=>?_
   subst hC
   exact ⟨a.eval y,by simp [h1,asBool],dS hG hf hy⟩
  ·cases hA
 ·rename_i t hop;rw [hop];exact le hM hn hA
 ·rename_i t x hop;rw [hop]
  split at hA
  ·rename_i v hv;exact pR (dS hG hf hv) hM hn hA
  ·cases hA
 ·rename_i t cB hop;rw [hop]
  split at hA
  ·rename_i ps hps
   refine ln ?_ hM hA
   have:=gS hG hf hps
   simpa using this
  ·cases hA
 ·rename_i t len cB hop;rw [hop]
  split at hA
  ·rename_i ps hps
   refine iG ?_ hM hn hA
   have:=gS hG hf hps
   simpa using this
  ·cases hA
 ·rename_i t x hop;rw [hop]
  split at hA
  ·rename_i v hv;exact kE (dS hG hf hv) hM hA
  ·cases hA
 ·rename_i t x y hop;rw [hop]
  split at hA
  ·rename_i u v hu hv;exact jN (dS hG hf hu) (dS hG hf hv) hM hA
  ·cases hA
 ·rename_i x hop;rw [hop]
  split at hA
  ·rename_i b n hv
   have h1:=dS hG hf hv
   refine am hA hM fun _=>⟨a.eval x,?_,h1⟩
   obtain ⟨L,hL,hV⟩:=h1
   simp only [hV]
   rfl
  ·cases hA
 ·rename_i op t x y yt hop;rw [hop]
  split at hA
  ·rename_i u v hu hv;exact lZ (dS hG hf hu) (dS hG hf hv) hM hA
  ·cases hA
 ·rename_i op t x hop;rw [hop]
  split at hA
  ·rename_i u hu;exact nI (dS hG hf hu) hM hA
  ·cases hA
 ·rename_i s d x hop;rw [hop]
  split at hA
  ·rename_i u hu;exact kX (dS hG hf hu) hM hn hA
  ·cases hA
 ·rename_i t x hop;rw [hop]
  split at hA
  ·rename_i u hu;exact jp (dS hG hf hu) hM hA
  ·cases hA
 ·rename_i t x y hop;rw [hop]
  split at hA
  ·rename_i u v hu hv;exact iW (dS hG hf hu) (dS hG hf hv) hM hn hA
  ·cases hA
 ·rename_i t x lo hi mx hop;rw [hop]
  split at hA
  ·rename_i u l h m hu hl hh hm
   split at hA
   ·cases hA
   ·rename_i hno
    refine lT (dS hG hf hu) (kW hG hf hl) (kW hG hf hh) (kW hG hf hm) hM ?_ hA
    intro h1 h2
    subst h2
    cases m with
    |none=>exact h1 rfl
    |some x=>simp at hno
  ·cases hA
 ·rename_i t x f hop;rw [hop]
  split at hA
  ·rename_i u hu;exact iS (dS hG hf hu) hM hA
  ·cases hA
 ·rename_i t x f hop;rw [hop]
  split at hA
  ·rename_i u hu;exact ls (dS hG hf hu) hM hA
  ·cases hA
 ·rename_i t x y hop;rw [hop]
  split at hA
  ·rename_i u v hu hv;exact im (dS hG hf hu) (dS hG hf hv) hM hA
  ·cases hA
 ·rename_i t x y hop;rw [hop]
  split at hA
  ·rename_i u v hu hv;exact lp (dS hG hf hu) (dS hG hf hv) hM hA
  ·cases hA
 ·rename_i f fst cap hop;rw [hop]
  split at hA
  ·rename_i b c hfst hcap
   obtain ⟨fst⟩:=fst
   simp only at hfst
   subst hfst
   have hc:=fy hG hf hcap
   match hA':cap.map a.eval,(show cW (AVR E σ) [.sc (.p b 0),.sc (.p c 0)] (cap.map a.eval).toList by simpa using hc) with
   |⟨[X,Y]⟩,⟨⟨L,h1,h2⟩,⟨L',h3,h4⟩,_⟩ =>
    refine am hA hM fun _=>⟨_,bL ?_,L,L',h1,h3,rfl⟩
    subst h2 h4
    simp [Instr.makeFunc,hA']
  ·cases hA
 ·rename_i x i hop;rw [hop]
  split at hA
  ·rename_i l hl
   split at hA
   ·rename_i v hv
    obtain ⟨arr,h1,h2⟩:=dS hG hf hl
    obtain ⟨V,h3,h4⟩:=h2.get i v hv
    refine am hA hM fun _=>⟨V,bL ?_,h4.up⟩
    have h5:arr[i]?=some V:=by simpa using h3
    simp [h1,Instr.extract,h5]
   ·cases hA
  ·cases hA
 ·rename_i c hop;rw [hop]
  obtain ⟨callee,args,ats⟩:=c
  simp only at hA ⊢
  have hargs:∀ vs,dX (ev G fr) args.toList=some vs→cW (AVR E σ) vs (args.map a.eval).toList:=by
   intro vs h
   have:=fy hG hf h
   simpa using this
  split at hA
  ·split at hA
   ·rename_i t v hats hv
    obtain ⟨L⟩:=ats
    simp only at hats;subst hats
    have h1:=hargs _ hv
    match hA':args.map a.eval,h1 with
    |⟨[X]⟩,⟨hx,_⟩ =>
     have:dZ E σ nm M A ((do pure (.value (← Builtin.len_ #[t] o.type #[X])):Sem Next).run E.P w):=oX (t:=t) rfl hx hM hA
     simp only [resolve,hA',pure_bind]
     exact this
   ·cases hA
  ·split at hA
   ·rename_i vs hv
    have h1:=hargs _ hv
    have:dZ E σ nm M A ((do pure (.value (← Builtin.min_ ats o.type (args.map a.eval))):Sem Next).run E.P w):=oI h1 hM hA
    simp only [resolve,pure_bind]
    exact this
   ·cases hA
  ·split at hA
   ·rename_i vs hv
    have h1:=hargs _ hv
    have:dZ E σ nm M A ((do pure (.value (← Builtin.max_ ats o.type (args.map a.eval))):Sem Next).run E.P w):=np h1 hM hA
    simp only [resolve,pure_bind]
    exact this
   ·cases hA
  ·split at hA
   ·rename_i t u d s hats hv
    obtain ⟨L⟩:=ats
    simp only at hats;subst hats
    have h1:=hargs _ hv
    match hA':args.map a.eval,h1 with
    |⟨[X,Y]⟩,⟨hx,hy,_⟩ =>
     have:dZ E σ nm M A ((do pure (.value (← Builtin.append_ #[t,u] o.type #[X,Y])):Sem Next).run E.P w):=ky hx hy hM hn hA
     simp only [resolve,hA',pure_bind]
     exact this
   ·cases hA
  ·split at hA
   ·rename_i t u d s hats hv
    obtain ⟨L⟩:=ats
    simp only at hats;subst hats
    have h1:=hargs _ hv
    match hA':args.map a.eval,h1 with
    |⟨[X,Y]⟩,⟨hx,hy,_⟩ =>
     have:dZ E σ nm M A ((do pure (.value (← Builtin.copy_ #[t,u] o.type #[X,Y])):Sem Next).run E.P w):=nW hx hy hM hA
     simp only [resolve,hA',pure_bind]
     exact this
   ·cases hA
  ·cases hA
 ·cases hA
end
end Go.Vm
namespace Go.Vm
open Go
abbrev Tab:=FuncId→List AV→Nat→Option Deed
def fv (P:Program) (f:FuncId):Bool :=
 match P.funcs[f]? with
 |some fn=>(fn.name != "runtime.NumGoroutine") && fn.body.isSome
 |none=>false
def jo (P:Program) (f:FuncId) (Vs:Array Value) (w:World) (R:Value→World→Prop):Prop :=
 (fv P f=true∧Calls P f Vs w fun e w'=>∃ V,e=.returned V∧R V w')∨∃ V w',(callFunc f Vs).run P w=.ok (.value V) w'∧R V w'
theorem jo.mono {P:Program} {f:FuncId} {Vs:Array Value} {w:World} {R R':Value→World→Prop} (h:jo P f Vs w R) (hr:∀ V w',R V w'→R' V w'):jo P f Vs w R':=by
 rcases h with ⟨h1,h2⟩|⟨V,w',h1,h2⟩
 ·exact .inl ⟨h1,h2.mono fun e w' ⟨V,e1,e2⟩=>⟨V,e1,hr V w' e2⟩⟩
 ·exact .inr ⟨V,w',h1,hr _ _ h2⟩
def gM (P:Program) (G:dP) (f:FuncId) (spec:List AV→Nat→Option Deed):Prop :=
 ∀ (E:Env) (σ:Sig) (M:Mem) (w:World) (args:List AV) (Vs:Array Value) (nm:Nat) (A:Deed) (C:Prop) (v:AV) (M':Mem),
  E.P=P→ck E G→MemR E σ M w→cW (AVR E σ) args Vs.toList→(∀ m,nm≤m→m<nm+16→σ m=.unset)→spec args nm=some A→A.run M=some (C,v,M')→C →
  jo P f Vs w fun V w'=>∃ E' σ',Grow E E'∧Ext σ σ'∧(∀ m,¬ (nm≤m∧m<nm+16)→σ' m=σ m)∧AVR E' σ' v V∧MemR E' σ' M' w'
def gu (P:Program) (G:dP) (tab:Tab):Prop:=∀ f args nm A,tab f args nm=some A→∃ spec,gM P G f spec∧spec args nm=some A
structure Cx where
 P:Program
 G:dP
 tab:Tab
 n:Nat
 hints:List (Nat × AV)
 base:Nat
def dw (ops:Array Oper) (fr:Fr) (j:Nat):Option (Option Bool) :=
 match ops[j]? with
 |some o=>match o.dst with
  |some d=>match ap d fr with
   |some (.sc (.b x))=>some (some x)
   |some (.tup [])=>some none
   |_=>none
  |none=>none
 |none=>none
def oO:Deed:={ rd:=[],wr:=[],go:=fun _=>some (True,lX,[]) }
def eU:List Nat→List (Option Blk)→Option (Nat × Blk)
 |[n],[some k]=>some (n,k)
 |_ :: r,_ :: ks=>eU r ks
 |_,_=>none
def qt (nm:Nat) (A:Deed):Deed :=
 {rd:=A.rd,wr:=A.wr++[nm],go:=fun l=>match A.go l with
  |some (C,.sc (.sl b 0 len 1 none),ks)=>(match eU A.wr ks with
   |some (n,.vec .str ys)=>bif Nat.beq b nm && Nat.beq n nm then some (C∧len=ys.length,.sc (.ros ys),ks++[none]) else none
   |_=>none)
  |_=>none }
def qV (X:Cx) (nm:Nat) (o:Oper) (A:Option Deed):Option Deed :=
 match o.dst with
 |some d=>match ap d X.hints with
  |some (.tup [])=>A.map (qt nm)
  |_=>A
 |none=>A
def dh (X:Cx) (ρ:jG) (nm:Nat) (o:Oper):Option Deed :=
 match o.op with
 |.call c=>match c.callee with
  |.value (.func f)=>match dX ρ c.args.toList with
   |some vs=>X.tab f vs nm
   |none=>none
  |.value x=>(match ρ x,dX ρ c.args.toList with
   |some (.sc (.clo f b d)),some vs=>X.tab f (vs++[.sc (.p b 0),.sc (.p d 0)]) nm
   |_,_=>none)
  |_=>qV X nm o (em X.P ρ nm o)
 |_=>em X.P ρ nm o
def iQ (X:Cx) (ops:Array Oper) (i:Nat) (ρ:jG) (gd:Nat→Option (Option Bool)):Option Deed :=
 match ops[i]? with
 |none=>none
 |some o=>match o.guard with
  |none=>dh X ρ (X.base+16*i) o
  |some (j,want)=>match gd j,want with
   |some (some true),true=>dh X ρ (X.base+16*i) o
   |some (some false),false=>dh X ρ (X.base+16*i) o
   |some (some true),false=>some oO
   |some (some false),true=>some oO
   |some none,_=>some oO
   |none,_=>none
def mU:AV→AV→Prop × AV
 |.tup [],v=>(True,v)
 |.sc (.b h),.sc (.b x)=>(x=h,.sc (.b h))
 |.sc (.i _ h),.sc (.i k x)=>(x=h,.sc (.i k h))
 |h,v=>(v=h,h)
def fg (hints:List (Nat × AV)) (d:Option Nat) (v:AV):Prop × AV :=
 match d with
 |none=>(True,v)
 |some d=>match ap d hints with
  |none=>(True,v)
  |some h=>mU h v
def ft (n:Nat) (d:Option Nat) (v:AV) (fr:Fr):Option Fr :=
 match d with
 |none=>some fr
 |some d=>bif Nat.blt d n then some (cd d v fr) else none
abbrev St:=Fr × Mem
def eh (X:Cx) (ops:Array Oper) (i:Nat) (s:St):Option (Prop × St) :=
 match ops[i]?,iQ X ops i (ev X.G s.1) (dw ops s.1) with
 |some o,some A=>match A.run s.2 with
  |some (C,v,M')=>let h:=fg X.hints o.dst v;(match ft X.n o.dst h.2 s.1 with
   |some fr'=>some (C∧h.1,fr',M')
   |none=>none)
  |none=>none
 |_,_=>none
def nJ (X:Cx) (ops:Array Oper):List Nat→St→Option (Prop × St)
 |[],s=>some (True,s)
 |i :: l,s=>match eh X ops i s with
  |none=>none
  |some (C,s1)=>match nJ X ops l s1 with
   |none=>none
   |some (C',s2)=>some (C∧C',s2)
section
variable {E:Env} {X:Cx} {ops:Array Oper} {σ:Sig}
theorem qf {a:Act} {fr fr':Fr} {d:Option Nat} {v:AV} {V:Value} (hf:FrR E σ fr a) (hn:a.tmps.size=X.n) (hv:AVR E σ v V) (h:ft X.n d v fr=some fr') :
  FrR E σ fr' (a.put d V)∧(a.put d V).tmps.size=X.n:=by
 cases d with
 |none =>
  simp only [ft,Option.some.injEq] at h
  subst h
  exact ⟨hf,hn⟩
 |some d =>
  simp only [ft] at h
  cases hb:Nat.blt d X.n
  ·simp [hb] at h
  ·simp only [hb,cond_true,Option.some.injEq] at h
   subst h
   have hlt:d<X.n:=by
    have:=Nat.le_of_ble_eq_true (show Nat.ble (d+1) X.n=true from hb)
    omega
   refine ⟨⟨fun t u ht=>?_,hf.defers⟩,by simp [Act.put,hn]⟩
   rw [bP] at ht
   simp only [Act.put]
   by_cases e:t=d
   ·subst e
    rw [if_pos rfl] at ht
    injection ht with ht
    subst ht
    exact ⟨V,by rw [Array.getElem?_setIfInBounds_self];simp;omega,hv⟩
   ·rw [if_neg e] at ht
    obtain ⟨U,h1,h2⟩:=hf.val t u ht
    exact ⟨U,by rw [Array.getElem?_setIfInBounds_ne (Ne.symm e)];exact h1,h2⟩
theorem pk {h v:AV} {V:Value} (hv:AVR E σ v V) (hC:(mU h v).1):AVR E σ (mU h v).2 V:=by
 unfold mU at hC ⊢
 split at hC
 ·exact hv
 ·simp only at hC
  subst hC
  exact hv
 ·simp only at hC
  subst hC
  exact hv
 ·simp only at hC
  rw [← hC]
  exact hv
theorem po {d:Option Nat} {v:AV} {V:Value} {hints:List (Nat × AV)} (hv:AVR E σ v V) (hC:(fg hints d v).1):AVR E σ (fg hints d v).2 V:=by
 cases d with
 |none=>exact hv
 |some d =>
  simp only [fg] at hC ⊢
  cases hl:ap d hints with
  |none=>exact hv
  |some h =>
   simp only [hl] at hC
   exact pk hv hC
theorem gB {fr:Fr} {a:Act} {j:Nat} {x:Option Bool} (hf:FrR E σ fr a) (h:dw ops fr j=some x):yielded ops a.tmps j=x:=by
 unfold dw at h
 split at h
 ·rename_i o ho
  split at h
  ·rename_i d hd
   split at h
   ·rename_i y hy
    simp only [Option.some.injEq] at h
    subst h
    obtain ⟨V,h1,h2⟩:=hf.val d _ hy
    simp only [AVR,ScR] at h2
    subst h2
    simp [yielded,ho,hd,h1]
   ·rename_i hy
    simp only [Option.some.injEq] at h
    subst h
    obtain ⟨V,h1,arr,h2,_⟩:=hf.val d _ hy
    subst h2
    simp [yielded,ho,hd,h1]
   ·cases h
  ·cases h
 ·cases h
theorem fo {P:Program} {f:FuncId} {args:Array Value} {w:World} (h:fv P f=true):(callFunc f args).run P w=.ok (.enter f args) w:=by
 unfold fv at h
 split at h
 ·rename_i fn hfn
  simp only [Bool.and_eq_true,bne_iff_ne,ne_eq] at h
  obtain ⟨h1,h2⟩:=h
  unfold callFunc
  simp only [Sem.run_bind,run_program,Result.andThen_ok,hfn]
  have h3:(fn.name== "runtime.NumGoroutine")=false:=by simpa using h1
  have h4:fn.body.isNone=false:=by
   cases hb:fn.body
   ·simp [hb] at h2
   ·rfl
  simp [h3,h4]
 ·cases h
theorem jw {f:FuncId} {args:Array Value}:Deferred.ofValue (.func (.func f) #[] #[]) args=pure { target:=.fn (.func f) #[],args:=args }:=by
 simp [Deferred.ofValue]
theorem cW.app {α β:Type} {R:α→β→Prop}:∀ {l l':List α} {m m':List β},cW R l m→cW R l' m'→cW R (l++l') (m++m')
 |[],_,[],_,_,h=>h
 |_ :: _,_,_ :: _,_,⟨h1,h2⟩,h=>⟨h1,cW.app h2 h⟩
theorem Blk.grow {E E':Env} {σ:Sig} {k:Blk} {w:World} (hg:Grow E E'):∀ {L:Pl},(∀ l,L=.at l→¬ E'.fz l.g)→dk E σ w k L→dk E' σ w k L
 |.unset,_,h=>h
 |.nil,_,h=>h
 |.at L,hz,h=>by
  obtain ⟨g1,arr,elem,lo,hi,q1,q2,q3,q4,q5,q6⟩:=h
  refine ⟨g1,arr,elem,lo,hi,q1,q2,q3,hz L rfl,q5,fun j s hs=>?_⟩
  obtain ⟨v,e1,e2⟩:=q6 j s hs
  exact ⟨v,e1,ScR.grow hg e2⟩
theorem jd:∀ {ws:List Nat} {ks:List (Option Blk)} {M M':Mem} {n:Nat} {k:Blk},eU ws ks=some (n,k)→bg ws ks M=some M'→ap n M'=some k
 |[m],[some k0],M,M',n,k,h,hp=>by
  simp only [eU,Option.some.injEq,Prod.mk.injEq] at h
  obtain ⟨rfl,rfl⟩:=h
  simp only [bg,put0,Option.some.injEq] at hp
  subst hp
  rw [bP,if_pos rfl]
 |[_],[none],_,_,_,_,h,_=>by simp [eU] at h
 |[],_,_,_,_,_,h,_=>by simp [eU] at h
 |_ :: _,[],_,_,_,_,h,_=>by simp [eU] at h
 |a :: b :: r,x :: ks,M,M',n,k,h,hp=>by
  simp only [eU] at h
  simp only [bg] at hp
  exact jd h hp
 |[a],x :: y :: ks,M,M',n,k,h,hp=>by
  simp only [eU] at h
  simp [eU] at h
theorem hD {n:Nat}:∀ {ws:List Nat} {ks:List (Option Blk)} {M M':Mem},bg (ws++[n]) (ks++[none]) M=some M'→∀ {b:Nat} {k:Blk},eU ws ks=some (b,k)→∃ M0,bg ws ks M=some M0∧M'=dE n M0
 |[],ks,M,M',_,_,_,hl=>by simp [eU] at hl
 |_ :: _,[],_,_,_,_,_,hl=>by simp [eU] at hl
 |[a],[x],M,M',h,b,k,hl=>by
  simp only [List.cons_append,List.nil_append,bg,Option.some.injEq] at h
  exact ⟨_,rfl,h.symm⟩
 |a :: c :: r,x :: ks,M,M',h,b,k,hl=>by
  simp only [List.cons_append,bg] at h ⊢
  simp only [eU] at hl
  exact hD (ws:=c :: r) h hl
 |[a],x :: y :: ks,M,M',h,b,k,hl=>by simp [eU] at hl
theorem MemR.frzStr {M:Mem} {w:World} {b:Nat} {ys:List ByteArray} {V:Value} (h:MemR E σ M w) (hM:ap b M=some (.vec .str ys)) (hV:ScR E σ (.sl b 0 ys.length 1 none) V) :
  ∃ E2,Grow E E2∧ScR E2 σ (.ros ys) V∧MemR E2 σ (dE b M) w:=by
 have hB:=h.blk b _ hM
 have less:∀ c k',ap c (dE b M)=some k'→c≠b∧ap c M=some k':=by
  intro c k' hc
  rw [cS] at hc
  split at hc
  ·cases hc
  ·rename_i e;exact ⟨e,hc⟩
 rcases hV with ⟨q1,_,A,rfl⟩|⟨L,c,hL,rfl,q2,q3,_⟩
 ·refine ⟨E,.refl E,⟨A,0,by rw [q1],by omega,fun hp=>by omega⟩,?_⟩
  exact { h with blk:=fun c k hc=>h.blk c k (less c k hc).2,inj:=fun c d x y L L' hc hd=>h.inj c d x y L L' (less c x hc).2 (less d y hd).2 }
 ·rw [hL] at hB
  obtain ⟨g1,arr,elem,lo,hi,p1,p2,p3,p4,p5,p6⟩:=hB
  have hinj:∀ c k' L',c≠b→ap c M=some k'→σ c=.at L'→L'.g≠L.g:=fun c k' L' hne hc hL' he=>hne (h.inj c b k' _ L' L hc hM hL' hL he)
  let E2:Env:={ P:=E.P,w0:=w,old:=fun g=>E.old g∨g=L.g,fz:=fun g=>E.fz g∨g=L.g,sub:=fun g h=>h.elim (fun h=>.inl (E.sub g h)) .inr,kp:=E.kp }
  have gr:Grow E E2 :=
   {P:=rfl,old:=fun g h=>.inl h,fz:=fun g h=>.inl h,w0:=fun g hg=>h.old g hg
    new:=fun g h=>by
     rcases h with h|h
     ·exact .inl h
     ·subst h;exact .inr p4
    size:=h.size,os:=h.os,tape:=h.tape,output:=h.output }
  refine ⟨E2,gr,⟨_,c,rfl,q2,fun _=>⟨_,rfl,.inr rfl,fun j hj=>?_⟩⟩,?_⟩
  ·have hs:(Blk.vec .str ys).get? j=some (.s (ys.getD j ⟨#[]⟩)):=by
    show (ys[j]?).map _=_
    rw [List.getD_eq_getElem?_getD,List.getElem?_eq_getElem hj]
    rfl
   obtain ⟨v,e5,e6⟩:=p6 j _ hs
   have e6:v=.string (ys.getD j ⟨#[]⟩):=e6
   rw [cI]
   show w.cell? _=_
   have hlt:L.β+j<L.sz:=by
    have:L.β+ys.length≤L.sz:=p3
    omega
   have:=p5.1 (L.β+j) hlt
   simp [World.cell?,p1,this]
   rw [e5,e6,List.getD_eq_getElem?_getD]
  ·exact
    {blk:=fun c k' hc=>by
      obtain ⟨hne,hc'⟩:=less c k' hc
      refine Blk.grow gr (fun L' hL' hz=>?_) (h.blk c k' hc')
      rcases hz with hz|hz
      ·have hB':=h.blk c k' hc'
       rw [hL'] at hB'
       obtain ⟨_,_,_,_,_,_,_,_,q4,_⟩:=hB'
       exact q4 hz
      ·exact hinj c k' L' hne hc' hL' hz
     inj:=fun c d x y L L' hc hd=>h.inj c d x y L L' (less c x hc).2 (less d y hd).2
     old:=fun _ _=>rfl
     size:=Nat.le_refl _
     olds:=fun g hg=>by
      rcases hg with hg|hg
      ·exact Nat.lt_of_lt_of_le (h.olds g hg) h.size
      ·subst hg;exact (Array.getElem?_eq_some_iff.1 p1).1
     os:=rfl
     tape:=rfl
     output:=rfl }
theorem oN {nm:Nat} {A:Deed} {M M':Mem} {C:Prop} {v:AV} (h:(qt nm A).run M=some (C,v,M')) :
  ∃ C0 ys M0 len,A.run M=some (C0,.sc (.sl nm 0 len 1 none),M0)∧C=(C0∧len=ys.length)∧v=.sc (.ros ys)∧M'=dE nm M0∧ap nm M0=some (.vec .str ys):=by
 unfold Deed.run at h
 split at h
 ·cases h
 ·rename_i bs hbs
  split at h
  ·cases h
  ·rename_i C1 v1 cs hgo
   split at h
   ·cases h
   ·rename_i M1 hput
    simp only [Option.some.injEq,Prod.mk.injEq] at h
    obtain ⟨rfl,rfl,rfl⟩:=h
    simp only [qt] at hgo hput hbs
    split at hgo
    ·rename_i C0 b len ks hA
     split at hgo
     ·rename_i n ys hl
      cases hb:Nat.beq b nm && Nat.beq n nm
      ·simp [hb] at hgo
      ·simp only [hb,cond_true,Option.some.injEq,Prod.mk.injEq] at hgo
       obtain ⟨rfl,rfl,rfl⟩:=hgo
       rw [Bool.and_eq_true] at hb
       have e1:=Nat.eq_of_beq_eq_true hb.1
       have e2:=Nat.eq_of_beq_eq_true hb.2
       subst e1
       subst e2
       obtain ⟨M0,h1,h2⟩:=hD hput hl
       refine ⟨C0,ys,M0,len,?_,rfl,rfl,h2,jd hl h1⟩
       unfold Deed.run
       simp only [hbs,hA,h1]
     ·cases hgo
    ·cases hgo
theorem ki {fr:Fr} {M M':Mem} {a:Act} {w:World} {nm:Nat} {o:Oper} {A:Deed} {C:Prop} {v:AV} {K:Act→World→Prop} {Q:Exit→Act→World→Prop} (hP:E.P=X.P) (hG:ck E X.G) (hT:gu X.P X.G X.tab)
  (hf:FrR E σ fr a) (hM:MemR E σ M w) (hn:∀ m,nm≤m→m<nm+16→σ m=.unset) (hA:dh X (ev X.G fr) nm o=some A) (hr:A.run M=some (C,v,M')) (hC:C)
  (hK:∀ V E' σ' w',Grow E E'→Ext σ σ'→(∀ m,¬ (nm≤m∧m<nm+16)→σ' m=σ m)→AVR E' σ' v V→MemR E' σ' M' w'→K (a.put o.dst V) w'):o.wp X.P a w K Q:=by
 have plain:em X.P (ev X.G fr) nm o=some A→o.wp X.P a w K Q:=by
  intro h
  rw [← hP] at h ⊢
  obtain ⟨V,w',σ',h1,h2,h3,h4,h5⟩:=mp hG hf hM hn h C v M' hr hC
  unfold Oper.wp
  rcases h1 with h1|⟨h1,rfl⟩
  ·rw [h1];exact hK V E σ' w' (.refl E) h2 h3 h4 h5
  ·rw [h1];exact hK undef E σ' w' (.refl E) h2 h3 h4 h5
 have plainF:qV X nm o (em X.P (ev X.G fr) nm o)=some A→o.wp X.P a w K Q:=by
  intro h
  unfold qV at h
  split at h
  ·split at h
   ·rw [Option.map_eq_some_iff] at h
    obtain ⟨A0,h,rfl⟩:=h
    obtain ⟨C0,ys,M0,len,hr0,rfl,rfl,rfl,hl⟩:=oN hr
    obtain ⟨hC0,rfl⟩:=hC
    rw [← hP] at h ⊢
    obtain ⟨V,w',σ',h1,h2,h3,h4,h5⟩:=mp hG hf hM hn h C0 _ M0 hr0 hC0
    obtain ⟨E2,g1,g2,g3⟩:=MemR.frzStr h5 hl h4
    unfold Oper.wp
    rcases h1 with h1|⟨h1,rfl⟩
    ·rw [h1];exact hK V E2 σ' w' g1 h2 h3 g2 g3
    ·rw [h1];exact hK undef E2 σ' w' g1 h2 h3 g2 g3
   ·exact plain h
  ·exact plain h
 unfold dh at hA
 split at hA
 ·rename_i c hop
  split at hA
  ·rename_i f hcal
   split at hA
   ·rename_i vs hvs
    obtain ⟨spec,hS,hsp⟩:=hT f vs nm A hA
    have hargs:cW (AVR E σ) vs (c.args.map a.eval).toList:=by
     have:=fy hG hf hvs
     simpa using this
    have hc:=hS E σ M w vs (c.args.map a.eval) nm A C v M' hP hG hM hargs hn hsp hr hC
    have hdo:(execOp a.eval o).run X.P w=(callFunc f (c.args.map a.eval)).run X.P w:=by
     unfold execOp
     rw [hop]
     simp only [resolve,hcal]
     have he:a.eval (.func f)=.func (.func f) #[] #[]:=rfl
     rw [he,jw]
     simp only [pure_bind,invoke,Array.append_empty]
    unfold Oper.wp
    rw [hdo]
    rcases hc with ⟨h0,hc⟩|⟨V,w',h0,E',σ',h1,h2,h3,h4,h5⟩
    ·rw [fo h0,Oper.upon_enter]
     refine hc.mono fun e w' ⟨V,he,E',σ',h1,h2,h3,h4,h5⟩=>?_
     subst he
     exact hK V E' σ' w' h1 h2 h3 h4 h5
    ·rw [h0,Oper.upon_value]
     exact hK V E' σ' w' h1 h2 h3 h4 h5
   ·cases hA
  ·rename_i x _ hcal
   split at hA
   ·rename_i f b d vs hx hvs
    obtain ⟨spec,hS,hsp⟩:=hT f _ nm A hA
    obtain ⟨L,L',e1,e2,e3⟩:=dS hG hf hx
    have hargs:cW (AVR E σ) (vs++[.sc (.p b 0),.sc (.p d 0)]) (c.args.map a.eval++#[Value.pointer (some ⟨L.g,L.β+0,none⟩),Value.pointer (some ⟨L'.g,L'.β+0,none⟩)]).toList:=by
     have:=fy hG hf hvs
     rw [Array.toList_append]
     exact cW.app (by simpa using this) ⟨⟨L,e1,rfl⟩,⟨L',e2,rfl⟩,trivial⟩
    have hc:=hS E σ M w _ _ nm A C v M' hP hG hM hargs hn hsp hr hC
    have hdo:(execOp a.eval o).run X.P w=(callFunc f (c.args.map a.eval++#[Value.pointer (some ⟨L.g,L.β+0,none⟩),Value.pointer (some ⟨L'.g,L'.β+0,none⟩)])).run X.P w:=by
     unfold execOp
     rw [hop]
     simp only [resolve,hcal]
     rw [e3]
     simp only [Deferred.ofValue,Array.empty_append,pure_bind,invoke]
    unfold Oper.wp
    rw [hdo]
    rcases hc with ⟨h0,hc⟩|⟨V,w',h0,E',σ',h1,h2,h3,h4,h5⟩
    ·rw [fo h0,Oper.upon_enter]
     refine hc.mono fun e w' ⟨V,he,E',σ',h1,h2,h3,h4,h5⟩=>?_
     subst he
     exact hK V E' σ' w' h1 h2 h3 h4 h5
    ·rw [h0,Oper.upon_value]
     exact hK V E' σ' w' h1 h2 h3 h4 h5
   ·cases hA
  ·exact plainF hA
 ·exact plain hA
theorem lA {s s':St} {i:Nat} {a:Act} {w:World} {C:Prop} {K:Act→World→Prop} {Q:Exit→Act→World→Prop} (hP:E.P=X.P) (hG:ck E X.G) (hT:gu X.P X.G X.tab)
  (hs:StR E X.n σ s.1 s.2 a w) (hn:∀ m,X.base+16*i≤m→m<X.base+16*i+16→σ m=.unset) (h:eh X ops i s=some (C,s')) (hC:C)
  (hK:∀ E' σ' a' w',Grow E E'→Ext σ σ'→(∀ m,¬ (X.base+16*i≤m∧m<X.base+16*i+16)→σ' m=σ m)→StR E' X.n σ' s'.1 s'.2 a' w'→K a' w'):wpOp X.P ops Q i K a w:=by
 unfold eh at h
 split at h
 ·rename_i o A ho hA
  split at h
  ·rename_i C1 v M' hrun
   simp only at h
   split at h
   ·rename_i fr' hput
    simp only [Option.some.injEq,Prod.mk.injEq] at h
    obtain ⟨rfl,rfl⟩:=h
    obtain ⟨hC1,hC2⟩:=hC
    have fin:∀ V E' σ' w',Grow E E'→Ext σ σ'→(∀ m,¬ (X.base+16*i≤m∧m<X.base+16*i+16)→σ' m=σ m)→AVR E' σ' v V→MemR E' σ' M' w'→K (a.put o.dst V) w':=by
     intro V E' σ' w' hg hx ho' hv hM'
     obtain ⟨p1,p2⟩:=qf ((hs.toFrR.ext hx).grow hg) hs.tmps (po hv hC2) hput
     exact hK E' σ' _ w' hg hx ho' { toFrR:=p1,toMemR:=hM',tmps:=p2 }
    have run:dh X (ev X.G s.1) (X.base+16*i) o=some A→Region.wanted o (yielded ops a.tmps)=true→wpOp X.P ops Q i K a w:=by
     intro h1 h2
     unfold wpOp
     simp only [ho,h2,if_true]
     exact .inl (ki hP hG hT hs.toFrR hs.toMemR hn h1 hrun hC1 fin)
    have skip:some oO=some A→Region.wanted o (yielded ops a.tmps)=false→wpOp X.P ops Q i K a w:=by
     intro h1 h2
     injection h1 with h1
     subst h1
     simp only [Deed.run,oO,bD,bg,Option.some.injEq,Prod.mk.injEq] at hrun
     obtain ⟨rfl,rfl,rfl⟩:=hrun
     unfold wpOp
     simp only [ho,h2,Bool.false_eq_true,if_false]
     exact fin undef E σ w (.refl _) (.refl _) (fun _ _=>rfl) (kh E σ) hs.toMemR
    unfold iQ at hA
    simp only [ho] at hA
    split at hA
    ·rename_i hg
     exact run hA (by simp [Region.wanted,hg])
    ·rename_i j want hg
     split at hA
     ·rename_i hj;exact run hA (by simp [Region.wanted,hg,gB hs.toFrR hj])
     ·rename_i hj;exact run hA (by simp [Region.wanted,hg,gB hs.toFrR hj])
     ·rename_i hj;exact skip hA (by simp [Region.wanted,hg,gB hs.toFrR hj])
     ·rename_i hj;exact skip hA (by simp [Region.wanted,hg,gB hs.toFrR hj])
     ·rename_i hj;exact skip hA (by simp [Region.wanted,hg,gB hs.toFrR hj])
     ·cases hA
   ·cases h
  ·cases h
 ·cases h
theorem ck.grow {E E':Env} {G:dP} (h:ck E G) (hg:Grow E E'):ck E' G:=by
 intro g k xs hG
 obtain ⟨h1,h2⟩:=h g k xs hG
 exact ⟨hg.old g h1,fun j hj=>by rw [hg.cell (by rw [dc];exact h1)];exact h2 j hj⟩
theorem mY {X:Cx} {ops:Array Oper} (hT:gu X.P X.G X.tab) {Q:Exit→Act→World→Prop}:∀ (l:List Nat) (E:Env) (σ:Sig) (s s':St) (a:Act) (w:World) (C:Prop),E.P=X.P→ck E X.G→l.Nodup→StR E X.n σ s.1 s.2 a w →
  (∀ i∈l,∀ m,X.base+16*i≤m→m<X.base+16*i+16→σ m=.unset)→nJ X ops l s=some (C,s')→C →
  (∀ E' σ' a' w',Grow E E'→Ext σ σ'→(∀ m,(∀ i∈l,¬ (X.base+16*i≤m∧m<X.base+16*i+16))→σ' m=σ m)→StR E' X.n σ' s'.1 s'.2 a' w'→Q .normal a' w')→wpOps X.P ops Q l a w
 |[],E,σ,s,s',a,w,C,_,_,_,hs,_,h,_,hQ=>by
  simp only [nJ,Option.some.injEq,Prod.mk.injEq] at h
  obtain ⟨_,rfl⟩:=h
  exact hQ E σ a w (.refl _) (.refl _) (fun _ _=>rfl) hs
 |i :: l,E,σ,s,s',a,w,C,hP,hG,hnd,hs,hn,h,hC,hQ=>by
  simp only [nJ] at h
  split at h
  ·cases h
  ·rename_i C1 s1 h1
   split at h
   ·cases h
   ·rename_i C2 s2 h2
    simp only [Option.some.injEq,Prod.mk.injEq] at h
    obtain ⟨rfl,rfl⟩:=h
    rw [wpOps_cons]
    have hnd':=List.nodup_cons.1 hnd
    refine lA hP hG hT hs (hn i (by simp)) h1 hC.1 fun E' σ' a' w' hg hx ho hs'=>?_
    refine mY hT l E' σ' s1 s2 a' w' C2 (hg.P.trans hP) (hG.grow hg) hnd'.2 hs' ?_ h2 hC.2 fun E'' σ'' a'' w'' hg' hx' ho' hs''=>?_
    ·intro j hj m hm1 hm2
     rw [ho m ?_]
     ·exact hn j (List.mem_cons_of_mem _ hj) m hm1 hm2
     ·intro hc
      have:i=j:=by omega
      exact hnd'.1 (this ▸ hj)
    ·refine hQ E'' σ'' a'' w'' (hg.trans hg') (hx.trans hx') (fun m hm=>?_) hs''
     rw [ho' m fun j hj=>hm j (List.mem_cons_of_mem _ hj),ho m (hm i (by simp))]
end
end Go.Vm
namespace Go.Vm
open Go
def EqS (s t:St):Prop:=(∀ n,ap n s.1=ap n t.1)∧∀ b,ap b s.2=ap b t.2
theorem EqS.refl (s:St):EqS s s:=⟨fun _=>rfl,fun _=>rfl⟩
theorem EqS.symm {s t:St} (h:EqS s t):EqS t s:=⟨fun n=>(h.1 n).symm,fun b=>(h.2 b).symm⟩
theorem EqS.trans {s t u:St} (h:EqS s t) (h':EqS t u):EqS s u:=⟨fun n=>(h.1 n).trans (h'.1 n),fun b=>(h.2 b).trans (h'.2 b)⟩
theorem StR.eqS {E:Env} {n:Nat} {σ:Sig} {s t:St} {a:Act} {w:World} (h:StR E n σ s.1 s.2 a w) (he:EqS s t):StR E n σ t.1 t.2 a w :=
 h.less (fun m v hm=>by rw [he.1];exact hm) (fun b k hb=>by rw [he.2];exact hb)
section
variable {X:Cx} {ops:Array Oper}
theorem eZ {ρ ρ':jG}:∀ {l:List Operand},(∀ x∈l,ρ x=ρ' x)→dX ρ l=dX ρ' l
 |[],_=>rfl
 |o :: l,h=>by simp only [dX,h o (by simp),eZ (fun x hx=>h x (List.mem_cons_of_mem _ hx))]
theorem ed {ρ ρ':jG}:∀ {l:List (Nat × Operand)},(∀ x∈l.map (·.2),ρ x=ρ' x)→eD ρ l=eD ρ' l
 |[],_=>rfl
 |(i,o) :: l,h=>by simp only [eD,h o (by simp),ed (fun x hx=>h x (by simp only [List.map_cons,List.mem_cons];exact .inr hx))]
theorem fO {ρ ρ':jG} {o:Option Operand} (h:∀ x,o=some x→ρ x=ρ' x):eR ρ o=eR ρ' o:=by
 cases o with
 |none=>rfl
 |some x=>simp only [eR,h x rfl]
theorem kY {P:Program} {ρ ρ':jG} {nm:Nat} {o:Oper} (h:∀ x∈o.op.operands.toList,ρ x=ρ' x):em P ρ nm o=em P ρ' nm o:=by
 unfold em
 cases hop:o.op <;> rw [hop] at h <;> simp only [Op.operands,List.mem_cons,List.not_mem_nil,or_false,forall_eq,forall_eq_or_imp,Array.toList_append,List.mem_append] at h ⊢
 all_goals first
  |rfl
  |simp only [h]
  |skip
 case makeFunc fn fst cap =>
  have h1:dX ρ cap.toList=dX ρ' cap.toList:=eZ fun x hx=>h x (.inr (by simpa using hx))
  cases fn <;> simp only [h1]
 case build t cB=>rw [ed (l:=cB.toList) (fun x hx=>h x (by simpa using hx))]
 case buildSlice t len cB=>rw [ed (l:=cB.toList) (fun x hx=>h x (by simpa using hx))]
 case slice t x lo hi mx =>
  have h1:ρ x=ρ' x:=h x (by simp)
  have h2:eR ρ lo=eR ρ' lo:=fO fun y hy=>h y (by subst hy;simp)
  have h3:eR ρ hi=eR ρ' hi:=fO fun y hy=>h y (by subst hy;simp)
  have h4:eR ρ mx=eR ρ' mx:=fO fun y hy=>h y (by subst hy;simp)
  rw [h1,h2,h3,h4]
 case call c =>
  have h1:dX ρ c.args.toList=dX ρ' c.args.toList:=eZ fun x hx=>h x (by simp [Call.operands];exact .inr (by simpa using hx))
  rw [h1]
theorem fN {ρ ρ':jG} {nm:Nat} {o:Oper} (h:∀ x∈o.op.operands.toList,ρ x=ρ' x):dh X ρ nm o=dh X ρ' nm o:=by
 unfold dh
 rw [kY h]
 cases hop:o.op <;> simp only
 case call c =>
  have h1:dX ρ c.args.toList=dX ρ' c.args.toList:=eZ fun x hx=>h x (by rw [hop];simp [Op.operands,Call.operands];exact .inr (by simpa using hx))
  cases hcal:c.callee with
  |value x =>
   have h2:ρ x=ρ' x:=h x (by rw [hop];simp [Op.operands,Call.operands,hcal])
   cases x <;> simp only [h1,h2]
  |_=>rfl
theorem qU {G:dP} {fr:Fr} {d:Nat} {v:AV} {x:Operand} (h:x≠.tmp d):ev G (cd d v fr) x=ev G fr x:=by
 cases x with
 |tmp t =>
  simp only [ev,bP]
  rw [if_neg (fun e=>h (by rw [e]))]
 |_=>rfl
theorem iR {n:Nat} {d:Option Nat} {v:AV} {fr fr':Fr} (h:ft n d v fr=some fr'):(d=none∧fr'=fr)∨∃ t,d=some t∧fr'=cd t v fr∧Nat.blt t n=true:=by
 cases d with
 |none=>simp only [ft,Option.some.injEq] at h;exact .inl ⟨rfl,h.symm⟩
 |some t =>
  simp only [ft] at h
  cases hb:Nat.blt t n
  ·simp [hb] at h
  ·simp only [hb,cond_true,Option.some.injEq] at h
   exact .inr ⟨t,rfl,h.symm,hb⟩
theorem ke {n:Nat} {i:Nat} {oi:Oper} {d:Option Nat} {v:AV} {fr fr':Fr} (ho:ops[i]?=some oi) (hd:∀ t,d=some t→t ∉ oi.looksAt ops) (h:ft n d v fr=some fr') :
  iQ X ops i (ev X.G fr') (dw ops fr')=iQ X ops i (ev X.G fr) (dw ops fr):=by
 rcases iR h with ⟨_,rfl⟩|⟨t,rfl,rfl,_⟩
 ·rfl
 ·have hno:=hd t rfl
  unfold Oper.looksAt at hno
  rw [List.mem_append,not_or] at hno
  have hev:∀ x∈oi.op.operands.toList,ev X.G (cd t v fr) x=ev X.G fr x:=by
   intro x hx
   refine qU fun e=>hno.1 ?_
   rw [List.mem_filterMap]
   exact ⟨x,hx,by rw [e]⟩
  unfold iQ
  simp only [ho]
  cases hg:oi.guard with
  |none=>simp only;rw [fN hev]
  |some g =>
   obtain ⟨j,want⟩:=g
   simp only
   have hs:dw ops (cd t v fr) j=dw ops fr j:=by
    unfold dw
    cases hj:ops[j]? with
    |none=>rfl
    |some oj =>
     simp only
     cases hdj:oj.dst with
     |none=>rfl
     |some u =>
      simp only
      have:u≠t:=by
       intro e
       apply hno.2
       simp [hg,hj,hdj,e]
      rw [bP,if_neg this]
   rw [hs,fN hev]
theorem du {M M':Mem}:∀ {l:List Nat},(∀ b∈l,ap b M=ap b M')→bD M l=bD M' l
 |[],_=>rfl
 |b :: l,h=>by simp only [bD,h b (by simp),du (fun x hx=>h x (List.mem_cons_of_mem _ hx))]
theorem dA:∀ {ws:List Nat} {cs:List (Option Blk)} {M M':Mem},bg ws cs M=some M'→(∀ b,b ∉ ws→ap b M'=ap b M) ∧
  ∀ N:Mem,∃ N',bg ws cs N=some N'∧(∀ b,b∈ws→ap b N'=ap b M')∧∀ b,ap b M=ap b N→ap b M'=ap b N'
 |[],[],M,M',h=>by
  simp only [bg,Option.some.injEq] at h
  subst h
  exact ⟨fun _ _=>rfl,fun N=>⟨N,rfl,by simp,fun _ h=>h⟩⟩
 |b :: ws,k :: cs,M,M',h=>by
  simp only [bg] at h
  obtain ⟨h1,h2⟩:=dA h
  have hstep:∀ (N:Mem) (c:Nat),ap c (put0 b k N)=if c=b then k else ap c N:=by
   intro N c
   cases k with
   |none=>simp only [put0,cS]
   |some k=>simp only [put0,bP]
  refine ⟨fun c hc=>?_,fun N=>?_⟩
  ·rw [List.mem_cons,not_or] at hc
   rw [h1 c hc.2,hstep,if_neg hc.1]
  ·obtain ⟨N',n1,n2,n3⟩:=h2 (put0 b k N)
   refine ⟨N',by simp only [bg];exact n1,fun c hc=>?_,fun c hc=>?_⟩
   ·by_cases hcw:c∈ws
    ·exact n2 c hcw
    ·have:c=b:=by
      rcases List.mem_cons.1 hc with e|e
      ·exact e
      ·exact absurd e hcw
     refine (n3 c ?_).symm
     rw [hstep,hstep,this,if_pos rfl,if_pos rfl]
   ·refine n3 c ?_
    rw [hstep,hstep,hc]
 |[],_ :: _,_,_,h=>by simp [bg] at h
 |_ :: _,[],_,_,h=>by simp [bg] at h
theorem gQ {A:Deed} {M M':Mem} {C:Prop} {v:AV} (h:A.run M=some (C,v,M')):∃ bs cs,bD M A.rd=some bs∧A.go bs=some (C,v,cs)∧bg A.wr cs M=some M':=by
 unfold Deed.run at h
 split at h
 ·cases h
 ·rename_i bs hbs
  split at h
  ·cases h
  ·rename_i C' v' cs hgo
   split at h
   ·cases h
   ·rename_i M1 hput
    simp only [Option.some.injEq,Prod.mk.injEq] at h
    obtain ⟨rfl,rfl,rfl⟩:=h
    exact ⟨bs,cs,hbs,hgo,hput⟩
theorem mE {A:Deed} {M M':Mem} {C:Prop} {v:AV} {bs:List Blk} {cs:List (Option Blk)} (h1:bD M A.rd=some bs) (h2:A.go bs=some (C,v,cs)) (h3:bg A.wr cs M=some M'):A.run M=some (C,v,M'):=by
 unfold Deed.run
 simp only [h1,h2,h3]
theorem fR {i:Nat} {s s':St} {C:Prop} (h:eh X ops i s=some (C,s')):∃ o A C1 v M',ops[i]?=some o∧iQ X ops i (ev X.G s.1) (dw ops s.1)=some A∧A.run s.2=some (C1,v,M') ∧
  ft X.n o.dst (fg X.hints o.dst v).2 s.1=some s'.1∧s'.2=M'∧C=(C1∧(fg X.hints o.dst v).1):=by
 unfold eh at h
 split at h
 ·rename_i o A ho hA
  split at h
  ·rename_i C1 v M' hrun
   simp only at h
   split at h
   ·rename_i fr' hput
    simp only [Option.some.injEq,Prod.mk.injEq] at h
    obtain ⟨rfl,rfl⟩:=h
    exact ⟨o,A,C1,v,M',ho,hA,hrun,hput,rfl,rfl⟩
   ·cases h
  ·cases h
 ·cases h
theorem iX {i:Nat} {s:St} {o:Oper} {A:Deed} {C1:Prop} {v:AV} {M':Mem} {fr':Fr} (ho:ops[i]?=some o) (hA:iQ X ops i (ev X.G s.1) (dw ops s.1)=some A) (hr:A.run s.2=some (C1,v,M'))
  (hp:ft X.n o.dst (fg X.hints o.dst v).2 s.1=some fr'):eh X ops i s=some (C1∧(fg X.hints o.dst v).1,fr',M'):=by
 unfold eh
 simp only [ho,hA,hr,hp]
theorem pI {G:dP} {s t:St} (h:EqS s t):ev G s.1=ev G t.1:=by
 funext x
 cases x with
 |tmp n=>exact h.1 n
 |_=>rfl
theorem jk {s t:St} (h:EqS s t):dw ops s.1=dw ops t.1:=by
 funext j
 unfold dw
 cases ops[j]? with
 |none=>rfl
 |some o =>
  simp only
  cases o.dst with
  |none=>rfl
  |some d=>simp only [h.1 d]
theorem gE {n:Nat} {d:Option Nat} {v:AV} {fr fr':Fr} (h:ft n d v fr=some fr') (g:Fr):∃ g',ft n d v g=some g'∧∀ m,ap m g'=if d=some m then some v else ap m g:=by
 rcases iR h with ⟨rfl,rfl⟩|⟨t,rfl,rfl,hb⟩
 ·exact ⟨g,rfl,fun m=>by simp⟩
 ·refine ⟨cd t v g,by simp [ft,hb],fun m=>?_⟩
  rw [bP]
  by_cases e:m=t
  ·subst e;simp
  ·rw [if_neg e,if_neg (fun h=>e (by injection h with h;exact h.symm))]
theorem gT {n:Nat} {d:Option Nat} {v:AV} {fr fr':Fr} (h:ft n d v fr=some fr') (m:Nat):ap m fr'=if d=some m then some v else ap m fr:=by
 obtain ⟨g',h1,h2⟩:=gE h fr
 rw [h] at h1
 injection h1 with h1
 subst h1
 exact h2 m
theorem nV {i:Nat} {s t s':St} {C:Prop} (h:eh X ops i s=some (C,s')) (he:EqS s t):∃ t',eh X ops i t=some (C,t')∧EqS s' t':=by
 obtain ⟨o,A,C1,v,M',ho,hA,hr,hp,h2,rfl⟩:=fR h
 obtain ⟨bs,cs,r1,r2,r3⟩:=gQ hr
 obtain ⟨N',n1,_,n3⟩:=(dA r3).2 t.2
 obtain ⟨g',g1,g2⟩:=gE hp t.1
 refine ⟨(g',N'),iX ho (by rw [← pI he,← jk he];exact hA) (mE (by rw [← du (fun b _=>he.2 b)];exact r1) r2 n1) g1,fun m=>?_,fun b=>?_⟩
 ·rw [gT hp,g2,he.1]
 ·rw [h2];exact n3 b (he.2 b)
abbrev gm:=Nat × List Nat × List Nat
def js (X:Cx) (ops:Array Oper):List gm→St→St→Prop
 |[],s,s'=>EqS s s'
 |(i,rd,wr) :: l,s,s'=>∃ A C s1,iQ X ops i (ev X.G s.1) (dw ops s.1)=some A∧A.rd=rd∧A.wr=wr∧eh X ops i s=some (C,s1)∧C∧js X ops l s1 s'
theorem js.eqS:∀ {l:List gm} {s t s':St},js X ops l s s'→EqS s t→js X ops l t s'
 |[],_,_,_,h,he=>he.symm.trans h
 |(i,rd,wr) :: l,s,t,s',⟨A,C,s1,h1,h2,h3,h4,h5,h6⟩,he=>by
  obtain ⟨t1,t2,t3⟩:=nV h4 he
  exact ⟨A,C,t1,by rw [← pI he,← jk he];exact h1,h2,h3,t2,h5,h6.eqS t3⟩
def pf (a b:List Nat):Bool:=a.all fun x=>!(b.any (Nat.beq x))
theorem ie {a b:List Nat} (h:pf a b=true) {x:Nat} (ha:x∈a):x ∉ b:=by
 unfold pf at h
 rw [List.all_eq_true] at h
 have:=h x ha
 intro hb
 have h2:b.any (Nat.beq x)=true:=List.any_eq_true.2 ⟨x,hb,iF x⟩
 rw [h2] at this
 cases this
def jR (ops:Array Oper) (x y:gm):Bool :=
 (match ops[x.1]?,ops[y.1]? with
 |some ox,some oy=>ox.apart ops oy
 |_,_=>false) && pf x.2.2 (y.2.1++y.2.2) && pf y.2.2 x.2.1
theorem rR {x y:gm} {l:List gm} {s s':St} (hi:jR ops x y=true) (h:js X ops (x :: y :: l) s s'):js X ops (y :: x :: l) s s':=by
 obtain ⟨j,rj,wj⟩:=x
 obtain ⟨i,ri,wi⟩:=y
 obtain ⟨Aj,Cj,s1,j1,rfl,rfl,j4,j5,Ai,Ci,s2,i1,rfl,rfl,i4,i5,hrest⟩:=h
 obtain ⟨oj,Aj',Cj1,vj,Mj,oj1,oj2,oj3,oj4,oj5,rfl⟩:=fR j4
 obtain ⟨oi,Ai',Ci1,vi,Mi,oi1,oi2,oi3,oi4,oi5,rfl⟩:=fR i4
 rw [j1] at oj2;injection oj2 with oj2;subst oj2
 rw [i1] at oi2;injection oi2 with oi2;subst oi2
 simp only [jR,oj1,oi1,Bool.and_eq_true] at hi
 obtain ⟨⟨hap,hd1⟩,hd2⟩:=hi
 obtain ⟨p1,p2,p3⟩:=Oper.apart_spec hap
 have hAi:iQ X ops i (ev X.G s.1) (dw ops s.1)=some Ai:=by rw [← ke oi1 p1 oj4];exact i1
 obtain ⟨bj,cj,rj1,rj2,rj3⟩:=gQ oj3
 obtain ⟨bi,ci,ri1,ri2,ri3⟩:=gQ oi3
 have hMj:∀ b,b ∉ Aj.wr→ap b s1.2=ap b s.2:=by rw [oj5];exact (dA rj3).1
 have hlook_i:bD s.2 Ai.rd=some bi:=by
  rw [← ri1]
  refine du fun b hb=>?_
  exact (hMj b (fun hw=>ie hd1 hw (List.mem_append_left _ hb))).symm
 obtain ⟨Ni,ni1,ni2,ni3⟩:=(dA ri3).2 s.2
 obtain ⟨gi,gi1,gi2⟩:=gE oi4 s.1
 have stepi:eh X ops i s=some (Ci1∧(fg X.hints oi.dst vi).1,gi,Ni):=iX oi1 hAi (mE hlook_i ri2 ni1) gi1
 have hAj:iQ X ops j (ev X.G gi) (dw ops gi)=some Aj:=by rw [ke oj1 p3 gi1];exact j1
 have hNi:∀ b,b ∉ Ai.wr→ap b Ni=ap b s.2:=(dA ni1).1
 have hlook_j:bD Ni Aj.rd=some bj:=by
  rw [← rj1]
  refine du fun b hb=>hNi b fun hw=>ie hd2 hw hb
 obtain ⟨Nj,nj1,nj2,nj3⟩:=(dA rj3).2 Ni
 obtain ⟨gj,gj1,gj2⟩:=gE oj4 gi
 have stepj:eh X ops j (gi,Ni)=some (Cj1∧(fg X.hints oj.dst vj).1,gj,Nj):=iX oj1 hAj (mE hlook_j rj2 nj1) gj1
 refine ⟨Ai,_,(gi,Ni),hAi,rfl,rfl,stepi,i5,Aj,_,(gj,Nj),hAj,rfl,rfl,stepj,j5,hrest.eqS ⟨fun m=>?_,fun b=>?_⟩⟩
 ·rw [gT oi4,gj2,gi2,gT oj4]
  by_cases e1:oi.dst=some m
  ·rw [if_pos e1,if_neg (fun e2=>p2 m e2 e1),if_pos e1]
  ·rw [if_neg e1,if_neg e1]
 ·show ap b s2.2=ap b Nj
  rw [oi5]
  by_cases hbi:b∈Ai.wr
  ·have hbj:b ∉ Aj.wr:=fun h=>ie hd1 h (List.mem_append_right _ hbi)
   rw [(dA nj1).1 b hbj,ni2 b hbi]
  ·rw [(dA ri3).1 b hbi]
   by_cases hbj:b∈Aj.wr
   ·rw [oj5,nj2 b hbj]
   ·rw [hMj b hbj,(dA nj1).1 b hbj,hNi b hbi]
theorem ov:∀ {pre post:List gm} {y:gm} {s s':St},(∀ x∈pre,jR ops x y=true)→js X ops (pre++y :: post) s s'→js X ops (y :: (pre++post)) s s'
 |[],_,_,_,_,_,h=>h
 |(j,rj,wj) :: pre,post,y,s,s',hi,h=>by
  obtain ⟨A,C,s1,h1,h2,h3,h4,h5,h6⟩:=h
  have:=ov (pre:=pre) (fun x hx=>hi x (List.mem_cons_of_mem _ hx)) h6
  exact rR (hi _ (by simp)) ⟨A,C,s1,h1,h2,h3,h4,h5,this⟩
end
end Go.Vm
namespace Go.Vm
open Go
def iT (o:Oper):List Nat:=(o.after.toList.filter (Region.binds .any)).map (·.on)
def fx (ops:Array Oper) (ms:List Nat):Bool :=
 (List.range ops.size).all fun i=>match ops[i]? with
  |some o=>Nat.beq (ms.getD i 0) ((iT o).foldl (fun m k=>m ||| (2 ^ k ||| ms.getD k 0)) 0) && (iT o).all fun k=>Nat.blt k i
  |none=>false
def eA (ops:Array Oper) (ms:List Nat):List gm→Bool
 |[]=>true
 |x :: l=>(l.all fun y=>Nat.testBit (ms.getD y.1 0) x.1 || jR ops x y) && eA ops ms l
def oR (X:Cx) (ops:Array Oper):List Nat→St→Option (Prop × St × List gm)
 |[],s=>some (True,s,[])
 |i :: l,s=>match iQ X ops i (ev X.G s.1) (dw ops s.1),eh X ops i s with
  |some A,some (C,s1)=>match oR X ops l s1 with
   |none=>none
   |some (C',s2,F)=>some (C∧C',s2,(i,A.rd,A.wr) :: F)
  |_,_=>none
def qm (X:Cx) (ops:Array Oper) (ms:List Nat) (s:St):Option (Prop × St) :=
 match oR X ops (List.range ops.size) s with
 |some (C,s',F)=>bif fx ops ms && eA ops ms F then some (C,s') else none
 |none=>none
section
variable {E:Env} {X:Cx} {ops:Array Oper} {σ:Sig}
theorem oH:∀ {l:List Nat} {s s':St} {C:Prop} {F:List gm},oR X ops l s=some (C,s',F)→C→js X ops F s s'∧F.map (·.1)=l
 |[],s,s',C,F,h,_=>by
  simp only [oR,Option.some.injEq,Prod.mk.injEq] at h
  obtain ⟨_,rfl,rfl⟩:=h
  exact ⟨EqS.refl _,rfl⟩
 |i :: l,s,s',C,F,h,hC=>by
  simp only [oR] at h
  split at h
  ·rename_i A C1 s1 hA h1
   split at h
   ·cases h
   ·rename_i C2 s2 F2 h2
    simp only [Option.some.injEq,Prod.mk.injEq] at h
    obtain ⟨rfl,rfl,rfl⟩:=h
    obtain ⟨r1,r2⟩:=oH h2 hC.2
    exact ⟨⟨A,C1,s1,hA,rfl,rfl,h1,hC.1,r1⟩,by simp [r2]⟩
  ·cases h
theorem gA (ms:List Nat) (x:Nat):∀ (l:List Nat) (m:Nat),Nat.testBit (l.foldl (fun m k=>m ||| (2 ^ k ||| ms.getD k 0)) m) x=true→Nat.testBit m x=true∨∃ k∈l,k=x∨Nat.testBit (ms.getD k 0) x=true
 |[],m,h=>.inl h
 |k :: l,m,h=>by
  rcases gA ms x l _ h with h1|⟨q,hq,h2⟩
  ·rw [Nat.testBit_or,Nat.testBit_or,Bool.or_eq_true,Bool.or_eq_true] at h1
   rcases h1 with h1|h1|h1
   ·exact .inl h1
   ·refine .inr ⟨k,by simp,.inl ?_⟩
    rw [Nat.testBit_two_pow] at h1
    simpa using h1
   ·exact .inr ⟨k,by simp,.inr h1⟩
  ·exact .inr ⟨q,List.mem_cons_of_mem _ hq,h2⟩
theorem eu {ms:List Nat} (h:fx ops ms=true) {i:Nat} {o:Oper} (ho:ops[i]?=some o):(∀ x,Nat.testBit (ms.getD i 0) x=true→∃ k∈iT o,k=x∨Nat.testBit (ms.getD k 0) x=true)∧∀ k∈iT o,k<i:=by
 unfold fx at h
 rw [List.all_eq_true] at h
 have hi:=(Array.getElem?_eq_some_iff.1 ho).1
 have:=h i (List.mem_range.2 hi)
 simp only [ho,Bool.and_eq_true] at this
 obtain ⟨h1,h2⟩:=this
 have h1:=Nat.eq_of_beq_eq_true h1
 refine ⟨fun x hx=>?_,fun k hk=>?_⟩
 ·rw [h1] at hx
  rcases gA ms x _ _ hx with h3|h3
  ·simp at h3
  ·exact h3
 ·rw [List.all_eq_true] at h2
  have:=Nat.le_of_ble_eq_true (show Nat.ble (k+1) i=true from h2 k hk)
  omega
theorem hF {ms:List Nat}:∀ {pre post:List gm} {y:gm},eA ops ms (pre++y :: post)=true→(∀ x∈pre,Nat.testBit (ms.getD y.1 0) x.1=true∨jR ops x y=true)∧eA ops ms (pre++post)=true
 |[],post,y,h=>by
  simp only [List.nil_append,eA,Bool.and_eq_true] at h
  exact ⟨by simp,h.2⟩
 |z :: pre,post,y,h=>by
  simp only [List.cons_append,eA,Bool.and_eq_true] at h
  obtain ⟨h1,h2⟩:=hF h.2
  rw [List.all_eq_true] at h
  refine ⟨fun x hx=>?_,?_⟩
  ·rcases List.mem_cons.1 hx with rfl|hx
   ·have:=h.1 y (by simp)
    rwa [Bool.or_eq_true] at this
   ·exact h1 x hx
  ·simp only [List.cons_append,eA,Bool.and_eq_true]
   refine ⟨List.all_eq_true.2 fun q hq=>h.1 q ?_,h2⟩
   rcases List.mem_append.1 hq with e|e
   ·exact List.mem_append_left _ e
   ·exact List.mem_append_right _ (List.mem_cons_of_mem _ e)
theorem qx {listed:Array Bool} {i:Nat}:i∈Region.ready .any ops listed↔i<ops.size∧listed.getD i true=false∧∃ o,ops[i]?=some o∧∀ k∈iT o,listed.getD k false=true:=by
 unfold Region.ready iT
 rw [List.mem_filter,List.mem_range]
 constructor
 ·rintro ⟨h1,h2⟩
  simp only [Bool.and_eq_true,Bool.not_eq_true'] at h2
  obtain ⟨h2,h3⟩:=h2
  cases ho:ops[i]? with
  |none=>simp [ho] at h3
  |some o =>
   refine ⟨h1,h2,o,rfl,fun k hk=>?_⟩
   simp only [ho,Option.map_some,Option.getD_some] at h3
   simp only [List.mem_map,List.mem_filter] at hk
   obtain ⟨e,⟨he1,he2⟩,rfl⟩:=hk
   rw [Array.all_eq_true] at h3
   obtain ⟨j,hj,rfl⟩:=List.getElem_of_mem he1
   have:=h3 j (by simpa using hj)
   simp only [Array.getElem_toList] at he2
   simpa [he2] using this
 ·rintro ⟨h1,h2,o,ho,h3⟩
  refine ⟨h1,?_⟩
  simp only [h2,Bool.not_false,Bool.true_and,ho,Option.map_some,Option.getD_some]
  rw [Array.all_eq_true]
  intro j hj
  cases hb:Region.binds .any o.after[j] with
  |false=>simp
  |true =>
   have:=h3 o.after[j].on (List.mem_map.2 ⟨o.after[j],List.mem_filter.2 ⟨by simp,hb⟩,rfl⟩)
   simp [this]
theorem kV (hT:gu X.P X.G X.tab) {ms:List Nat} (hms:fx ops ms=true) {Q:Exit→Act→World→Prop} {s':St}:∀ (fuel:Nat) (listed:Array Bool) (rem:List gm) (E:Env) (σ:Sig) (s:St) (a:Act) (w:World),E.P=X.P→ck E X.G →
  rem.length≤fuel→listed.size=ops.size→(∀ i,i<ops.size→(listed.getD i true=false↔∃ f∈rem,f.1=i))→(∀ f∈rem,f.1<ops.size)→(rem.map (·.1)).Pairwise (·<·)→eA ops ms rem=true →
  (∀ k x,k<ops.size→listed.getD k true=true→Nat.testBit (ms.getD k 0) x=true→listed.getD x true=true)→js X ops rem s s'→StR E X.n σ s.1 s.2 a w →
  (∀ f∈rem,∀ m,X.base+16*f.1≤m→m<X.base+16*f.1+16→σ m=.unset) →
  (∀ E' σ' a' w',Grow E E'→Ext σ σ'→(∀ m,(m<X.base∨X.base+16*ops.size≤m)→σ' m=σ m)→StR E' X.n σ' s'.1 s'.2 a' w'→Q .normal a' w')→wpAny X.P .any ops Q fuel listed a w:=by
 intro fuel
 induction fuel with
 |zero =>
  intro listed rem E σ s a w hP hG hlen hsz hrem hlt hpw hpo hcl hrun hs hn hQ
  have:rem=[]:=List.eq_nil_of_length_eq_zero (by omega)
  subst this
  refine ⟨?_,hQ E σ a w (.refl _) (.refl _) (fun _ _=>rfl) (hs.eqS hrun)⟩
  apply List.eq_nil_iff_forall_not_mem.2
  intro i hi
  obtain ⟨h1,h2,_⟩:=qx.1 hi
  obtain ⟨f,hf,_⟩:=(hrem i h1).1 h2
  cases hf
 |succ fuel ih =>
  intro listed rem E σ s a w hP hG hlen hsz hrem hlt hpw hpo hcl hrun hs hn hQ
  refine ⟨fun hnil=>?_,fun i hi=>?_⟩
  ·
   cases rem with
   |nil=>exact hQ E σ a w (.refl _) (.refl _) (fun _ _=>rfl) (hs.eqS hrun)
   |cons f rem =>
    exfalso
    have hfl:=hlt f (by simp)
    obtain ⟨o,ho⟩:∃ o,ops[f.1]?=some o:=⟨ops[f.1],Array.getElem?_eq_getElem hfl⟩
    have:f.1∈Region.ready .any ops listed:=by
     refine qx.2 ⟨hfl,(hrem _ hfl).2 ⟨f,by simp,rfl⟩,o,ho,fun k hk=>?_⟩
     have hk1:=(eu hms ho).2 k hk
     cases hl:listed.getD k true with
     |true =>
      have:k<listed.size:=by omega
      simp only [Array.getD_eq_getD_getElem?,Array.getElem?_eq_getElem this,Option.getD_some] at hl ⊢
      exact hl
     |false =>
      exfalso
      obtain ⟨g,hg,hgk⟩:=(hrem k (by omega)).1 hl
      rcases List.mem_cons.1 hg with rfl|hg
      ·omega
      ·have h2:f.1<g.1:=(List.pairwise_cons.1 (show ((f :: rem).map (·.1)).Pairwise (·<·) from hpw)).1 g.1 (List.mem_map.2 ⟨g,hg,rfl⟩)
       exact Nat.lt_irrefl f.1 (Nat.lt_trans (show f.1<k from hgk ▸ h2) hk1)
    rw [hnil] at this
    cases this
  ·obtain ⟨h1,h2,o,ho,h3⟩:=qx.1 hi
   obtain ⟨f,hf,hfi⟩:=(hrem i h1).1 h2
   obtain ⟨pre,post,hsplit⟩:=List.append_of_mem hf
   subst hsplit
   have hlisted:∀ k∈iT o,listed.getD k true=true∧k<ops.size:=by
    intro k hk
    have h4:=h3 k hk
    have h5:=(eu hms ho).2 k hk
    have:k<listed.size:=by omega
    simp only [Array.getD_eq_getD_getElem?,Array.getElem?_eq_getElem this,Option.getD_some] at h4 ⊢
    exact ⟨h4,by omega⟩
   obtain ⟨p1,p2⟩:=hF hpo
   have hind:∀ x∈pre,jR ops x f=true:=by
    intro x hx
    rcases p1 x hx with hb|hb
    ·exfalso
     have hxl:listed.getD x.1 true=false:=(hrem x.1 (hlt x (List.mem_append_left _ hx))).2 ⟨x,List.mem_append_left _ hx,rfl⟩
     rw [hfi] at hb
     obtain ⟨k,hk,hk2⟩:=(eu hms ho).1 x.1 hb
     obtain ⟨l1,l2⟩:=hlisted k hk
     rcases hk2 with rfl|hk2
     ·rw [l1] at hxl;cases hxl
     ·rw [hcl k x.1 l2 l1 hk2] at hxl;cases hxl
    ·exact hb
   obtain ⟨j,rd,wr⟩:=f
   simp only at hfi
   subst hfi
   obtain ⟨A,C,s1,q1,q2,q3,q4,q5,q6⟩:=ov hind hrun
   refine lA hP hG hT hs (hn _ hf) q4 q5 fun E' σ' a' w' hgr hx hot hs'=>?_
   have hpw':((pre++post).map (·.1)).Pairwise (·<·):=by
    refine List.Pairwise.sublist ?_ hpw
    exact List.Sublist.map _ (List.Sublist.append (List.Sublist.refl _) (List.sublist_cons_self _ _))
   have hne:∀ g∈pre++post,g.1≠j:=by
    intro g hg e
    rw [List.map_append,List.map_cons] at hpw
    obtain ⟨_,w2,w3⟩:=List.pairwise_append.1 hpw
    rcases List.mem_append.1 hg with h|h
    ·have:=w3 g.1 (List.mem_map.2 ⟨g,h,rfl⟩) j (by simp)
     omega
    ·have:=(List.pairwise_cons.1 w2).1 g.1 (List.mem_map.2 ⟨g,h,rfl⟩)
     omega
   have hget:∀ k,(listed.setIfInBounds j true).getD k true=if k=j then true else listed.getD k true:=by
    intro k
    simp only [Array.getD_eq_getD_getElem?]
    by_cases e:k=j
    ·subst e
     rw [if_pos rfl,Array.getElem?_setIfInBounds_self]
     split <;> rfl
    ·rw [if_neg e,Array.getElem?_setIfInBounds_ne (Ne.symm e)]
   refine ih (listed.setIfInBounds j true) (pre++post) E' σ' s1 a' w' (hgr.P.trans hP) (hG.grow hgr) (by simp at hlen ⊢;omega) (by simpa using hsz) (fun k hk=>?_) (fun g hg=>hlt g ?_) hpw' p2 (fun k x hk hl hb=>?_) q6 hs' (fun g hg m hm1 hm2=>?_) fun E'' σ'' a'' w'' hgr' hx' hot' hs''=>?_
   ·rw [hget]
    by_cases e:k=j
    ·rw [if_pos e]
     constructor
     ·intro h;cases h
     ·rintro ⟨g,hg,hgk⟩;exact absurd (hgk.trans e) (hne g hg)
    ·rw [if_neg e,hrem k hk]
     constructor
     ·rintro ⟨g,hg,hgk⟩
      refine ⟨g,?_,hgk⟩
      rcases List.mem_append.1 hg with h|h
      ·exact List.mem_append_left _ h
      ·rcases List.mem_cons.1 h with h|h
       ·exfalso;rw [h] at hgk;exact e hgk.symm
       ·exact List.mem_append_right _ h
     ·rintro ⟨g,hg,hgk⟩
      refine ⟨g,?_,hgk⟩
      rcases List.mem_append.1 hg with h|h
      ·exact List.mem_append_left _ h
      ·exact List.mem_append_right _ (List.mem_cons_of_mem _ h)
   ·rcases List.mem_append.1 hg with h|h
    ·exact List.mem_append_left _ h
    ·exact List.mem_append_right _ (List.mem_cons_of_mem _ h)
   ·rw [hget] at hl ⊢
    by_cases ex:x=j
    ·rw [if_pos ex]
    ·rw [if_neg ex]
     by_cases e:k=j
     ·subst e
      obtain ⟨q,hq,hq2⟩:=(eu hms ho).1 x hb
      obtain ⟨l1,l2⟩:=hlisted q hq
      rcases hq2 with rfl|hq2
      ·exact l1
      ·exact hcl q x l2 l1 hq2
     ·rw [if_neg e] at hl
      exact hcl k x hk hl hb
   ·have hgne:=hne g hg
    rw [hot m (by omega)]
    refine hn g ?_ m hm1 hm2
    rcases List.mem_append.1 hg with h|h
    ·exact List.mem_append_left _ h
    ·exact List.mem_append_right _ (List.mem_cons_of_mem _ h)
   ·refine hQ E'' σ'' a'' w'' (hgr.trans hgr') (hx.trans hx') (fun m hm=>?_) hs''
    rw [hot' m hm,hot m (by omega)]
theorem pn {id:Nat} (hP:E.P=X.P) (hG:ck E X.G) (hT:gu X.P X.G X.tab) (hmix:X.P.follows .mixedOrders=true) {ms:List Nat} {Q:Exit→Act→World→Prop} {s s':St} {a:Act} {w:World} {C:Prop} (hs:StR E X.n σ s.1 s.2 a w)
  (hn:∀ m,X.base≤m→m<X.base+16*ops.size→σ m=.unset) (h:qm X ops ms s=some (C,s')) (hC:C)
  (hQ:∀ E' σ' a' w',Grow E E'→Ext σ σ'→(∀ m,(m<X.base∨X.base+16*ops.size≤m)→σ' m=σ m)→StR E' X.n σ' s'.1 s'.2 a' w'→Q .normal a' w'):(Code.region id ops true).wp X.P Q a w:=by
 unfold qm at h
 split at h
 ·rename_i C1 s1 F hrun
  cases hb:(fx ops ms && eA ops ms F)
  ·simp [hb] at h
  ·simp only [hb,cond_true,Option.some.injEq,Prod.mk.injEq] at h
   obtain ⟨rfl,rfl⟩:=h
   rw [Bool.and_eq_true] at hb
   obtain ⟨f1,f2⟩:=oH hrun hC
   have hlen:F.length=ops.size:=by
    have:=congrArg List.length f2
    simpa using this
   have hlt:∀ f∈F,f.1<ops.size:=by
    intro f hf
    have:f.1∈F.map (·.1):=List.mem_map.2 ⟨f,hf,rfl⟩
    rw [f2] at this
    exact List.mem_range.1 this
   refine wp_region_any hmix ?_
   have hs2:StR E X.n σ s.1 s.2 a { w with drawn:=w.drawn+1 }:={ toFrR:=hs.toFrR,toMemR:=hs.toMemR.world rfl rfl rfl rfl,tmps:=hs.tmps }
   refine kV hT hb.1 ops.size _ F E σ s a _ hP hG (by omega) (by simp) (fun i hi=>?_) hlt (by rw [f2];exact List.pairwise_lt_range) hb.2 (fun k x hk hl _=>?_) f1 hs2 (fun f hf m h1 h2=>hn m (by omega) (by have:=hlt f hf;omega)) hQ
   ·have:i∈F.map (·.1):=by rw [f2];exact List.mem_range.2 hi
    obtain ⟨f,hf,hfi⟩:=List.mem_map.1 this
    constructor
    ·intro _;exact ⟨f,hf,hfi⟩
    ·intro _;simp [hi]
   ·exfalso
    simp [hk] at hl
 ·cases h
theorem lP {id:Nat} (hP:E.P=X.P) (hG:ck E X.G) (hT:gu X.P X.G X.tab) {Q:Exit→Act→World→Prop} {s s':St} {a:Act} {w:World} {C:Prop} (hs:StR E X.n σ s.1 s.2 a w)
  (hn:∀ m,X.base≤m→m<X.base+16*ops.size→σ m=.unset) (h:nJ X ops (List.range ops.size) s=some (C,s')) (hC:C)
  (hQ:∀ E' σ' a' w',Grow E E'→Ext σ σ'→(∀ m,(m<X.base∨X.base+16*ops.size≤m)→σ' m=σ m)→StR E' X.n σ' s'.1 s'.2 a' w'→Q .normal a' w'):(Code.region id ops false).wp X.P Q a w:=by
 refine wp_region ?_
 refine mY hT _ E σ s s' a w C hP hG List.nodup_range hs (fun i hi m h1 h2=>?_) h hC fun E' σ' a' w' hgr hx ho hs'=>hQ E' σ' a' w' hgr hx (fun m hm=>ho m fun i hi=>?_) hs'
 ·have:=List.mem_range.1 hi
  exact hn m (by omega) (by omega)
 ·have:=List.mem_range.1 hi
  omega
end
end Go.Vm
namespace Go.Vm
open Go
structure Bs where
 P:Program
 G:dP
 tab:Tab
 n:Nat
structure Bs.Ok (B:Bs):Prop where
 hT:gu B.P B.G B.tab
 hmix:B.P.follows .mixedOrders=true
structure Fit (B:Bs) (E:Env):Prop where
 hP:E.P=B.P
 hG:ck E B.G
 ok:B.Ok
def py (κ σ:Sig):Prop:=∀ j,j<16→σ j=κ j∨σ j=.unset
def ma (E:Env) (κ:Sig) (n:Nat) (U:Nat) (s:St) (a:Act) (w:World):Prop:=∃ σ,StR E n σ s.1 s.2 a w∧(∀ m,U≤m→σ m=.unset)∧py κ σ∧16≤U
def iE (E:Env) (n:Nat) (U:Nat) (s:St) (a:Act) (w:World):Prop:=∃ E',Grow E E'∧ma E' E.kp n U s a w
abbrev dH:=Exit→Nat→St→Prop
def Tri (B:Bs) (E:Env) (c:Code) (U:Nat) (s:St) (Q:dH):Prop :=
 Fit B E→∀ a w,iE E B.n U s a w→c.wp B.P (fun e a' w'=>∃ U' s',iE E B.n U' s' a' w'∧Q e U' s') a w
def Sub (U:Nat) (s:St) (U':Nat) (s':St):Prop:=∀ E n a w,iE E n U s a w→iE E n U' s' a w
theorem Sub.refl (U:Nat) (s:St):Sub U s U s:=fun _ _ _ _ h=>h
theorem Sub.of_eq {U:Nat} {s s':St} (h:s=s'):Sub U s U s':=h ▸ .refl U s
theorem Sub.trans {U U' U'':Nat} {s s' s'':St} (h:Sub U s U' s') (h':Sub U' s' U'' s''):Sub U s U'' s'':=fun E n a w g=>h' E n a w (h E n a w g)
def rS (U:Nat) (s:St) (U':Nat) (s':St):Prop:=∀ E κ n a w,ma E κ n U s a w→ma E κ n U' s' a w
theorem Sub.of1 {U U':Nat} {s s':St} (h:rS U s U' s'):Sub U s U' s':=fun _ _ _ _ ⟨E',hg,g⟩=>⟨E',hg,h _ _ _ _ _ g⟩
theorem Sub.up {U U':Nat} {s:St} (h:U≤U'):Sub U s U' s:=Sub.of1 fun _ _ _ _ _ ⟨σ,h1,h2,h3,h4⟩=>⟨σ,h1,fun m hm=>h2 m (by omega),h3,by omega⟩
variable {B:Bs} {E:Env} {U:Nat} {s:St} {Q:dH}
theorem Tri.mono {c:Code} {Q':dH} (h:Tri B E c U s Q) (hq:∀ e U' s',Q e U' s'→Q' e U' s'):Tri B E c U s Q' :=
 fun hB a w g=>wp_mono (h hB a w g) fun e a' w' ⟨U',s',h1,h2⟩=>⟨U',s',h1,hq e U' s' h2⟩
theorem Tri.sub {c:Code} {U':Nat} {s':St} (hs:Sub U s U' s') (h:Tri B E c U' s' Q):Tri B E c U s Q :=
 fun hB a w g=>h hB a w (hs _ _ _ _ g)
theorem Tri.skip (h:Q .normal U s):Tri B E .skip U s Q:=fun _ a w g=>wp_skip ⟨U,s,g,h⟩
theorem Tri.ret (h:Q .ret U s):Tri B E .ret U s Q:=fun _ a w g=>wp_ret ⟨U,s,g,h⟩
theorem Tri.exit {id:Nat} (h:Q (.exit id) U s):Tri B E (.exit id) U s Q:=fun _ a w g=>wp_exit ⟨U,s,g,h⟩
def ol (B:Bs) (E:Env) (c:Code) (Q:dH):dH
 |.normal,U,s=>Tri B E c U s Q
 |e,U,s=>Q e U s
theorem Tri.seq {c d:Code} (h:Tri B E c U s (ol B E d Q)):Tri B E (.seq c d) U s Q:=by
 intro hB a w g
 refine wp_seq (wp_mono (h hB a w g) ?_)
 rintro e a' w' ⟨U',s',h1,h2⟩
 cases e with
 |normal=>exact h2 hB a' w' h1
 |exit id=>exact ⟨U',s',h1,h2⟩
 |goto l=>exact ⟨U',s',h1,h2⟩
 |ret=>exact ⟨U',s',h1,h2⟩
 |panic ch=>exact ⟨U',s',h1,h2⟩
 |outgrown=>exact ⟨U',s',h1,h2⟩
def pC (id:Nat) (Q:dH):dH
 |.exit id',U,s=>if id'=id then Q .normal U s else Q (.exit id') U s
 |e,U,s=>Q e U s
theorem Tri.block {id:Nat} {c:Code} (h:Tri B E c U s (pC id Q)):Tri B E (.block id c) U s Q:=by
 intro hB a w g
 refine wp_block (wp_mono (h hB a w g) ?_)
 rintro e a' w' ⟨U',s',h1,h2⟩
 cases e with
 |normal=>exact ⟨U',s',h1,h2⟩
 |exit id' =>
  simp only [Exit.inBlock]
  simp only [pC] at h2
  split
  ·rename_i hid
   rw [if_pos hid] at h2
   exact ⟨U',s',h1,h2⟩
  ·rename_i hid
   rw [if_neg hid] at h2
   exact ⟨U',s',h1,h2⟩
 |goto l=>exact ⟨U',s',h1,h2⟩
 |ret=>exact ⟨U',s',h1,h2⟩
 |panic ch=>exact ⟨U',s',h1,h2⟩
 |outgrown=>exact ⟨U',s',h1,h2⟩
theorem iE.evalB {n:Nat} {a:Act} {w:World} {c:Operand} {x:Bool} {G:dP} (hG:ck E G) (g:iE E n U s a w) (hc:ev G s.1 c=some (.sc (.b x))):a.eval c=.bool x:=by
 obtain ⟨E',hg,σ,h1,h2⟩:=g
 have:=dS (hG.grow hg) h1.toFrR hc
 exact this
theorem Tri.cond {c:Operand} {x:Bool} {d e:Code} (hc:ev B.G s.1 c=some (.sc (.b x))) (ht:x=true→Tri B E d U s Q) (hf:x=false→Tri B E e U s Q):Tri B E (.cond c d e) U s Q :=
 fun hB a w g=>wp_cond_split (g.evalB hB.hG hc) (fun h=>ht h hB a w g) (fun h=>hf h hB a w g)
theorem Tri.cond_true {c:Operand} {d e:Code} (hc:ev B.G s.1 c=some (.sc (.b true))) (h:Tri B E d U s Q):Tri B E (.cond c d e) U s Q :=
 Tri.cond hc (fun _=>h) (fun h=>Bool.noConfusion h)
theorem Tri.cond_false {c:Operand} {d e:Code} (hc:ev B.G s.1 c=some (.sc (.b false))) (h:Tri B E e U s Q):Tri B E (.cond c d e) U s Q :=
 Tri.cond hc (fun h=>Bool.noConfusion h) (fun _=>h)
def mv (Um:Nat) (m:St) (Q:dH):dH
 |.normal,U,s=>Sub U s Um m
 |e,U,s=>Q e U s
theorem Tri.join {c:Operand} {x:Bool} {d e:Code} (m:Bool→St) (Um:Nat) (hc:ev B.G s.1 c=some (.sc (.b x))) (ht:x=true→Tri B E d U s (mv Um (m true) Q)) (hf:x=false→Tri B E e U s (mv Um (m false) Q))
  (hq:Q .normal Um (m x)):Tri B E (.cond c d e) U s Q:=by
 have key:∀ (k:Code) (y:Bool),x=y→Tri B E k U s (mv Um (m y) Q)→Tri B E k U s Q:=by
  intro k y hy h hB a w g
  subst hy
  refine wp_mono (h hB a w g) ?_
  rintro ex a' w' ⟨U',s',h1,h2⟩
  cases ex with
  |normal=>exact ⟨Um,m x,h2 _ _ _ _ h1,hq⟩
  |exit id=>exact ⟨U',s',h1,h2⟩
  |goto l=>exact ⟨U',s',h1,h2⟩
  |ret=>exact ⟨U',s',h1,h2⟩
  |panic ch=>exact ⟨U',s',h1,h2⟩
  |outgrown=>exact ⟨U',s',h1,h2⟩
 exact Tri.cond hc (fun h=>key d true h (ht h)) (fun h=>key e false h (hf h))
def Bs.cx (B:Bs) (hints:List (Nat × AV)) (base:Nat):Cx:={ P:=B.P,G:=B.G,tab:=B.tab,n:=B.n,hints:=hints,base:=base }
def lw (B:Bs) (hints:List (Nat × AV)) (base:Nat) (ops:Array Oper) (ms:Option (List Nat)) (kf km:List Nat) (s:St):Option (Prop × St) :=
 match (match ms with|none=>nJ (B.cx hints base) ops (List.range ops.size) s|some ms=>qm (B.cx hints base) ops ms s) with
 |some (C,s')=>some (C,ez kf s'.1,ez km s'.2)
 |none=>none
theorem Sub.keep {U:Nat} {s:St} (kf km:List Nat):Sub U s U (ez kf s.1,ez km s.2) :=
 Sub.of1 fun _ _ _ _ _ ⟨σ,h1,h2⟩=>⟨σ,h1.less (fun _ _=>fi) (fun _ _=>fi),h2⟩
theorem Tri.region {id:Nat} {ops:Array Oper} {draw:Bool} {hints:List (Nat × AV)} {ms:Option (List Nat)} {kf km:List Nat} {C:Prop} {s':St} {U':Nat} (h:lw B hints U ops ms kf km s=some (C,s')) (hd:ms.isSome=draw)
  (hU:Nat.ble (U+16*ops.size) U'=true) (hC:C) (hq:Q .normal U' s'):Tri B E (.region id ops draw) U s Q:=by
 intro hB a w ⟨E1,hg1,σ,h1,h2,hk,h16⟩
 have hU':=Nat.le_of_ble_eq_true hU
 unfold lw at h
 have fin:∀ s1:St,(ez kf s1.1,ez km s1.2)=s'→∀ E' σ' a' w',Grow E1 E'→Ext σ σ'→(∀ m,(m<U∨U+16*ops.size≤m)→σ' m=σ m)→StR E' B.n σ' s1.1 s1.2 a' w'→∃ U' s',iE E B.n U' s' a' w'∧Q .normal U' s':=by
  intro s1 he E' σ' a' w' hg hx ho hs
  subst he
  refine ⟨U',_,?_,hq⟩
  exact Sub.keep kf km _ _ _ _ ⟨E',hg1.trans hg,σ',hs,fun m hm=>by rw [ho m (by omega)];exact h2 m (by omega),fun j hj=>by rw [ho j (by omega)];exact hk j hj,by omega⟩
 cases ms with
 |none =>
  simp only at h
  simp only [Option.isSome_none] at hd
  subst hd
  split at h
  ·rename_i C1 s1 h3
   simp only [Option.some.injEq,Prod.mk.injEq] at h
   obtain ⟨rfl,h4⟩:=h
   exact lP (X:=B.cx hints U) (hg1.P.trans hB.hP) (hB.hG.grow hg1) hB.ok.hT h1 (fun m hm1 _=>h2 m hm1) h3 hC (fin s1 h4)
  ·cases h
 |some ms =>
  simp only at h
  simp only [Option.isSome_some] at hd
  subst hd
  split at h
  ·rename_i C1 s1 h3
   simp only [Option.some.injEq,Prod.mk.injEq] at h
   obtain ⟨rfl,h4⟩:=h
   exact pn (X:=B.cx hints U) (hg1.P.trans hB.hP) (hB.hG.grow hg1) hB.ok.hT hB.ok.hmix h1 (fun m hm1 _=>h2 m hm1) h3 hC (fin s1 h4)
  ·cases h
abbrev Ren:=List (Nat × Nat)
def Sc.ren (ns:Ren):Sc→Option Sc
 |.p g o=>match ap g ns with|some c=>some (.p c o)|none=>none
 |.sl g off len es cap=>match ap g ns with|some c=>some (.sl c off len es cap)|none=>none
 |.clo f g d=>match ap g ns,ap d ns with|some c,some e=>some (.clo f c e)|_,_=>none
 |s=>some s
def jM (ns:Ren):List Sc→Option (List Sc)
 |[]=>some []
 |s :: r=>match s.ren ns,jM ns r with
  |some s',some r'=>some (s' :: r')
  |_,_=>none
def A1.ren (ns:Ren):A1→Option A1
 |.sc s=>match s.ren ns with|some s'=>some (.sc s')|none=>none
 |.agg l=>match jM ns l with|some l'=>some (.agg l')|none=>none
 |.ints k n xs=>some (.ints k n xs)
 |.arr v xs=>some (.arr v xs)
def lG (ns:Ren):List A1→Option (List A1)
 |[]=>some []
 |s :: r=>match s.ren ns,lG ns r with
  |some s',some r'=>some (s' :: r')
  |_,_=>none
def AV.ren (ns:Ren):AV→Option AV
 |.sc s=>match s.ren ns with|some s'=>some (.sc s')|none=>none
 |.agg l=>match jM ns l with|some l'=>some (.agg l')|none=>none
 |.ints k n xs=>some (.ints k n xs)
 |.tup l=>match lG ns l with|some l'=>some (.tup l')|none=>none
 |.arr v xs=>some (.arr v xs)
def Blk.ren (ns:Ren):Blk→Option Blk
 |.ints k n xs=>some (.ints k n xs)
 |.cells l=>match jM ns l with|some l'=>some (.cells l')|none=>none
 |.vec v xs=>some (.vec v xs)
def je (ns:Ren) (fr:Fr):List Nat→Option Fr
 |[]=>some []
 |t :: r=>match ap t fr with
  |none=>none
  |some v=>match v.ren ns,je ns fr r with
   |some v',some fr'=>some ((t,v') :: fr')
   |_,_=>none
def gY (ns:Ren) (M:Mem):Ren→Option Mem
 |[]=>some []
 |(b,c) :: r=>match ap b M with
  |none=>none
  |some k=>match k.ren ns,gY ns M r with
   |some k',some M'=>some ((c,k') :: M')
   |_,_=>none
def fH (ns:Ren):Ren:=ns.map fun p=>(p.2,p.1)
def cm (ns:Ren) (U:Nat):Bool :=
 ns.all fun p=>(match ap p.2 (fH ns) with|some b=>Nat.beq b p.1|none=>false) && (match ap p.1 ns with|some c=>Nat.beq c p.2|none=>false) && Nat.blt p.2 U
def bx (σ:Sig) (ns:Ren):Sig:=fun c=>match ap c (fH ns) with
 |some b=>σ b
 |none=>.unset
theorem di {α:Type} {b:Nat} {c:α}:∀ {l:List (Nat × α)},ap b l=some c→(b,c)∈l
 |[],h=>by cases h
 |(m,v) :: r,h=>by
  simp only [ap] at h
  by_cases e:m=b
  ·subst e
   simp only [iF,cond_true,Option.some.injEq] at h
   subst h
   exact List.mem_cons_self
  ·simp only [gk e,cond_false] at h
   exact List.mem_cons_of_mem _ (di h)
theorem oQ {ns:Ren} {U b c:Nat} (h:cm ns U=true) (hb:ap b ns=some c):ap c (fH ns)=some b∧c<U:=by
 unfold cm at h
 rw [List.all_eq_true] at h
 have h1:=h _ (di hb)
 simp only [Bool.and_eq_true] at h1
 obtain ⟨⟨h1,h3⟩,h2⟩:=h1
 refine ⟨?_,?_⟩
 ·split at h1
  ·rename_i b' hb'
   rw [hb',Nat.eq_of_beq_eq_true h1]
  ·cases h1
 ·have:=Nat.le_of_ble_eq_true (show Nat.ble (c+1) U=true from h2)
  omega
section
variable {σ:Sig} {ns:Ren}
theorem eS (h:cm ns U=true) {b c:Nat} (hb:ap b ns=some c):bx σ ns c=σ b:=by
 unfold bx
 rw [(oQ h hb).1]
theorem Sc.ren_R (h:cm ns U=true):∀ {x x':Sc} {V:Value},x.ren ns=some x'→ScR E σ x V→ScR E (bx σ ns) x' V
 |.b _,_,_,h1,h2|.i _ _,_,_,h1,h2|.s _,_,_,h1,h2|.nilp,_,_,h1,h2|.nils,_,_,h1,h2|.ro _ _,_,_,h1,h2|.ros _,_,_,h1,h2|.rob _,_,_,h1,h2|.roc _,_,_,h1,h2|.rp _ _ _,_,_,h1,h2
 |.rps _,_,_,h1,h2|.rpb _,_,_,h1,h2|.rpc _,_,_,h1,h2|.raw _,_,_,h1,h2=>by
  simp only [Sc.ren,Option.some.injEq] at h1
  subst h1
  exact h2
 |.p g o,x',V,h1,h2=>by
  simp only [Sc.ren] at h1
  split at h1
  ·rename_i c hc
   simp only [Option.some.injEq] at h1
   subst h1
   obtain ⟨L,e1,e2⟩:=h2
   exact ⟨L,by rw [eS h hc];exact e1,e2⟩
  ·cases h1
 |.clo f g d,x',V,h1,h2=>by
  simp only [Sc.ren] at h1
  split at h1
  ·rename_i c e hc he
   simp only [Option.some.injEq] at h1
   subst h1
   obtain ⟨L,L',e1,e2,e3⟩:=h2
   exact ⟨L,L',by rw [eS h hc];exact e1,by rw [eS h he];exact e2,e3⟩
  ·cases h1
 |.sl g off len es cap,x',V,h1,h2=>by
  simp only [Sc.ren] at h1
  split at h1
  ·rename_i c hc
   simp only [Option.some.injEq] at h1
   subst h1
   rcases h2 with h2|⟨L,c',e1,e2⟩
   ·exact .inl h2
   ·exact .inr ⟨L,c',by rw [eS h hc];exact e1,e2⟩
  ·cases h1
theorem lV (h:cm ns U=true):∀ {l l':List Sc} {m:List Value},jM ns l=some l'→cW (ScR E σ) l m→cW (ScR E (bx σ ns)) l' m
 |[],l',m,h1,h2=>by
  simp only [jM,Option.some.injEq] at h1
  subst h1
  cases m with
  |nil=>trivial
  |cons _ _=>exact h2.elim
 |x :: r,l',m,h1,h2=>by
  simp only [jM] at h1
  split at h1
  ·rename_i x' r' e1 e2
   simp only [Option.some.injEq] at h1
   subst h1
   cases m with
   |nil=>exact h2.elim
   |cons V m=>exact ⟨Sc.ren_R h e1 h2.1,lV h e2 h2.2⟩
  ·cases h1
theorem kH {σ':Sig} {v:VK}:∀ {xs:List v.T} {m:List Value},cW (ScR E σ) (xs.map v.sc) m→cW (ScR E σ') (xs.map v.sc) m
 |[],[],_=>trivial
 |x :: r,V :: m,h=>⟨by have:=h.1;cases v <;> exact this,kH h.2⟩
theorem A1.ren_R (h:cm ns U=true) {v v':A1} {V:Value} (h1:v.ren ns=some v') (h2:A1R E σ v V):A1R E (bx σ ns) v' V:=by
 cases v with
 |sc x =>
  simp only [A1.ren] at h1
  split at h1
  ·rename_i x' e
   simp only [Option.some.injEq] at h1
   subst h1
   exact Sc.ren_R h e h2
  ·cases h1
 |agg l =>
  simp only [A1.ren] at h1
  split at h1
  ·rename_i x' e
   simp only [Option.some.injEq] at h1
   subst h1
   obtain ⟨arr,e1,e2⟩:=h2
   exact ⟨arr,e1,lV h e e2⟩
  ·cases h1
 |ints k n xs =>
  simp only [A1.ren,Option.some.injEq] at h1
  subst h1
  exact h2
 |arr v xs =>
  simp only [A1.ren,Option.some.injEq] at h1
  subst h1
  obtain ⟨arr,e1,e2⟩:=h2
  exact ⟨arr,e1,kH e2⟩
theorem mh (h:cm ns U=true):∀ {l l':List A1} {m:List Value},lG ns l=some l'→cW (A1R E σ) l m→cW (A1R E (bx σ ns)) l' m
 |[],l',m,h1,h2=>by
  simp only [lG,Option.some.injEq] at h1
  subst h1
  cases m with
  |nil=>trivial
  |cons _ _=>exact h2.elim
 |x :: r,l',m,h1,h2=>by
  simp only [lG] at h1
  split at h1
  ·rename_i x' r' e1 e2
   simp only [Option.some.injEq] at h1
   subst h1
   cases m with
   |nil=>exact h2.elim
   |cons V m=>exact ⟨A1.ren_R h e1 h2.1,mh h e2 h2.2⟩
  ·cases h1
theorem AV.ren_R (h:cm ns U=true) {v v':AV} {V:Value} (h1:v.ren ns=some v') (h2:AVR E σ v V):AVR E (bx σ ns) v' V:=by
 cases v with
 |sc x =>
  simp only [AV.ren] at h1
  split at h1
  ·rename_i x' e
   simp only [Option.some.injEq] at h1
   subst h1
   exact Sc.ren_R h e h2
  ·cases h1
 |agg l =>
  simp only [AV.ren] at h1
  split at h1
  ·rename_i x' e
   simp only [Option.some.injEq] at h1
   subst h1
   obtain ⟨arr,e1,e2⟩:=h2
   exact ⟨arr,e1,lV h e e2⟩
  ·cases h1
 |ints k n xs =>
  simp only [AV.ren,Option.some.injEq] at h1
  subst h1
  exact h2
 |arr v xs =>
  simp only [AV.ren,Option.some.injEq] at h1
  subst h1
  obtain ⟨arr,e1,e2⟩:=h2
  exact ⟨arr,e1,kH e2⟩
 |tup l =>
  simp only [AV.ren] at h1
  split at h1
  ·rename_i x' e
   simp only [Option.some.injEq] at h1
   subst h1
   obtain ⟨arr,e1,e2⟩:=h2
   exact ⟨arr,e1,mh h e e2⟩
  ·cases h1
theorem lM (h:cm ns U=true):∀ {l l':List Sc},jM ns l=some l'→l'.length=l.length∧∀ (j:Nat) (x':Sc),l'[j]?=some x'→∃ x,l[j]?=some x∧x.ren ns=some x'
 |[],l',h1=>by
  simp only [jM,Option.some.injEq] at h1
  subst h1
  exact ⟨rfl,fun j x' hx=>by simp at hx⟩
 |x :: r,l',h1=>by
  simp only [jM] at h1
  split at h1
  ·rename_i y r' e1 e2
   simp only [Option.some.injEq] at h1
   subst h1
   obtain ⟨q1,q2⟩:=lM h e2
   refine ⟨by simp [q1],fun j x' hx=>?_⟩
   cases j with
   |zero=>simp at hx;subst hx;exact ⟨x,rfl,e1⟩
   |succ j=>simpa using q2 j x' (by simpa using hx)
  ·cases h1
theorem Blk.ren_R (h:cm ns U=true) {w:World} {k k':Blk} {L:Pl} (h1:k.ren ns=some k') (h2:dk E σ w k L):dk E (bx σ ns) w k' L:=by
 cases k with
 |ints kk n xs =>
  simp only [Blk.ren,Option.some.injEq] at h1
  subst h1
  cases L with
  |unset=>exact h2
  |nil=>exact h2
  |«at» L =>
   obtain ⟨g1,arr,elem,lo,hi,q1,q2,q3,q4,q5,q6⟩:=h2
   refine ⟨g1,arr,elem,lo,hi,q1,q2,q3,q4,q5,fun j x hx=>?_⟩
   obtain ⟨v,e1,e2⟩:=q6 j x hx
   refine ⟨v,e1,?_⟩
   simp only [Blk.get?,Option.map_eq_some_iff] at hx
   obtain ⟨_,_,rfl⟩:=hx
   exact e2
 |cells l =>
  simp only [Blk.ren] at h1
  split at h1
  ·rename_i l' e
   simp only [Option.some.injEq] at h1
   subst h1
   obtain ⟨r1,r2⟩:=lM h e
   cases L with
   |unset=>exact h2
   |nil=>exact ⟨by have:=h2.1;simp only [Blk.len] at this ⊢;rw [r1];exact this,trivial⟩
   |«at» L =>
    obtain ⟨g1,arr,elem,lo,hi,q1,q2,q3,q4,q5,q6⟩:=h2
    refine ⟨trivial,arr,elem,lo,hi,q1,q2,by simp only [Blk.len] at q3 ⊢;rw [r1];exact q3,q4,q5,fun j x hx=>?_⟩
    obtain ⟨y,e1,e2⟩:=r2 j x hx
    obtain ⟨v,e3,e4⟩:=q6 j y e1
    exact ⟨v,e3,Sc.ren_R h e2 e4⟩
  ·cases h1
 |vec vk xs =>
  simp only [Blk.ren,Option.some.injEq] at h1
  subst h1
  cases L with
  |unset=>exact h2
  |nil=>exact h2
  |«at» L =>
   obtain ⟨g1,arr,elem,lo,hi,q1,q2,q3,q4,q5,q6⟩:=h2
   refine ⟨g1,arr,elem,lo,hi,q1,q2,q3,q4,q5,fun j x hx=>?_⟩
   obtain ⟨v,e1,e2⟩:=q6 j x hx
   refine ⟨v,e1,?_⟩
   simp only [Blk.get?,Option.map_eq_some_iff] at hx
   obtain ⟨_,_,rfl⟩:=hx
   cases vk <;> exact e2
theorem mA {fr fr':Fr}:∀ {kf:List Nat},je ns fr kf=some fr'→∀ t v',ap t fr'=some v'→∃ v,ap t fr=some v∧v.ren ns=some v':=by
 intro kf
 induction kf generalizing fr' with
 |nil =>
  intro h t v' ht
  simp only [je,Option.some.injEq] at h
  subst h
  cases ht
 |cons t0 r ih =>
  intro h t v' ht
  simp only [je] at h
  split at h
  ·cases h
  ·rename_i v hv
   split at h
   ·rename_i v1 fr1 e1 e2
    simp only [Option.some.injEq] at h
    subst h
    simp only [ap] at ht
    by_cases e:t0=t
    ·subst e
     simp only [iF,cond_true,Option.some.injEq] at ht
     subst ht
     exact ⟨v,hv,e1⟩
    ·simp only [gk e,cond_false] at ht
     exact ih e2 t v' ht
   ·cases h
theorem fQ {M M':Mem}:∀ {rs:Ren},gY ns M rs=some M'→∀ c k',ap c M'=some k'→∃ b k,(b,c)∈rs∧ap b M=some k∧k.ren ns=some k':=by
 intro rs
 induction rs generalizing M' with
 |nil =>
  intro h t v' ht
  simp only [gY,Option.some.injEq] at h
  subst h
  cases ht
 |cons p r ih =>
  obtain ⟨b0,c0⟩:=p
  intro h t v' ht
  simp only [gY] at h
  split at h
  ·cases h
  ·rename_i v hv
   split at h
   ·rename_i v1 fr1 e1 e2
    simp only [Option.some.injEq] at h
    subst h
    simp only [ap] at ht
    by_cases e:c0=t
    ·subst e
     simp only [iF,cond_true,Option.some.injEq] at ht
     subst ht
     exact ⟨b0,v,List.mem_cons_self,hv,e1⟩
    ·simp only [gk e,cond_false] at ht
     obtain ⟨b,k,q1,q2⟩:=ih e2 t v' ht
     exact ⟨b,k,List.mem_cons_of_mem _ q1,q2⟩
   ·cases h
end
theorem cY {ns:Ren} {U b c:Nat} (h:cm ns U=true) (hb:(b,c)∈ns):ap c (fH ns)=some b∧c<U∧ap b ns=some c:=by
 unfold cm at h
 rw [List.all_eq_true] at h
 have h1:=h _ hb
 simp only [Bool.and_eq_true] at h1
 obtain ⟨⟨h1,h3⟩,h2⟩:=h1
 refine ⟨?_,?_,?_⟩
 ·split at h1
  ·rename_i b' hb'
   rw [hb',Nat.eq_of_beq_eq_true h1]
  ·cases h1
 ·have:=Nat.le_of_ble_eq_true (show Nat.ble (c+1) U=true from h2)
  omega
 ·split at h3
  ·rename_i b' hb'
   rw [hb',Nat.eq_of_beq_eq_true h3]
  ·cases h3
def jP (ns:Ren) (kf:List Nat) (s:St):Option St :=
 match je ns s.1 kf,gY ns s.2 ns with
 |some fr,some M=>some (fr,M)
 |_,_=>none
theorem StR.ren {n:Nat} {σ:Sig} {ns:Ren} {kf:List Nat} {s s':St} {a:Act} {w:World} (h:cm ns U=true) (hs:jP ns kf s=some s') (hR:StR E n σ s.1 s.2 a w):StR E n (bx σ ns) s'.1 s'.2 a w:=by
 unfold jP at hs
 split at hs
 ·rename_i fr M e1 e2
  simp only [Option.some.injEq] at hs
  subst hs
  refine { val:=?_,defers:=hR.defers,tmps:=hR.tmps,blk:=?_,inj:=?_,old:=hR.old,size:=hR.size,olds:=hR.olds,os:=hR.os,tape:=hR.tape,output:=hR.output }
  ·intro t v' ht
   obtain ⟨v,q1,q2⟩:=mA e1 t v' ht
   obtain ⟨V,q3,q4⟩:=hR.val t v q1
   exact ⟨V,q3,AV.ren_R h q2 q4⟩
  ·intro c k' hc
   obtain ⟨b,k,q0,q1,q2⟩:=fQ e2 c k' hc
   have:=hR.blk b k q1
   have hbc:bx σ ns c=σ b:=by
    unfold bx
    rw [(cY h q0).1]
   rw [hbc]
   exact Blk.ren_R h q2 this
  ·intro b c x y L L' hb hc hL hL' hg
   obtain ⟨b1,k1,q0,q1,q2⟩:=fQ e2 b x hb
   obtain ⟨c1,k2,q3,q4,q5⟩:=fQ e2 c y hc
   have h1:bx σ ns b=σ b1:=by
    unfold bx
    rw [(cY h q0).1]
   have h2:bx σ ns c=σ c1:=by
    unfold bx
    rw [(cY h q3).1]
   have:=hR.inj b1 c1 k1 k2 L L' q1 q4 (h1 ▸ hL) (h2 ▸ hL') hg
   subst this
   have e1:=(cY h q0).2.2
   have e2:=(cY h q3).2.2
   rw [e1] at e2
   injection e2
 ·cases hs
end Go.Vm
namespace Go.Vm
open Go
variable {B:Bs} {E:Env} {U:Nat} {s:St} {Q:dH}
def ey (ns:Ren) (m:Nat):Bool:=ns.all fun p=>Nat.ble m p.2 || Nat.beq p.1 p.2
theorem nh {ns:Ren} {m b c:Nat} (h:ey ns m=true) (hb:(b,c)∈ns) (hc:c<m):b=c:=by
 unfold ey at h
 rw [List.all_eq_true] at h
 have h1:=h _ hb
 simp only [Bool.or_eq_true] at h1
 rcases h1 with h1|h1
 ·have:=Nat.le_of_ble_eq_true h1
  omega
 ·exact Nat.eq_of_beq_eq_true h1
theorem ic {κ σ:Sig} {ns:Ren} {m:Nat} (hm:m≤16) (h:ey ns m=true) (hk:py κ σ) {j:Nat} (hj:j<m):bx σ ns j=κ j∨bx σ ns j=.unset:=by
 unfold bx
 split
 ·rename_i b hb
  have hmem:=di hb
  unfold fH at hmem
  obtain ⟨p,hp,he⟩:=List.mem_map.1 hmem
  simp only [Prod.mk.injEq] at he
  obtain ⟨rfl,rfl⟩:=he
  have:=nh h (show (p.1,p.2)∈ns from hp) hj
  rw [this]
  exact hk p.2 (by omega)
 ·exact .inr rfl
theorem Sub.ren {U':Nat} {ns:Ren} {kf:List Nat} {s':St} (h:(cm ns U' && ey ns 16 && Nat.ble 16 U')=true) (hs:jP ns kf s=some s'):Sub U s U' s':=by
 simp only [Bool.and_eq_true] at h
 obtain ⟨⟨h,h5⟩,h6⟩:=h
 apply Sub.of1
 rintro E κ n a w ⟨σ,h1,h2,h3,h4⟩
 refine ⟨bx σ ns,StR.ren h hs h1,fun m hm=>?_,fun j hj=>ic (Nat.le_refl _) h5 h3 hj,Nat.le_of_ble_eq_true h6⟩
 unfold bx
 split
 ·rename_i b hb
  have hmem:=di hb
  unfold fH at hmem
  obtain ⟨p,hp,he⟩:=List.mem_map.1 hmem
  simp only [Prod.mk.injEq] at he
  obtain ⟨rfl,rfl⟩:=he
  have:=(cY h (show (p.1,p.2)∈ns from hp)).2.1
  omega
 ·rfl
def qz {α:Type} (U0:Nat) (μ:α→Nat) (J:α→Prop) (st:α→St) (x:α) (Q:dH):dH
 |.normal,U,s=>∃ x',μ x'<μ x∧J x'∧Sub U s U0 (st x')
 |e,U,s=>Q e U s
theorem Tri.loop {α:Type} {c:Code} {U0:Nat} (μ:α→Nat) (J:α→Prop) (st:α→St) (x0:α) (hJ:J x0) (h0:Sub U s U0 (st x0)) (gG:∀ x,J x→Tri B E c U0 (st x) (qz U0 μ J st x Q)):Tri B E (.loop c) U s Q:=by
 intro hB a w g
 refine wp_loop_ghost (fun m a w=>∃ x,μ x=m∧J x∧iE E B.n U0 (st x) a w) (μ x0) ⟨x0,rfl,hJ,h0 _ _ _ _ g⟩ ?_
 rintro m a w ⟨x,rfl,hJx,gx⟩
 refine wp_mono (gG x hJx hB a w gx) ?_
 rintro e a' w' ⟨U',s',h1,h2⟩
 cases e with
 |normal =>
  obtain ⟨x',q1,q2,q3⟩:=h2
  exact ⟨μ x',q1,x',rfl,q2,q3 _ _ _ _ h1⟩
 |exit id=>exact ⟨U',s',h1,h2⟩
 |goto l=>exact ⟨U',s',h1,h2⟩
 |ret=>exact ⟨U',s',h1,h2⟩
 |panic ch=>exact ⟨U',s',h1,h2⟩
 |outgrown=>exact ⟨U',s',h1,h2⟩
def sel {α:Type} (b:Bool) (x y:α):α:=bif b then x else y
theorem aR {α:Type} (x y:α):sel true x y=x:=Eq.trans (b:=x) rfl rfl
theorem aM {α:Type} (x y:α):sel false x y=y:=Eq.trans (b:=y) rfl rfl
def itr {α:Type} (f:Nat→α→α):Nat→α→α
 |0,x=>x
 |k+1,x=>f k (itr f k x)
theorem dN {α:Type} (f:Nat→α→α) (x:α):itr f 0 x=x:=rfl
theorem cy {α:Type} (f:Nat→α→α) (k:Nat) (x:α):itr f (k+1) x=f k (itr f k x):=rfl
attribute [irreducible] itr
structure Ret where
 v:AV
 bs:List (Option Blk)
def jL:Nat→List Blk→Mem
 |_,[]=>[]
 |i,k :: r=>(i,k) :: jL (i+1) r
def iH:Nat→List (Option Blk)→Mem
 |_,[]=>[]
 |i,none :: r=>iH (i+1) r
 |i,some k :: r=>(i,k) :: iH (i+1) r
def ld (P:Program) (G:dP) (f:FuncId) (m:Nat) (spec:List AV→List Blk→Option (Prop × Ret)):Prop :=
 ∀ (E:Env) (w:World) (args:List AV) (ks:List Blk) (Vs:Array Value) (C:Prop) (r:Ret),E.P=P→ck E G→ks.length=m→(∀ j,m≤j→E.kp j=.unset)→MemR E E.kp (jL 0 ks) w→cW (AVR E E.kp) args Vs.toList→spec args ks=some (C,r)→C →
  jo P f Vs w fun V w'=>∃ E' σ',Grow E E'∧(∀ j,j<m→σ' j=E.kp j∨σ' j=.unset)∧AVR E' σ' r.v V∧MemR E' σ' (iH 0 r.bs) w'
def Blk.a1:Blk→A1
 |.ints k n xs=>.ints k n xs
 |.cells l=>.agg l
 |.vec v xs=>.arr v xs
def nK:AV→Option A1
 |.sc s=>some (.sc s)
 |.agg l=>some (.agg l)
 |.ints k n xs=>some (.ints k n xs)
 |.tup _=>none
 |.arr v xs=>some (.arr v xs)
def iI (P:Program) (s:St):ResultVar→Option (Prop × A1)
 |.tmp t=>match ap t s.1 with
  |some v=>(match nK v with|some v'=>some (True,v')|none=>none)
  |none=>none
 |.cell a t=>match ap a s.1,eL P t,dD P t with
  |some (.sc (.p b o)),some false,some _=>(match ap b s.2 with|some k=>(let r:=k.at o;some (r.1,.sc r.2))|none=>none)
  |some (.sc (.p b o)),some true,some z=>(match ap b s.2 with|some k=>(let r:=k.all o z;some (r.1,r.2.a1))|none=>none)
  |_,_,_=>none
def eE (P:Program) (s:St):List ResultVar→Option (Prop × List A1)
 |[]=>some (True,[])
 |x :: r=>match iI P s x with
  |none=>none
  |some (C,v)=>match eE P s r with
   |none=>none
   |some (C',vs)=>some (C∧C',v :: vs)
def qO:List A1→AV
 |[v]=>v.up
 |l=>.tup l
def fq (P:Program) (rs:List ResultVar) (ns:Ren) (tot:Nat) (s:St):Option (Prop × Ret) :=
 match eE P s rs with
 |none=>none
 |some (C,l)=>match (qO l).ren ns,gY ns s.2 ns with
  |some v,some M=>some (C,⟨v,(List.range tot).map fun j=>ap j M⟩)
  |_,_=>none
theorem gf {f:Nat→Option Blk}:∀ (n i c:Nat) (k:Blk),ap c (iH i ((List.range' i n).map f))=some k→f c=some k
 |0,i,c,k,h=>by cases h
 |n+1,i,c,k,h=>by
  rw [List.range'_succ,List.map_cons] at h
  cases hf:f i with
  |none =>
   rw [hf] at h
   exact gf n (i+1) c k h
  |some x =>
   rw [hf] at h
   simp only [iH,ap] at h
   by_cases e:i=c
   ·subst e
    simp only [iF,cond_true,Option.some.injEq] at h
    rw [hf,h]
   ·simp only [gk e,cond_false] at h
    exact gf n (i+1) c k h
theorem MemR.less {σ:Sig} {M M':Mem} {w:World} (h:MemR E σ M w) (hM:∀ b k,ap b M'=some k→ap b M=some k):MemR E σ M' w :=
 {blk:=fun b k hb=>h.blk b k (hM b k hb)
  inj:=fun b c x y L L' hb hc=>h.inj b c x y L L' (hM b x hb) (hM c y hc)
  old:=h.old
  size:=h.size
  olds:=h.olds
  os:=h.os
  tape:=h.tape
  output:=h.output }
def ij (P:Program) (rs:List ResultVar) (m:Nat) (r:Ret):dH
 |.normal,_,s|.ret,_,s=>∃ ns C,(cm ns r.bs.length && ey ns m)=true∧fq P rs ns r.bs.length s=some (C,r)∧C
 |_,_,_=>False
theorem qw {σ:Sig} {v:AV} {v':A1} {V:Value} (h:nK v=some v') (hv:AVR E σ v V):A1R E σ v' V:=by
 cases v with
 |tup l=>cases h
 |sc x=>simp only [nK,Option.some.injEq] at h;subst h;exact hv
 |agg x=>simp only [nK,Option.some.injEq] at h;subst h;exact hv
 |arr v x=>simp only [nK,Option.some.injEq] at h;subst h;exact hv
 |ints k n x=>simp only [nK,Option.some.injEq] at h;subst h;exact hv
theorem Blk.a1_R {σ:Sig} {k:Blk} {V:Value} (hv:AVR E σ k.av V):A1R E σ k.a1 V:=by
 cases k <;> exact hv
def dq (a:Act):ResultVar→Sem Value
 |.tmp t=>pure (a.tmps.getD t undef)
 |.cell d t=>do loadVar t (← asAddr (a.tmps.getD d undef))
theorem lD {P:Program} {σ:Sig} {a:Act} {w:World} {n:Nat} (hs:StR E n σ s.1 s.2 a w) {x:ResultVar} {C:Prop} {v:A1} (h:iI P s x=some (C,v)) (hC:C) :
  ∃ V,(dq a x).run P w=.ok V w∧A1R E σ v V:=by
 cases x with
 |tmp t =>
  simp only [iI] at h
  split at h
  ·rename_i u hu
   split at h
   ·rename_i v' hv'
    simp only [Option.some.injEq,Prod.mk.injEq] at h
    obtain ⟨_,rfl⟩:=h
    obtain ⟨V,h1,h2⟩:=hs.val t u hu
    exact ⟨V,by simp [dq,Array.getD_eq_getD_getElem?,h1],qw hv' h2⟩
   ·cases h
  ·cases h
 |cell d t =>
  simp only [iI] at h
  split at h
  ·rename_i b o z hd hag hsz
   split at h
   ·rename_i k hk
    simp only [Option.some.injEq,Prod.mk.injEq] at h
    obtain ⟨rfl,rfl⟩:=h
    obtain ⟨V,h1,L,hL,rfl⟩:=hs.val d _ hd
    have hB:=hs.blk b k hk
    rw [hL] at hB
    obtain ⟨v,h3,h4⟩:=hB.read (Blk.at_get hB.1 hC)
    refine ⟨v,?_,h4⟩
    simp [dq,Array.getD_eq_getD_getElem?,h1,asAddr,fT hag h3]
   ·cases h
  ·rename_i b o z hd hag hsz
   split at h
   ·rename_i k hk
    simp only [Option.some.injEq,Prod.mk.injEq] at h
    obtain ⟨rfl,rfl⟩:=h
    obtain ⟨V,h1,L,hL,rfl⟩:=hs.val d _ hd
    have hB:=hs.blk b k hk
    rw [hL] at hB
    obtain ⟨hC1,hC2⟩:=Blk.all_sub hC
    obtain ⟨cs,h3,h4,h5⟩:=hB.list hC1
    rw [← hC2] at h5
    refine ⟨.agg cs.toArray,?_,Blk.a1_R h5.av⟩
    simp [dq,Array.getD_eq_getD_getElem?,h1,asAddr]
    exact fU hag hsz h3 h4
   ·cases h
  ·cases h
theorem gt {P:Program} {σ:Sig} {a:Act} {w:World} {n:Nat} (hs:StR E n σ s.1 s.2 a w):∀ {rs:List ResultVar} {l:List A1} {C:Prop},eE P s rs=some (C,l)→C →
  ∃ Vs:List Value,(rs.mapM (dq a)).run P w=.ok Vs w∧cW (A1R E σ) l Vs
 |[],l,C,h,hC=>by
  simp only [eE,Option.some.injEq,Prod.mk.injEq] at h
  obtain ⟨_,rfl⟩:=h
  exact ⟨[],by simp,trivial⟩
 |x :: r,l,C,h,hC=>by
  simp only [eE] at h
  split at h
  ·cases h
  ·rename_i C1 v1 h1
   split at h
   ·cases h
   ·rename_i C2 vs h2
    simp only [Option.some.injEq,Prod.mk.injEq] at h
    obtain ⟨rfl,rfl⟩:=h
    obtain ⟨V,q1,q2⟩:=lD hs h1 hC.1
    obtain ⟨Vs,q3,q4⟩:=gt hs h2 hC.2
    exact ⟨V :: Vs,by simp [q1,q3],q2,q4⟩
theorem A1.up_R {σ:Sig} {v:A1} {V:Value} (h:A1R E σ v V):AVR E σ v.up V:=by
 cases v <;> exact h
theorem pj {P:Program} {fn:Func} {σ:Sig} {a:Act} {w:World} {n:Nat} (hs:StR E n σ s.1 s.2 a w) {l:List A1} {C:Prop} (h:eE P s fn.results.toList=some (C,l)) (hC:C) :
  ∃ V,(results fn a.tmps).run P w=.ok V w∧AVR E σ (qO l) V:=by
 obtain ⟨Vs,h1,h2⟩:=gt hs h hC
 have hm:(fn.results.mapM (dq a)).run P w=.ok Vs.toArray w:=by
  rw [Array.mapM_eq_mapM_toList]
  simp [h1]
 have hr:results fn a.tmps=(do let vs ← fn.results.mapM (dq a);pure (if h:vs.size=1 then vs[0] else .tuple vs)):=rfl
 rw [hr]
 simp only [Sem.run_bind,hm,Result.andThen_ok,Sem.run_pure]
 refine ⟨_,rfl,?_⟩
 match l,Vs,h2 with
 |[v],[V],h2=>exact A1.up_R h2.1
 |[],[],_=>exact ⟨_,rfl,trivial⟩
 |v :: v' :: r,V :: V' :: R,h2=>exact ⟨_,by simp,h2⟩
def cl:List AV→Prop
 |[]=>True
 |.ints _ n xs :: r=>xs.length=n∧cl r
 |.sc _ :: r=>cl r
 |.agg _ :: r=>cl r
 |.arr _ _ :: r=>cl r
 |.tup _ :: r=>cl r
theorem fZ {E:Env} {σ:Sig}:∀ {args:List AV} {m:List Value},cW (AVR E σ) args m→cl args
 |[],[],_=>trivial
 |.ints _ _ _ :: r,V :: m,⟨h1,h2⟩=>⟨h1.1,fZ h2⟩
 |.sc _ :: r,V :: m,⟨h1,h2⟩=>fZ (args:=r) h2
 |.agg _ :: r,V :: m,⟨h1,h2⟩=>fZ (args:=r) h2
 |.arr _ _ :: r,V :: m,⟨h1,h2⟩=>fZ (args:=r) h2
 |.tup _ :: r,V :: m,⟨h1,h2⟩=>fZ (args:=r) h2
theorem ld.of_walk {B:Bs} {f:FuncId} {fn:Func} {c:Code} {m:Nat} {spec:List AV→List Blk→Option (Prop × Ret)} (hok:B.Ok) (hf:B.P.funcs[f]?=some fn) (hb:fn.body=some c) (hn:(fn.name != "runtime.NumGoroutine")=true) (hnt:fn.ntmps=B.n) (hm:m≤16)
  (h:∀ (E:Env) (args:List AV) (ks:List Blk) (C:Prop) (r:Ret),spec args ks=some (C,r)→C→cl args→args.length≤B.n∧Tri B E c 16 ((List.range args.length).zip args,jL 0 ks) (ij B.P fn.results.toList m r)):ld B.P B.G f m spec:=by
 intro E w args ks Vs C r hP hG hks hkp hM hargs hsp hC
 obtain ⟨hlen,hw⟩:=h E args ks C r hsp hC (fZ hargs)
 have hl:args.length=Vs.size:=by simpa using hargs.length
 refine .inl ⟨by simp [fv,hf,hb,hn],?_⟩
 refine calls_of_wp hf hb ?_
 have good:iE E B.n 16 ((List.range args.length).zip args,jL 0 ks) { tmps:=Vs++Array.replicate (fn.ntmps-Vs.size) undef,defers:=[] } w:=by
  refine ⟨E,.refl E,E.kp,?_,fun j hj=>hkp j (by omega),fun _ _=>.inl rfl,Nat.le_refl _⟩
  refine { toMemR:=hM,val:=fun t v ht=>?_,defers:=rfl,tmps:=by simp;omega }
  have hmem:=di ht
  obtain ⟨j,hj⟩:=List.mem_iff_getElem?.1 hmem
  rw [List.getElem?_zip_eq_some] at hj
  obtain ⟨hj1,hj2⟩:=hj
  have hjt:j=t:=by
   rw [List.getElem?_range] at hj1
   ·simpa using hj1
   ·rw [List.getElem?_eq_some_iff] at hj2
    obtain ⟨q,_⟩:=hj2
    exact q
  subst hjt
  obtain ⟨V,q1,q2⟩:=hargs.get j v hj2
  refine ⟨V,?_,q2⟩
  have hlt:j<Vs.size:=by
   rw [Array.getElem?_toList] at q1
   rw [Array.getElem?_eq_some_iff] at q1
   exact q1.1
  rw [Array.getElem?_append_left hlt]
  simpa using q1
 refine wp_mono (hw ⟨hP,hG,hok⟩ _ w good) ?_
 rintro e a' w' ⟨U',s',⟨E',hgr,σ,g1,g2,g3,g4⟩,hq⟩
 have fin:(∃ ns C,(cm ns r.bs.length && ey ns m)=true∧fq B.P fn.results.toList ns r.bs.length s'=some (C,r)∧C) →
   a'.defers=[]∧∃ v,(results fn a'.tmps).run B.P w'=.ok v w'∧∃ V,(Ending.returned v)=.returned V∧∃ E' σ',Grow E E'∧(∀ j,j<m→σ' j=E.kp j∨σ' j=.unset)∧AVR E' σ' r.v V∧MemR E' σ' (iH 0 r.bs) w':=by
  rintro ⟨ns,C,n1,n3,n4⟩
  simp only [Bool.and_eq_true] at n1
  obtain ⟨n1,n2⟩:=n1
  unfold fq at n3
  split at n3
  ·cases n3
  ·rename_i C1 l hl
   split at n3
   ·rename_i v M m1 m2
    simp only [Option.some.injEq,Prod.mk.injEq] at n3
    obtain ⟨rfl,hr⟩:=n3
    obtain ⟨V,q1,q2⟩:=pj g1 hl n4
    have hv:r.v=v:=by rw [← hr]
    have hbs:r.bs=(List.range r.bs.length).map fun j=>ap j M:=by
     conv=>lhs;rw [← hr]
    refine ⟨g1.defers,V,q1,V,rfl,E',bx σ ns,hgr,fun j hj=>ic hm n2 g3 hj,by rw [hv];exact AV.ren_R n1 m1 q2,?_⟩
    have:=StR.ren (kf:=[]) (s:=s') (s':=([],M)) n1 (by simp [jP,je,m2]) g1
    have hM':=this.toMemR
    refine MemR.less (M:=M) hM' fun b k hb=>?_
    rw [hbs,List.range_eq_range'] at hb
    exact gf _ 0 b k hb
   ·cases n3
 cases e with
 |normal=>exact fin hq
 |ret=>exact fin hq
 |exit id=>exact hq.elim
 |goto l=>exact hq.elim
 |panic ch=>exact hq.elim
 |outgrown=>exact hq.elim
end Go.Vm
end
