/- A part of a proof (pack3): the small machine that walks the program, the walks of its functions, and what they compute in plain. -/
import Derived.Test.YtfkmfdjdppjijaaQwc
set_option maxRecDepth 4000
set_option linter.unusedVariables false
set_option linter.unusedSimpArgs false
noncomputable section
namespace Go.Vm
open Go
def oD (s:Bool) (d:List Int):Ch:=({chO s with wait:=d}:Ch)
theorem nT (s:Bool) {d:List Int} (hl:d.length≤3000):cn (oD s d) :=
 ⟨⟨(by decide:(0:Int)≤4096),(by decide:(4096:Int)≤2147483647)⟩,⟨(by decide:(0:Int)≤512),(by decide:(512:Int)≤512)⟩,fun _=>(by decide:(0:Int)<512),by show 0+d.length≤_;omega⟩
theorem qp (s:Bool) {d:List Int} (hl:d.length≤3000):ct (oD s d)=d.length:=by
 show min d.length ((4096:Int)).toNat=_
 omega
theorem qa (s:Bool) {d:List Int} (hl:d.length≤3000):d.length≤cb (oD s d)*512:=by
 have h:=kn (nT s hl) rfl (by show 0<((512:Int)).toNat;decide)
 rw [qp s hl] at h
 exact h
def iC (s:Bool) (d:List Int):Ch:=({chO s with window:=4096-(d.length:Int),c0:=true,out:=cB 0 512 d.length d (cb (oD s d))++[96 :: be4 0]++[97 :: be4 0]}:Ch)
def kl (t:Bool) (d:List Int):Ch:=({chO t with state:=3,room:=4096-(d.length:Int),got:=d,e1:=true,c0:=true,c1:=true,out:=[96 :: be4 0]++[97 :: be4 0]}:Ch)
def lu (s:Bool) (d:List Int):Ch:=({chO s with state:=3,window:=4096-(d.length:Int),e1:=true,c0:=true,c1:=true}:Ch)
theorem pr (s t:Bool) {d:List Int} (hd:Dg d) (hl:d.length≤3000):aJ (iC s d) (chO t)=({iC s d with out:=[]}:Ch)∧aK (iC s d) (chO t)=kl t d:=by
 obtain ⟨h1,h2⟩:=fE (iC s d) (chO t)
 refine ⟨h1,h2.trans ?_⟩
 show (cB 0 512 d.length d (cb (oD s d))++[96 :: be4 0]++[97 :: be4 0]).foldl _ _=_
 rw [List.foldl_append,List.foldl_append,lz hd (by omega) (by decide),Nat.min_eq_right (qa s hl),List.foldl_cons,List.foldl_nil,List.foldl_cons,List.foldl_nil,kv (p:=lk t d d.length) rfl rfl rfl,iY (p:=({lk t d d.length with e1:=true}:Ch)) rfl rfl]
 show sel true _ _=_
 rw [aR,oT (p:=({lk t d d.length with e1:=true,c1:=true}:Ch)) (n:=0) rfl (by decide) rfl]
 have hg:d.take d.length=d:=List.take_length
 refine pE rfl rfl rfl rfl rfl rfl rfl hg rfl rfl rfl rfl rfl rfl
def jB (t:Bool) (d:List Int):Ch:=({kl t d with out:=[]}:Ch)
theorem px (s t:Bool) (d:List Int):aJ (kl t d) ({iC s d with out:=[]}:Ch)=jB t d∧aK (kl t d) ({iC s d with out:=[]}:Ch)=lu s d:=by
 obtain ⟨h1,h2⟩:=fE (kl t d) ({iC s d with out:=[]}:Ch)
 refine ⟨h1,h2.trans ?_⟩
 show ([96 :: be4 0]++[97 :: be4 0]).foldl _ _=_
 rw [List.foldl_append,List.foldl_cons,List.foldl_nil,List.foldl_cons,List.foldl_nil,kv (p:=({iC s d with out:=[]}:Ch)) rfl rfl rfl,iY (p:=({iC s d with out:=[],e1:=true}:Ch)) rfl rfl]
 exact aM _ _
def gG (z:Ch × Ch):Ch × Ch:=(aK (aK z.1 z.2) (aJ z.1 z.2),aJ (aK z.1 z.2) (aJ z.1 z.2))
theorem pp (s t:Bool) {d:List Int} (hd:Dg d) (hl:d.length≤3000):gG (iC s d,chO t)=(lu s d,jB t d):=by
 obtain ⟨a1,a2⟩:=pr s t hd hl
 obtain ⟨b1,b2⟩:=px s t d
 unfold gG
 rw [a1,a2,b1,b2]
theorem pZ (s t:Bool) (d:List Int):gG (lu s d,jB t d)=(lu s d,jB t d):=by
 obtain ⟨a1,a2⟩:=fj (a:=lu s d) rfl (jB t d)
 obtain ⟨b1,b2⟩:=fj (a:=jB t d) rfl (lu s d)
 unfold gG
 rw [a1,a2,b1,b2]
theorem rounds {f:Nat→Ch × Ch→Ch × Ch} (hf:∀ k z,f k z=gG z) (s t:Bool) {d:List Int} (hd:Dg d) (hl:d.length≤3000):∀ k,itr f k (iC s d,chO t)=bif Nat.beq k 0 then (iC s d,chO t) else (lu s d,jB t d):=by
 intro k
 induction k with
 |zero=>rw [dN];rfl
 |succ k ih =>
  rw [cy,ih,hf]
  cases k with
  |zero=>exact pp s t hd hl
  |succ k=>exact pZ s t d
end Go.Vm
namespace Go.Vm
open Go
def chE (s:Bool) (w g:List Int) (a r:Nat):Ch:=({chO s with window:=(a:Int),room:=(r:Int),wait:=w,got:=g}:Ch)
theorem iL {s:Bool} {w g:List Int} {a r:Nat} (hw:w.length≤100000) (ha:a≤100000):cn (chE s w g a r) :=
 ⟨⟨by show (0:Int)≤(a:Int);omega,by show (a:Int)≤_;omega⟩,⟨by show (0:Int)≤512;decide,by show (512:Int)≤512;decide⟩,fun _=>by show (0:Int)<512;decide,by show 0+w.length≤_;omega⟩
theorem oz {s:Bool} {w g:List Int} {a r:Nat}:ct (chE s w g a r)=min w.length a:=by
 show min w.length ((a:Int)).toNat=_
 rw [Int.toNat_natCast]
theorem rF {s:Bool} {w g:List Int} {a r:Nat} (hw:w.length≤100000) (ha:a≤100000):min w.length a≤cb (chE s w g a r)*512:=by
 have h:=kn (iL (s:=s) (g:=g) (r:=r) hw ha) rfl (by show 0<((512:Int)).toNat;decide)
 rw [oz] at h
 exact h
def qr (s:Bool) (w g:List Int) (a r:Nat) (o:List (List Int)):Ch:=({chE s w g a r with out:=o}:Ch)
theorem kT {s:Bool} {w g:List Int} {a r:Nat} (hd:Dg w) (hw:w.length≤100000) (ha:a≤100000) :
  cF (chE s w g a r)=qr s (w.drop (min w.length a)) g (a-min w.length a) r (cB 0 512 (min w.length a) w (cb (chE s w g a r))):=by
 have hf:=iL (s:=s) (g:=g) (r:=r) hw ha
 obtain ⟨⟨b1,b2,b3,b4,b5⟩,s1,s2,s3,s4,s5,s6,s7,s8,s9⟩:=mL hf
 have hN:=rF (s:=s) (g:=g) (r:=r) hw ha
 have hm:min (cb (chE s w g a r)*(chE s w g a r).most.toNat) (ct (chE s w g a r))=min w.length a:=by
  rw [oz]
  exact Nat.min_eq_right hN
 rw [hm] at b1 b2
 have ho:=oS (n:=0) hf rfl (by decide) hd (cb (chE s w g a r)) (Nat.le_refl _)
 refine pE s1 s2 s3 (b2.trans ?_) b3 s4 b1 s5 s6 s7 s8 b4 s9 (ho.trans ?_)
 ·show (a:Int)-((min w.length a:Nat):Int)=((a-min w.length a:Nat):Int)
  omega
 ·show []++_=cB 0 512 (min w.length a) w _
  rw [List.nil_append]
  unfold cB
  refine List.map_congr_left fun j _=>?_
  unfold gP
  rw [oz]
  rfl
theorem rO {s:Bool} {w g d:List Int} {a r:Nat}:dt (chE s w g a r) d=0∧bh (chE s w g a r) d=cF (chE s (w++d) g a r):=by
 refine ⟨rfl,?_⟩
 show sel false _ (sel false _ (sel false _ (sel false _ (cF (chE s (w++d) g a r)))))=_
 rw [aM,aM,aM,aM]
theorem pe {t:Bool} {w g x:List Int} {b r:Nat} (hd:Dg x) (hl:x.length≤512) (hr:x.length≤r) (hr':r≤100000):bF (chE t w g b r) (msg 0 x)=chE t w (g++x) b (r-x.length):=by
 refine (jh (p:=chE t w g b r) rfl rfl rfl hd hl (by show (x.length:Int)≤(r:Int);omega)).trans ?_
 refine pE rfl rfl rfl rfl rfl ?_ rfl rfl rfl rfl rfl rfl rfl rfl
 show fS .i64 (r:Int) ((x.length:Nat):Int)=((r-x.length:Nat):Int)
 rw [jH (by omega) (by omega)]
 omega
theorem pN {r x M:Nat}:r-min x M-min 512 (M-x)=r-min (x+512) M:=by omega
theorem nn {t:Bool} {w g d:List Int} {b r M:Nat} (hd:Dg d) (hM:M≤d.length) (hr:M≤r) (hr':r≤100000):∀ N,(cB 0 512 M d N).foldl (fun z q=>bF z q) (chE t w g b r)=chE t w (g++d.take (min (N*512) M)) b (r-min (N*512) M):=by
 intro N
 induction N with
 |zero =>
  rw [Nat.zero_mul,Nat.zero_min,List.take_zero,List.append_nil]
  rfl
 |succ N ih =>
  have e:cB 0 512 M d (N+1)=cB 0 512 M d N++[msg 0 ((d.drop (N*512)).take (min 512 (M-N*512)))]:=by
   unfold cB
   rw [List.range_succ,List.map_append]
   rfl
  rw [e,List.foldl_append,ih]
  rw [List.foldl_cons,List.foldl_nil]
  have hx:((d.drop (N*512)).take (min 512 (M-N*512))).length=min 512 (M-N*512):=by
   rw [List.length_take,List.length_drop]
   omega
  rw [pe (jr _ (fa _ hd)) (by rw [hx];omega) (by rw [hx];omega) (by omega),hx]
  have hg:d.take (min (N*512) M)++(d.drop (N*512)).take (min 512 (M-N*512))=d.take (min ((N+1)*512) M):=by
   rcases Nat.le_total (N*512) M with h|h
   ·rw [Nat.min_eq_left h,← List.take_add,Nat.succ_mul]
    congr 1
    omega
   ·rw [Nat.min_eq_right h,show min 512 (M-N*512)=0 by omega,List.take_zero,List.append_nil,Nat.min_eq_right (Nat.le_trans h (Nat.mul_le_mul_right 512 (Nat.le_succ N)))]
  rw [List.append_assoc,hg,(pN:r-min (N*512) M-min 512 (M-N*512)=r-min (N*512+512) M),Nat.succ_mul]
theorem kr {s t:Bool} {w g w' g':List Int} {a r b r':Nat} (hd:Dg w) (hw:w.length≤100000) (ha:a≤100000) (hr:min w.length a≤r') (hr':r'≤100000) :
  aJ (cF (chE s w g a r)) (chE t w' g' b r')=chE s (w.drop (min w.length a)) g (a-min w.length a) r∧aK (cF (chE s w g a r)) (chE t w' g' b r')=chE t w' (g'++w.take (min w.length a)) b (r'-min w.length a):=by
 obtain ⟨h1,h2⟩:=fE (cF (chE s w g a r)) (chE t w' g' b r')
 rw [kT hd hw ha] at h1 h2 ⊢
 refine ⟨h1,h2.trans ?_⟩
 show (cB 0 512 (min w.length a) w (cb (chE s w g a r))).foldl _ _=_
 rw [nn hd (Nat.min_le_left _ _) hr hr',Nat.min_eq_right (rF hw ha)]
theorem kt {s t:Bool} {w g w' g':List Int} {a r b r':Nat} (hw:w.length≤100000) (ha:a≤100000) (hd:Dg w):(cF (chE s w g a r)).out.length≤100000:=by
 rw [kT hd hw ha]
 show (cB 0 512 (min w.length a) w (cb (chE s w g a r))).length≤_
 unfold cB
 rw [List.length_map,List.length_range]
 have h3:cb (chE s w g a r)≤min w.length a:=by
  have h4:(ct (chE s w g a r)+512-1)/512<ct (chE s w g a r)+1:=by omega
  unfold cb
  show sel false _ _≤_
  rw [aM]
  show (ct (chE s w g a r)+((512:Int)).toNat-1)/((512:Int)).toNat≤_
  rw [show ((512:Int)).toNat=512 from rfl,oz] at *
  omega
 omega
def adj (n:Nat):List Int:=93 :: (be4 0++be4 n)
theorem pX {s:Bool} {w g:List Int} {a r:Nat} (hg:0<g.length) (hg':g.length≤100000) (hr:r≤100000):aW (chE s w g a r)=qr s w [] a (r+g.length) [adj g.length]:=by
 have c1:(decide (((((chE s w g a r).got.length:Nat):Int):Int)>0))=true:=decide_eq_true (by show ((g.length:Nat):Int)>0;omega)
 have c2:(((chE s w g a r).state:Int)==2)=true:=rfl
 have c3:(!(chE s w g a r).c0)=true:=rfl
 unfold aW
 rw [c1,c2,c3,aR,aR,aR]
 unfold bW
 have er:cO .i64 (chE s w g a r).room (((chE s w g a r).got.length:Nat):Int)=((r+g.length:Nat):Int):=by
  show cO .i64 (r:Int) ((g.length:Nat):Int)=_
  rw [gD (by omega) (by omega)]
  omega
 have ew:IntKind.wrap .u32 ((((chE s w g a r).got.length:Nat):Int))=((g.length:Nat):Int):=by
  show IntKind.wrap .u32 ((g.length:Nat):Int)=_
  rw [eK]
  omega
 rw [er,ew,(mP (p:=({chE s w g a r with room:=((r+g.length:Nat):Int),got:=([]:List Int)}:Ch)) (n:=0) rfl (by decide) 93).1,pH (k:=1+4) rfl g.length (by omega)]
 rfl
theorem pq {s:Bool} {w:List Int} {a r:Nat}:aW (chE s w [] a r)=chE s w [] a r:=by
 have c1:(decide (((((chE s w [] a r).got.length:Nat):Int):Int)>0))=false:=decide_eq_false (by show ¬ ((0:Nat):Int)>0;decide)
 unfold aW
 rw [c1,aM]
 rfl
theorem of {t:Bool} {w g:List Int} {b r n:Nat} (hn:b+n≤100000):bF (chE t w g b r) (adj n)=cF (chE t w g (b+n) r):=by
 have e:=(iK (p:=chE t w g b r) rfl rfl (c:=93) rfl rfl rfl (be4 n)).2
 refine Eq.trans e ?_
 have u:=ii n (by omega) []
 rw [List.append_nil] at u
 have k4:((93:Int)==93)=true:=rfl
 have hw:IntKind.wrap .i64 ((n:Nat):Int)=(n:Int):=cV (by omega) (by omega)
 have ha:cO .i64 (chE t w g b r).window (n:Int)=((b+n:Nat):Int):=by
  show cO .i64 (b:Int) (n:Int)=_
  rw [gD (by omega) (by omega)]
  omega
 have z:(decide ((((b+n:Nat):Int):Int)>2147483647))=false:=decide_eq_false (by omega)
 unfold bH ar
 simp only [k4,aR,u.1,u.2.1,u.2.2,kU,Bool.not_true,aM,hw,ha,z]
 rfl
end Go.Vm
namespace Go.Vm
open Go
theorem fK (x y:List Int):(x++y).length=x.length+y.length:=List.length_append
theorem de (x y:List Int):bytesOf (x++y)=bytesOf x++bytesOf y:=by
 apply ByteArray.ext
 rw [ByteArray.data_append]
 unfold bytesOf
 simp
theorem mj (x y:List Int):(bytesOf (x++y)).extract 0 (bytesOf x).size=bytesOf x:=by
 apply ByteArray.ext
 rw [ByteArray.data_extract,aC]
 unfold bytesOf
 simp [List.extract_eq_take_drop]
theorem nf (l:List Int) (n:Nat):l.take (min l.length n)=l.take n:=by
 rcases Nat.le_total l.length n with h|h
 ·rw [Nat.min_eq_left h,List.take_length,List.take_of_length_le h]
 ·rw [Nat.min_eq_right h]
theorem nd (l:List Int) (n:Nat):l.drop (min l.length n)=l.drop n:=by
 rcases Nat.le_total l.length n with h|h
 ·rw [Nat.min_eq_left h,List.drop_length,List.drop_eq_nil_of_le h]
 ·rw [Nat.min_eq_right h]
theorem pA {s:Bool} {g:List Int} {a r:Nat}:cF (chE s [] g a r)=chE s [] g a r:=by
 have hn:cb (chE s [] g a r)=0:=by
  unfold cb
  show sel false _ _=_
  rw [aM,show ct (chE s [] g a r)=min ([]:List Int).length a from oz]
  show (min 0 a+512-1)/512=0
  omega
 show itr dj (cb (chE s [] g a r)) (chE s [] g a r)=_
 rw [hn,dN]
theorem jZ {s:Bool} {w g:List Int} {a r:Nat} (hw:w.length≤100000) (hg:g.length≤100000) (ha:a≤100000):bl 1000000 (chE s w g a r) :=
 ⟨⟨by show (0:Int)≤(a:Int);omega,by show (a:Int)≤_;omega⟩,⟨by show (0:Int)≤512;decide,by show (512:Int)≤512;decide⟩,fun _=>by show (0:Int)<512;decide,⟨by show 0+w.length≤_;omega,by show g.length≤_;omega⟩,fun _=>by show (0:Int)<512;decide⟩
theorem lI {s t:Bool} {wX qX wY qY:List Int} (h1:qX.length≤4096) (h2:qY.length≤4096) (hw:wY=[]∨qX.length=4096) (hd:Dg wY) (hl:wY.length≤50000) :
  aJ (aW (chE s wX qX (4096-qY.length) (4096-qX.length))) (chE t wY qY (4096-qX.length) (4096-qY.length))=chE s wX [] (4096-qY.length) 4096 ∧
  aK (aW (chE s wX qX (4096-qY.length) (4096-qX.length))) (chE t wY qY (4096-qX.length) (4096-qY.length))=cF (chE t wY qY 4096 (4096-qY.length)) ∧
  (aW (chE s wX qX (4096-qY.length) (4096-qX.length))).out.length≤100000:=by
 rcases Nat.eq_zero_or_pos qX.length with h0|h0
 ·have e:qX=[]:=List.eq_nil_of_length_eq_zero h0
  subst e
  have ew:wY=[]:=by
   rcases hw with h|h
   ·exact h
   ·exact absurd h (by decide)
  subst ew
  rw [pq]
  obtain ⟨c1,c2⟩:=fj (a:=chE s wX [] (4096-qY.length) (4096-([]:List Int).length)) rfl (chE t [] qY (4096-([]:List Int).length) (4096-qY.length))
  rw [c1,c2,pA]
  exact ⟨rfl,rfl,by show 0≤_;decide⟩
 ·have er:=pX (s:=s) (w:=wX) (g:=qX) (a:=4096-qY.length) (r:=4096-qX.length) h0 (by omega) (by omega)
  rw [er]
  obtain ⟨c1,c2⟩:=fE (qr s wX [] (4096-qY.length) (4096-qX.length+qX.length) [adj qX.length]) (chE t wY qY (4096-qX.length) (4096-qY.length))
  rw [c1,c2]
  refine ⟨?_,?_,by show 1≤_;decide⟩
  ·rw [show 4096-qX.length+qX.length=4096 by omega]
   rfl
  ·show bF (chE t wY qY (4096-qX.length) (4096-qY.length)) (adj qX.length)=_
   rw [of (by omega),show 4096-qX.length+qX.length=4096 by omega]
theorem kc {s t:Bool} {wX wY qY:List Int} {a:Nat} (h2:qY.length≤4096) (hd:Dg wY) (hl:wY.length≤50000) :
  aJ (cF (chE t wY qY 4096 (4096-qY.length))) (chE s wX [] a 4096)=chE t (wY.drop 4096) qY (4096-(wY.take 4096).length) (4096-qY.length) ∧
  aK (cF (chE t wY qY 4096 (4096-qY.length))) (chE s wX [] a 4096)=chE s wX (wY.take 4096) a (4096-(wY.take 4096).length) ∧
  (cF (chE t wY qY 4096 (4096-qY.length))).out.length≤100000:=by
 obtain ⟨c1,c2⟩:=kr (s:=t) (t:=s) (w:=wY) (g:=qY) (w':=wX) (g':=[]) (a:=4096) (r:=4096-qY.length) (b:=a) (r':=4096) hd (by omega) (by decide) (by omega) (by decide)
 have hl2:(wY.take 4096).length=min wY.length 4096:=by rw [List.length_take];omega
 refine ⟨?_,?_,kt (s:=t) (t:=s) (w':=[]) (g':=[]) (b:=0) (r':=0) (by omega) (by decide) hd⟩
 ·rw [c1,nd,hl2]
 ·rw [c2,nf,List.nil_append,hl2]
theorem lC {s t:Bool} {wX qX wY qY d:List Int} (h1:qX.length≤4096) (h2:qY.length≤4096) (hd:Dg (wX++d)) (hl:(wX++d).length≤50000) :
  ∃ w q,bh (chE s wX qX (4096-qY.length) (4096-qX.length)) d=cF (chE s (wX++d) qX (4096-qY.length) (4096-qX.length)) ∧
  aJ (cF (chE s (wX++d) qX (4096-qY.length) (4096-qX.length))) (chE t wY qY (4096-qX.length) (4096-qY.length))=chE s w qX (4096-q.length) (4096-qX.length) ∧
  aK (cF (chE s (wX++d) qX (4096-qY.length) (4096-qX.length))) (chE t wY qY (4096-qX.length) (4096-qY.length))=chE t wY q (4096-qX.length) (4096-q.length) ∧
  q.length≤4096∧(w=[]∨q.length=4096)∧q++w=qY++(wX++d)∧Dg w ∧
  (cF (chE s (wX++d) qX (4096-qY.length) (4096-qX.length))).wait=w∧(cF (chE s (wX++d) qX (4096-qY.length) (4096-qX.length))).out.length≤100000:=by
 obtain ⟨c1,c2⟩:=kr (s:=s) (t:=t) (w:=wX++d) (g:=qX) (w':=wY) (g':=qY) (a:=4096-qY.length) (r:=4096-qX.length) (b:=4096-qX.length) (r':=4096-qY.length) hd (by omega) (by omega) (by omega) (by omega)
 have hf:=kT (s:=s) (w:=wX++d) (g:=qX) (a:=4096-qY.length) (r:=4096-qX.length) hd (by omega) (by omega)
 have ht:((wX++d).take (min (wX++d).length (4096-qY.length))).length=min (wX++d).length (4096-qY.length):=by rw [List.length_take];omega
 refine ⟨(wX++d).drop (min (wX++d).length (4096-qY.length)),qY++(wX++d).take (min (wX++d).length (4096-qY.length)),rO.2,?_,?_,?_,?_,?_,fa _ hd,by rw [hf];rfl,kt (s:=s) (t:=t) (w':=[]) (g':=[]) (b:=0) (r':=0) (by omega) (by omega) hd⟩
 ·rw [c1,fK qY,ht]
  congr 1
  omega
 ·rw [c2,fK qY,ht]
  congr 1
  omega
 ·rw [fK qY,ht];omega
 ·rcases Nat.le_total (wX++d).length (4096-qY.length) with h|h
  ·left
   rw [Nat.min_eq_left h,List.drop_length]
  ·right
   rw [fK qY,ht]
   omega
 ·rw [List.append_assoc,List.take_append_drop]
end Go.Vm
namespace Go.Vm
open Go
def chI (n a b:Nat) (A B:Ch) (g0 g1 s0 s1:ByteArray):Prop :=
 ∃ wA qA wB qB G0 G1:List Int,(A=chE false wA qA (4096-qB.length) (4096-qA.length)∧B=chE true wB qB (4096-qA.length) (4096-qB.length))∧(qA.length≤4096∧qB.length≤4096)∧((wA=[]∨qB.length=4096)∧(wB=[]∨qA.length=4096))∧(Dg wA∧Dg wB) ∧
  (g0=bytesOf G0∧g1=bytesOf G1∧s1=bytesOf (G0++(qA++wB))∧s0=bytesOf (G1++(qB++wA)))∧((G0++(qA++wB)).length≤n∧(G1++(qB++wA)).length≤n)∧(wA.length≤a∧wB.length≤b)
theorem gZ {n a b:Nat} {A B:Ch} {g0 g1 s0 s1:ByteArray} (h:chI n a b A B g0 g1 s0 s1):(A.out.length=0∧B.out.length=0)∧(A.got.length≤4096∧B.got.length≤4096)∧(g0.size≤n∧g1.size≤n∧s0.size≤n∧s1.size≤n)∧(A.wait.length≤n∧B.wait.length≤n):=by
 obtain ⟨wA,qA,wB,qB,G0,G1,⟨rfl,rfl⟩,⟨h1,h2⟩,_,_,⟨rfl,rfl,rfl,rfl⟩,⟨h3,h4⟩,_⟩:=h
 simp only [fK] at h3 h4
 simp only [aC,fK]
 exact ⟨⟨rfl,rfl⟩,⟨h1,h2⟩,⟨by omega,by omega,by omega,by omega⟩,by show wA.length≤n;omega,by show wB.length≤n;omega⟩
theorem fX {n a b:Nat} {A B:Ch} {g0 g1 s0 s1:ByteArray} (h:chI n a b A B g0 g1 s0 s1) :
  (decide ((((g0.size:Nat):Int):Int)>((s1.size:Nat):Int)))=false∧(!(cD g0 (s1.extract 0 g0.size)))=false∧(decide ((((g1.size:Nat):Int):Int)>((s0.size:Nat):Int)))=false∧(!(cD g1 (s0.extract 0 g1.size)))=false:=by
 obtain ⟨wA,qA,wB,qB,G0,G1,_,_,_,_,⟨rfl,rfl,rfl,rfl⟩,_,_⟩:=h
 rw [mj,mj,ep,ep]
 refine ⟨decide_eq_false ?_,rfl,decide_eq_false ?_,rfl⟩ <;> (simp only [aC,fK];omega)
theorem rL:chI 0 0 0 (chO false) (chO true) (⟨#[]⟩:ByteArray) (⟨#[]⟩:ByteArray) (⟨#[]⟩:ByteArray) (⟨#[]⟩:ByteArray) :=
 ⟨[],[],[],[],[],[],⟨rfl,rfl⟩,⟨by decide,by decide⟩,⟨.inl rfl,.inl rfl⟩,⟨fun x hx=>by (cases hx),fun x hx=>by (cases hx)⟩,⟨rfl,rfl,rfl,rfl⟩,⟨by decide,by decide⟩,by decide,by decide⟩
theorem kL {n m a b c d:Nat} {A B:Ch} {g0 g1 s0 s1:ByteArray} (h:chI n a b A B g0 g1 s0 s1) (h1:n≤m) (h2:a≤c) (h3:b≤d):chI m c d A B g0 g1 s0 s1:=by
 obtain ⟨wA,qA,wB,qB,G0,G1,e1,e2,e3,e4,e5,⟨e6,e7⟩,e8,e9⟩:=h
 exact ⟨wA,qA,wB,qB,G0,G1,e1,e2,e3,e4,e5,⟨by omega,by omega⟩,by omega,by omega⟩
theorem iM (A:Ch):((ag A).drop 0).take A.got.length=A.got:=by
 show (A.got.drop 0).take A.got.length=A.got
 rw [List.drop_zero,List.take_length]
theorem eJ {n a b:Nat} {A B:Ch} {g0 g1 s0 s1:ByteArray} (h:chI n a b A B g0 g1 s0 s1) (hn:n≤50000) :
  chI n a (b-4096) (aK (aK (aW A) B) (aJ (aW A) B)) (aJ (aK (aW A) B) (aJ (aW A) B)) (g0++bytesOf (((ag A).drop 0).take A.got.length)) g1 s0 s1 ∧
  (bl 1000000 B∧(aW A).out.length≤100000)∧(bl 1000000 (aJ (aW A) B)∧(aK (aW A) B).out.length≤100000):=by
 rw [iM]
 obtain ⟨wA,qA,wB,qB,G0,G1,⟨rfl,rfl⟩,⟨h1,h2⟩,⟨h3,h4⟩,⟨d1,d2⟩,⟨rfl,rfl,rfl,rfl⟩,⟨n1,n2⟩,⟨b1,b2⟩⟩:=h
 have m1:=n1
 have m2:=n2
 simp only [fK] at m1 m2
 obtain ⟨o1,o2,o3⟩:=lI (s:=false) (t:=true) (wX:=wA) (qX:=qA) (wY:=wB) (qY:=qB) h1 h2 h4 d2 (by omega)
 obtain ⟨t1,t2,t3⟩:=kc (s:=false) (t:=true) (wX:=wA) (wY:=wB) (qY:=qB) (a:=4096-qB.length) h2 d2 (by omega)
 rw [o1,o2,t1,t2]
 refine ⟨⟨wA,wB.take 4096,wB.drop 4096,qB,G0++qA,G1,⟨rfl,rfl⟩,⟨by rw [List.length_take];omega,h2⟩,⟨h3,?_⟩,⟨d1,fa _ d2⟩,⟨by rw [de];rfl,rfl,?_,rfl⟩,⟨?_,n2⟩,b1,by rw [List.length_drop];omega⟩,⟨jZ (by omega) (by omega) (by omega),o3⟩,jZ (by omega) (by show 0≤_;decide) (by omega),t3⟩
 ·rcases Nat.le_total wB.length 4096 with q|q
  ·exact .inl (List.drop_eq_nil_of_le q)
  ·exact .inr (by rw [List.length_take];omega)
 ·rw [List.take_append_drop,List.append_assoc]
 ·rw [List.take_append_drop,List.append_assoc];exact n1
theorem eF {n a b:Nat} {A B:Ch} {g0 g1 s0 s1:ByteArray} (h:chI n a b A B g0 g1 s0 s1) (hn:n≤50000) :
  chI n (a-4096) b (aJ (aK (aW B) A) (aJ (aW B) A)) (aK (aK (aW B) A) (aJ (aW B) A)) g0 (g1++bytesOf (((ag B).drop 0).take B.got.length)) s0 s1 ∧
  (bl 1000000 A∧(aW B).out.length≤100000)∧(bl 1000000 (aJ (aW B) A)∧(aK (aW B) A).out.length≤100000):=by
 rw [iM]
 obtain ⟨wA,qA,wB,qB,G0,G1,⟨rfl,rfl⟩,⟨h1,h2⟩,⟨h3,h4⟩,⟨d1,d2⟩,⟨rfl,rfl,rfl,rfl⟩,⟨n1,n2⟩,⟨b1,b2⟩⟩:=h
 have m1:=n1
 have m2:=n2
 simp only [fK] at m1 m2
 obtain ⟨o1,o2,o3⟩:=lI (s:=true) (t:=false) (wX:=wB) (qX:=qB) (wY:=wA) (qY:=qA) h2 h1 h3 d1 (by omega)
 obtain ⟨t1,t2,t3⟩:=kc (s:=true) (t:=false) (wX:=wB) (wY:=wA) (qY:=qA) (a:=4096-qA.length) h1 d1 (by omega)
 rw [o1,o2,t1,t2]
 refine ⟨⟨wA.drop 4096,qA,wB,wA.take 4096,G0,G1++qB,⟨rfl,rfl⟩,⟨h1,by rw [List.length_take];omega⟩,⟨?_,h4⟩,⟨fa _ d1,d2⟩,⟨rfl,by rw [de];rfl,rfl,?_⟩,⟨n1,?_⟩,by rw [List.length_drop];omega,b2⟩,⟨jZ (by omega) (by omega) (by omega),o3⟩,jZ (by omega) (by show 0≤_;decide) (by omega),t3⟩
 ·rcases Nat.le_total wA.length 4096 with q|q
  ·exact .inl (List.drop_eq_nil_of_le q)
  ·exact .inr (by rw [List.length_take];omega)
 ·rw [List.take_append_drop,List.append_assoc]
 ·rw [List.take_append_drop,List.append_assoc];exact n2
theorem ge {n a b:Nat} {A B:Ch} {g0 g1 s0 s1:ByteArray} {d:List Int} (h:chI n a b A B g0 g1 s0 s1) (hd:Dg d) (hn:n+d.length≤50000) :
  chI (n+d.length) (n+d.length) (n+d.length) (aJ (bh A d) B) (aK (bh A d) B) g0 g1 (s0++bytesOf d) s1∧dt A d=0∧(cn A∧A.out.length+A.wait.length+d.length≤1000000000) ∧
  (bl 1000000 B∧(bh A d).out.length≤100000)∧((bQ (aJ (bh A d) B):Int) != bQ (bh A d))=false:=by
 obtain ⟨wA,qA,wB,qB,G0,G1,⟨rfl,rfl⟩,⟨h1,h2⟩,⟨h3,h4⟩,⟨d1,d2⟩,⟨rfl,rfl,rfl,rfl⟩,⟨n1,n2⟩,⟨b1,b2⟩⟩:=h
 have m1:=n1
 have m2:=n2
 simp only [fK] at m1 m2
 obtain ⟨w,q,e1,e2,e3,e4,e5,e6,e7,e8,e9⟩:=lC (s:=false) (t:=true) (wX:=wA) (qX:=qA) (wY:=wB) (qY:=qB) (d:=d) h1 h2 (oa d1 hd) (by rw [fK];omega)
 have hlen:=congrArg List.length e6
 simp only [fK] at hlen
 rw [e1,e2,e3]
 refine ⟨⟨w,qA,wB,q,G0,G1,⟨rfl,rfl⟩,⟨h1,e4⟩,⟨e5,h4⟩,⟨e7,d2⟩,⟨rfl,rfl,rfl,?_⟩,⟨by omega,by simp only [fK];omega⟩,by omega,by omega⟩,rfl,⟨iL (by omega) (by omega),by show 0+wA.length+d.length≤_;omega⟩,⟨jZ (by omega) (by omega) (by omega),e9⟩,?_⟩
 ·rw [e6,← de];congr 1;simp only [List.append_assoc]
 ·show ((((chE false w qA (4096-q.length) (4096-qA.length)).wait.length:Nat):Int) != _)=false
  show ((((w.length:Nat):Int)) != (((cF (chE false (wA++d) qA (4096-qB.length) (4096-qA.length))).wait.length:Nat):Int))=false
  rw [e8,bne_self_eq_false]
theorem gU {n a b:Nat} {A B:Ch} {g0 g1 s0 s1:ByteArray} {d:List Int} (h:chI n a b A B g0 g1 s0 s1) (hd:Dg d) (hn:n+d.length≤50000) :
  chI (n+d.length) (n+d.length) (n+d.length) (aK (bh B d) A) (aJ (bh B d) A) g0 g1 s0 (s1++bytesOf d)∧dt B d=0∧(cn B∧B.out.length+B.wait.length+d.length≤1000000000) ∧
  (bl 1000000 A∧(bh B d).out.length≤100000)∧((bQ (aJ (bh B d) A):Int) != bQ (bh B d))=false:=by
 obtain ⟨wA,qA,wB,qB,G0,G1,⟨rfl,rfl⟩,⟨h1,h2⟩,⟨h3,h4⟩,⟨d1,d2⟩,⟨rfl,rfl,rfl,rfl⟩,⟨n1,n2⟩,⟨b1,b2⟩⟩:=h
 have m1:=n1
 have m2:=n2
 simp only [fK] at m1 m2
 obtain ⟨w,q,e1,e2,e3,e4,e5,e6,e7,e8,e9⟩:=lC (s:=true) (t:=false) (wX:=wB) (qX:=qB) (wY:=wA) (qY:=qA) (d:=d) h2 h1 (oa d2 hd) (by rw [fK];omega)
 have hlen:=congrArg List.length e6
 simp only [fK] at hlen
 rw [e1,e2,e3]
 refine ⟨⟨wA,q,w,qB,G0,G1,⟨rfl,rfl⟩,⟨e4,h2⟩,⟨h3,e5⟩,⟨d1,e7⟩,⟨rfl,rfl,?_,rfl⟩,⟨by simp only [fK];omega,by omega⟩,by omega,by omega⟩,rfl,⟨iL (by omega) (by omega),by show 0+wB.length+d.length≤_;omega⟩,⟨jZ (by omega) (by omega) (by omega),e9⟩,?_⟩
 ·rw [e6,← de];congr 1;simp only [List.append_assoc]
 ·show ((((w.length:Nat):Int)) != (((cF (chE true (wB++d) qB (4096-qA.length) (4096-qB.length))).wait.length:Nat):Int))=false
  rw [e8,bne_self_eq_false]
theorem iz {n:Nat} {A B:Ch} {g0 g1 s0 s1:ByteArray} (h:chI n 0 0 A B g0 g1 s0 s1):g0++bytesOf A.got=s1∧g1++bytesOf B.got=s0∧A.wait=[]∧B.wait=[]:=by
 obtain ⟨wA,qA,wB,qB,G0,G1,⟨rfl,rfl⟩,_,_,_,⟨rfl,rfl,rfl,rfl⟩,_,⟨b1,b2⟩⟩:=h
 have e1:wA=[]:=List.eq_nil_of_length_eq_zero (by omega)
 have e2:wB=[]:=List.eq_nil_of_length_eq_zero (by omega)
 subst e1 e2
 rw [List.append_nil,List.append_nil,de,de]
 exact ⟨rfl,rfl,rfl,rfl⟩
end Go.Vm
namespace Go.Vm
open Go
theorem mz {p:List (Int × List Int)} {B:Nat} (h:∀ y∈p,y.2.length≤B) (k:Nat):(p.getD k (0,[])).2.length≤B:=by
 rw [List.getD_eq_getElem?_getD]
 cases hk:p[k]? with
 |none=>exact Nat.zero_le _
 |some x=>exact h x (List.mem_of_getElem? hk)
def cr (p0:List (Int × List Int)) (k0:Nat) (z0:Int):Int :=
 (cO .i64 z0 ((1+((((p0.getD k0 (0,[])).2).length)/100):Nat):Int))
def dF (p0:List (Int × List Int)) (k0:Nat):Bool :=
 (sel (decide (((cO .i64 (itr (cr p0) k0 0) ((1+((((p0.getD k0 (0,[])).2).length)/100):Nat):Int)):Int)>150)) true false)
def dK (p0:List (Int × List Int)):Bool :=
 (sel (Nat.blt (bY (dF p0) p0.length) p0.length) false true)
def mS:List AV→List Blk→Option (Prop × Ret)
 |[.sc (.roc p0)],[]=>some ((p0.length≤140737488351232∧∀ y∈p0,y.2.length≤140737488351232),⟨.sc (.b (dK p0)),[]⟩)
 |_,_=>none
theorem ph:Known Go.Proofs.Try.prog noG 25 ⟨0,0,mS⟩:=by
 refine Xw Go.Proofs.Try.f25 22 Zn cM <|fun E args ks C r h hC hlen=>?_
 simp only at h
 unfold mS at h
 split at h
 rotate_left
 cases h
 rename_i p0
 cases h
 simp only [cl] at hlen
 refine ⟨rfl,?_⟩
 refine Tri.sub (Sub.of_eq (show _=([(0,.sc (.roc p0))],[]) from rfl)) <|sq [] none [0] [] ([(0,.sc (.roc p0))],[]) 32 (v1 pT) <|sq [] none [3,0] [] ([(3,.sc (.i .i64 0)),(0,.sc (.roc p0))],[]) 48 (v1 pT) <|Tri.seq <|sq [] none [8,7,6,3] [] ([(8,.sc (.i .i64 0)),(7,.sc (.i .i64 ((p0.length:Nat):Int))),(6,.sc (.roc p0)),(3,.sc (.i .i64 0))],[]) 96 (v3 pT) <|Tri.block <|Tri.count 96 p0.length (cr p0) 0 (fun k0 z0=>(∀ j,j<k0→(dF p0) j=false)) (fun k0 z0=>([(8,.sc (.i .i64 ((k0:Nat):Int))),(7,.sc (.i .i64 ((p0.length:Nat):Int))),(6,.sc (.roc p0)),(3,.sc (.i .i64 z0))],[])) (fun j hj=>absurd hj (Nat.not_lt_zero j)) (Sub.of_eq (by kernel_rfl)) <|fun k0 z0 hk0 hz0 hJ0=>?_
 have hy:=mz hC.2 k0
 refine sq [] none [9,8,7,6,3] [] ([(9,.sc (.b (decide ((((k0:Nat):Int):Int)<((p0.length:Nat):Int))))),(8,.sc (.i .i64 ((k0:Nat):Int))),(7,.sc (.i .i64 ((p0.length:Nat):Int))),(6,.sc (.roc p0)),(3,.sc (.i .i64 z0))],[]) 112 (v1 pT) <|Tri.seq <|Xb (fun h1 h1'=>?_) (fun h1 h1'=>?_)
 refine Tri.skip <|Tri.seq <|Tri.block <|sq [] none [5,8,7,6,3] [144] ([(5,.sc (.p 144 0)),(8,.sc (.i .i64 ((k0:Nat):Int))),(7,.sc (.i .i64 ((p0.length:Nat):Int))),(6,.sc (.roc p0)),(3,.sc (.i .i64 z0))],[(144,.cells [.i .i64 ((p0.getD k0 (0,[])).1),.ro .u8 ((p0.getD k0 (0,[])).2)])]) 176 (pu (Yj k0 p0.length) (v2 (pu (pa (Yw 2) (Yr 2)) pT))) <|sq [(16,qi (((((p0.getD k0 (0,[])).2).length)/100:Nat):Int)),(17,qi ((1+((((p0.getD k0 (0,[])).2).length)/100):Nat):Int))] none [3,8,7,6] [] ([(3,.sc (.i .i64 (cO .i64 z0 ((1+((((p0.getD k0 (0,[])).2).length)/100):Nat):Int)))),(8,.sc (.i .i64 ((k0:Nat):Int))),(7,.sc (.i .i64 ((p0.length:Nat):Int))),(6,.sc (.roc p0))],[]) 304 (v2 (pu (Yl 1 2) (v1 (pv (Yn 100) (pl (oV (a:=((p0.getD k0 (0,[])).2).length) (b:=100) (by omega))) (pv pT (Yp 1 ((((p0.getD k0 (0,[])).2).length)/100)) (v2 pT)))))) <|sq [] none [20,3,8,7,6] [] ([(20,.sc (.b (decide (((cO .i64 z0 ((1+((((p0.getD k0 (0,[])).2).length)/100):Nat):Int)):Int)>150)))),(3,.sc (.i .i64 (cO .i64 z0 ((1+((((p0.getD k0 (0,[])).2).length)/100):Nat):Int)))),(8,.sc (.i .i64 ((k0:Nat):Int))),(7,.sc (.i .i64 ((p0.length:Nat):Int))),(6,.sc (.roc p0))],[]) 336 (v2 pT) <|Xb (fun h2 h2'=>?_) (fun h2 h2'=>?_)
 refine sq [] none [2] [] ([(2,.sc (.b false))],[]) 352 (v1 pT) <|Tri.ret <|?_
 subst hz0
 have hf0:bY (dF p0) p0.length=k0:=bM (by omega) hJ0 (by simp only [dF,h1,h2,aR,aM])
 have hb0:Nat.blt k0 p0.length=true:=bR (by omega)
 have hq0:Nat.blt (bY (dF p0) p0.length) p0.length=true:=by rw [hf0];exact hb0
 exact rt <|ij.conv (r':=⟨.sc (.b false),[]⟩) (by simp only [dK,hq0,hf0,hb0,aR,aM]) <|er [] pz
 refine Tri.skip <|rq [(21,qi ((k0+1:Nat):Int))] none [8,3,7,6] [] ([(8,.sc (.i .i64 ((k0+1:Nat):Int))),(3,.sc (.i .i64 (cO .i64 z0 ((1+((((p0.getD k0 (0,[])).2).length)/100):Nat):Int)))),(7,.sc (.i .i64 ((p0.length:Nat):Int))),(6,.sc (.roc p0))],[]) 368 (pv pT (Yp k0 1) (v1 pT)) <|?_
 repeat (refine br ?_)
 exact bc (by omega) (dC hJ0 (by subst hz0;simp only [dF,h1,h2,aR,aM])) <|sp [] [8,7,6,3]
 refine Tri.exit <|?_
 have hend0:k0=p0.length:=by (have:=of_decide_eq_false h1;omega)
 subst hend0;subst hz0
 have hf0:bY (dF p0) p0.length=p0.length:=el hJ0
 have hb0:Nat.blt p0.length p0.length=false:=ef _
 have hq0:Nat.blt (bY (dF p0) p0.length) p0.length=false:=by rw [hf0];exact hb0
 exact sq [] none [2] [] ([(2,.sc (.b true))],[]) 128 (v1 pT) <|Tri.ret <|rt <|ij.conv (r':=⟨.sc (.b true),[]⟩) (by simp only [dK,hq0,hf0,hb0,aR,aM]) <|er [] pz
theorem pM {S:Nat→Bool}:∀ n,bY S n=n→∀ j,j<n→S j=false:=by
 intro n
 induction n with
 |zero=>intro _ j hj;exact absurd hj (Nat.not_lt_zero j)
 |succ n ih =>
  intro h j hj
  rw [bY] at h
  have hle:=lc S n
  cases hb:Nat.blt (bY S n) n with
  |true=>rw [hb,cond_true] at h;omega
  |false =>
   rw [hb,cond_false] at h
   have hn:bY S n=n:=by
    rcases Nat.lt_or_ge (bY S n) n with hq|hq
    ·rw [bR hq] at hb;cases hb
    ·omega
   cases hq:S n with
   |true=>rw [hq,cond_true] at h;omega
   |false =>
    by_cases hjn:j=n
    ·rw [hjn];exact hq
    ·exact ih hn j (by omega)
theorem gN {S:Nat→Bool} {n:Nat} (h:Nat.blt (bY S n) n=false):∀ j,j<n→S j=false:=by
 have hle:=lc S n
 refine pM n ?_
 rcases Nat.lt_or_ge (bY S n) n with hq|hq
 ·rw [bR hq] at h;cases h
 ·omega
def gh (p:List (Int × List Int)):Nat→Nat
 |0=>0
 |k+1=>gh p k+(p.getD k (0,[])).2.length
theorem iO {p:List (Int × List Int)} (hC:p.length≤140737488351232∧∀ y∈p,y.2.length≤140737488351232) (h:(!(dK p))=false):∀ k,k≤p.length→gh p k≤15000:=by
 have h0:Nat.blt (bY (dF p) p.length) p.length=false:=by
  unfold dK at h
  revert h
  cases Nat.blt (bY (dF p) p.length) p.length
  ·intro _;rfl
  ·rw [aR];intro h;cases h
 have hs:=gN h0
 have hi:∀ k:Nat,k≤p.length→0≤itr (cr p) k 0∧itr (cr p) k 0≤150∧(gh p k:Int)≤100*itr (cr p) k 0:=by
  intro k
  induction k with
  |zero=>intro _;rw [dN];exact ⟨by decide,by decide,by show ((0:Nat):Int)≤100*0;decide⟩
  |succ k ih =>
   intro hk
   obtain ⟨i1,i2,i3⟩:=ih (by omega)
   have hq:=hs k (by omega)
   have h1:=mz hC.2 k
   have e:cO .i64 (itr (cr p) k 0) ((1+((((p.getD k (0,[])).2).length)/100):Nat):Int)=itr (cr p) k 0+((1+((((p.getD k (0,[])).2).length)/100):Nat):Int):=gD (by omega) (by omega)
   unfold dF at hq
   rw [e] at hq
   have hd:decide ((itr (cr p) k 0+((1+((((p.getD k (0,[])).2).length)/100):Nat):Int))>150)=false:=by
    revert hq
    cases decide ((itr (cr p) k 0+((1+((((p.getD k (0,[])).2).length)/100):Nat):Int))>150)
    ·intro _;rfl
    ·rw [aR];intro h;cases h
   have hd':=of_decide_eq_false hd
   have e2:itr (cr p) (k+1) 0=itr (cr p) k 0+((1+((((p.getD k (0,[])).2).length)/100):Nat):Int):=by rw [cy];unfold cr;exact e
   rw [e2]
   refine ⟨by omega,by omega,?_⟩
   show ((gh p k+(p.getD k (0,[])).2.length:Nat):Int)≤_
   omega
 intro k hk
 have:=hi k hk
 omega
end Go.Vm
end
