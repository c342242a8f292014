/- A part of a proof: the small machine that walks the program, the walks of its functions, and what they compute in plain. -/
import Derived.Test.YtfkmfdjdppjijaaQcc
set_option linter.unusedVariables false
set_option linter.unusedSimpArgs false
set_option maxRecDepth 4000
namespace Go.Vm
open Go
theorem on_flow {p:Ch} {n:Int} (hC:chOk 900000000 p∧0 < p.most) (hn:0≤n∧n < 4294967296) (h:(decide (((iAdd .i64 p.window (IntKind.wrap .i64 n)):Int) > 2147483647))=false):chFlow ({p with window:=(iAdd .i64 p.window (IntKind.wrap .i64 n))}:Ch):=by
 obtain ⟨⟨⟨q1,q2⟩,q3,q4,⟨q5,q6⟩,q7⟩,q8⟩:=hC
 have h':=of_decide_eq_false h
 rw [wrap_small (by omega) (by omega),iAdd_i64 (by omega) (by omega)] at h' ⊢
 exact ⟨⟨by show 0≤p.window + n; omega,by show p.window + n≤_; omega⟩,q3,fun _ => q8,by show p.out.length + p.wait.length≤_; omega⟩
noncomputable def Fconv0 (p0:Ch) (p2:List Int) (p3:Bool):Ch :=
 (Fcflow ({p0 with window:=(iAdd .i64 p0.window (IntKind.wrap .i64 (FwU32 p2 p3)))}:Ch))
noncomputable def Fconv1 (p0:Ch):Ch :=
 (Fcsay ({p0 with ready:=true}:Ch) (Fctoz ({p0 with ready:=true}:Ch) (sel (!p0.ready) 99 100)))
noncomputable def Fconv2 (p0:Ch):Ch :=
 (Fcsay ({p0 with ready:=(!p0.ready)}:Ch) (Fctoz ({p0 with ready:=(!p0.ready)}:Ch) (sel (!p0.ready) 99 100)))
noncomputable def Fconv3 (p0:Ch):Ch :=
 (Fcsay ({p0 with ready:=true}:Ch) (Fctoz ({p0 with ready:=true}:Ch) 100))
noncomputable def Fconv4 (p0:Ch):Ch :=
 (Fcsay ({p0 with ready:=false}:Ch) (Fctoz ({p0 with ready:=false}:Ch) 100))
noncomputable def Fconv5 (p0:Ch) (p1:Int):Ch :=
 (Fcbye ({p0 with ready:=((p1:Int) == 99)}:Ch))
noncomputable def Fcon (p0:Ch) (p1:Int) (p2:List Int) (p3:Bool):Int :=
 (sel ((p1:Int) == 93) (sel (!(FwEnd (FwU32_1 p2 p3) (FwU32_2 p2 p3))) 3 (sel (decide (((iAdd .i64 p0.window (IntKind.wrap .i64 (FwU32 p2 p3))):Int) > 2147483647)) 3 0)) (sel ((p1:Int) == 94) (sel (!(FwEnd (FwText_1 p2 p3) (FwText_2 p2 p3))) 3 (sel (decide (((((FwText p2 p3).size:Nat):Int):Int) > p0.room)) 3 (sel (decide (((((FwText p2 p3).size:Nat):Int):Int) > 512)) 3 (sel p0.e1 3 0)))) (sel ((p1:Int) == 96) (sel (!(FwEnd p2 p3)) 3 (sel p0.e1 3 0)) (sel ((p1:Int) == 97) (sel (!(FwEnd p2 p3)) 3 0) (sel ((p1:Int) == 98) (sel (strEq (FwText p2 p3) (⟨#[115,117,98,115,121,115,116,101,109]⟩:ByteArray)) (sel (!(FwOk (FwText_1 (FwFlag_1 (FwText_1 p2 p3) (FwText_2 p2 p3)) (FwFlag_2 (FwText_1 p2 p3) (FwText_2 p2 p3))) (FwText_2 (FwFlag_1 (FwText_1 p2 p3) (FwText_2 p2 p3)) (FwFlag_2 (FwText_1 p2 p3) (FwText_2 p2 p3))))) 3 0) (sel (!(FwOk (FwFlag_1 (FwText_1 p2 p3) (FwText_2 p2 p3)) (FwFlag_2 (FwText_1 p2 p3) (FwText_2 p2 p3)))) 3 0)) (sel (sel ((p1:Int) == 99) ((p1:Int) == 99) ((p1:Int) == 100)) (sel (!(FwEnd p2 p3)) 3 (sel p0.server 3 (sel p0.ready 3 0))) 3))))))
noncomputable def Fcon_1 (p0:Ch) (p1:Int) (p2:List Int) (p3:Bool):Ch :=
 (sel ((p1:Int) == 93) (sel (!(FwEnd (FwU32_1 p2 p3) (FwU32_2 p2 p3))) p0 (sel (decide (((iAdd .i64 p0.window (IntKind.wrap .i64 (FwU32 p2 p3))):Int) > 2147483647)) p0 (Fconv0 p0 p2 p3))) (sel ((p1:Int) == 94) (sel (!(FwEnd (FwText_1 p2 p3) (FwText_2 p2 p3))) p0 (sel (decide (((((FwText p2 p3).size:Nat):Int):Int) > p0.room)) p0 (sel (decide (((((FwText p2 p3).size:Nat):Int):Int) > 512)) p0 (sel p0.e1 p0 ({p0 with room:=(iSub .i64 p0.room (((FwText p2 p3).size:Nat):Int)),got:=p0.got ++ (bytesI (FwText p2 p3))}:Ch))))) (sel ((p1:Int) == 96) (sel (!(FwEnd p2 p3)) p0 (sel p0.e1 p0 ({p0 with e1:=true}:Ch))) (sel ((p1:Int) == 97) (sel (!(FwEnd p2 p3)) p0 (sel (!p0.c0) ({(Fcbye ({p0 with c1:=true}:Ch)) with state:=3}:Ch) ({p0 with state:=3,c1:=true}:Ch))) (sel ((p1:Int) == 98) (sel (strEq (FwText p2 p3) (⟨#[115,117,98,115,121,115,116,101,109]⟩:ByteArray)) (sel (strEq (FwText (FwFlag_1 (FwText_1 p2 p3) (FwText_2 p2 p3)) (FwFlag_2 (FwText_1 p2 p3) (FwText_2 p2 p3))) (⟨#[110,101,116,99,111,110,102]⟩:ByteArray)) (sel (FwEnd (FwText_1 (FwFlag_1 (FwText_1 p2 p3) (FwText_2 p2 p3)) (FwFlag_2 (FwText_1 p2 p3) (FwText_2 p2 p3))) (FwText_2 (FwFlag_1 (FwText_1 p2 p3) (FwText_2 p2 p3)) (FwFlag_2 (FwText_1 p2 p3) (FwText_2 p2 p3)))) (sel p0.server (sel (!(FwOk (FwText_1 (FwFlag_1 (FwText_1 p2 p3) (FwText_2 p2 p3)) (FwFlag_2 (FwText_1 p2 p3) (FwText_2 p2 p3))) (FwText_2 (FwFlag_1 (FwText_1 p2 p3) (FwText_2 p2 p3)) (FwFlag_2 (FwText_1 p2 p3) (FwText_2 p2 p3))))) p0 (sel p0.ready (sel (FwFlag (FwText_1 p2 p3) (FwText_2 p2 p3)) (Fconv1 p0) ({p0 with ready:=true}:Ch)) (sel (FwFlag (FwText_1 p2 p3) (FwText_2 p2 p3)) (Fconv2 p0) ({p0 with ready:=(!p0.ready)}:Ch)))) (sel (!(FwOk (FwText_1 (FwFlag_1 (FwText_1 p2 p3) (FwText_2 p2 p3)) (FwFlag_2 (FwText_1 p2 p3) (FwText_2 p2 p3))) (FwText_2 (FwFlag_1 (FwText_1 p2 p3) (FwText_2 p2 p3)) (FwFlag_2 (FwText_1 p2 p3) (FwText_2 p2 p3))))) p0 (sel p0.ready (sel (FwFlag (FwText_1 p2 p3) (FwText_2 p2 p3)) (Fconv3 p0) ({p0 with ready:=true}:Ch)) (sel (FwFlag (FwText_1 p2 p3) (FwText_2 p2 p3)) (Fconv4 p0) ({p0 with ready:=false}:Ch))))) (sel (!(FwOk (FwText_1 (FwFlag_1 (FwText_1 p2 p3) (FwText_2 p2 p3)) (FwFlag_2 (FwText_1 p2 p3) (FwText_2 p2 p3))) (FwText_2 (FwFlag_1 (FwText_1 p2 p3) (FwText_2 p2 p3)) (FwFlag_2 (FwText_1 p2 p3) (FwText_2 p2 p3))))) p0 (sel p0.ready (sel (FwFlag (FwText_1 p2 p3) (FwText_2 p2 p3)) (Fconv3 p0) ({p0 with ready:=true}:Ch)) (sel (FwFlag (FwText_1 p2 p3) (FwText_2 p2 p3)) (Fconv4 p0) ({p0 with ready:=false}:Ch))))) (sel (!(FwOk (FwText_1 (FwFlag_1 (FwText_1 p2 p3) (FwText_2 p2 p3)) (FwFlag_2 (FwText_1 p2 p3) (FwText_2 p2 p3))) (FwText_2 (FwFlag_1 (FwText_1 p2 p3) (FwText_2 p2 p3)) (FwFlag_2 (FwText_1 p2 p3) (FwText_2 p2 p3))))) p0 (sel p0.ready (sel (FwFlag (FwText_1 p2 p3) (FwText_2 p2 p3)) (Fconv3 p0) ({p0 with ready:=true}:Ch)) (sel (FwFlag (FwText_1 p2 p3) (FwText_2 p2 p3)) (Fconv4 p0) ({p0 with ready:=false}:Ch))))) (sel (!(FwOk (FwFlag_1 (FwText_1 p2 p3) (FwText_2 p2 p3)) (FwFlag_2 (FwText_1 p2 p3) (FwText_2 p2 p3)))) p0 (sel p0.ready (sel (FwFlag (FwText_1 p2 p3) (FwText_2 p2 p3)) (Fconv3 p0) ({p0 with ready:=true}:Ch)) (sel (FwFlag (FwText_1 p2 p3) (FwText_2 p2 p3)) (Fconv4 p0) ({p0 with ready:=false}:Ch))))) (sel (sel ((p1:Int) == 99) ((p1:Int) == 99) ((p1:Int) == 100)) (sel (!(FwEnd p2 p3)) p0 (sel p0.server p0 (sel p0.ready p0 (sel (!((p1:Int) == 99)) (sel (!p0.c0) (Fconv5 p0 p1) ({p0 with ready:=((p1:Int) == 99)}:Ch)) ({p0 with ready:=((p1:Int) == 99)}:Ch))))) p0))))))
noncomputable def Fcon_2 (p0:Ch) (p1:Int) (p2:List Int) (p3:Bool):List Int :=
 (sel ((p1:Int) == 93) (FwU32_1 p2 p3) (sel ((p1:Int) == 94) (FwText_1 p2 p3) (sel ((p1:Int) == 96) p2 (sel ((p1:Int) == 97) p2 (sel ((p1:Int) == 98) (sel (strEq (FwText p2 p3) (⟨#[115,117,98,115,121,115,116,101,109]⟩:ByteArray)) (FwText_1 (FwFlag_1 (FwText_1 p2 p3) (FwText_2 p2 p3)) (FwFlag_2 (FwText_1 p2 p3) (FwText_2 p2 p3))) (FwFlag_1 (FwText_1 p2 p3) (FwText_2 p2 p3))) p2)))))
noncomputable def Fcon_3 (p0:Ch) (p1:Int) (p2:List Int) (p3:Bool):Bool :=
 (sel ((p1:Int) == 93) (FwU32_2 p2 p3) (sel ((p1:Int) == 94) (FwText_2 p2 p3) (sel ((p1:Int) == 96) p3 (sel ((p1:Int) == 97) p3 (sel ((p1:Int) == 98) (sel (strEq (FwText p2 p3) (⟨#[115,117,98,115,121,115,116,101,109]⟩:ByteArray)) (FwText_2 (FwFlag_1 (FwText_1 p2 p3) (FwText_2 p2 p3)) (FwFlag_2 (FwText_1 p2 p3) (FwText_2 p2 p3))) (FwFlag_2 (FwText_1 p2 p3) (FwText_2 p2 p3))) p3)))))
noncomputable def Sconc (p0:Ch) (y0_n1:Nat) (y0_n2:Nat) (y0_n3:Nat) (y0_m1:Nat) (y0_m2:Nat) (p1:Int) (p2:List Int) (p3:Bool):Option (Prop × Ret) :=
 some ((chLens y0_n1 y0_n2 y0_n3 y0_m1 y0_m2 p0∧(chOk 900000000 p0∧0 < p0.most)),⟨.sc (.i .i64 (Fcon p0 p1 p2 p3)),[some (chC 5 6 7 (Fcon_1 p0 p1 p2 p3)),none,none,none,some (.cells [.ro .u8 (Fcon_2 p0 p1 p2 p3),.b (Fcon_3 p0 p1 p2 p3)]),some (.ints .u8 ((Fcon_1 p0 p1 p2 p3).wait.length) ((Fcon_1 p0 p1 p2 p3).wait)),some (.ints .u8 ((Fcon_1 p0 p1 p2 p3).got.length) ((Fcon_1 p0 p1 p2 p3).got)),some (.vec .row ((Fcon_1 p0 p1 p2 p3).out))]⟩)
noncomputable def Scon:List AV→List Blk→Option (Prop × Ret)
 | [.sc (.p 0 0),.sc (.i .u8 p1),.sc (.p 4 0)],[.cells [.b y0_server,.i .i64 y0_state,.i .u32 y0_peer,.i .i64 y0_window,.i .i64 y0_most,.i .i64 y0_room,.sl 1 0 y0_n1 1 none,.sl 2 0 y0_n2 1 none,.b y0_ready,.b y0_e0,.b y0_e1,.b y0_c0,.b y0_c1,.sl 3 0 y0_n3 1 none],.ints .u8 y0_m1 y0_wait,.ints .u8 y0_m2 y0_got,.vec .row y0_out,.cells [.ro .u8 p2,.b p3]] => Sconc ⟨y0_server,y0_state,y0_peer,y0_window,y0_most,y0_room,y0_wait,y0_got,y0_ready,y0_e0,y0_e1,y0_c0,y0_c1,y0_out⟩ y0_n1 y0_n2 y0_n3 y0_m1 y0_m2 p1 p2 p3
 | _,_ => none
noncomputable def Bcon:Bs:={ P:=Go.Proofs.Try.prog,G:=noG,tab:=tabOf [⟨28,1040,[.io,.ro .u8],[],[0,1,2,3],⟨4,3,Scsay⟩,false⟩,⟨28,1056,[.io,.ro .u8],[],[0,1,2,3],⟨4,3,Scsay⟩,false⟩,⟨35,96,[.io],[],[4],⟨1,0,SwU32⟩,false⟩,⟨36,720,[.io],[],[4],⟨1,0,SwOk⟩,false⟩,⟨38,512,[.io],[],[0,1,2,3],⟨4,3,Scflow⟩,false⟩,⟨40,1024,[.io,.val],[],[0,1,2,3],⟨4,0,Sctoz⟩,true⟩,⟨40,1040,[.io,.val],[],[0,1,2,3],⟨4,0,Sctoz⟩,true⟩,⟨41,416,[.io],[],[0,1,2,3],⟨4,3,Scbye⟩,false⟩,⟨41,832,[.io],[],[0,1,2,3],⟨4,3,Scbye⟩,false⟩,⟨43,128,[.io],[],[4],⟨1,0,SwText⟩,false⟩,⟨43,224,[.io],[],[4],⟨1,0,SwText⟩,false⟩,⟨43,368,[.io],[],[4],⟨1,0,SwText⟩,false⟩,⟨44,144,[.io],[],[4],⟨1,0,SwEnd⟩,false⟩,⟨44,160,[.io],[],[4],⟨1,0,SwEnd⟩,false⟩,⟨44,176,[.io],[],[4],⟨1,0,SwEnd⟩,false⟩,⟨44,192,[.io],[],[4],⟨1,0,SwEnd⟩,false⟩,⟨44,288,[.io],[],[4],⟨1,0,SwEnd⟩,false⟩,⟨44,448,[.io],[],[4],⟨1,0,SwEnd⟩,false⟩,⟨46,256,[.io],[],[4],⟨1,0,SwFlag⟩,false⟩],n:=212 }
theorem Bcon.ok:Bcon.Ok:=⟨tabOk (P:=Go.Proofs.Try.prog) (G:=noG) (l:=[⟨28,1040,[.io,.ro .u8],[],[0,1,2,3],⟨4,3,Scsay⟩,false⟩,⟨28,1056,[.io,.ro .u8],[],[0,1,2,3],⟨4,3,Scsay⟩,false⟩,⟨35,96,[.io],[],[4],⟨1,0,SwU32⟩,false⟩,⟨36,720,[.io],[],[4],⟨1,0,SwOk⟩,false⟩,⟨38,512,[.io],[],[0,1,2,3],⟨4,3,Scflow⟩,false⟩,⟨40,1024,[.io,.val],[],[0,1,2,3],⟨4,0,Sctoz⟩,true⟩,⟨40,1040,[.io,.val],[],[0,1,2,3],⟨4,0,Sctoz⟩,true⟩,⟨41,416,[.io],[],[0,1,2,3],⟨4,3,Scbye⟩,false⟩,⟨41,832,[.io],[],[0,1,2,3],⟨4,3,Scbye⟩,false⟩,⟨43,128,[.io],[],[4],⟨1,0,SwText⟩,false⟩,⟨43,224,[.io],[],[4],⟨1,0,SwText⟩,false⟩,⟨43,368,[.io],[],[4],⟨1,0,SwText⟩,false⟩,⟨44,144,[.io],[],[4],⟨1,0,SwEnd⟩,false⟩,⟨44,160,[.io],[],[4],⟨1,0,SwEnd⟩,false⟩,⟨44,176,[.io],[],[4],⟨1,0,SwEnd⟩,false⟩,⟨44,192,[.io],[],[4],⟨1,0,SwEnd⟩,false⟩,⟨44,288,[.io],[],[4],⟨1,0,SwEnd⟩,false⟩,⟨44,448,[.io],[],[4],⟨1,0,SwEnd⟩,false⟩,⟨46,256,[.io],[],[4],⟨1,0,SwFlag⟩,false⟩]) (And.intro Kcsay (And.intro Kcsay (And.intro KwU32 (And.intro KwOk (And.intro Kcflow (And.intro Kctoz (And.intro Kctoz (And.intro Kcbye (And.intro Kcbye (And.intro KwText (And.intro KwText (And.intro KwText (And.intro KwEnd (And.intro KwEnd (And.intro KwEnd (And.intro KwEnd (And.intro KwEnd (And.intro KwEnd (And.intro KwFlag True.intro))))))))))))))))))),mixed⟩
theorem Kcon:Known Go.Proofs.Try.prog noG 37 ⟨5,3,Scon⟩:=by
 refine Known.walk (B:=Bcon) (fn:=Go.Proofs.Try.f37) Bcon.ok (by kernel_rfl) rfl (by kernel_rfl) (by kernel_rfl) (by decide) (by decide) ?_
 ·intro E args ks C r h hC hlen
  simp only at h
  unfold Scon at h
  split at h
  rotate_left
  ·cases h
  rename_i p1 y0_server y0_state y0_peer y0_window y0_most y0_room y0_n1 y0_n2 y0_ready y0_e0 y0_e1 y0_c0 y0_c1 y0_n3 y0_m1 y0_wait y0_m2 y0_got y0_out p2 p3
  generalize hp0:(⟨y0_server,y0_state,y0_peer,y0_window,y0_most,y0_room,y0_wait,y0_got,y0_ready,y0_e0,y0_e1,y0_c0,y0_c1,y0_out⟩:Ch)=p0 at h
  obtain rfl:y0_server=p0.server:=by rw [← hp0]
  obtain rfl:y0_state=p0.state:=by rw [← hp0]
  obtain rfl:y0_peer=p0.peer:=by rw [← hp0]
  obtain rfl:y0_window=p0.window:=by rw [← hp0]
  obtain rfl:y0_most=p0.most:=by rw [← hp0]
  obtain rfl:y0_room=p0.room:=by rw [← hp0]
  obtain rfl:y0_wait=p0.wait:=by rw [← hp0]
  obtain rfl:y0_got=p0.got:=by rw [← hp0]
  obtain rfl:y0_ready=p0.ready:=by rw [← hp0]
  obtain rfl:y0_e0=p0.e0:=by rw [← hp0]
  obtain rfl:y0_e1=p0.e1:=by rw [← hp0]
  obtain rfl:y0_c0=p0.c0:=by rw [← hp0]
  obtain rfl:y0_c1=p0.c1:=by rw [← hp0]
  obtain rfl:y0_out=p0.out:=by rw [← hp0]
  clear hp0
  unfold Sconc at h
  cases h
  obtain ⟨⟨rfl,rfl,rfl,rfl,rfl⟩,hC⟩:=hC
  simp only [lens] at hlen
  obtain ⟨⟨⟨hq1,hq2⟩,hq3,hq4,⟨hq5,hq5b⟩,hq6⟩,hq7⟩:=id hC
  have hs:=size_FwText p2 p3
  refine ⟨show 3≤212 from by decide,?_⟩
  refine Tri.sub (Sub.of_eq (show _=([(0,.sc (.p 0 0)),(1,.sc (.i .u8 p1)),(2,.sc (.p 4 0))],[(0,chC 1 2 3 p0),(1,.ints .u8 p0.wait.length p0.wait),(2,.ints .u8 p0.got.length p0.got),(3,.vec .row p0.out),(4,.cells [.ro .u8 p2,.b p3])]) from rfl)) ?_
  refine Tri.subP ?_
  refine Tri.seq_region [] none [0,1,2] [0,1,2,3,4] (TT∧True)
    ([(0,.sc (.p 0 0)),(1,.sc (.i .u8 p1)),(2,.sc (.p 4 0))],[(0,chC 1 2 3 p0),(1,.ints .u8 p0.wait.length p0.wait),(2,.ints .u8 p0.got.length p0.got),(3,.vec .row p0.out),(4,.cells [.ro .u8 p2,.b p3])])
    32 (by kernel_rfl) rfl (by kernel_rfl) (⟨tt,trivial⟩) ?_
  refine Tri.seq ?_
  refine Tri.seq_region [] none [13,0,1,2] [0,1,2,3,4] (TT∧True)
    ([(13,.sc (.i .u8 p1)),(0,.sc (.p 0 0)),(1,.sc (.i .u8 p1)),(2,.sc (.p 4 0))],[(0,chC 1 2 3 p0),(1,.ints .u8 p0.wait.length p0.wait),(2,.ints .u8 p0.got.length p0.got),(3,.vec .row p0.out),(4,.cells [.ro .u8 p2,.b p3])])
    48 (by kernel_rfl) rfl (by kernel_rfl) (⟨tt,trivial⟩) ?_
  refine Tri.block ?_
  refine Tri.seq_region [] none [14,13,0,1,2] [0,1,2,3,4] (TT∧(TT∧True))
    ([(14,.sc (.b ((p1:Int) == 93))),(13,.sc (.i .u8 p1)),(0,.sc (.p 0 0)),(1,.sc (.i .u8 p1)),(2,.sc (.p 4 0))],[(0,chC 1 2 3 p0),(1,.ints .u8 p0.wait.length p0.wait),(2,.ints .u8 p0.got.length p0.got),(3,.vec .row p0.out),(4,.cells [.ro .u8 p2,.b p3])])
    80 (by kernel_rfl) rfl (by kernel_rfl) (⟨tt,⟨tt,trivial⟩⟩) ?_
  refine Tri.cond (x:=((p1:Int) == 93)) (by kernel_rfl) (fun h1 => ?_) (fun h1 => ?_)
  ·
   have h1':=eq_true_i h1
   refine Tri.seq_region [] none [7,0,2] [4,0,1,2,3] (TT∧((TT∧True)∧(TT∧True)))
     ([(7,.sc (.i .u32 (FwU32 p2 p3))),(0,.sc (.p 0 0)),(2,.sc (.p 4 0))],[(4,.cells [.ro .u8 (FwU32_1 p2 p3),.b (FwU32_2 p2 p3)]),(0,chC 1 2 3 p0),(1,.ints .u8 p0.wait.length p0.wait),(2,.ints .u8 p0.got.length p0.got),(3,.vec .row p0.out)])
     128 (by kernel_rfl) rfl (by kernel_rfl) (⟨tt,⟨⟨tt,trivial⟩,⟨tt,trivial⟩⟩⟩) ?_
   refine Tri.seq ?_
   refine Tri.split (!(FwEnd (FwU32_1 p2 p3) (FwU32_2 p2 p3))) (fun h2 => ?_) (fun h2 => ?_)
   ·
    refine Tri.seq_region [(21,qb true)] none [30,7,0] [4,0,1,2,3] (TT∧((TT∧True)∧(TT∧((True∧((!(FwEnd (FwU32_1 p2 p3) (FwU32_2 p2 p3)))=true))∧(TT∧(TT∧(TT∧(TT∧(TT∧(TT∧(TT∧(TT∧(TT∧True)))))))))))))
      ([(30,.sc (.b true)),(7,.sc (.i .u32 (FwU32 p2 p3))),(0,.sc (.p 0 0))],[(4,.cells [.ro .u8 (FwU32_1 p2 p3),.b (FwU32_2 p2 p3)]),(0,chC 1 2 3 p0),(1,.ints .u8 p0.wait.length p0.wait),(2,.ints .u8 p0.got.length p0.got),(3,.vec .row p0.out)])
      336 (by kernel_rfl) rfl (by kernel_rfl) (⟨tt,⟨⟨tt,trivial⟩,⟨tt,⟨⟨trivial,(h2)⟩,⟨tt,⟨tt,⟨tt,⟨tt,⟨tt,⟨tt,⟨tt,⟨tt,⟨tt,trivial⟩⟩⟩⟩⟩⟩⟩⟩⟩⟩⟩⟩⟩) ?_
    refine Tri.cond_true (by kernel_rfl) ?_
    refine Tri.seq_region [] none [6] [4,0,1,2,3] (TT∧True)
      ([(6,.sc (.i .i64 3))],[(4,.cells [.ro .u8 (FwU32_1 p2 p3),.b (FwU32_2 p2 p3)]),(0,chC 1 2 3 p0),(1,.ints .u8 p0.wait.length p0.wait),(2,.ints .u8 p0.got.length p0.got),(3,.vec .row p0.out)])
      352 (by kernel_rfl) rfl (by kernel_rfl) (⟨tt,trivial⟩) ?_
    refine Tri.ret ?_
    repeat (first | refine thenP_ret ?_ | refine blkP_ret ?_ | refine countP_ret ?_ | refine joinP_ret ?_ | refine iterP_ret ?_)
    refine subP_done ?_
    refine endP.conv (r':=⟨.sc (.i .i64 3),[some (chC 5 6 7 p0),none,none,none,some (.cells [.ro .u8 (FwU32_1 p2 p3),.b (FwU32_2 p2 p3)]),some (.ints .u8 p0.wait.length p0.wait),some (.ints .u8 p0.got.length p0.got),some (.vec .row p0.out)]⟩) (by simp only [chC,Fcon,Fcon_1,Fcon_2,Fcon_3,h1,h2,sel_true,sel_false]) ?_
    exact endP.ret [(0,0),(4,4),(1,5),(2,6),(3,7)] TT (by kernel_rfl) (by kernel_rfl) tt
   ·
    refine Tri.seq_region [(21,qb false)] none [30,7,0] [4,0,1,2,3] (TT∧((TT∧True)∧(TT∧((True∧((!(FwEnd (FwU32_1 p2 p3) (FwU32_2 p2 p3)))=false))∧(TT∧(TT∧(TT∧(((3 < 14)∧True)∧(TT∧(TT∧(TT∧(TT∧(TT∧True)))))))))))))
      ([(30,.sc (.b (decide (((iAdd .i64 p0.window (IntKind.wrap .i64 (FwU32 p2 p3))):Int) > 2147483647)))),(7,.sc (.i .u32 (FwU32 p2 p3))),(0,.sc (.p 0 0))],[(4,.cells [.ro .u8 (FwU32_1 p2 p3),.b (FwU32_2 p2 p3)]),(0,chC 1 2 3 p0),(1,.ints .u8 p0.wait.length p0.wait),(2,.ints .u8 p0.got.length p0.got),(3,.vec .row p0.out)])
      336 (by kernel_rfl) rfl (by kernel_rfl) (⟨tt,⟨⟨tt,trivial⟩,⟨tt,⟨⟨trivial,(h2)⟩,⟨tt,⟨tt,⟨tt,⟨⟨(by first | omega | (dsimp only; omega) | decide | (simp only [Fconv0,Fconv1,Fconv2,Fconv3,Fconv4,Fconv5,len_say]; omega)),trivial⟩,⟨tt,⟨tt,⟨tt,⟨tt,⟨tt,trivial⟩⟩⟩⟩⟩⟩⟩⟩⟩⟩⟩⟩⟩) ?_
    refine Tri.cond (x:=(decide (((iAdd .i64 p0.window (IntKind.wrap .i64 (FwU32 p2 p3))):Int) > 2147483647))) (by kernel_rfl) (fun h3 => ?_) (fun h3 => ?_)
    ·
     have h3':=of_decide_eq_true h3
     refine Tri.seq_region [] none [6] [4,0,1,2,3] (TT∧True)
       ([(6,.sc (.i .i64 3))],[(4,.cells [.ro .u8 (FwU32_1 p2 p3),.b (FwU32_2 p2 p3)]),(0,chC 1 2 3 p0),(1,.ints .u8 p0.wait.length p0.wait),(2,.ints .u8 p0.got.length p0.got),(3,.vec .row p0.out)])
       352 (by kernel_rfl) rfl (by kernel_rfl) (⟨tt,trivial⟩) ?_
     refine Tri.ret ?_
     repeat (first | refine thenP_ret ?_ | refine blkP_ret ?_ | refine countP_ret ?_ | refine joinP_ret ?_ | refine iterP_ret ?_)
     refine subP_done ?_
     refine endP.conv (r':=⟨.sc (.i .i64 3),[some (chC 5 6 7 p0),none,none,none,some (.cells [.ro .u8 (FwU32_1 p2 p3),.b (FwU32_2 p2 p3)]),some (.ints .u8 p0.wait.length p0.wait),some (.ints .u8 p0.got.length p0.got),some (.vec .row p0.out)]⟩) (by simp only [chC,Fcon,Fcon_1,Fcon_2,Fcon_3,h1,h2,h3,sel_true,sel_false]) ?_
     exact endP.ret [(0,0),(4,4),(1,5),(2,6),(3,7)] TT (by kernel_rfl) (by kernel_rfl) tt
    ·
     have h3':=of_decide_eq_false h3
     refine Tri.skip ?_
     change Tri _ _ _ _ _ _
     refine Tri.seq_region [] none [0] [0,4,1,2,3] (TT∧(TT∧(TT∧(((3 < 14)∧True)∧(TT∧(TT∧(TT∧(TT∧(TT∧((((3 < 14)∧(1=1))∧True)∧True))))))))))
       ([(0,.sc (.p 0 0))],[(0,.cells [.b p0.server,.i .i64 p0.state,.i .u32 p0.peer,.i .i64 (iAdd .i64 p0.window (IntKind.wrap .i64 (FwU32 p2 p3))),.i .i64 p0.most,.i .i64 p0.room,.sl 1 0 p0.wait.length 1 none,.sl 2 0 p0.got.length 1 none,.b p0.ready,.b p0.e0,.b p0.e1,.b p0.c0,.b p0.c1,.sl 3 0 p0.out.length 1 none]),(4,.cells [.ro .u8 (FwU32_1 p2 p3),.b (FwU32_2 p2 p3)]),(1,.ints .u8 p0.wait.length p0.wait),(2,.ints .u8 p0.got.length p0.got),(3,.vec .row p0.out)])
       496 (by kernel_rfl) rfl (by kernel_rfl) (⟨tt,⟨tt,⟨tt,⟨⟨(by first | omega | (dsimp only; omega) | decide | (simp only [Fconv0,Fconv1,Fconv2,Fconv3,Fconv4,Fconv5,len_say]; omega)),trivial⟩,⟨tt,⟨tt,⟨tt,⟨tt,⟨tt,⟨⟨⟨(by first | omega | (dsimp only; omega) | decide | (simp only [Fconv0,Fconv1,Fconv2,Fconv3,Fconv4,Fconv5,len_say]; omega)),(rfl)⟩,trivial⟩,trivial⟩⟩⟩⟩⟩⟩⟩⟩⟩⟩) ?_
     refine Tri.region' [] none [] [514,513,512,0,4] (TT∧(((True∧((chLens (({p0 with window:=(iAdd .i64 p0.window (IntKind.wrap .i64 (FwU32 p2 p3)))}:Ch).wait.length) (({p0 with window:=(iAdd .i64 p0.window (IntKind.wrap .i64 (FwU32 p2 p3)))}:Ch).got.length) (({p0 with window:=(iAdd .i64 p0.window (IntKind.wrap .i64 (FwU32 p2 p3)))}:Ch).out.length) (({p0 with window:=(iAdd .i64 p0.window (IntKind.wrap .i64 (FwU32 p2 p3)))}:Ch).wait.length) (({p0 with window:=(iAdd .i64 p0.window (IntKind.wrap .i64 (FwU32 p2 p3)))}:Ch).got.length) ({p0 with window:=(iAdd .i64 p0.window (IntKind.wrap .i64 (FwU32 p2 p3)))}:Ch))∧(chFlow ({p0 with window:=(iAdd .i64 p0.window (IntKind.wrap .i64 (FwU32 p2 p3)))}:Ch))))∧True)∧True))
       ([],[(514,.vec .row ((Fconv0 p0 p2 p3).out)),(513,.ints .u8 ((Fconv0 p0 p2 p3).got.length) ((Fconv0 p0 p2 p3).got)),(512,.ints .u8 ((Fconv0 p0 p2 p3).wait.length) ((Fconv0 p0 p2 p3).wait)),(0,chC 512 513 514 (Fconv0 p0 p2 p3)),(4,.cells [.ro .u8 (FwU32_1 p2 p3),.b (FwU32_2 p2 p3)])])
       528 (by kernel_rfl) rfl (by kernel_rfl) (⟨tt,⟨⟨⟨trivial,⟨(chLens_self _),((on_flow hC (in_FwU32 _ _) (by assumption)))⟩⟩,trivial⟩,trivial⟩⟩) ?_
     change Tri _ _ _ _ _ _
     refine Tri.seq_region [] none [6] [514,513,512,0,4] (TT∧True)
       ([(6,.sc (.i .i64 0))],[(514,.vec .row ((Fconv0 p0 p2 p3).out)),(513,.ints .u8 ((Fconv0 p0 p2 p3).got.length) ((Fconv0 p0 p2 p3).got)),(512,.ints .u8 ((Fconv0 p0 p2 p3).wait.length) ((Fconv0 p0 p2 p3).wait)),(0,chC 512 513 514 (Fconv0 p0 p2 p3)),(4,.cells [.ro .u8 (FwU32_1 p2 p3),.b (FwU32_2 p2 p3)])])
       544 (by kernel_rfl) rfl (by kernel_rfl) (⟨tt,trivial⟩) ?_
     refine Tri.ret ?_
     repeat (first | refine thenP_ret ?_ | refine blkP_ret ?_ | refine countP_ret ?_ | refine joinP_ret ?_ | refine iterP_ret ?_)
     refine subP_done ?_
     refine endP.conv (r':=⟨.sc (.i .i64 0),[some (chC 5 6 7 (Fconv0 p0 p2 p3)),none,none,none,some (.cells [.ro .u8 (FwU32_1 p2 p3),.b (FwU32_2 p2 p3)]),some (.ints .u8 ((Fconv0 p0 p2 p3).wait.length) ((Fconv0 p0 p2 p3).wait)),some (.ints .u8 ((Fconv0 p0 p2 p3).got.length) ((Fconv0 p0 p2 p3).got)),some (.vec .row ((Fconv0 p0 p2 p3).out))]⟩) (by simp only [chC,Fcon,Fcon_1,Fcon_2,Fcon_3,h1,h2,h3,sel_true,sel_false]) ?_
     exact endP.ret [(0,0),(4,4),(512,5),(513,6),(514,7)] TT (by kernel_rfl) (by kernel_rfl) tt
  ·
   have h1':=eq_false_i h1
   refine Tri.seq_region [] none [42,13,0,1,2] [0,1,2,3,4] (TT∧(TT∧True))
     ([(42,.sc (.b ((p1:Int) == 94))),(13,.sc (.i .u8 p1)),(0,.sc (.p 0 0)),(1,.sc (.i .u8 p1)),(2,.sc (.p 4 0))],[(0,chC 1 2 3 p0),(1,.ints .u8 p0.wait.length p0.wait),(2,.ints .u8 p0.got.length p0.got),(3,.vec .row p0.out),(4,.cells [.ro .u8 p2,.b p3])])
     112 (by kernel_rfl) rfl (by kernel_rfl) (⟨tt,⟨tt,trivial⟩⟩) ?_
   refine Tri.cond (x:=((p1:Int) == 94)) (by kernel_rfl) (fun h4 => ?_) (fun h4 => ?_)
   ·
    have h4':=eq_true_i h4
    refine Tri.seq_region [] none [8,0,2] [4,0,1,2,3] (TT∧((TT∧True)∧(TT∧True)))
      ([(8,.sc (.s (FwText p2 p3))),(0,.sc (.p 0 0)),(2,.sc (.p 4 0))],[(4,.cells [.ro .u8 (FwText_1 p2 p3),.b (FwText_2 p2 p3)]),(0,chC 1 2 3 p0),(1,.ints .u8 p0.wait.length p0.wait),(2,.ints .u8 p0.got.length p0.got),(3,.vec .row p0.out)])
      160 (by kernel_rfl) rfl (by kernel_rfl) (⟨tt,⟨⟨tt,trivial⟩,⟨tt,trivial⟩⟩⟩) ?_
    refine Tri.seq ?_
    refine Tri.split (!(FwEnd (FwText_1 p2 p3) (FwText_2 p2 p3))) (fun h5 => ?_) (fun h5 => ?_)
    ·
     refine Tri.seq_region [(49,qb true)] none [69,8,0] [4,0,1,2,3] (TT∧((TT∧True)∧(TT∧((True∧((!(FwEnd (FwText_1 p2 p3) (FwText_2 p2 p3)))=true))∧(TT∧(TT∧(TT∧(TT∧(TT∧(TT∧(TT∧(TT∧(TT∧(TT∧(TT∧(TT∧(TT∧(TT∧(TT∧(TT∧(TT∧(TT∧(TT∧(TT∧True))))))))))))))))))))))))
       ([(69,.sc (.b true)),(8,.sc (.s (FwText p2 p3))),(0,.sc (.p 0 0))],[(4,.cells [.ro .u8 (FwText_1 p2 p3),.b (FwText_2 p2 p3)]),(0,chC 1 2 3 p0),(1,.ints .u8 p0.wait.length p0.wait),(2,.ints .u8 p0.got.length p0.got),(3,.vec .row p0.out)])
       544 (by kernel_rfl) rfl (by kernel_rfl) (⟨tt,⟨⟨tt,trivial⟩,⟨tt,⟨⟨trivial,(h5)⟩,⟨tt,⟨tt,⟨tt,⟨tt,⟨tt,⟨tt,⟨tt,⟨tt,⟨tt,⟨tt,⟨tt,⟨tt,⟨tt,⟨tt,⟨tt,⟨tt,⟨tt,⟨tt,⟨tt,⟨tt,trivial⟩⟩⟩⟩⟩⟩⟩⟩⟩⟩⟩⟩⟩⟩⟩⟩⟩⟩⟩⟩⟩⟩⟩⟩) ?_
     refine Tri.cond_true (by kernel_rfl) ?_
     refine Tri.seq_region [] none [6] [4,0,1,2,3] (TT∧True)
       ([(6,.sc (.i .i64 3))],[(4,.cells [.ro .u8 (FwText_1 p2 p3),.b (FwText_2 p2 p3)]),(0,chC 1 2 3 p0),(1,.ints .u8 p0.wait.length p0.wait),(2,.ints .u8 p0.got.length p0.got),(3,.vec .row p0.out)])
       560 (by kernel_rfl) rfl (by kernel_rfl) (⟨tt,trivial⟩) ?_
     refine Tri.ret ?_
     repeat (first | refine thenP_ret ?_ | refine blkP_ret ?_ | refine countP_ret ?_ | refine joinP_ret ?_ | refine iterP_ret ?_)
     refine subP_done ?_
     refine endP.conv (r':=⟨.sc (.i .i64 3),[some (chC 5 6 7 p0),none,none,none,some (.cells [.ro .u8 (FwText_1 p2 p3),.b (FwText_2 p2 p3)]),some (.ints .u8 p0.wait.length p0.wait),some (.ints .u8 p0.got.length p0.got),some (.vec .row p0.out)]⟩) (by simp only [chC,Fcon,Fcon_1,Fcon_2,Fcon_3,h1,h4,h5,sel_true,sel_false]) ?_
     exact endP.ret [(0,0),(4,4),(1,5),(2,6),(3,7)] TT (by kernel_rfl) (by kernel_rfl) tt
    ·
     refine Tri.split (decide (((((FwText p2 p3).size:Nat):Int):Int) > p0.room)) (fun h6 => ?_) (fun h6 => ?_)
     ·
      have h6':=of_decide_eq_true h6
      refine Tri.seq_region [(49,qb false),(58,qb true)] none [69,8,0] [4,0,1,2,3] (TT∧((TT∧True)∧(TT∧((True∧((!(FwEnd (FwText_1 p2 p3) (FwText_2 p2 p3)))=false))∧(TT∧(TT∧(TT∧(TT∧(TT∧(((5 < 14)∧True)∧(TT∧(TT∧((True∧((decide (((((FwText p2 p3).size:Nat):Int):Int) > p0.room))=true))∧(TT∧(TT∧(TT∧(TT∧(TT∧(TT∧(TT∧(TT∧(TT∧(TT∧(TT∧True))))))))))))))))))))))))
        ([(69,.sc (.b true)),(8,.sc (.s (FwText p2 p3))),(0,.sc (.p 0 0))],[(4,.cells [.ro .u8 (FwText_1 p2 p3),.b (FwText_2 p2 p3)]),(0,chC 1 2 3 p0),(1,.ints .u8 p0.wait.length p0.wait),(2,.ints .u8 p0.got.length p0.got),(3,.vec .row p0.out)])
        544 (by kernel_rfl) rfl (by kernel_rfl) (⟨tt,⟨⟨tt,trivial⟩,⟨tt,⟨⟨trivial,(h5)⟩,⟨tt,⟨tt,⟨tt,⟨tt,⟨tt,⟨⟨(by first | omega | (dsimp only; omega) | decide | (simp only [Fconv0,Fconv1,Fconv2,Fconv3,Fconv4,Fconv5,len_say]; omega)),trivial⟩,⟨tt,⟨tt,⟨⟨trivial,(h6)⟩,⟨tt,⟨tt,⟨tt,⟨tt,⟨tt,⟨tt,⟨tt,⟨tt,⟨tt,⟨tt,⟨tt,trivial⟩⟩⟩⟩⟩⟩⟩⟩⟩⟩⟩⟩⟩⟩⟩⟩⟩⟩⟩⟩⟩⟩⟩⟩) ?_
      refine Tri.cond_true (by kernel_rfl) ?_
      refine Tri.seq_region [] none [6] [4,0,1,2,3] (TT∧True)
        ([(6,.sc (.i .i64 3))],[(4,.cells [.ro .u8 (FwText_1 p2 p3),.b (FwText_2 p2 p3)]),(0,chC 1 2 3 p0),(1,.ints .u8 p0.wait.length p0.wait),(2,.ints .u8 p0.got.length p0.got),(3,.vec .row p0.out)])
        560 (by kernel_rfl) rfl (by kernel_rfl) (⟨tt,trivial⟩) ?_
      refine Tri.ret ?_
      repeat (first | refine thenP_ret ?_ | refine blkP_ret ?_ | refine countP_ret ?_ | refine joinP_ret ?_ | refine iterP_ret ?_)
      refine subP_done ?_
      refine endP.conv (r':=⟨.sc (.i .i64 3),[some (chC 5 6 7 p0),none,none,none,some (.cells [.ro .u8 (FwText_1 p2 p3),.b (FwText_2 p2 p3)]),some (.ints .u8 p0.wait.length p0.wait),some (.ints .u8 p0.got.length p0.got),some (.vec .row p0.out)]⟩) (by simp only [chC,Fcon,Fcon_1,Fcon_2,Fcon_3,h1,h4,h5,h6,sel_true,sel_false]) ?_
      exact endP.ret [(0,0),(4,4),(1,5),(2,6),(3,7)] TT (by kernel_rfl) (by kernel_rfl) tt
     ·
      have h6':=of_decide_eq_false h6
      refine Tri.split (decide (((((FwText p2 p3).size:Nat):Int):Int) > 512)) (fun h7 => ?_) (fun h7 => ?_)
      ·
       have h7':=of_decide_eq_true h7
       refine Tri.seq_region [(49,qb false),(58,qb false),(63,qb true)] none [69,8,0] [4,0,1,2,3] (TT∧((TT∧True)∧(TT∧((True∧((!(FwEnd (FwText_1 p2 p3) (FwText_2 p2 p3)))=false))∧(TT∧(TT∧(TT∧(TT∧(TT∧(((5 < 14)∧True)∧(TT∧(TT∧((True∧((decide (((((FwText p2 p3).size:Nat):Int):Int) > p0.room))=false))∧(TT∧(TT∧(TT∧(TT∧((True∧((decide (((((FwText p2 p3).size:Nat):Int):Int) > 512))=true))∧(TT∧(TT∧(TT∧(TT∧(TT∧(TT∧True))))))))))))))))))))))))
         ([(69,.sc (.b true)),(8,.sc (.s (FwText p2 p3))),(0,.sc (.p 0 0))],[(4,.cells [.ro .u8 (FwText_1 p2 p3),.b (FwText_2 p2 p3)]),(0,chC 1 2 3 p0),(1,.ints .u8 p0.wait.length p0.wait),(2,.ints .u8 p0.got.length p0.got),(3,.vec .row p0.out)])
         544 (by kernel_rfl) rfl (by kernel_rfl) (⟨tt,⟨⟨tt,trivial⟩,⟨tt,⟨⟨trivial,(h5)⟩,⟨tt,⟨tt,⟨tt,⟨tt,⟨tt,⟨⟨(by first | omega | (dsimp only; omega) | decide | (simp only [Fconv0,Fconv1,Fconv2,Fconv3,Fconv4,Fconv5,len_say]; omega)),trivial⟩,⟨tt,⟨tt,⟨⟨trivial,(h6)⟩,⟨tt,⟨tt,⟨tt,⟨tt,⟨⟨trivial,(h7)⟩,⟨tt,⟨tt,⟨tt,⟨tt,⟨tt,⟨tt,trivial⟩⟩⟩⟩⟩⟩⟩⟩⟩⟩⟩⟩⟩⟩⟩⟩⟩⟩⟩⟩⟩⟩⟩⟩) ?_
       refine Tri.cond_true (by kernel_rfl) ?_
       refine Tri.seq_region [] none [6] [4,0,1,2,3] (TT∧True)
         ([(6,.sc (.i .i64 3))],[(4,.cells [.ro .u8 (FwText_1 p2 p3),.b (FwText_2 p2 p3)]),(0,chC 1 2 3 p0),(1,.ints .u8 p0.wait.length p0.wait),(2,.ints .u8 p0.got.length p0.got),(3,.vec .row p0.out)])
         560 (by kernel_rfl) rfl (by kernel_rfl) (⟨tt,trivial⟩) ?_
       refine Tri.ret ?_
       repeat (first | refine thenP_ret ?_ | refine blkP_ret ?_ | refine countP_ret ?_ | refine joinP_ret ?_ | refine iterP_ret ?_)
       refine subP_done ?_
       refine endP.conv (r':=⟨.sc (.i .i64 3),[some (chC 5 6 7 p0),none,none,none,some (.cells [.ro .u8 (FwText_1 p2 p3),.b (FwText_2 p2 p3)]),some (.ints .u8 p0.wait.length p0.wait),some (.ints .u8 p0.got.length p0.got),some (.vec .row p0.out)]⟩) (by simp only [chC,Fcon,Fcon_1,Fcon_2,Fcon_3,h1,h4,h5,h6,h7,sel_true,sel_false]) ?_
       exact endP.ret [(0,0),(4,4),(1,5),(2,6),(3,7)] TT (by kernel_rfl) (by kernel_rfl) tt
      ·
       have h7':=of_decide_eq_false h7
       refine Tri.seq_region [(49,qb false),(58,qb false),(63,qb false)] none [69,8,0] [4,0,1,2,3] (TT∧((TT∧True)∧(TT∧((True∧((!(FwEnd (FwText_1 p2 p3) (FwText_2 p2 p3)))=false))∧(TT∧(TT∧(TT∧(TT∧(TT∧(((5 < 14)∧True)∧(TT∧(TT∧((True∧((decide (((((FwText p2 p3).size:Nat):Int):Int) > p0.room))=false))∧(TT∧(TT∧(TT∧(TT∧((True∧((decide (((((FwText p2 p3).size:Nat):Int):Int) > 512))=false))∧(TT∧(TT∧(TT∧((((0:Int)≤1∧1 < ((2:Nat):Int))∧True)∧(((10 < 14)∧True)∧(TT∧True))))))))))))))))))))))))
         ([(69,.sc (.b p0.e1)),(8,.sc (.s (FwText p2 p3))),(0,.sc (.p 0 0))],[(4,.cells [.ro .u8 (FwText_1 p2 p3),.b (FwText_2 p2 p3)]),(0,chC 1 2 3 p0),(1,.ints .u8 p0.wait.length p0.wait),(2,.ints .u8 p0.got.length p0.got),(3,.vec .row p0.out)])
         544 (by kernel_rfl) rfl (by kernel_rfl) (⟨tt,⟨⟨tt,trivial⟩,⟨tt,⟨⟨trivial,(h5)⟩,⟨tt,⟨tt,⟨tt,⟨tt,⟨tt,⟨⟨(by first | omega | (dsimp only; omega) | decide | (simp only [Fconv0,Fconv1,Fconv2,Fconv3,Fconv4,Fconv5,len_say]; omega)),trivial⟩,⟨tt,⟨tt,⟨⟨trivial,(h6)⟩,⟨tt,⟨tt,⟨tt,⟨tt,⟨⟨trivial,(h7)⟩,⟨tt,⟨tt,⟨tt,⟨⟨(by first | omega | (dsimp only; omega) | decide | (simp only [Fconv0,Fconv1,Fconv2,Fconv3,Fconv4,Fconv5,len_say]; omega)),trivial⟩,⟨⟨(by first | omega | (dsimp only; omega) | decide | (simp only [Fconv0,Fconv1,Fconv2,Fconv3,Fconv4,Fconv5,len_say]; omega)),trivial⟩,⟨tt,trivial⟩⟩⟩⟩⟩⟩⟩⟩⟩⟩⟩⟩⟩⟩⟩⟩⟩⟩⟩⟩⟩⟩⟩⟩) ?_
       refine Tri.cond (x:=p0.e1) (by kernel_rfl) (fun h8 => ?_) (fun h8 => ?_)
       ·
        refine Tri.seq_region [] none [6] [4,0,1,2,3] (TT∧True)
          ([(6,.sc (.i .i64 3))],[(4,.cells [.ro .u8 (FwText_1 p2 p3),.b (FwText_2 p2 p3)]),(0,chC 1 2 3 p0),(1,.ints .u8 p0.wait.length p0.wait),(2,.ints .u8 p0.got.length p0.got),(3,.vec .row p0.out)])
          560 (by kernel_rfl) rfl (by kernel_rfl) (⟨tt,trivial⟩) ?_
        refine Tri.ret ?_
        repeat (first | refine thenP_ret ?_ | refine blkP_ret ?_ | refine countP_ret ?_ | refine joinP_ret ?_ | refine iterP_ret ?_)
        refine subP_done ?_
        refine endP.conv (r':=⟨.sc (.i .i64 3),[some (chC 5 6 7 p0),none,none,none,some (.cells [.ro .u8 (FwText_1 p2 p3),.b (FwText_2 p2 p3)]),some (.ints .u8 p0.wait.length p0.wait),some (.ints .u8 p0.got.length p0.got),some (.vec .row p0.out)]⟩) (by simp only [chC,Fcon,Fcon_1,Fcon_2,Fcon_3,h1,h4,h5,h6,h7,h8,sel_true,sel_false]) ?_
        exact endP.ret [(0,0),(4,4),(1,5),(2,6),(3,7)] TT (by kernel_rfl) (by kernel_rfl) tt
       ·
        refine Tri.skip ?_
        change Tri _ _ _ _ _ _
        refine Tri.seq_region [] none [8,0] [0,4,1,2,3] (TT∧(TT∧(TT∧(((5 < 14)∧True)∧(TT∧(TT∧(TT∧(TT∧(TT∧((((5 < 14)∧(1=1))∧True)∧True))))))))))
          ([(8,.sc (.s (FwText p2 p3))),(0,.sc (.p 0 0))],[(0,.cells [.b p0.server,.i .i64 p0.state,.i .u32 p0.peer,.i .i64 p0.window,.i .i64 p0.most,.i .i64 (iSub .i64 p0.room (((FwText p2 p3).size:Nat):Int)),.sl 1 0 p0.wait.length 1 none,.sl 2 0 p0.got.length 1 none,.b p0.ready,.b p0.e0,.b p0.e1,.b p0.c0,.b p0.c1,.sl 3 0 p0.out.length 1 none]),(4,.cells [.ro .u8 (FwText_1 p2 p3),.b (FwText_2 p2 p3)]),(1,.ints .u8 p0.wait.length p0.wait),(2,.ints .u8 p0.got.length p0.got),(3,.vec .row p0.out)])
          704 (by kernel_rfl) rfl (by kernel_rfl) (⟨tt,⟨tt,⟨tt,⟨⟨(by first | omega | (dsimp only; omega) | decide | (simp only [Fconv0,Fconv1,Fconv2,Fconv3,Fconv4,Fconv5,len_say]; omega)),trivial⟩,⟨tt,⟨tt,⟨tt,⟨tt,⟨tt,⟨⟨⟨(by first | omega | (dsimp only; omega) | decide | (simp only [Fconv0,Fconv1,Fconv2,Fconv3,Fconv4,Fconv5,len_say]; omega)),(rfl)⟩,trivial⟩,trivial⟩⟩⟩⟩⟩⟩⟩⟩⟩⟩) ?_
        refine Tri.region' [] none [] [0,800,4,1,3] (TT∧(TT∧(TT∧(TT∧(((7 < 14)∧True)∧(TT∧((((((True∧(1=1))∧((0 < 1)∧(((p0.got.length + ((FwText p2 p3).size)) * 1≤140737488355328)∧(p0.got.length + ((FwText p2 p3).size)≤140737488355328))))∧((FwText p2 p3).size=((FwText p2 p3).size) * 1))∧((1=1)∧(0 + p0.got.length * 1=p0.got.length)))∧True)∧(TT∧(TT∧((((7 < 14)∧(1=1))∧True)∧True))))))))))
          ([],[(0,.cells [.b p0.server,.i .i64 p0.state,.i .u32 p0.peer,.i .i64 p0.window,.i .i64 p0.most,.i .i64 (iSub .i64 p0.room (((FwText p2 p3).size:Nat):Int)),.sl 1 0 p0.wait.length 1 none,.sl 800 0 (p0.got.length + ((FwText p2 p3).size)) 1 none,.b p0.ready,.b p0.e0,.b p0.e1,.b p0.c0,.b p0.c1,.sl 3 0 p0.out.length 1 none]),(800,.ints .u8 (p0.got.length + ((FwText p2 p3).size)) (p0.got ++ (bytesI (FwText p2 p3)))),(4,.cells [.ro .u8 (FwText_1 p2 p3),.b (FwText_2 p2 p3)]),(1,.ints .u8 p0.wait.length p0.wait),(3,.vec .row p0.out)])
          864 (by kernel_rfl) rfl (by kernel_rfl) (⟨tt,⟨tt,⟨tt,⟨tt,⟨⟨(by first | omega | (dsimp only; omega) | decide | (simp only [Fconv0,Fconv1,Fconv2,Fconv3,Fconv4,Fconv5,len_say]; omega)),trivial⟩,⟨tt,⟨⟨⟨⟨⟨⟨trivial,(rfl)⟩,⟨(by first | omega | (dsimp only; omega) | decide | (simp only [Fconv0,Fconv1,Fconv2,Fconv3,Fconv4,Fconv5,len_say]; omega)),⟨(by first | omega | (dsimp only; omega) | decide | (simp only [Fconv0,Fconv1,Fconv2,Fconv3,Fconv4,Fconv5,len_say]; omega)),(by first | omega | (dsimp only; omega) | decide | (simp only [Fconv0,Fconv1,Fconv2,Fconv3,Fconv4,Fconv5,len_say]; omega))⟩⟩⟩,(by first | omega | (dsimp only; omega) | decide | (simp only [Fconv0,Fconv1,Fconv2,Fconv3,Fconv4,Fconv5,len_say]; omega))⟩,⟨(rfl),(by first | omega | (dsimp only; omega) | decide | (simp only [Fconv0,Fconv1,Fconv2,Fconv3,Fconv4,Fconv5,len_say]; omega))⟩⟩,trivial⟩,⟨tt,⟨tt,⟨⟨⟨(by first | omega | (dsimp only; omega) | decide | (simp only [Fconv0,Fconv1,Fconv2,Fconv3,Fconv4,Fconv5,len_say]; omega)),(rfl)⟩,trivial⟩,trivial⟩⟩⟩⟩⟩⟩⟩⟩⟩⟩) ?_
        change Tri _ _ _ _ _ _
        refine Tri.sub (Sub.of_eq (congrArg (fun (qq:Nat) => (([],[(0,.cells [.b p0.server,.i .i64 p0.state,.i .u32 p0.peer,.i .i64 p0.window,.i .i64 p0.most,.i .i64 (iSub .i64 p0.room (((FwText p2 p3).size:Nat):Int)),.sl 1 0 p0.wait.length 1 none,.sl 800 0 qq 1 none,.b p0.ready,.b p0.e0,.b p0.e1,.b p0.c0,.b p0.c1,.sl 3 0 p0.out.length 1 none]),(800,.ints .u8 qq (p0.got ++ (bytesI (FwText p2 p3)))),(4,.cells [.ro .u8 (FwText_1 p2 p3),.b (FwText_2 p2 p3)]),(1,.ints .u8 p0.wait.length p0.wait),(3,.vec .row p0.out)]):St)) (show p0.got.length + ((FwText p2 p3).size)=(p0.got ++ (bytesI (FwText p2 p3))).length from by simp only [List.length_append,List.length_drop,List.length_cons,List.length_nil,Nat.zero_add,Nat.sub_zero,Nat.reduceAdd,bytesI_length]))) ?_
        show Tri _ _ _ _ ([],[(0,.cells [.b p0.server,.i .i64 p0.state,.i .u32 p0.peer,.i .i64 p0.window,.i .i64 p0.most,.i .i64 (iSub .i64 p0.room (((FwText p2 p3).size:Nat):Int)),.sl 1 0 p0.wait.length 1 none,.sl 800 0 ((p0.got ++ (bytesI (FwText p2 p3))).length) 1 none,.b p0.ready,.b p0.e0,.b p0.e1,.b p0.c0,.b p0.c1,.sl 3 0 p0.out.length 1 none]),(800,.ints .u8 ((p0.got ++ (bytesI (FwText p2 p3))).length) (p0.got ++ (bytesI (FwText p2 p3)))),(4,.cells [.ro .u8 (FwText_1 p2 p3),.b (FwText_2 p2 p3)]),(1,.ints .u8 p0.wait.length p0.wait),(3,.vec .row p0.out)]) _
        refine Tri.seq_region [] none [6] [0,800,4,1,3] (TT∧True)
          ([(6,.sc (.i .i64 0))],[(0,.cells [.b p0.server,.i .i64 p0.state,.i .u32 p0.peer,.i .i64 p0.window,.i .i64 p0.most,.i .i64 (iSub .i64 p0.room (((FwText p2 p3).size:Nat):Int)),.sl 1 0 p0.wait.length 1 none,.sl 800 0 ((p0.got ++ (bytesI (FwText p2 p3))).length) 1 none,.b p0.ready,.b p0.e0,.b p0.e1,.b p0.c0,.b p0.c1,.sl 3 0 p0.out.length 1 none]),(800,.ints .u8 ((p0.got ++ (bytesI (FwText p2 p3))).length) (p0.got ++ (bytesI (FwText p2 p3)))),(4,.cells [.ro .u8 (FwText_1 p2 p3),.b (FwText_2 p2 p3)]),(1,.ints .u8 p0.wait.length p0.wait),(3,.vec .row p0.out)])
          880 (by kernel_rfl) rfl (by kernel_rfl) (⟨tt,trivial⟩) ?_
        refine Tri.ret ?_
        repeat (first | refine thenP_ret ?_ | refine blkP_ret ?_ | refine countP_ret ?_ | refine joinP_ret ?_ | refine iterP_ret ?_)
        refine subP_done ?_
        refine endP.conv (r':=⟨.sc (.i .i64 0),[some (.cells [.b p0.server,.i .i64 p0.state,.i .u32 p0.peer,.i .i64 p0.window,.i .i64 p0.most,.i .i64 (iSub .i64 p0.room (((FwText p2 p3).size:Nat):Int)),.sl 5 0 p0.wait.length 1 none,.sl 6 0 ((p0.got ++ (bytesI (FwText p2 p3))).length) 1 none,.b p0.ready,.b p0.e0,.b p0.e1,.b p0.c0,.b p0.c1,.sl 7 0 p0.out.length 1 none]),none,none,none,some (.cells [.ro .u8 (FwText_1 p2 p3),.b (FwText_2 p2 p3)]),some (.ints .u8 p0.wait.length p0.wait),some (.ints .u8 ((p0.got ++ (bytesI (FwText p2 p3))).length) (p0.got ++ (bytesI (FwText p2 p3)))),some (.vec .row p0.out)]⟩) (by simp only [chC,Fcon,Fcon_1,Fcon_2,Fcon_3,h1,h4,h5,h6,h7,h8,sel_true,sel_false]) ?_
        exact endP.ret [(0,0),(4,4),(1,5),(800,6),(3,7)] TT (by kernel_rfl) (by kernel_rfl) tt
   ·
    have h4':=eq_false_i h4
    refine Tri.seq_region [] none [88,13,0,1,2] [0,1,2,3,4] (TT∧(TT∧True))
      ([(88,.sc (.b ((p1:Int) == 96))),(13,.sc (.i .u8 p1)),(0,.sc (.p 0 0)),(1,.sc (.i .u8 p1)),(2,.sc (.p 4 0))],[(0,chC 1 2 3 p0),(1,.ints .u8 p0.wait.length p0.wait),(2,.ints .u8 p0.got.length p0.got),(3,.vec .row p0.out),(4,.cells [.ro .u8 p2,.b p3])])
      144 (by kernel_rfl) rfl (by kernel_rfl) (⟨tt,⟨tt,trivial⟩⟩) ?_
    refine Tri.cond (x:=((p1:Int) == 96)) (by kernel_rfl) (fun h9 => ?_) (fun h9 => ?_)
    ·
     have h9':=eq_true_i h9
     refine Tri.seq ?_
     refine Tri.split (!(FwEnd p2 p3)) (fun h10 => ?_) (fun h10 => ?_)
     ·
      refine Tri.seq_region [(93,qb true)] none [99,0] [4,0,1,2,3] (TT∧((TT∧True)∧(TT∧((True∧((!(FwEnd p2 p3))=true))∧(TT∧(TT∧(TT∧(TT∧(TT∧(TT∧True))))))))))
        ([(99,.sc (.b true)),(0,.sc (.p 0 0))],[(4,.cells [.ro .u8 p2,.b p3]),(0,chC 1 2 3 p0),(1,.ints .u8 p0.wait.length p0.wait),(2,.ints .u8 p0.got.length p0.got),(3,.vec .row p0.out)])
        304 (by kernel_rfl) rfl (by kernel_rfl) (⟨tt,⟨⟨tt,trivial⟩,⟨tt,⟨⟨trivial,(h10)⟩,⟨tt,⟨tt,⟨tt,⟨tt,⟨tt,⟨tt,trivial⟩⟩⟩⟩⟩⟩⟩⟩⟩⟩) ?_
      refine Tri.cond_true (by kernel_rfl) ?_
      refine Tri.seq_region [] none [6] [4,0,1,2,3] (TT∧True)
        ([(6,.sc (.i .i64 3))],[(4,.cells [.ro .u8 p2,.b p3]),(0,chC 1 2 3 p0),(1,.ints .u8 p0.wait.length p0.wait),(2,.ints .u8 p0.got.length p0.got),(3,.vec .row p0.out)])
        320 (by kernel_rfl) rfl (by kernel_rfl) (⟨tt,trivial⟩) ?_
      refine Tri.ret ?_
      repeat (first | refine thenP_ret ?_ | refine blkP_ret ?_ | refine countP_ret ?_ | refine joinP_ret ?_ | refine iterP_ret ?_)
      refine subP_done ?_
      refine endP.conv (r':=⟨.sc (.i .i64 3),[some (chC 5 6 7 p0),none,none,none,some (.cells [.ro .u8 p2,.b p3]),some (.ints .u8 p0.wait.length p0.wait),some (.ints .u8 p0.got.length p0.got),some (.vec .row p0.out)]⟩) (by simp only [chC,Fcon,Fcon_1,Fcon_2,Fcon_3,h1,h4,h9,h10,sel_true,sel_false]) ?_
      exact endP.ret [(0,0),(4,4),(1,5),(2,6),(3,7)] TT (by kernel_rfl) (by kernel_rfl) tt
     ·
      refine Tri.seq_region [(93,qb false)] none [99,0] [4,0,1,2,3] (TT∧((TT∧True)∧(TT∧((True∧((!(FwEnd p2 p3))=false))∧(TT∧(TT∧(TT∧((((0:Int)≤1∧1 < ((2:Nat):Int))∧True)∧(((10 < 14)∧True)∧(TT∧True))))))))))
        ([(99,.sc (.b p0.e1)),(0,.sc (.p 0 0))],[(4,.cells [.ro .u8 p2,.b p3]),(0,chC 1 2 3 p0),(1,.ints .u8 p0.wait.length p0.wait),(2,.ints .u8 p0.got.length p0.got),(3,.vec .row p0.out)])
        304 (by kernel_rfl) rfl (by kernel_rfl) (⟨tt,⟨⟨tt,trivial⟩,⟨tt,⟨⟨trivial,(h10)⟩,⟨tt,⟨tt,⟨tt,⟨⟨(by first | omega | (dsimp only; omega) | decide | (simp only [Fconv0,Fconv1,Fconv2,Fconv3,Fconv4,Fconv5,len_say]; omega)),trivial⟩,⟨⟨(by first | omega | (dsimp only; omega) | decide | (simp only [Fconv0,Fconv1,Fconv2,Fconv3,Fconv4,Fconv5,len_say]; omega)),trivial⟩,⟨tt,trivial⟩⟩⟩⟩⟩⟩⟩⟩⟩⟩) ?_
      refine Tri.cond (x:=p0.e1) (by kernel_rfl) (fun h11 => ?_) (fun h11 => ?_)
      ·
       refine Tri.seq_region [] none [6] [4,0,1,2,3] (TT∧True)
         ([(6,.sc (.i .i64 3))],[(4,.cells [.ro .u8 p2,.b p3]),(0,chC 1 2 3 p0),(1,.ints .u8 p0.wait.length p0.wait),(2,.ints .u8 p0.got.length p0.got),(3,.vec .row p0.out)])
         320 (by kernel_rfl) rfl (by kernel_rfl) (⟨tt,trivial⟩) ?_
       refine Tri.ret ?_
       repeat (first | refine thenP_ret ?_ | refine blkP_ret ?_ | refine countP_ret ?_ | refine joinP_ret ?_ | refine iterP_ret ?_)
       refine subP_done ?_
       refine endP.conv (r':=⟨.sc (.i .i64 3),[some (chC 5 6 7 p0),none,none,none,some (.cells [.ro .u8 p2,.b p3]),some (.ints .u8 p0.wait.length p0.wait),some (.ints .u8 p0.got.length p0.got),some (.vec .row p0.out)]⟩) (by simp only [chC,Fcon,Fcon_1,Fcon_2,Fcon_3,h1,h4,h9,h10,h11,sel_true,sel_false]) ?_
       exact endP.ret [(0,0),(4,4),(1,5),(2,6),(3,7)] TT (by kernel_rfl) (by kernel_rfl) tt
      ·
       refine Tri.skip ?_
       change Tri _ _ _ _ _ _
       refine Tri.region' [] none [] [0,4,1,2,3] (TT∧(TT∧(TT∧((((0:Int)≤1∧1 < ((2:Nat):Int))∧True)∧((((10 < 14)∧(1=1))∧True)∧True)))))
         ([],[(0,.cells [.b p0.server,.i .i64 p0.state,.i .u32 p0.peer,.i .i64 p0.window,.i .i64 p0.most,.i .i64 p0.room,.sl 1 0 p0.wait.length 1 none,.sl 2 0 p0.got.length 1 none,.b p0.ready,.b p0.e0,.b true,.b p0.c0,.b p0.c1,.sl 3 0 p0.out.length 1 none]),(4,.cells [.ro .u8 p2,.b p3]),(1,.ints .u8 p0.wait.length p0.wait),(2,.ints .u8 p0.got.length p0.got),(3,.vec .row p0.out)])
         384 (by kernel_rfl) rfl (by kernel_rfl) (⟨tt,⟨tt,⟨tt,⟨⟨(by first | omega | (dsimp only; omega) | decide | (simp only [Fconv0,Fconv1,Fconv2,Fconv3,Fconv4,Fconv5,len_say]; omega)),trivial⟩,⟨⟨⟨(by first | omega | (dsimp only; omega) | decide | (simp only [Fconv0,Fconv1,Fconv2,Fconv3,Fconv4,Fconv5,len_say]; omega)),(rfl)⟩,trivial⟩,trivial⟩⟩⟩⟩⟩) ?_
       change Tri _ _ _ _ _ _
       refine Tri.seq_region [] none [6] [0,4,1,2,3] (TT∧True)
         ([(6,.sc (.i .i64 0))],[(0,.cells [.b p0.server,.i .i64 p0.state,.i .u32 p0.peer,.i .i64 p0.window,.i .i64 p0.most,.i .i64 p0.room,.sl 1 0 p0.wait.length 1 none,.sl 2 0 p0.got.length 1 none,.b p0.ready,.b p0.e0,.b true,.b p0.c0,.b p0.c1,.sl 3 0 p0.out.length 1 none]),(4,.cells [.ro .u8 p2,.b p3]),(1,.ints .u8 p0.wait.length p0.wait),(2,.ints .u8 p0.got.length p0.got),(3,.vec .row p0.out)])
         400 (by kernel_rfl) rfl (by kernel_rfl) (⟨tt,trivial⟩) ?_
       refine Tri.ret ?_
       repeat (first | refine thenP_ret ?_ | refine blkP_ret ?_ | refine countP_ret ?_ | refine joinP_ret ?_ | refine iterP_ret ?_)
       refine subP_done ?_
       refine endP.conv (r':=⟨.sc (.i .i64 0),[some (.cells [.b p0.server,.i .i64 p0.state,.i .u32 p0.peer,.i .i64 p0.window,.i .i64 p0.most,.i .i64 p0.room,.sl 5 0 p0.wait.length 1 none,.sl 6 0 p0.got.length 1 none,.b p0.ready,.b p0.e0,.b true,.b p0.c0,.b p0.c1,.sl 7 0 p0.out.length 1 none]),none,none,none,some (.cells [.ro .u8 p2,.b p3]),some (.ints .u8 p0.wait.length p0.wait),some (.ints .u8 p0.got.length p0.got),some (.vec .row p0.out)]⟩) (by simp only [chC,Fcon,Fcon_1,Fcon_2,Fcon_3,h1,h4,h9,h10,h11,sel_true,sel_false]) ?_
       exact endP.ret [(0,0),(4,4),(1,5),(2,6),(3,7)] TT (by kernel_rfl) (by kernel_rfl) tt
    ·
     have h9':=eq_false_i h9
     refine Tri.seq_region [] none [104,13,0,1,2] [0,1,2,3,4] (TT∧(TT∧True))
       ([(104,.sc (.b ((p1:Int) == 97))),(13,.sc (.i .u8 p1)),(0,.sc (.p 0 0)),(1,.sc (.i .u8 p1)),(2,.sc (.p 4 0))],[(0,chC 1 2 3 p0),(1,.ints .u8 p0.wait.length p0.wait),(2,.ints .u8 p0.got.length p0.got),(3,.vec .row p0.out),(4,.cells [.ro .u8 p2,.b p3])])
       176 (by kernel_rfl) rfl (by kernel_rfl) (⟨tt,⟨tt,trivial⟩⟩) ?_
     refine Tri.cond (x:=((p1:Int) == 97)) (by kernel_rfl) (fun h12 => ?_) (fun h12 => ?_)
     ·
      have h12':=eq_true_i h12
      refine Tri.seq ?_
      refine Tri.seq_region [] none [108,0] [4,0,1,2,3] (TT∧((TT∧True)∧(TT∧True)))
        ([(108,.sc (.b (!(FwEnd p2 p3)))),(0,.sc (.p 0 0))],[(4,.cells [.ro .u8 p2,.b p3]),(0,chC 1 2 3 p0),(1,.ints .u8 p0.wait.length p0.wait),(2,.ints .u8 p0.got.length p0.got),(3,.vec .row p0.out)])
        224 (by kernel_rfl) rfl (by kernel_rfl) (⟨tt,⟨⟨tt,trivial⟩,⟨tt,trivial⟩⟩⟩) ?_
      refine Tri.cond (x:=(!(FwEnd p2 p3))) (by kernel_rfl) (fun h13 => ?_) (fun h13 => ?_)
      ·
       refine Tri.seq_region [] none [6] [4,0,1,2,3] (TT∧True)
         ([(6,.sc (.i .i64 3))],[(4,.cells [.ro .u8 p2,.b p3]),(0,chC 1 2 3 p0),(1,.ints .u8 p0.wait.length p0.wait),(2,.ints .u8 p0.got.length p0.got),(3,.vec .row p0.out)])
         240 (by kernel_rfl) rfl (by kernel_rfl) (⟨tt,trivial⟩) ?_
       refine Tri.ret ?_
       repeat (first | refine thenP_ret ?_ | refine blkP_ret ?_ | refine countP_ret ?_ | refine joinP_ret ?_ | refine iterP_ret ?_)
       refine subP_done ?_
       refine endP.conv (r':=⟨.sc (.i .i64 3),[some (chC 5 6 7 p0),none,none,none,some (.cells [.ro .u8 p2,.b p3]),some (.ints .u8 p0.wait.length p0.wait),some (.ints .u8 p0.got.length p0.got),some (.vec .row p0.out)]⟩) (by simp only [chC,Fcon,Fcon_1,Fcon_2,Fcon_3,h1,h4,h9,h12,h13,sel_true,sel_false]) ?_
       exact endP.ret [(0,0),(4,4),(1,5),(2,6),(3,7)] TT (by kernel_rfl) (by kernel_rfl) tt
      ·
       refine Tri.skip ?_
       change Tri _ _ _ _ _ _
       refine Tri.seq ?_
       refine Tri.seq_region [] none [0] [0,4,1,2,3] (TT∧(TT∧(TT∧((((0:Int)≤1∧1 < ((2:Nat):Int))∧True)∧((((12 < 14)∧(1=1))∧True)∧True)))))
         ([(0,.sc (.p 0 0))],[(0,.cells [.b p0.server,.i .i64 p0.state,.i .u32 p0.peer,.i .i64 p0.window,.i .i64 p0.most,.i .i64 p0.room,.sl 1 0 p0.wait.length 1 none,.sl 2 0 p0.got.length 1 none,.b p0.ready,.b p0.e0,.b p0.e1,.b p0.c0,.b true,.sl 3 0 p0.out.length 1 none]),(4,.cells [.ro .u8 p2,.b p3]),(1,.ints .u8 p0.wait.length p0.wait),(2,.ints .u8 p0.got.length p0.got),(3,.vec .row p0.out)])
         304 (by kernel_rfl) rfl (by kernel_rfl) (⟨tt,⟨tt,⟨tt,⟨⟨(by first | omega | (dsimp only; omega) | decide | (simp only [Fconv0,Fconv1,Fconv2,Fconv3,Fconv4,Fconv5,len_say]; omega)),trivial⟩,⟨⟨⟨(by first | omega | (dsimp only; omega) | decide | (simp only [Fconv0,Fconv1,Fconv2,Fconv3,Fconv4,Fconv5,len_say]; omega)),(rfl)⟩,trivial⟩,trivial⟩⟩⟩⟩⟩) ?_
       refine Tri.seq_region [] none [118,0] [0,4,1,2,3] (TT∧(TT∧(TT∧((((0:Int)≤0∧0 < ((2:Nat):Int))∧True)∧(((11 < 14)∧True)∧(TT∧True))))))
         ([(118,.sc (.b (!p0.c0))),(0,.sc (.p 0 0))],[(0,.cells [.b p0.server,.i .i64 p0.state,.i .u32 p0.peer,.i .i64 p0.window,.i .i64 p0.most,.i .i64 p0.room,.sl 1 0 p0.wait.length 1 none,.sl 2 0 p0.got.length 1 none,.b p0.ready,.b p0.e0,.b p0.e1,.b p0.c0,.b true,.sl 3 0 p0.out.length 1 none]),(4,.cells [.ro .u8 p2,.b p3]),(1,.ints .u8 p0.wait.length p0.wait),(2,.ints .u8 p0.got.length p0.got),(3,.vec .row p0.out)])
         400 (by kernel_rfl) rfl (by kernel_rfl) (⟨tt,⟨tt,⟨tt,⟨⟨(by first | omega | (dsimp only; omega) | decide | (simp only [Fconv0,Fconv1,Fconv2,Fconv3,Fconv4,Fconv5,len_say]; omega)),trivial⟩,⟨⟨(by first | omega | (dsimp only; omega) | decide | (simp only [Fconv0,Fconv1,Fconv2,Fconv3,Fconv4,Fconv5,len_say]; omega)),trivial⟩,⟨tt,trivial⟩⟩⟩⟩⟩⟩) ?_
       refine Tri.cond (x:=(!p0.c0)) (by kernel_rfl) (fun h14 => ?_) (fun h14 => ?_)
       ·
        refine Tri.region' [] none [0] [418,417,416,0,4] (TT∧(((True∧((chLens (({p0 with c1:=true}:Ch).wait.length) (({p0 with c1:=true}:Ch).got.length) (({p0 with c1:=true}:Ch).out.length) (({p0 with c1:=true}:Ch).wait.length) (({p0 with c1:=true}:Ch).got.length) ({p0 with c1:=true}:Ch))∧(({p0 with c1:=true}:Ch).out.length≤900000000)))∧True)∧True))
          ([(0,.sc (.p 0 0))],[(418,.vec .row ((Fcbye ({p0 with c1:=true}:Ch)).out)),(417,.ints .u8 ((Fcbye ({p0 with c1:=true}:Ch)).got.length) ((Fcbye ({p0 with c1:=true}:Ch)).got)),(416,.ints .u8 ((Fcbye ({p0 with c1:=true}:Ch)).wait.length) ((Fcbye ({p0 with c1:=true}:Ch)).wait)),(0,chC 416 417 418 (Fcbye ({p0 with c1:=true}:Ch))),(4,.cells [.ro .u8 p2,.b p3])])
          432 (by kernel_rfl) rfl (by kernel_rfl) (⟨tt,⟨⟨⟨trivial,⟨(chLens_self _),(by first | omega | (dsimp only; omega) | decide | (simp only [Fconv0,Fconv1,Fconv2,Fconv3,Fconv4,Fconv5,len_say]; omega))⟩⟩,trivial⟩,trivial⟩⟩) ?_
        change Tri _ _ _ _ _ _
        refine Tri.region' [] none [] [0,418,417,416,4] (TT∧(TT∧(TT∧((((1 < 14)∧(1=1))∧True)∧True))))
          ([],[(0,.cells [.b ((Fcbye ({p0 with c1:=true}:Ch)).server),.i .i64 3,.i .u32 ((Fcbye ({p0 with c1:=true}:Ch)).peer),.i .i64 ((Fcbye ({p0 with c1:=true}:Ch)).window),.i .i64 ((Fcbye ({p0 with c1:=true}:Ch)).most),.i .i64 ((Fcbye ({p0 with c1:=true}:Ch)).room),.sl 416 0 ((Fcbye ({p0 with c1:=true}:Ch)).wait.length) 1 none,.sl 417 0 ((Fcbye ({p0 with c1:=true}:Ch)).got.length) 1 none,.b ((Fcbye ({p0 with c1:=true}:Ch)).ready),.b ((Fcbye ({p0 with c1:=true}:Ch)).e0),.b ((Fcbye ({p0 with c1:=true}:Ch)).e1),.b ((Fcbye ({p0 with c1:=true}:Ch)).c0),.b ((Fcbye ({p0 with c1:=true}:Ch)).c1),.sl 418 0 ((Fcbye ({p0 with c1:=true}:Ch)).out.length) 1 none]),(418,.vec .row ((Fcbye ({p0 with c1:=true}:Ch)).out)),(417,.ints .u8 ((Fcbye ({p0 with c1:=true}:Ch)).got.length) ((Fcbye ({p0 with c1:=true}:Ch)).got)),(416,.ints .u8 ((Fcbye ({p0 with c1:=true}:Ch)).wait.length) ((Fcbye ({p0 with c1:=true}:Ch)).wait)),(4,.cells [.ro .u8 p2,.b p3])])
          496 (by kernel_rfl) rfl (by kernel_rfl) (⟨tt,⟨tt,⟨tt,⟨⟨⟨(by first | omega | (dsimp only; omega) | decide | (simp only [Fconv0,Fconv1,Fconv2,Fconv3,Fconv4,Fconv5,len_say]; omega)),(rfl)⟩,trivial⟩,trivial⟩⟩⟩⟩) ?_
        change Tri _ _ _ _ _ _
        refine Tri.seq_region [] none [6] [0,418,417,416,4] (TT∧True)
          ([(6,.sc (.i .i64 0))],[(0,.cells [.b ((Fcbye ({p0 with c1:=true}:Ch)).server),.i .i64 3,.i .u32 ((Fcbye ({p0 with c1:=true}:Ch)).peer),.i .i64 ((Fcbye ({p0 with c1:=true}:Ch)).window),.i .i64 ((Fcbye ({p0 with c1:=true}:Ch)).most),.i .i64 ((Fcbye ({p0 with c1:=true}:Ch)).room),.sl 416 0 ((Fcbye ({p0 with c1:=true}:Ch)).wait.length) 1 none,.sl 417 0 ((Fcbye ({p0 with c1:=true}:Ch)).got.length) 1 none,.b ((Fcbye ({p0 with c1:=true}:Ch)).ready),.b ((Fcbye ({p0 with c1:=true}:Ch)).e0),.b ((Fcbye ({p0 with c1:=true}:Ch)).e1),.b ((Fcbye ({p0 with c1:=true}:Ch)).c0),.b ((Fcbye ({p0 with c1:=true}:Ch)).c1),.sl 418 0 ((Fcbye ({p0 with c1:=true}:Ch)).out.length) 1 none]),(418,.vec .row ((Fcbye ({p0 with c1:=true}:Ch)).out)),(417,.ints .u8 ((Fcbye ({p0 with c1:=true}:Ch)).got.length) ((Fcbye ({p0 with c1:=true}:Ch)).got)),(416,.ints .u8 ((Fcbye ({p0 with c1:=true}:Ch)).wait.length) ((Fcbye ({p0 with c1:=true}:Ch)).wait)),(4,.cells [.ro .u8 p2,.b p3])])
          512 (by kernel_rfl) rfl (by kernel_rfl) (⟨tt,trivial⟩) ?_
        refine Tri.ret ?_
        repeat (first | refine thenP_ret ?_ | refine blkP_ret ?_ | refine countP_ret ?_ | refine joinP_ret ?_ | refine iterP_ret ?_)
        refine subP_done ?_
        refine endP.conv (r':=⟨.sc (.i .i64 0),[some (.cells [.b ((Fcbye ({p0 with c1:=true}:Ch)).server),.i .i64 3,.i .u32 ((Fcbye ({p0 with c1:=true}:Ch)).peer),.i .i64 ((Fcbye ({p0 with c1:=true}:Ch)).window),.i .i64 ((Fcbye ({p0 with c1:=true}:Ch)).most),.i .i64 ((Fcbye ({p0 with c1:=true}:Ch)).room),.sl 5 0 ((Fcbye ({p0 with c1:=true}:Ch)).wait.length) 1 none,.sl 6 0 ((Fcbye ({p0 with c1:=true}:Ch)).got.length) 1 none,.b ((Fcbye ({p0 with c1:=true}:Ch)).ready),.b ((Fcbye ({p0 with c1:=true}:Ch)).e0),.b ((Fcbye ({p0 with c1:=true}:Ch)).e1),.b ((Fcbye ({p0 with c1:=true}:Ch)).c0),.b ((Fcbye ({p0 with c1:=true}:Ch)).c1),.sl 7 0 ((Fcbye ({p0 with c1:=true}:Ch)).out.length) 1 none]),none,none,none,some (.cells [.ro .u8 p2,.b p3]),some (.ints .u8 ((Fcbye ({p0 with c1:=true}:Ch)).wait.length) ((Fcbye ({p0 with c1:=true}:Ch)).wait)),some (.ints .u8 ((Fcbye ({p0 with c1:=true}:Ch)).got.length) ((Fcbye ({p0 with c1:=true}:Ch)).got)),some (.vec .row ((Fcbye ({p0 with c1:=true}:Ch)).out))]⟩) (by simp only [chC,Fcon,Fcon_1,Fcon_2,Fcon_3,h1,h4,h9,h12,h13,h14,sel_true,sel_false]) ?_
        exact endP.ret [(0,0),(4,4),(416,5),(417,6),(418,7)] TT (by kernel_rfl) (by kernel_rfl) tt
       ·
        refine Tri.skip ?_
        change Tri _ _ _ _ _ _
        refine Tri.region' [] none [] [0,4,1,2,3] (TT∧(TT∧(TT∧((((1 < 14)∧(1=1))∧True)∧True))))
          ([],[(0,.cells [.b p0.server,.i .i64 3,.i .u32 p0.peer,.i .i64 p0.window,.i .i64 p0.most,.i .i64 p0.room,.sl 1 0 p0.wait.length 1 none,.sl 2 0 p0.got.length 1 none,.b p0.ready,.b p0.e0,.b p0.e1,.b p0.c0,.b true,.sl 3 0 p0.out.length 1 none]),(4,.cells [.ro .u8 p2,.b p3]),(1,.ints .u8 p0.wait.length p0.wait),(2,.ints .u8 p0.got.length p0.got),(3,.vec .row p0.out)])
          464 (by kernel_rfl) rfl (by kernel_rfl) (⟨tt,⟨tt,⟨tt,⟨⟨⟨(by first | omega | (dsimp only; omega) | decide | (simp only [Fconv0,Fconv1,Fconv2,Fconv3,Fconv4,Fconv5,len_say]; omega)),(rfl)⟩,trivial⟩,trivial⟩⟩⟩⟩) ?_
        change Tri _ _ _ _ _ _
        refine Tri.seq_region [] none [6] [0,4,1,2,3] (TT∧True)
          ([(6,.sc (.i .i64 0))],[(0,.cells [.b p0.server,.i .i64 3,.i .u32 p0.peer,.i .i64 p0.window,.i .i64 p0.most,.i .i64 p0.room,.sl 1 0 p0.wait.length 1 none,.sl 2 0 p0.got.length 1 none,.b p0.ready,.b p0.e0,.b p0.e1,.b p0.c0,.b true,.sl 3 0 p0.out.length 1 none]),(4,.cells [.ro .u8 p2,.b p3]),(1,.ints .u8 p0.wait.length p0.wait),(2,.ints .u8 p0.got.length p0.got),(3,.vec .row p0.out)])
          480 (by kernel_rfl) rfl (by kernel_rfl) (⟨tt,trivial⟩) ?_
        refine Tri.ret ?_
        repeat (first | refine thenP_ret ?_ | refine blkP_ret ?_ | refine countP_ret ?_ | refine joinP_ret ?_ | refine iterP_ret ?_)
        refine subP_done ?_
        refine endP.conv (r':=⟨.sc (.i .i64 0),[some (.cells [.b p0.server,.i .i64 3,.i .u32 p0.peer,.i .i64 p0.window,.i .i64 p0.most,.i .i64 p0.room,.sl 5 0 p0.wait.length 1 none,.sl 6 0 p0.got.length 1 none,.b p0.ready,.b p0.e0,.b p0.e1,.b p0.c0,.b true,.sl 7 0 p0.out.length 1 none]),none,none,none,some (.cells [.ro .u8 p2,.b p3]),some (.ints .u8 p0.wait.length p0.wait),some (.ints .u8 p0.got.length p0.got),some (.vec .row p0.out)]⟩) (by simp only [chC,Fcon,Fcon_1,Fcon_2,Fcon_3,h1,h4,h9,h12,h13,h14,sel_true,sel_false]) ?_
        exact endP.ret [(0,0),(4,4),(1,5),(2,6),(3,7)] TT (by kernel_rfl) (by kernel_rfl) tt
     ·
      have h12':=eq_false_i h12
      refine Tri.seq_region [] none [124,13,0,1,2] [0,1,2,3,4] (TT∧(TT∧True))
        ([(124,.sc (.b ((p1:Int) == 98))),(13,.sc (.i .u8 p1)),(0,.sc (.p 0 0)),(1,.sc (.i .u8 p1)),(2,.sc (.p 4 0))],[(0,chC 1 2 3 p0),(1,.ints .u8 p0.wait.length p0.wait),(2,.ints .u8 p0.got.length p0.got),(3,.vec .row p0.out),(4,.cells [.ro .u8 p2,.b p3])])
        208 (by kernel_rfl) rfl (by kernel_rfl) (⟨tt,⟨tt,trivial⟩⟩) ?_
      refine Tri.cond (x:=((p1:Int) == 98)) (by kernel_rfl) (fun h15 => ?_) (fun h15 => ?_)
      ·
       have h15':=eq_true_i h15
       refine Tri.seq_region [] none [10,9,0,2] [4,0,1,2,3] (TT∧((TT∧True)∧(TT∧((TT∧True)∧(TT∧(TT∧True))))))
         ([(10,.sc (.b (FwFlag (FwText_1 p2 p3) (FwText_2 p2 p3)))),(9,.sc (.s (FwText p2 p3))),(0,.sc (.p 0 0)),(2,.sc (.p 4 0))],[(4,.cells [.ro .u8 (FwFlag_1 (FwText_1 p2 p3) (FwText_2 p2 p3)),.b (FwFlag_2 (FwText_1 p2 p3) (FwText_2 p2 p3))]),(0,chC 1 2 3 p0),(1,.ints .u8 p0.wait.length p0.wait),(2,.ints .u8 p0.got.length p0.got),(3,.vec .row p0.out)])
         304 (by kernel_rfl) rfl (by kernel_rfl) (⟨tt,⟨⟨tt,trivial⟩,⟨tt,⟨⟨tt,trivial⟩,⟨tt,⟨tt,trivial⟩⟩⟩⟩⟩⟩) ?_
       refine Tri.split (strEq (FwText p2 p3) (⟨#[115,117,98,115,121,115,116,101,109]⟩:ByteArray)) (fun h16 => ?_) (fun h16 => ?_)
       ·
        refine Tri.split (strEq (FwText (FwFlag_1 (FwText_1 p2 p3) (FwText_2 p2 p3)) (FwFlag_2 (FwText_1 p2 p3) (FwText_2 p2 p3))) (⟨#[110,101,116,99,111,110,102]⟩:ByteArray)) (fun h17 => ?_) (fun h17 => ?_)
        ·
         refine Tri.split (FwEnd (FwText_1 (FwFlag_1 (FwText_1 p2 p3) (FwText_2 p2 p3)) (FwFlag_2 (FwText_1 p2 p3) (FwText_2 p2 p3))) (FwText_2 (FwFlag_1 (FwText_1 p2 p3) (FwText_2 p2 p3)) (FwFlag_2 (FwText_1 p2 p3) (FwText_2 p2 p3)))) (fun h18 => ?_) (fun h18 => ?_)
         ·
          refine Tri.split p0.server (fun h19 => ?_) (fun h19 => ?_)
          ·
           refine Tri.seq_region [(132,qb true),(137,qb true),(141,qb true),(147,qb true)] none [11,10,0,2] [4,0,1,2,3] (TT∧(TT∧((True∧((strEq (FwText p2 p3) (⟨#[115,117,98,115,121,115,116,101,109]⟩:ByteArray))=true))∧(TT∧((TT∧True)∧(TT∧(TT∧((True∧((strEq (FwText (FwFlag_1 (FwText_1 p2 p3) (FwText_2 p2 p3)) (FwFlag_2 (FwText_1 p2 p3) (FwText_2 p2 p3))) (⟨#[110,101,116,99,111,110,102]⟩:ByteArray))=true))∧(TT∧((TT∧True)∧(TT∧((True∧((FwEnd (FwText_1 (FwFlag_1 (FwText_1 p2 p3) (FwText_2 p2 p3)) (FwFlag_2 (FwText_1 p2 p3) (FwText_2 p2 p3))) (FwText_2 (FwFlag_1 (FwText_1 p2 p3) (FwText_2 p2 p3)) (FwFlag_2 (FwText_1 p2 p3) (FwText_2 p2 p3))))=true))∧(TT∧(TT∧(TT∧(((0 < 14)∧True)∧(TT∧((True∧(p0.server=true))∧(TT∧(TT∧(TT∧(((8 < 14)∧True)∧(TT∧(TT∧(TT∧True)))))))))))))))))))))))))
             ([(11,.sc (.b (!p0.ready))),(10,.sc (.b (FwFlag (FwText_1 p2 p3) (FwText_2 p2 p3)))),(0,.sc (.p 0 0)),(2,.sc (.p 4 0))],[(4,.cells [.ro .u8 (FwText_1 (FwFlag_1 (FwText_1 p2 p3) (FwText_2 p2 p3)) (FwFlag_2 (FwText_1 p2 p3) (FwText_2 p2 p3))),.b (FwText_2 (FwFlag_1 (FwText_1 p2 p3) (FwText_2 p2 p3)) (FwFlag_2 (FwText_1 p2 p3) (FwText_2 p2 p3)))]),(0,chC 1 2 3 p0),(1,.ints .u8 p0.wait.length p0.wait),(2,.ints .u8 p0.got.length p0.got),(3,.vec .row p0.out)])
             704 (by kernel_rfl) rfl (by kernel_rfl) (⟨tt,⟨tt,⟨⟨trivial,(h16)⟩,⟨tt,⟨⟨tt,trivial⟩,⟨tt,⟨tt,⟨⟨trivial,(h17)⟩,⟨tt,⟨⟨tt,trivial⟩,⟨tt,⟨⟨trivial,(h18)⟩,⟨tt,⟨tt,⟨tt,⟨⟨(by first | omega | (dsimp only; omega) | decide | (simp only [Fconv0,Fconv1,Fconv2,Fconv3,Fconv4,Fconv5,len_say]; omega)),trivial⟩,⟨tt,⟨⟨trivial,(h19)⟩,⟨tt,⟨tt,⟨tt,⟨⟨(by first | omega | (dsimp only; omega) | decide | (simp only [Fconv0,Fconv1,Fconv2,Fconv3,Fconv4,Fconv5,len_say]; omega)),trivial⟩,⟨tt,⟨tt,⟨tt,trivial⟩⟩⟩⟩⟩⟩⟩⟩⟩⟩⟩⟩⟩⟩⟩⟩⟩⟩⟩⟩⟩⟩⟩⟩⟩) ?_
           refine Tri.seq ?_
           refine Tri.seq_region [] none [156,11,10,0] [4,0,1,2,3] (TT∧((TT∧True)∧(TT∧True)))
             ([(156,.sc (.b (!(FwOk (FwText_1 (FwFlag_1 (FwText_1 p2 p3) (FwText_2 p2 p3)) (FwFlag_2 (FwText_1 p2 p3) (FwText_2 p2 p3))) (FwText_2 (FwFlag_1 (FwText_1 p2 p3) (FwText_2 p2 p3)) (FwFlag_2 (FwText_1 p2 p3) (FwText_2 p2 p3))))))),(11,.sc (.b (!p0.ready))),(10,.sc (.b (FwFlag (FwText_1 p2 p3) (FwText_2 p2 p3)))),(0,.sc (.p 0 0))],[(4,.cells [.ro .u8 (FwText_1 (FwFlag_1 (FwText_1 p2 p3) (FwText_2 p2 p3)) (FwFlag_2 (FwText_1 p2 p3) (FwText_2 p2 p3))),.b (FwText_2 (FwFlag_1 (FwText_1 p2 p3) (FwText_2 p2 p3)) (FwFlag_2 (FwText_1 p2 p3) (FwText_2 p2 p3)))]),(0,chC 1 2 3 p0),(1,.ints .u8 p0.wait.length p0.wait),(2,.ints .u8 p0.got.length p0.got),(3,.vec .row p0.out)])
             752 (by kernel_rfl) rfl (by kernel_rfl) (⟨tt,⟨⟨tt,trivial⟩,⟨tt,trivial⟩⟩⟩) ?_
           refine Tri.cond (x:=(!(FwOk (FwText_1 (FwFlag_1 (FwText_1 p2 p3) (FwText_2 p2 p3)) (FwFlag_2 (FwText_1 p2 p3) (FwText_2 p2 p3))) (FwText_2 (FwFlag_1 (FwText_1 p2 p3) (FwText_2 p2 p3)) (FwFlag_2 (FwText_1 p2 p3) (FwText_2 p2 p3)))))) (by kernel_rfl) (fun h20 => ?_) (fun h20 => ?_)
           ·
            refine Tri.seq_region [] none [6] [4,0,1,2,3] (TT∧True)
              ([(6,.sc (.i .i64 3))],[(4,.cells [.ro .u8 (FwText_1 (FwFlag_1 (FwText_1 p2 p3) (FwText_2 p2 p3)) (FwFlag_2 (FwText_1 p2 p3) (FwText_2 p2 p3))),.b (FwText_2 (FwFlag_1 (FwText_1 p2 p3) (FwText_2 p2 p3)) (FwFlag_2 (FwText_1 p2 p3) (FwText_2 p2 p3)))]),(0,chC 1 2 3 p0),(1,.ints .u8 p0.wait.length p0.wait),(2,.ints .u8 p0.got.length p0.got),(3,.vec .row p0.out)])
              768 (by kernel_rfl) rfl (by kernel_rfl) (⟨tt,trivial⟩) ?_
            refine Tri.ret ?_
            repeat (first | refine thenP_ret ?_ | refine blkP_ret ?_ | refine countP_ret ?_ | refine joinP_ret ?_ | refine iterP_ret ?_)
            refine subP_done ?_
            refine endP.conv (r':=⟨.sc (.i .i64 3),[some (chC 5 6 7 p0),none,none,none,some (.cells [.ro .u8 (FwText_1 (FwFlag_1 (FwText_1 p2 p3) (FwText_2 p2 p3)) (FwFlag_2 (FwText_1 p2 p3) (FwText_2 p2 p3))),.b (FwText_2 (FwFlag_1 (FwText_1 p2 p3) (FwText_2 p2 p3)) (FwFlag_2 (FwText_1 p2 p3) (FwText_2 p2 p3)))]),some (.ints .u8 p0.wait.length p0.wait),some (.ints .u8 p0.got.length p0.got),some (.vec .row p0.out)]⟩) (by simp only [chC,Fcon,Fcon_1,Fcon_2,Fcon_3,h1,h4,h9,h12,h15,h16,h17,h18,h19,h20,sel_true,sel_false]) ?_
            exact endP.ret [(0,0),(4,4),(1,5),(2,6),(3,7)] TT (by kernel_rfl) (by kernel_rfl) tt
           ·
            refine Tri.skip ?_
            change Tri _ _ _ _ _ _
            refine Tri.split p0.ready (fun h21 => ?_) (fun h21 => ?_)
            ·
             refine Tri.seq_region [(162,qb true)] none [11,10,0] [0,4,1,2,3] (TT∧(TT∧(TT∧(TT∧(((8 < 14)∧True)∧((True∧(p0.ready=true))∧(TT∧(TT∧(TT∧(TT∧((((8 < 14)∧(1=1))∧True)∧True)))))))))))
               ([(11,.sc (.b (!p0.ready))),(10,.sc (.b (FwFlag (FwText_1 p2 p3) (FwText_2 p2 p3)))),(0,.sc (.p 0 0))],[(0,.cells [.b p0.server,.i .i64 p0.state,.i .u32 p0.peer,.i .i64 p0.window,.i .i64 p0.most,.i .i64 p0.room,.sl 1 0 p0.wait.length 1 none,.sl 2 0 p0.got.length 1 none,.b true,.b p0.e0,.b p0.e1,.b p0.c0,.b p0.c1,.sl 3 0 p0.out.length 1 none]),(4,.cells [.ro .u8 (FwText_1 (FwFlag_1 (FwText_1 p2 p3) (FwText_2 p2 p3)) (FwFlag_2 (FwText_1 p2 p3) (FwText_2 p2 p3))),.b (FwText_2 (FwFlag_1 (FwText_1 p2 p3) (FwText_2 p2 p3)) (FwFlag_2 (FwText_1 p2 p3) (FwText_2 p2 p3)))]),(1,.ints .u8 p0.wait.length p0.wait),(2,.ints .u8 p0.got.length p0.got),(3,.vec .row p0.out)])
               928 (by kernel_rfl) rfl (by kernel_rfl) (⟨tt,⟨tt,⟨tt,⟨tt,⟨⟨(by first | omega | (dsimp only; omega) | decide | (simp only [Fconv0,Fconv1,Fconv2,Fconv3,Fconv4,Fconv5,len_say]; omega)),trivial⟩,⟨⟨trivial,(h21)⟩,⟨tt,⟨tt,⟨tt,⟨tt,⟨⟨⟨(by first | omega | (dsimp only; omega) | decide | (simp only [Fconv0,Fconv1,Fconv2,Fconv3,Fconv4,Fconv5,len_say]; omega)),(rfl)⟩,trivial⟩,trivial⟩⟩⟩⟩⟩⟩⟩⟩⟩⟩⟩) ?_
             refine Tri.seq_region [] none [167,11,0] [0,4,1,2,3] (TT∧True)
               ([(167,.sc (.b (FwFlag (FwText_1 p2 p3) (FwText_2 p2 p3)))),(11,.sc (.b (!p0.ready))),(0,.sc (.p 0 0))],[(0,.cells [.b p0.server,.i .i64 p0.state,.i .u32 p0.peer,.i .i64 p0.window,.i .i64 p0.most,.i .i64 p0.room,.sl 1 0 p0.wait.length 1 none,.sl 2 0 p0.got.length 1 none,.b true,.b p0.e0,.b p0.e1,.b p0.c0,.b p0.c1,.sl 3 0 p0.out.length 1 none]),(4,.cells [.ro .u8 (FwText_1 (FwFlag_1 (FwText_1 p2 p3) (FwText_2 p2 p3)) (FwFlag_2 (FwText_1 p2 p3) (FwText_2 p2 p3))),.b (FwText_2 (FwFlag_1 (FwText_1 p2 p3) (FwText_2 p2 p3)) (FwFlag_2 (FwText_1 p2 p3) (FwText_2 p2 p3)))]),(1,.ints .u8 p0.wait.length p0.wait),(2,.ints .u8 p0.got.length p0.got),(3,.vec .row p0.out)])
               944 (by kernel_rfl) rfl (by kernel_rfl) (⟨tt,trivial⟩) ?_
             refine Tri.cond (x:=(FwFlag (FwText_1 p2 p3) (FwText_2 p2 p3))) (by kernel_rfl) (fun h22 => ?_) (fun h22 => ?_)
             ·
              refine Tri.seq_region [] none [12,11,0] [0,4,1,2,3] (TT∧True)
                ([(12,.sc (.i .u8 100)),(11,.sc (.b (!p0.ready))),(0,.sc (.p 0 0))],[(0,.cells [.b p0.server,.i .i64 p0.state,.i .u32 p0.peer,.i .i64 p0.window,.i .i64 p0.most,.i .i64 p0.room,.sl 1 0 p0.wait.length 1 none,.sl 2 0 p0.got.length 1 none,.b true,.b p0.e0,.b p0.e1,.b p0.c0,.b p0.c1,.sl 3 0 p0.out.length 1 none]),(4,.cells [.ro .u8 (FwText_1 (FwFlag_1 (FwText_1 p2 p3) (FwText_2 p2 p3)) (FwFlag_2 (FwText_1 p2 p3) (FwText_2 p2 p3))),.b (FwText_2 (FwFlag_1 (FwText_1 p2 p3) (FwText_2 p2 p3)) (FwFlag_2 (FwText_1 p2 p3) (FwText_2 p2 p3)))]),(1,.ints .u8 p0.wait.length p0.wait),(2,.ints .u8 p0.got.length p0.got),(3,.vec .row p0.out)])
                960 (by kernel_rfl) rfl (by kernel_rfl) (⟨tt,trivial⟩) ?_
              refine Tri.seq ?_
              refine Tri.seq_region [] none [168,12,0] [0,4,1,2,3] (TT∧True)
                ([(168,.sc (.b (!p0.ready))),(12,.sc (.i .u8 100)),(0,.sc (.p 0 0))],[(0,.cells [.b p0.server,.i .i64 p0.state,.i .u32 p0.peer,.i .i64 p0.window,.i .i64 p0.most,.i .i64 p0.room,.sl 1 0 p0.wait.length 1 none,.sl 2 0 p0.got.length 1 none,.b true,.b p0.e0,.b p0.e1,.b p0.c0,.b p0.c1,.sl 3 0 p0.out.length 1 none]),(4,.cells [.ro .u8 (FwText_1 (FwFlag_1 (FwText_1 p2 p3) (FwText_2 p2 p3)) (FwFlag_2 (FwText_1 p2 p3) (FwText_2 p2 p3))),.b (FwText_2 (FwFlag_1 (FwText_1 p2 p3) (FwText_2 p2 p3)) (FwFlag_2 (FwText_1 p2 p3) (FwText_2 p2 p3)))]),(1,.ints .u8 p0.wait.length p0.wait),(2,.ints .u8 p0.got.length p0.got),(3,.vec .row p0.out)])
                976 (by kernel_rfl) rfl (by kernel_rfl) (⟨tt,trivial⟩) ?_
              refine Tri.join (x:=(!p0.ready)) (fun bb => ([(12,.sc (.i .u8 (sel bb 99 100))),(0,.sc (.p 0 0))],[(0,.cells [.b p0.server,.i .i64 p0.state,.i .u32 p0.peer,.i .i64 p0.window,.i .i64 p0.most,.i .i64 p0.room,.sl 1 0 p0.wait.length 1 none,.sl 2 0 p0.got.length 1 none,.b true,.b p0.e0,.b p0.e1,.b p0.c0,.b p0.c1,.sl 3 0 p0.out.length 1 none]),(4,.cells [.ro .u8 (FwText_1 (FwFlag_1 (FwText_1 p2 p3) (FwText_2 p2 p3)) (FwFlag_2 (FwText_1 p2 p3) (FwText_2 p2 p3))),.b (FwText_2 (FwFlag_1 (FwText_1 p2 p3) (FwText_2 p2 p3)) (FwFlag_2 (FwText_1 p2 p3) (FwText_2 p2 p3)))]),(1,.ints .u8 p0.wait.length p0.wait),(2,.ints .u8 p0.got.length p0.got),(3,.vec .row p0.out)])) 992 (by kernel_rfl) (fun h23 => ?_) (fun h23 => ?_) ?_
              ·
               refine Tri.region' [] none [12,0] [0,4,1,2,3] (TT∧True)
                 ([(12,.sc (.i .u8 99)),(0,.sc (.p 0 0))],[(0,.cells [.b p0.server,.i .i64 p0.state,.i .u32 p0.peer,.i .i64 p0.window,.i .i64 p0.most,.i .i64 p0.room,.sl 1 0 p0.wait.length 1 none,.sl 2 0 p0.got.length 1 none,.b true,.b p0.e0,.b p0.e1,.b p0.c0,.b p0.c1,.sl 3 0 p0.out.length 1 none]),(4,.cells [.ro .u8 (FwText_1 (FwFlag_1 (FwText_1 p2 p3) (FwText_2 p2 p3)) (FwFlag_2 (FwText_1 p2 p3) (FwText_2 p2 p3))),.b (FwText_2 (FwFlag_1 (FwText_1 p2 p3) (FwText_2 p2 p3)) (FwFlag_2 (FwText_1 p2 p3) (FwText_2 p2 p3)))]),(1,.ints .u8 p0.wait.length p0.wait),(2,.ints .u8 p0.got.length p0.got),(3,.vec .row p0.out)])
                 992 (by kernel_rfl) rfl (by kernel_rfl) (⟨tt,trivial⟩) ?_
               exact (Sub.ren (ns:=[(0,0),(4,4),(1,1),(2,2),(3,3)]) (kf:=[12,0]) (s':=([(12,.sc (.i .u8 99)),(0,.sc (.p 0 0))],[(0,.cells [.b p0.server,.i .i64 p0.state,.i .u32 p0.peer,.i .i64 p0.window,.i .i64 p0.most,.i .i64 p0.room,.sl 1 0 p0.wait.length 1 none,.sl 2 0 p0.got.length 1 none,.b true,.b p0.e0,.b p0.e1,.b p0.c0,.b p0.c1,.sl 3 0 p0.out.length 1 none]),(4,.cells [.ro .u8 (FwText_1 (FwFlag_1 (FwText_1 p2 p3) (FwText_2 p2 p3)) (FwFlag_2 (FwText_1 p2 p3) (FwText_2 p2 p3))),.b (FwText_2 (FwFlag_1 (FwText_1 p2 p3) (FwText_2 p2 p3)) (FwFlag_2 (FwText_1 p2 p3) (FwText_2 p2 p3)))]),(1,.ints .u8 p0.wait.length p0.wait),(2,.ints .u8 p0.got.length p0.got),(3,.vec .row p0.out)])) (by kernel_rfl) (by kernel_rfl)).trans (Sub.of_eq (by simp only [chC,sel_true,sel_false]))
              ·
               refine Tri.skip ?_
               exact (Sub.ren (ns:=[(0,0),(4,4),(1,1),(2,2),(3,3)]) (kf:=[12,0]) (s':=([(12,.sc (.i .u8 100)),(0,.sc (.p 0 0))],[(0,.cells [.b p0.server,.i .i64 p0.state,.i .u32 p0.peer,.i .i64 p0.window,.i .i64 p0.most,.i .i64 p0.room,.sl 1 0 p0.wait.length 1 none,.sl 2 0 p0.got.length 1 none,.b true,.b p0.e0,.b p0.e1,.b p0.c0,.b p0.c1,.sl 3 0 p0.out.length 1 none]),(4,.cells [.ro .u8 (FwText_1 (FwFlag_1 (FwText_1 p2 p3) (FwText_2 p2 p3)) (FwFlag_2 (FwText_1 p2 p3) (FwText_2 p2 p3))),.b (FwText_2 (FwFlag_1 (FwText_1 p2 p3) (FwText_2 p2 p3)) (FwFlag_2 (FwText_1 p2 p3) (FwText_2 p2 p3)))]),(1,.ints .u8 p0.wait.length p0.wait),(2,.ints .u8 p0.got.length p0.got),(3,.vec .row p0.out)])) (by kernel_rfl) (by kernel_rfl)).trans (Sub.of_eq (by simp only [chC,sel_true,sel_false]))
              ·
               change Tri _ _ _ _ _ _
               refine Tri.region' [] none [] [1058,1057,1056,0,4] (TT∧(TT∧(TT∧((((True∧((chLens (({p0 with ready:=true}:Ch).wait.length) (({p0 with ready:=true}:Ch).got.length) (({p0 with ready:=true}:Ch).out.length) (({p0 with ready:=true}:Ch).wait.length) (({p0 with ready:=true}:Ch).got.length) ({p0 with ready:=true}:Ch))∧True))∧(([some (.cells [.b p0.server,.i .i64 p0.state,.i .u32 p0.peer,.i .i64 p0.window,.i .i64 p0.most,.i .i64 p0.room,.sl 1 0 p0.wait.length 1 none,.sl 2 0 p0.got.length 1 none,.b true,.b p0.e0,.b p0.e1,.b p0.c0,.b p0.c1,.sl 3 0 p0.out.length 1 none]),some (.ints .u8 p0.wait.length p0.wait),some (.ints .u8 p0.got.length p0.got),some (.vec .row p0.out)]:List (Option Blk))=[some (.cells [.b p0.server,.i .i64 p0.state,.i .u32 p0.peer,.i .i64 p0.window,.i .i64 p0.most,.i .i64 p0.room,.sl 1 0 p0.wait.length 1 none,.sl 2 0 p0.got.length 1 none,.b true,.b p0.e0,.b p0.e1,.b p0.c0,.b p0.c1,.sl 3 0 p0.out.length 1 none]),some (.ints .u8 p0.wait.length p0.wait),some (.ints .u8 p0.got.length p0.got),some (.vec .row p0.out)]))∧True)∧(((TT∧((chLens (({p0 with ready:=true}:Ch).wait.length) (({p0 with ready:=true}:Ch).got.length) (({p0 with ready:=true}:Ch).out.length) (({p0 with ready:=true}:Ch).wait.length) (({p0 with ready:=true}:Ch).got.length) ({p0 with ready:=true}:Ch))∧(({p0 with ready:=true}:Ch).out.length≤1000000000)))∧True)∧True)))))
                 ([],[(1058,.vec .row ((Fconv1 p0).out)),(1057,.ints .u8 ((Fconv1 p0).got.length) ((Fconv1 p0).got)),(1056,.ints .u8 ((Fconv1 p0).wait.length) ((Fconv1 p0).wait)),(0,chC 1056 1057 1058 (Fconv1 p0)),(4,.cells [.ro .u8 (FwText_1 (FwFlag_1 (FwText_1 p2 p3) (FwText_2 p2 p3)) (FwFlag_2 (FwText_1 p2 p3) (FwText_2 p2 p3))),.b (FwText_2 (FwFlag_1 (FwText_1 p2 p3) (FwText_2 p2 p3)) (FwFlag_2 (FwText_1 p2 p3) (FwText_2 p2 p3)))])])
                 1072 (by kernel_rfl) rfl (by kernel_rfl) (⟨tt,⟨tt,⟨tt,⟨⟨⟨⟨trivial,⟨(chLens_self _),trivial⟩⟩,(rfl)⟩,trivial⟩,⟨⟨⟨tt,⟨(chLens_self _),(by first | omega | (dsimp only; omega) | decide | (simp only [Fconv0,Fconv1,Fconv2,Fconv3,Fconv4,Fconv5,len_say]; omega))⟩⟩,trivial⟩,trivial⟩⟩⟩⟩⟩) ?_
               change Tri _ _ _ _ _ _
               refine Tri.seq_region [] none [6] [1058,1057,1056,0,4] (TT∧True)
                 ([(6,.sc (.i .i64 0))],[(1058,.vec .row ((Fconv1 p0).out)),(1057,.ints .u8 ((Fconv1 p0).got.length) ((Fconv1 p0).got)),(1056,.ints .u8 ((Fconv1 p0).wait.length) ((Fconv1 p0).wait)),(0,chC 1056 1057 1058 (Fconv1 p0)),(4,.cells [.ro .u8 (FwText_1 (FwFlag_1 (FwText_1 p2 p3) (FwText_2 p2 p3)) (FwFlag_2 (FwText_1 p2 p3) (FwText_2 p2 p3))),.b (FwText_2 (FwFlag_1 (FwText_1 p2 p3) (FwText_2 p2 p3)) (FwFlag_2 (FwText_1 p2 p3) (FwText_2 p2 p3)))])])
                 1088 (by kernel_rfl) rfl (by kernel_rfl) (⟨tt,trivial⟩) ?_
               refine Tri.ret ?_
               repeat (first | refine thenP_ret ?_ | refine blkP_ret ?_ | refine countP_ret ?_ | refine joinP_ret ?_ | refine iterP_ret ?_)
               refine subP_done ?_
               refine endP.conv (r':=⟨.sc (.i .i64 0),[some (chC 5 6 7 (Fconv1 p0)),none,none,none,some (.cells [.ro .u8 (FwText_1 (FwFlag_1 (FwText_1 p2 p3) (FwText_2 p2 p3)) (FwFlag_2 (FwText_1 p2 p3) (FwText_2 p2 p3))),.b (FwText_2 (FwFlag_1 (FwText_1 p2 p3) (FwText_2 p2 p3)) (FwFlag_2 (FwText_1 p2 p3) (FwText_2 p2 p3)))]),some (.ints .u8 ((Fconv1 p0).wait.length) ((Fconv1 p0).wait)),some (.ints .u8 ((Fconv1 p0).got.length) ((Fconv1 p0).got)),some (.vec .row ((Fconv1 p0).out))]⟩) (by simp only [chC,Fcon,Fcon_1,Fcon_2,Fcon_3,h1,h4,h9,h12,h15,h16,h17,h18,h19,h20,h21,h22,sel_true,sel_false]) ?_
               exact endP.ret [(0,0),(4,4),(1056,5),(1057,6),(1058,7)] TT (by kernel_rfl) (by kernel_rfl) tt
             ·
              refine Tri.skip ?_
              change Tri _ _ _ _ _ _
              refine Tri.seq_region [] none [6] [0,4,1,2,3] (TT∧True)
                ([(6,.sc (.i .i64 0))],[(0,.cells [.b p0.server,.i .i64 p0.state,.i .u32 p0.peer,.i .i64 p0.window,.i .i64 p0.most,.i .i64 p0.room,.sl 1 0 p0.wait.length 1 none,.sl 2 0 p0.got.length 1 none,.b true,.b p0.e0,.b p0.e1,.b p0.c0,.b p0.c1,.sl 3 0 p0.out.length 1 none]),(4,.cells [.ro .u8 (FwText_1 (FwFlag_1 (FwText_1 p2 p3) (FwText_2 p2 p3)) (FwFlag_2 (FwText_1 p2 p3) (FwText_2 p2 p3))),.b (FwText_2 (FwFlag_1 (FwText_1 p2 p3) (FwText_2 p2 p3)) (FwFlag_2 (FwText_1 p2 p3) (FwText_2 p2 p3)))]),(1,.ints .u8 p0.wait.length p0.wait),(2,.ints .u8 p0.got.length p0.got),(3,.vec .row p0.out)])
                960 (by kernel_rfl) rfl (by kernel_rfl) (⟨tt,trivial⟩) ?_
              refine Tri.ret ?_
              repeat (first | refine thenP_ret ?_ | refine blkP_ret ?_ | refine countP_ret ?_ | refine joinP_ret ?_ | refine iterP_ret ?_)
              refine subP_done ?_
              refine endP.conv (r':=⟨.sc (.i .i64 0),[some (.cells [.b p0.server,.i .i64 p0.state,.i .u32 p0.peer,.i .i64 p0.window,.i .i64 p0.most,.i .i64 p0.room,.sl 5 0 p0.wait.length 1 none,.sl 6 0 p0.got.length 1 none,.b true,.b p0.e0,.b p0.e1,.b p0.c0,.b p0.c1,.sl 7 0 p0.out.length 1 none]),none,none,none,some (.cells [.ro .u8 (FwText_1 (FwFlag_1 (FwText_1 p2 p3) (FwText_2 p2 p3)) (FwFlag_2 (FwText_1 p2 p3) (FwText_2 p2 p3))),.b (FwText_2 (FwFlag_1 (FwText_1 p2 p3) (FwText_2 p2 p3)) (FwFlag_2 (FwText_1 p2 p3) (FwText_2 p2 p3)))]),some (.ints .u8 p0.wait.length p0.wait),some (.ints .u8 p0.got.length p0.got),some (.vec .row p0.out)]⟩) (by simp only [chC,Fcon,Fcon_1,Fcon_2,Fcon_3,h1,h4,h9,h12,h15,h16,h17,h18,h19,h20,h21,h22,sel_true,sel_false]) ?_
              exact endP.ret [(0,0),(4,4),(1,5),(2,6),(3,7)] TT (by kernel_rfl) (by kernel_rfl) tt
            ·
             refine Tri.seq_region [(162,qb false)] none [11,10,0] [0,4,1,2,3] (TT∧(TT∧(TT∧(TT∧(((8 < 14)∧True)∧((True∧(p0.ready=false))∧(TT∧(TT∧(TT∧(TT∧((((8 < 14)∧(1=1))∧True)∧True)))))))))))
               ([(11,.sc (.b (!p0.ready))),(10,.sc (.b (FwFlag (FwText_1 p2 p3) (FwText_2 p2 p3)))),(0,.sc (.p 0 0))],[(0,.cells [.b p0.server,.i .i64 p0.state,.i .u32 p0.peer,.i .i64 p0.window,.i .i64 p0.most,.i .i64 p0.room,.sl 1 0 p0.wait.length 1 none,.sl 2 0 p0.got.length 1 none,.b (!p0.ready),.b p0.e0,.b p0.e1,.b p0.c0,.b p0.c1,.sl 3 0 p0.out.length 1 none]),(4,.cells [.ro .u8 (FwText_1 (FwFlag_1 (FwText_1 p2 p3) (FwText_2 p2 p3)) (FwFlag_2 (FwText_1 p2 p3) (FwText_2 p2 p3))),.b (FwText_2 (FwFlag_1 (FwText_1 p2 p3) (FwText_2 p2 p3)) (FwFlag_2 (FwText_1 p2 p3) (FwText_2 p2 p3)))]),(1,.ints .u8 p0.wait.length p0.wait),(2,.ints .u8 p0.got.length p0.got),(3,.vec .row p0.out)])
               928 (by kernel_rfl) rfl (by kernel_rfl) (⟨tt,⟨tt,⟨tt,⟨tt,⟨⟨(by first | omega | (dsimp only; omega) | decide | (simp only [Fconv0,Fconv1,Fconv2,Fconv3,Fconv4,Fconv5,len_say]; omega)),trivial⟩,⟨⟨trivial,(h21)⟩,⟨tt,⟨tt,⟨tt,⟨tt,⟨⟨⟨(by first | omega | (dsimp only; omega) | decide | (simp only [Fconv0,Fconv1,Fconv2,Fconv3,Fconv4,Fconv5,len_say]; omega)),(rfl)⟩,trivial⟩,trivial⟩⟩⟩⟩⟩⟩⟩⟩⟩⟩⟩) ?_
             refine Tri.seq_region [] none [167,11,0] [0,4,1,2,3] (TT∧True)
               ([(167,.sc (.b (FwFlag (FwText_1 p2 p3) (FwText_2 p2 p3)))),(11,.sc (.b (!p0.ready))),(0,.sc (.p 0 0))],[(0,.cells [.b p0.server,.i .i64 p0.state,.i .u32 p0.peer,.i .i64 p0.window,.i .i64 p0.most,.i .i64 p0.room,.sl 1 0 p0.wait.length 1 none,.sl 2 0 p0.got.length 1 none,.b (!p0.ready),.b p0.e0,.b p0.e1,.b p0.c0,.b p0.c1,.sl 3 0 p0.out.length 1 none]),(4,.cells [.ro .u8 (FwText_1 (FwFlag_1 (FwText_1 p2 p3) (FwText_2 p2 p3)) (FwFlag_2 (FwText_1 p2 p3) (FwText_2 p2 p3))),.b (FwText_2 (FwFlag_1 (FwText_1 p2 p3) (FwText_2 p2 p3)) (FwFlag_2 (FwText_1 p2 p3) (FwText_2 p2 p3)))]),(1,.ints .u8 p0.wait.length p0.wait),(2,.ints .u8 p0.got.length p0.got),(3,.vec .row p0.out)])
               944 (by kernel_rfl) rfl (by kernel_rfl) (⟨tt,trivial⟩) ?_
             refine Tri.cond (x:=(FwFlag (FwText_1 p2 p3) (FwText_2 p2 p3))) (by kernel_rfl) (fun h24 => ?_) (fun h24 => ?_)
             ·
              refine Tri.seq_region [] none [12,11,0] [0,4,1,2,3] (TT∧True)
                ([(12,.sc (.i .u8 100)),(11,.sc (.b (!p0.ready))),(0,.sc (.p 0 0))],[(0,.cells [.b p0.server,.i .i64 p0.state,.i .u32 p0.peer,.i .i64 p0.window,.i .i64 p0.most,.i .i64 p0.room,.sl 1 0 p0.wait.length 1 none,.sl 2 0 p0.got.length 1 none,.b (!p0.ready),.b p0.e0,.b p0.e1,.b p0.c0,.b p0.c1,.sl 3 0 p0.out.length 1 none]),(4,.cells [.ro .u8 (FwText_1 (FwFlag_1 (FwText_1 p2 p3) (FwText_2 p2 p3)) (FwFlag_2 (FwText_1 p2 p3) (FwText_2 p2 p3))),.b (FwText_2 (FwFlag_1 (FwText_1 p2 p3) (FwText_2 p2 p3)) (FwFlag_2 (FwText_1 p2 p3) (FwText_2 p2 p3)))]),(1,.ints .u8 p0.wait.length p0.wait),(2,.ints .u8 p0.got.length p0.got),(3,.vec .row p0.out)])
                960 (by kernel_rfl) rfl (by kernel_rfl) (⟨tt,trivial⟩) ?_
              refine Tri.seq ?_
              refine Tri.seq_region [] none [168,12,0] [0,4,1,2,3] (TT∧True)
                ([(168,.sc (.b (!p0.ready))),(12,.sc (.i .u8 100)),(0,.sc (.p 0 0))],[(0,.cells [.b p0.server,.i .i64 p0.state,.i .u32 p0.peer,.i .i64 p0.window,.i .i64 p0.most,.i .i64 p0.room,.sl 1 0 p0.wait.length 1 none,.sl 2 0 p0.got.length 1 none,.b (!p0.ready),.b p0.e0,.b p0.e1,.b p0.c0,.b p0.c1,.sl 3 0 p0.out.length 1 none]),(4,.cells [.ro .u8 (FwText_1 (FwFlag_1 (FwText_1 p2 p3) (FwText_2 p2 p3)) (FwFlag_2 (FwText_1 p2 p3) (FwText_2 p2 p3))),.b (FwText_2 (FwFlag_1 (FwText_1 p2 p3) (FwText_2 p2 p3)) (FwFlag_2 (FwText_1 p2 p3) (FwText_2 p2 p3)))]),(1,.ints .u8 p0.wait.length p0.wait),(2,.ints .u8 p0.got.length p0.got),(3,.vec .row p0.out)])
                976 (by kernel_rfl) rfl (by kernel_rfl) (⟨tt,trivial⟩) ?_
              refine Tri.join (x:=(!p0.ready)) (fun bb => ([(12,.sc (.i .u8 (sel bb 99 100))),(0,.sc (.p 0 0))],[(0,.cells [.b p0.server,.i .i64 p0.state,.i .u32 p0.peer,.i .i64 p0.window,.i .i64 p0.most,.i .i64 p0.room,.sl 1 0 p0.wait.length 1 none,.sl 2 0 p0.got.length 1 none,.b (!p0.ready),.b p0.e0,.b p0.e1,.b p0.c0,.b p0.c1,.sl 3 0 p0.out.length 1 none]),(4,.cells [.ro .u8 (FwText_1 (FwFlag_1 (FwText_1 p2 p3) (FwText_2 p2 p3)) (FwFlag_2 (FwText_1 p2 p3) (FwText_2 p2 p3))),.b (FwText_2 (FwFlag_1 (FwText_1 p2 p3) (FwText_2 p2 p3)) (FwFlag_2 (FwText_1 p2 p3) (FwText_2 p2 p3)))]),(1,.ints .u8 p0.wait.length p0.wait),(2,.ints .u8 p0.got.length p0.got),(3,.vec .row p0.out)])) 992 (by kernel_rfl) (fun h25 => ?_) (fun h25 => ?_) ?_
              ·
               refine Tri.region' [] none [12,0] [0,4,1,2,3] (TT∧True)
                 ([(12,.sc (.i .u8 99)),(0,.sc (.p 0 0))],[(0,.cells [.b p0.server,.i .i64 p0.state,.i .u32 p0.peer,.i .i64 p0.window,.i .i64 p0.most,.i .i64 p0.room,.sl 1 0 p0.wait.length 1 none,.sl 2 0 p0.got.length 1 none,.b (!p0.ready),.b p0.e0,.b p0.e1,.b p0.c0,.b p0.c1,.sl 3 0 p0.out.length 1 none]),(4,.cells [.ro .u8 (FwText_1 (FwFlag_1 (FwText_1 p2 p3) (FwText_2 p2 p3)) (FwFlag_2 (FwText_1 p2 p3) (FwText_2 p2 p3))),.b (FwText_2 (FwFlag_1 (FwText_1 p2 p3) (FwText_2 p2 p3)) (FwFlag_2 (FwText_1 p2 p3) (FwText_2 p2 p3)))]),(1,.ints .u8 p0.wait.length p0.wait),(2,.ints .u8 p0.got.length p0.got),(3,.vec .row p0.out)])
                 992 (by kernel_rfl) rfl (by kernel_rfl) (⟨tt,trivial⟩) ?_
               exact (Sub.ren (ns:=[(0,0),(4,4),(1,1),(2,2),(3,3)]) (kf:=[12,0]) (s':=([(12,.sc (.i .u8 99)),(0,.sc (.p 0 0))],[(0,.cells [.b p0.server,.i .i64 p0.state,.i .u32 p0.peer,.i .i64 p0.window,.i .i64 p0.most,.i .i64 p0.room,.sl 1 0 p0.wait.length 1 none,.sl 2 0 p0.got.length 1 none,.b (!p0.ready),.b p0.e0,.b p0.e1,.b p0.c0,.b p0.c1,.sl 3 0 p0.out.length 1 none]),(4,.cells [.ro .u8 (FwText_1 (FwFlag_1 (FwText_1 p2 p3) (FwText_2 p2 p3)) (FwFlag_2 (FwText_1 p2 p3) (FwText_2 p2 p3))),.b (FwText_2 (FwFlag_1 (FwText_1 p2 p3) (FwText_2 p2 p3)) (FwFlag_2 (FwText_1 p2 p3) (FwText_2 p2 p3)))]),(1,.ints .u8 p0.wait.length p0.wait),(2,.ints .u8 p0.got.length p0.got),(3,.vec .row p0.out)])) (by kernel_rfl) (by kernel_rfl)).trans (Sub.of_eq (by simp only [chC,sel_true,sel_false]))
              ·
               refine Tri.skip ?_
               exact (Sub.ren (ns:=[(0,0),(4,4),(1,1),(2,2),(3,3)]) (kf:=[12,0]) (s':=([(12,.sc (.i .u8 100)),(0,.sc (.p 0 0))],[(0,.cells [.b p0.server,.i .i64 p0.state,.i .u32 p0.peer,.i .i64 p0.window,.i .i64 p0.most,.i .i64 p0.room,.sl 1 0 p0.wait.length 1 none,.sl 2 0 p0.got.length 1 none,.b (!p0.ready),.b p0.e0,.b p0.e1,.b p0.c0,.b p0.c1,.sl 3 0 p0.out.length 1 none]),(4,.cells [.ro .u8 (FwText_1 (FwFlag_1 (FwText_1 p2 p3) (FwText_2 p2 p3)) (FwFlag_2 (FwText_1 p2 p3) (FwText_2 p2 p3))),.b (FwText_2 (FwFlag_1 (FwText_1 p2 p3) (FwText_2 p2 p3)) (FwFlag_2 (FwText_1 p2 p3) (FwText_2 p2 p3)))]),(1,.ints .u8 p0.wait.length p0.wait),(2,.ints .u8 p0.got.length p0.got),(3,.vec .row p0.out)])) (by kernel_rfl) (by kernel_rfl)).trans (Sub.of_eq (by simp only [chC,sel_true,sel_false]))
              ·
               change Tri _ _ _ _ _ _
               refine Tri.region' [] none [] [1058,1057,1056,0,4] (TT∧(TT∧(TT∧((((True∧((chLens (({p0 with ready:=(!p0.ready)}:Ch).wait.length) (({p0 with ready:=(!p0.ready)}:Ch).got.length) (({p0 with ready:=(!p0.ready)}:Ch).out.length) (({p0 with ready:=(!p0.ready)}:Ch).wait.length) (({p0 with ready:=(!p0.ready)}:Ch).got.length) ({p0 with ready:=(!p0.ready)}:Ch))∧True))∧(([some (.cells [.b p0.server,.i .i64 p0.state,.i .u32 p0.peer,.i .i64 p0.window,.i .i64 p0.most,.i .i64 p0.room,.sl 1 0 p0.wait.length 1 none,.sl 2 0 p0.got.length 1 none,.b (!p0.ready),.b p0.e0,.b p0.e1,.b p0.c0,.b p0.c1,.sl 3 0 p0.out.length 1 none]),some (.ints .u8 p0.wait.length p0.wait),some (.ints .u8 p0.got.length p0.got),some (.vec .row p0.out)]:List (Option Blk))=[some (.cells [.b p0.server,.i .i64 p0.state,.i .u32 p0.peer,.i .i64 p0.window,.i .i64 p0.most,.i .i64 p0.room,.sl 1 0 p0.wait.length 1 none,.sl 2 0 p0.got.length 1 none,.b (!p0.ready),.b p0.e0,.b p0.e1,.b p0.c0,.b p0.c1,.sl 3 0 p0.out.length 1 none]),some (.ints .u8 p0.wait.length p0.wait),some (.ints .u8 p0.got.length p0.got),some (.vec .row p0.out)]))∧True)∧(((TT∧((chLens (({p0 with ready:=(!p0.ready)}:Ch).wait.length) (({p0 with ready:=(!p0.ready)}:Ch).got.length) (({p0 with ready:=(!p0.ready)}:Ch).out.length) (({p0 with ready:=(!p0.ready)}:Ch).wait.length) (({p0 with ready:=(!p0.ready)}:Ch).got.length) ({p0 with ready:=(!p0.ready)}:Ch))∧(({p0 with ready:=(!p0.ready)}:Ch).out.length≤1000000000)))∧True)∧True)))))
                 ([],[(1058,.vec .row ((Fconv2 p0).out)),(1057,.ints .u8 ((Fconv2 p0).got.length) ((Fconv2 p0).got)),(1056,.ints .u8 ((Fconv2 p0).wait.length) ((Fconv2 p0).wait)),(0,chC 1056 1057 1058 (Fconv2 p0)),(4,.cells [.ro .u8 (FwText_1 (FwFlag_1 (FwText_1 p2 p3) (FwText_2 p2 p3)) (FwFlag_2 (FwText_1 p2 p3) (FwText_2 p2 p3))),.b (FwText_2 (FwFlag_1 (FwText_1 p2 p3) (FwText_2 p2 p3)) (FwFlag_2 (FwText_1 p2 p3) (FwText_2 p2 p3)))])])
                 1072 (by kernel_rfl) rfl (by kernel_rfl) (⟨tt,⟨tt,⟨tt,⟨⟨⟨⟨trivial,⟨(chLens_self _),trivial⟩⟩,(rfl)⟩,trivial⟩,⟨⟨⟨tt,⟨(chLens_self _),(by first | omega | (dsimp only; omega) | decide | (simp only [Fconv0,Fconv1,Fconv2,Fconv3,Fconv4,Fconv5,len_say]; omega))⟩⟩,trivial⟩,trivial⟩⟩⟩⟩⟩) ?_
               change Tri _ _ _ _ _ _
               refine Tri.seq_region [] none [6] [1058,1057,1056,0,4] (TT∧True)
                 ([(6,.sc (.i .i64 0))],[(1058,.vec .row ((Fconv2 p0).out)),(1057,.ints .u8 ((Fconv2 p0).got.length) ((Fconv2 p0).got)),(1056,.ints .u8 ((Fconv2 p0).wait.length) ((Fconv2 p0).wait)),(0,chC 1056 1057 1058 (Fconv2 p0)),(4,.cells [.ro .u8 (FwText_1 (FwFlag_1 (FwText_1 p2 p3) (FwText_2 p2 p3)) (FwFlag_2 (FwText_1 p2 p3) (FwText_2 p2 p3))),.b (FwText_2 (FwFlag_1 (FwText_1 p2 p3) (FwText_2 p2 p3)) (FwFlag_2 (FwText_1 p2 p3) (FwText_2 p2 p3)))])])
                 1088 (by kernel_rfl) rfl (by kernel_rfl) (⟨tt,trivial⟩) ?_
               refine Tri.ret ?_
               repeat (first | refine thenP_ret ?_ | refine blkP_ret ?_ | refine countP_ret ?_ | refine joinP_ret ?_ | refine iterP_ret ?_)
               refine subP_done ?_
               refine endP.conv (r':=⟨.sc (.i .i64 0),[some (chC 5 6 7 (Fconv2 p0)),none,none,none,some (.cells [.ro .u8 (FwText_1 (FwFlag_1 (FwText_1 p2 p3) (FwText_2 p2 p3)) (FwFlag_2 (FwText_1 p2 p3) (FwText_2 p2 p3))),.b (FwText_2 (FwFlag_1 (FwText_1 p2 p3) (FwText_2 p2 p3)) (FwFlag_2 (FwText_1 p2 p3) (FwText_2 p2 p3)))]),some (.ints .u8 ((Fconv2 p0).wait.length) ((Fconv2 p0).wait)),some (.ints .u8 ((Fconv2 p0).got.length) ((Fconv2 p0).got)),some (.vec .row ((Fconv2 p0).out))]⟩) (by simp only [chC,Fcon,Fcon_1,Fcon_2,Fcon_3,h1,h4,h9,h12,h15,h16,h17,h18,h19,h20,h21,h24,sel_true,sel_false]) ?_
               exact endP.ret [(0,0),(4,4),(1056,5),(1057,6),(1058,7)] TT (by kernel_rfl) (by kernel_rfl) tt
             ·
              refine Tri.skip ?_
              change Tri _ _ _ _ _ _
              refine Tri.seq_region [] none [6] [0,4,1,2,3] (TT∧True)
                ([(6,.sc (.i .i64 0))],[(0,.cells [.b p0.server,.i .i64 p0.state,.i .u32 p0.peer,.i .i64 p0.window,.i .i64 p0.most,.i .i64 p0.room,.sl 1 0 p0.wait.length 1 none,.sl 2 0 p0.got.length 1 none,.b (!p0.ready),.b p0.e0,.b p0.e1,.b p0.c0,.b p0.c1,.sl 3 0 p0.out.length 1 none]),(4,.cells [.ro .u8 (FwText_1 (FwFlag_1 (FwText_1 p2 p3) (FwText_2 p2 p3)) (FwFlag_2 (FwText_1 p2 p3) (FwText_2 p2 p3))),.b (FwText_2 (FwFlag_1 (FwText_1 p2 p3) (FwText_2 p2 p3)) (FwFlag_2 (FwText_1 p2 p3) (FwText_2 p2 p3)))]),(1,.ints .u8 p0.wait.length p0.wait),(2,.ints .u8 p0.got.length p0.got),(3,.vec .row p0.out)])
                960 (by kernel_rfl) rfl (by kernel_rfl) (⟨tt,trivial⟩) ?_
              refine Tri.ret ?_
              repeat (first | refine thenP_ret ?_ | refine blkP_ret ?_ | refine countP_ret ?_ | refine joinP_ret ?_ | refine iterP_ret ?_)
              refine subP_done ?_
              refine endP.conv (r':=⟨.sc (.i .i64 0),[some (.cells [.b p0.server,.i .i64 p0.state,.i .u32 p0.peer,.i .i64 p0.window,.i .i64 p0.most,.i .i64 p0.room,.sl 5 0 p0.wait.length 1 none,.sl 6 0 p0.got.length 1 none,.b (!p0.ready),.b p0.e0,.b p0.e1,.b p0.c0,.b p0.c1,.sl 7 0 p0.out.length 1 none]),none,none,none,some (.cells [.ro .u8 (FwText_1 (FwFlag_1 (FwText_1 p2 p3) (FwText_2 p2 p3)) (FwFlag_2 (FwText_1 p2 p3) (FwText_2 p2 p3))),.b (FwText_2 (FwFlag_1 (FwText_1 p2 p3) (FwText_2 p2 p3)) (FwFlag_2 (FwText_1 p2 p3) (FwText_2 p2 p3)))]),some (.ints .u8 p0.wait.length p0.wait),some (.ints .u8 p0.got.length p0.got),some (.vec .row p0.out)]⟩) (by simp only [chC,Fcon,Fcon_1,Fcon_2,Fcon_3,h1,h4,h9,h12,h15,h16,h17,h18,h19,h20,h21,h24,sel_true,sel_false]) ?_
              exact endP.ret [(0,0),(4,4),(1,5),(2,6),(3,7)] TT (by kernel_rfl) (by kernel_rfl) tt
          ·
           refine Tri.seq_region [(132,qb true),(137,qb true),(141,qb true),(147,qb false)] none [11,10,0,2] [4,0,1,2,3] (TT∧(TT∧((True∧((strEq (FwText p2 p3) (⟨#[115,117,98,115,121,115,116,101,109]⟩:ByteArray))=true))∧(TT∧((TT∧True)∧(TT∧(TT∧((True∧((strEq (FwText (FwFlag_1 (FwText_1 p2 p3) (FwText_2 p2 p3)) (FwFlag_2 (FwText_1 p2 p3) (FwText_2 p2 p3))) (⟨#[110,101,116,99,111,110,102]⟩:ByteArray))=true))∧(TT∧((TT∧True)∧(TT∧((True∧((FwEnd (FwText_1 (FwFlag_1 (FwText_1 p2 p3) (FwText_2 p2 p3)) (FwFlag_2 (FwText_1 p2 p3) (FwText_2 p2 p3))) (FwText_2 (FwFlag_1 (FwText_1 p2 p3) (FwText_2 p2 p3)) (FwFlag_2 (FwText_1 p2 p3) (FwText_2 p2 p3))))=true))∧(TT∧(TT∧(TT∧(((0 < 14)∧True)∧(TT∧((True∧(p0.server=false))∧(TT∧(TT∧(TT∧(TT∧(TT∧(TT∧(TT∧True)))))))))))))))))))))))))
             ([(11,.sc (.b false)),(10,.sc (.b (FwFlag (FwText_1 p2 p3) (FwText_2 p2 p3)))),(0,.sc (.p 0 0)),(2,.sc (.p 4 0))],[(4,.cells [.ro .u8 (FwText_1 (FwFlag_1 (FwText_1 p2 p3) (FwText_2 p2 p3)) (FwFlag_2 (FwText_1 p2 p3) (FwText_2 p2 p3))),.b (FwText_2 (FwFlag_1 (FwText_1 p2 p3) (FwText_2 p2 p3)) (FwFlag_2 (FwText_1 p2 p3) (FwText_2 p2 p3)))]),(0,chC 1 2 3 p0),(1,.ints .u8 p0.wait.length p0.wait),(2,.ints .u8 p0.got.length p0.got),(3,.vec .row p0.out)])
             704 (by kernel_rfl) rfl (by kernel_rfl) (⟨tt,⟨tt,⟨⟨trivial,(h16)⟩,⟨tt,⟨⟨tt,trivial⟩,⟨tt,⟨tt,⟨⟨trivial,(h17)⟩,⟨tt,⟨⟨tt,trivial⟩,⟨tt,⟨⟨trivial,(h18)⟩,⟨tt,⟨tt,⟨tt,⟨⟨(by first | omega | (dsimp only; omega) | decide | (simp only [Fconv0,Fconv1,Fconv2,Fconv3,Fconv4,Fconv5,len_say]; omega)),trivial⟩,⟨tt,⟨⟨trivial,(h19)⟩,⟨tt,⟨tt,⟨tt,⟨tt,⟨tt,⟨tt,⟨tt,trivial⟩⟩⟩⟩⟩⟩⟩⟩⟩⟩⟩⟩⟩⟩⟩⟩⟩⟩⟩⟩⟩⟩⟩⟩⟩) ?_
           refine Tri.seq ?_
           refine Tri.seq_region [] none [156,11,10,0] [4,0,1,2,3] (TT∧((TT∧True)∧(TT∧True)))
             ([(156,.sc (.b (!(FwOk (FwText_1 (FwFlag_1 (FwText_1 p2 p3) (FwText_2 p2 p3)) (FwFlag_2 (FwText_1 p2 p3) (FwText_2 p2 p3))) (FwText_2 (FwFlag_1 (FwText_1 p2 p3) (FwText_2 p2 p3)) (FwFlag_2 (FwText_1 p2 p3) (FwText_2 p2 p3))))))),(11,.sc (.b false)),(10,.sc (.b (FwFlag (FwText_1 p2 p3) (FwText_2 p2 p3)))),(0,.sc (.p 0 0))],[(4,.cells [.ro .u8 (FwText_1 (FwFlag_1 (FwText_1 p2 p3) (FwText_2 p2 p3)) (FwFlag_2 (FwText_1 p2 p3) (FwText_2 p2 p3))),.b (FwText_2 (FwFlag_1 (FwText_1 p2 p3) (FwText_2 p2 p3)) (FwFlag_2 (FwText_1 p2 p3) (FwText_2 p2 p3)))]),(0,chC 1 2 3 p0),(1,.ints .u8 p0.wait.length p0.wait),(2,.ints .u8 p0.got.length p0.got),(3,.vec .row p0.out)])
             752 (by kernel_rfl) rfl (by kernel_rfl) (⟨tt,⟨⟨tt,trivial⟩,⟨tt,trivial⟩⟩⟩) ?_
           refine Tri.cond (x:=(!(FwOk (FwText_1 (FwFlag_1 (FwText_1 p2 p3) (FwText_2 p2 p3)) (FwFlag_2 (FwText_1 p2 p3) (FwText_2 p2 p3))) (FwText_2 (FwFlag_1 (FwText_1 p2 p3) (FwText_2 p2 p3)) (FwFlag_2 (FwText_1 p2 p3) (FwText_2 p2 p3)))))) (by kernel_rfl) (fun h26 => ?_) (fun h26 => ?_)
           ·
            refine Tri.seq_region [] none [6] [4,0,1,2,3] (TT∧True)
              ([(6,.sc (.i .i64 3))],[(4,.cells [.ro .u8 (FwText_1 (FwFlag_1 (FwText_1 p2 p3) (FwText_2 p2 p3)) (FwFlag_2 (FwText_1 p2 p3) (FwText_2 p2 p3))),.b (FwText_2 (FwFlag_1 (FwText_1 p2 p3) (FwText_2 p2 p3)) (FwFlag_2 (FwText_1 p2 p3) (FwText_2 p2 p3)))]),(0,chC 1 2 3 p0),(1,.ints .u8 p0.wait.length p0.wait),(2,.ints .u8 p0.got.length p0.got),(3,.vec .row p0.out)])
              768 (by kernel_rfl) rfl (by kernel_rfl) (⟨tt,trivial⟩) ?_
            refine Tri.ret ?_
            repeat (first | refine thenP_ret ?_ | refine blkP_ret ?_ | refine countP_ret ?_ | refine joinP_ret ?_ | refine iterP_ret ?_)
            refine subP_done ?_
            refine endP.conv (r':=⟨.sc (.i .i64 3),[some (chC 5 6 7 p0),none,none,none,some (.cells [.ro .u8 (FwText_1 (FwFlag_1 (FwText_1 p2 p3) (FwText_2 p2 p3)) (FwFlag_2 (FwText_1 p2 p3) (FwText_2 p2 p3))),.b (FwText_2 (FwFlag_1 (FwText_1 p2 p3) (FwText_2 p2 p3)) (FwFlag_2 (FwText_1 p2 p3) (FwText_2 p2 p3)))]),some (.ints .u8 p0.wait.length p0.wait),some (.ints .u8 p0.got.length p0.got),some (.vec .row p0.out)]⟩) (by simp only [chC,Fcon,Fcon_1,Fcon_2,Fcon_3,h1,h4,h9,h12,h15,h16,h17,h18,h19,h26,sel_true,sel_false]) ?_
            exact endP.ret [(0,0),(4,4),(1,5),(2,6),(3,7)] TT (by kernel_rfl) (by kernel_rfl) tt
           ·
            refine Tri.skip ?_
            change Tri _ _ _ _ _ _
            refine Tri.split p0.ready (fun h27 => ?_) (fun h27 => ?_)
            ·
             refine Tri.seq_region [(162,qb true)] none [11,10,0] [0,4,1,2,3] (TT∧(TT∧(TT∧(TT∧(((8 < 14)∧True)∧((True∧(p0.ready=true))∧(TT∧(TT∧(TT∧(TT∧((((8 < 14)∧(1=1))∧True)∧True)))))))))))
               ([(11,.sc (.b false)),(10,.sc (.b (FwFlag (FwText_1 p2 p3) (FwText_2 p2 p3)))),(0,.sc (.p 0 0))],[(0,.cells [.b p0.server,.i .i64 p0.state,.i .u32 p0.peer,.i .i64 p0.window,.i .i64 p0.most,.i .i64 p0.room,.sl 1 0 p0.wait.length 1 none,.sl 2 0 p0.got.length 1 none,.b true,.b p0.e0,.b p0.e1,.b p0.c0,.b p0.c1,.sl 3 0 p0.out.length 1 none]),(4,.cells [.ro .u8 (FwText_1 (FwFlag_1 (FwText_1 p2 p3) (FwText_2 p2 p3)) (FwFlag_2 (FwText_1 p2 p3) (FwText_2 p2 p3))),.b (FwText_2 (FwFlag_1 (FwText_1 p2 p3) (FwText_2 p2 p3)) (FwFlag_2 (FwText_1 p2 p3) (FwText_2 p2 p3)))]),(1,.ints .u8 p0.wait.length p0.wait),(2,.ints .u8 p0.got.length p0.got),(3,.vec .row p0.out)])
               928 (by kernel_rfl) rfl (by kernel_rfl) (⟨tt,⟨tt,⟨tt,⟨tt,⟨⟨(by first | omega | (dsimp only; omega) | decide | (simp only [Fconv0,Fconv1,Fconv2,Fconv3,Fconv4,Fconv5,len_say]; omega)),trivial⟩,⟨⟨trivial,(h27)⟩,⟨tt,⟨tt,⟨tt,⟨tt,⟨⟨⟨(by first | omega | (dsimp only; omega) | decide | (simp only [Fconv0,Fconv1,Fconv2,Fconv3,Fconv4,Fconv5,len_say]; omega)),(rfl)⟩,trivial⟩,trivial⟩⟩⟩⟩⟩⟩⟩⟩⟩⟩⟩) ?_
             refine Tri.seq_region [] none [167,11,0] [0,4,1,2,3] (TT∧True)
               ([(167,.sc (.b (FwFlag (FwText_1 p2 p3) (FwText_2 p2 p3)))),(11,.sc (.b false)),(0,.sc (.p 0 0))],[(0,.cells [.b p0.server,.i .i64 p0.state,.i .u32 p0.peer,.i .i64 p0.window,.i .i64 p0.most,.i .i64 p0.room,.sl 1 0 p0.wait.length 1 none,.sl 2 0 p0.got.length 1 none,.b true,.b p0.e0,.b p0.e1,.b p0.c0,.b p0.c1,.sl 3 0 p0.out.length 1 none]),(4,.cells [.ro .u8 (FwText_1 (FwFlag_1 (FwText_1 p2 p3) (FwText_2 p2 p3)) (FwFlag_2 (FwText_1 p2 p3) (FwText_2 p2 p3))),.b (FwText_2 (FwFlag_1 (FwText_1 p2 p3) (FwText_2 p2 p3)) (FwFlag_2 (FwText_1 p2 p3) (FwText_2 p2 p3)))]),(1,.ints .u8 p0.wait.length p0.wait),(2,.ints .u8 p0.got.length p0.got),(3,.vec .row p0.out)])
               944 (by kernel_rfl) rfl (by kernel_rfl) (⟨tt,trivial⟩) ?_
             refine Tri.cond (x:=(FwFlag (FwText_1 p2 p3) (FwText_2 p2 p3))) (by kernel_rfl) (fun h28 => ?_) (fun h28 => ?_)
             ·
              refine Tri.seq_region [] none [12,11,0] [0,4,1,2,3] (TT∧True)
                ([(12,.sc (.i .u8 100)),(11,.sc (.b false)),(0,.sc (.p 0 0))],[(0,.cells [.b p0.server,.i .i64 p0.state,.i .u32 p0.peer,.i .i64 p0.window,.i .i64 p0.most,.i .i64 p0.room,.sl 1 0 p0.wait.length 1 none,.sl 2 0 p0.got.length 1 none,.b true,.b p0.e0,.b p0.e1,.b p0.c0,.b p0.c1,.sl 3 0 p0.out.length 1 none]),(4,.cells [.ro .u8 (FwText_1 (FwFlag_1 (FwText_1 p2 p3) (FwText_2 p2 p3)) (FwFlag_2 (FwText_1 p2 p3) (FwText_2 p2 p3))),.b (FwText_2 (FwFlag_1 (FwText_1 p2 p3) (FwText_2 p2 p3)) (FwFlag_2 (FwText_1 p2 p3) (FwText_2 p2 p3)))]),(1,.ints .u8 p0.wait.length p0.wait),(2,.ints .u8 p0.got.length p0.got),(3,.vec .row p0.out)])
                960 (by kernel_rfl) rfl (by kernel_rfl) (⟨tt,trivial⟩) ?_
              refine Tri.seq ?_
              refine Tri.seq_region [] none [168,12,0] [0,4,1,2,3] (TT∧True)
                ([(168,.sc (.b false)),(12,.sc (.i .u8 100)),(0,.sc (.p 0 0))],[(0,.cells [.b p0.server,.i .i64 p0.state,.i .u32 p0.peer,.i .i64 p0.window,.i .i64 p0.most,.i .i64 p0.room,.sl 1 0 p0.wait.length 1 none,.sl 2 0 p0.got.length 1 none,.b true,.b p0.e0,.b p0.e1,.b p0.c0,.b p0.c1,.sl 3 0 p0.out.length 1 none]),(4,.cells [.ro .u8 (FwText_1 (FwFlag_1 (FwText_1 p2 p3) (FwText_2 p2 p3)) (FwFlag_2 (FwText_1 p2 p3) (FwText_2 p2 p3))),.b (FwText_2 (FwFlag_1 (FwText_1 p2 p3) (FwText_2 p2 p3)) (FwFlag_2 (FwText_1 p2 p3) (FwText_2 p2 p3)))]),(1,.ints .u8 p0.wait.length p0.wait),(2,.ints .u8 p0.got.length p0.got),(3,.vec .row p0.out)])
                976 (by kernel_rfl) rfl (by kernel_rfl) (⟨tt,trivial⟩) ?_
              refine Tri.cond_false (by kernel_rfl) ?_
              refine Tri.skip ?_
              change Tri _ _ _ _ _ _
              refine Tri.region' [] none [] [1042,1041,1040,0,4] (TT∧(TT∧(TT∧((((True∧((chLens (({p0 with ready:=true}:Ch).wait.length) (({p0 with ready:=true}:Ch).got.length) (({p0 with ready:=true}:Ch).out.length) (({p0 with ready:=true}:Ch).wait.length) (({p0 with ready:=true}:Ch).got.length) ({p0 with ready:=true}:Ch))∧True))∧(([some (.cells [.b p0.server,.i .i64 p0.state,.i .u32 p0.peer,.i .i64 p0.window,.i .i64 p0.most,.i .i64 p0.room,.sl 1 0 p0.wait.length 1 none,.sl 2 0 p0.got.length 1 none,.b true,.b p0.e0,.b p0.e1,.b p0.c0,.b p0.c1,.sl 3 0 p0.out.length 1 none]),some (.ints .u8 p0.wait.length p0.wait),some (.ints .u8 p0.got.length p0.got),some (.vec .row p0.out)]:List (Option Blk))=[some (.cells [.b p0.server,.i .i64 p0.state,.i .u32 p0.peer,.i .i64 p0.window,.i .i64 p0.most,.i .i64 p0.room,.sl 1 0 p0.wait.length 1 none,.sl 2 0 p0.got.length 1 none,.b true,.b p0.e0,.b p0.e1,.b p0.c0,.b p0.c1,.sl 3 0 p0.out.length 1 none]),some (.ints .u8 p0.wait.length p0.wait),some (.ints .u8 p0.got.length p0.got),some (.vec .row p0.out)]))∧True)∧(((TT∧((chLens (({p0 with ready:=true}:Ch).wait.length) (({p0 with ready:=true}:Ch).got.length) (({p0 with ready:=true}:Ch).out.length) (({p0 with ready:=true}:Ch).wait.length) (({p0 with ready:=true}:Ch).got.length) ({p0 with ready:=true}:Ch))∧(({p0 with ready:=true}:Ch).out.length≤1000000000)))∧True)∧True)))))
                ([],[(1042,.vec .row ((Fconv3 p0).out)),(1041,.ints .u8 ((Fconv3 p0).got.length) ((Fconv3 p0).got)),(1040,.ints .u8 ((Fconv3 p0).wait.length) ((Fconv3 p0).wait)),(0,chC 1040 1041 1042 (Fconv3 p0)),(4,.cells [.ro .u8 (FwText_1 (FwFlag_1 (FwText_1 p2 p3) (FwText_2 p2 p3)) (FwFlag_2 (FwText_1 p2 p3) (FwText_2 p2 p3))),.b (FwText_2 (FwFlag_1 (FwText_1 p2 p3) (FwText_2 p2 p3)) (FwFlag_2 (FwText_1 p2 p3) (FwText_2 p2 p3)))])])
                1056 (by kernel_rfl) rfl (by kernel_rfl) (⟨tt,⟨tt,⟨tt,⟨⟨⟨⟨trivial,⟨(chLens_self _),trivial⟩⟩,(rfl)⟩,trivial⟩,⟨⟨⟨tt,⟨(chLens_self _),(by first | omega | (dsimp only; omega) | decide | (simp only [Fconv0,Fconv1,Fconv2,Fconv3,Fconv4,Fconv5,len_say]; omega))⟩⟩,trivial⟩,trivial⟩⟩⟩⟩⟩) ?_
              change Tri _ _ _ _ _ _
              refine Tri.seq_region [] none [6] [1042,1041,1040,0,4] (TT∧True)
                ([(6,.sc (.i .i64 0))],[(1042,.vec .row ((Fconv3 p0).out)),(1041,.ints .u8 ((Fconv3 p0).got.length) ((Fconv3 p0).got)),(1040,.ints .u8 ((Fconv3 p0).wait.length) ((Fconv3 p0).wait)),(0,chC 1040 1041 1042 (Fconv3 p0)),(4,.cells [.ro .u8 (FwText_1 (FwFlag_1 (FwText_1 p2 p3) (FwText_2 p2 p3)) (FwFlag_2 (FwText_1 p2 p3) (FwText_2 p2 p3))),.b (FwText_2 (FwFlag_1 (FwText_1 p2 p3) (FwText_2 p2 p3)) (FwFlag_2 (FwText_1 p2 p3) (FwText_2 p2 p3)))])])
                1072 (by kernel_rfl) rfl (by kernel_rfl) (⟨tt,trivial⟩) ?_
              refine Tri.ret ?_
              repeat (first | refine thenP_ret ?_ | refine blkP_ret ?_ | refine countP_ret ?_ | refine joinP_ret ?_ | refine iterP_ret ?_)
              refine subP_done ?_
              refine endP.conv (r':=⟨.sc (.i .i64 0),[some (chC 5 6 7 (Fconv3 p0)),none,none,none,some (.cells [.ro .u8 (FwText_1 (FwFlag_1 (FwText_1 p2 p3) (FwText_2 p2 p3)) (FwFlag_2 (FwText_1 p2 p3) (FwText_2 p2 p3))),.b (FwText_2 (FwFlag_1 (FwText_1 p2 p3) (FwText_2 p2 p3)) (FwFlag_2 (FwText_1 p2 p3) (FwText_2 p2 p3)))]),some (.ints .u8 ((Fconv3 p0).wait.length) ((Fconv3 p0).wait)),some (.ints .u8 ((Fconv3 p0).got.length) ((Fconv3 p0).got)),some (.vec .row ((Fconv3 p0).out))]⟩) (by simp only [chC,Fcon,Fcon_1,Fcon_2,Fcon_3,h1,h4,h9,h12,h15,h16,h17,h18,h19,h26,h27,h28,sel_true,sel_false]) ?_
              exact endP.ret [(0,0),(4,4),(1040,5),(1041,6),(1042,7)] TT (by kernel_rfl) (by kernel_rfl) tt
             ·
              refine Tri.skip ?_
              change Tri _ _ _ _ _ _
              refine Tri.seq_region [] none [6] [0,4,1,2,3] (TT∧True)
                ([(6,.sc (.i .i64 0))],[(0,.cells [.b p0.server,.i .i64 p0.state,.i .u32 p0.peer,.i .i64 p0.window,.i .i64 p0.most,.i .i64 p0.room,.sl 1 0 p0.wait.length 1 none,.sl 2 0 p0.got.length 1 none,.b true,.b p0.e0,.b p0.e1,.b p0.c0,.b p0.c1,.sl 3 0 p0.out.length 1 none]),(4,.cells [.ro .u8 (FwText_1 (FwFlag_1 (FwText_1 p2 p3) (FwText_2 p2 p3)) (FwFlag_2 (FwText_1 p2 p3) (FwText_2 p2 p3))),.b (FwText_2 (FwFlag_1 (FwText_1 p2 p3) (FwText_2 p2 p3)) (FwFlag_2 (FwText_1 p2 p3) (FwText_2 p2 p3)))]),(1,.ints .u8 p0.wait.length p0.wait),(2,.ints .u8 p0.got.length p0.got),(3,.vec .row p0.out)])
                960 (by kernel_rfl) rfl (by kernel_rfl) (⟨tt,trivial⟩) ?_
              refine Tri.ret ?_
              repeat (first | refine thenP_ret ?_ | refine blkP_ret ?_ | refine countP_ret ?_ | refine joinP_ret ?_ | refine iterP_ret ?_)
              refine subP_done ?_
              refine endP.conv (r':=⟨.sc (.i .i64 0),[some (.cells [.b p0.server,.i .i64 p0.state,.i .u32 p0.peer,.i .i64 p0.window,.i .i64 p0.most,.i .i64 p0.room,.sl 5 0 p0.wait.length 1 none,.sl 6 0 p0.got.length 1 none,.b true,.b p0.e0,.b p0.e1,.b p0.c0,.b p0.c1,.sl 7 0 p0.out.length 1 none]),none,none,none,some (.cells [.ro .u8 (FwText_1 (FwFlag_1 (FwText_1 p2 p3) (FwText_2 p2 p3)) (FwFlag_2 (FwText_1 p2 p3) (FwText_2 p2 p3))),.b (FwText_2 (FwFlag_1 (FwText_1 p2 p3) (FwText_2 p2 p3)) (FwFlag_2 (FwText_1 p2 p3) (FwText_2 p2 p3)))]),some (.ints .u8 p0.wait.length p0.wait),some (.ints .u8 p0.got.length p0.got),some (.vec .row p0.out)]⟩) (by simp only [chC,Fcon,Fcon_1,Fcon_2,Fcon_3,h1,h4,h9,h12,h15,h16,h17,h18,h19,h26,h27,h28,sel_true,sel_false]) ?_
              exact endP.ret [(0,0),(4,4),(1,5),(2,6),(3,7)] TT (by kernel_rfl) (by kernel_rfl) tt
            ·
             refine Tri.seq_region [(162,qb false)] none [11,10,0] [0,4,1,2,3] (TT∧(TT∧(TT∧(TT∧(((8 < 14)∧True)∧((True∧(p0.ready=false))∧(TT∧(TT∧(TT∧(TT∧((((8 < 14)∧(1=1))∧True)∧True)))))))))))
               ([(11,.sc (.b false)),(10,.sc (.b (FwFlag (FwText_1 p2 p3) (FwText_2 p2 p3)))),(0,.sc (.p 0 0))],[(0,.cells [.b p0.server,.i .i64 p0.state,.i .u32 p0.peer,.i .i64 p0.window,.i .i64 p0.most,.i .i64 p0.room,.sl 1 0 p0.wait.length 1 none,.sl 2 0 p0.got.length 1 none,.b false,.b p0.e0,.b p0.e1,.b p0.c0,.b p0.c1,.sl 3 0 p0.out.length 1 none]),(4,.cells [.ro .u8 (FwText_1 (FwFlag_1 (FwText_1 p2 p3) (FwText_2 p2 p3)) (FwFlag_2 (FwText_1 p2 p3) (FwText_2 p2 p3))),.b (FwText_2 (FwFlag_1 (FwText_1 p2 p3) (FwText_2 p2 p3)) (FwFlag_2 (FwText_1 p2 p3) (FwText_2 p2 p3)))]),(1,.ints .u8 p0.wait.length p0.wait),(2,.ints .u8 p0.got.length p0.got),(3,.vec .row p0.out)])
               928 (by kernel_rfl) rfl (by kernel_rfl) (⟨tt,⟨tt,⟨tt,⟨tt,⟨⟨(by first | omega | (dsimp only; omega) | decide | (simp only [Fconv0,Fconv1,Fconv2,Fconv3,Fconv4,Fconv5,len_say]; omega)),trivial⟩,⟨⟨trivial,(h27)⟩,⟨tt,⟨tt,⟨tt,⟨tt,⟨⟨⟨(by first | omega | (dsimp only; omega) | decide | (simp only [Fconv0,Fconv1,Fconv2,Fconv3,Fconv4,Fconv5,len_say]; omega)),(rfl)⟩,trivial⟩,trivial⟩⟩⟩⟩⟩⟩⟩⟩⟩⟩⟩) ?_
             refine Tri.seq_region [] none [167,11,0] [0,4,1,2,3] (TT∧True)
               ([(167,.sc (.b (FwFlag (FwText_1 p2 p3) (FwText_2 p2 p3)))),(11,.sc (.b false)),(0,.sc (.p 0 0))],[(0,.cells [.b p0.server,.i .i64 p0.state,.i .u32 p0.peer,.i .i64 p0.window,.i .i64 p0.most,.i .i64 p0.room,.sl 1 0 p0.wait.length 1 none,.sl 2 0 p0.got.length 1 none,.b false,.b p0.e0,.b p0.e1,.b p0.c0,.b p0.c1,.sl 3 0 p0.out.length 1 none]),(4,.cells [.ro .u8 (FwText_1 (FwFlag_1 (FwText_1 p2 p3) (FwText_2 p2 p3)) (FwFlag_2 (FwText_1 p2 p3) (FwText_2 p2 p3))),.b (FwText_2 (FwFlag_1 (FwText_1 p2 p3) (FwText_2 p2 p3)) (FwFlag_2 (FwText_1 p2 p3) (FwText_2 p2 p3)))]),(1,.ints .u8 p0.wait.length p0.wait),(2,.ints .u8 p0.got.length p0.got),(3,.vec .row p0.out)])
               944 (by kernel_rfl) rfl (by kernel_rfl) (⟨tt,trivial⟩) ?_
             refine Tri.cond (x:=(FwFlag (FwText_1 p2 p3) (FwText_2 p2 p3))) (by kernel_rfl) (fun h29 => ?_) (fun h29 => ?_)
             ·
              refine Tri.seq_region [] none [12,11,0] [0,4,1,2,3] (TT∧True)
                ([(12,.sc (.i .u8 100)),(11,.sc (.b false)),(0,.sc (.p 0 0))],[(0,.cells [.b p0.server,.i .i64 p0.state,.i .u32 p0.peer,.i .i64 p0.window,.i .i64 p0.most,.i .i64 p0.room,.sl 1 0 p0.wait.length 1 none,.sl 2 0 p0.got.length 1 none,.b false,.b p0.e0,.b p0.e1,.b p0.c0,.b p0.c1,.sl 3 0 p0.out.length 1 none]),(4,.cells [.ro .u8 (FwText_1 (FwFlag_1 (FwText_1 p2 p3) (FwText_2 p2 p3)) (FwFlag_2 (FwText_1 p2 p3) (FwText_2 p2 p3))),.b (FwText_2 (FwFlag_1 (FwText_1 p2 p3) (FwText_2 p2 p3)) (FwFlag_2 (FwText_1 p2 p3) (FwText_2 p2 p3)))]),(1,.ints .u8 p0.wait.length p0.wait),(2,.ints .u8 p0.got.length p0.got),(3,.vec .row p0.out)])
                960 (by kernel_rfl) rfl (by kernel_rfl) (⟨tt,trivial⟩) ?_
              refine Tri.seq ?_
              refine Tri.seq_region [] none [168,12,0] [0,4,1,2,3] (TT∧True)
                ([(168,.sc (.b false)),(12,.sc (.i .u8 100)),(0,.sc (.p 0 0))],[(0,.cells [.b p0.server,.i .i64 p0.state,.i .u32 p0.peer,.i .i64 p0.window,.i .i64 p0.most,.i .i64 p0.room,.sl 1 0 p0.wait.length 1 none,.sl 2 0 p0.got.length 1 none,.b false,.b p0.e0,.b p0.e1,.b p0.c0,.b p0.c1,.sl 3 0 p0.out.length 1 none]),(4,.cells [.ro .u8 (FwText_1 (FwFlag_1 (FwText_1 p2 p3) (FwText_2 p2 p3)) (FwFlag_2 (FwText_1 p2 p3) (FwText_2 p2 p3))),.b (FwText_2 (FwFlag_1 (FwText_1 p2 p3) (FwText_2 p2 p3)) (FwFlag_2 (FwText_1 p2 p3) (FwText_2 p2 p3)))]),(1,.ints .u8 p0.wait.length p0.wait),(2,.ints .u8 p0.got.length p0.got),(3,.vec .row p0.out)])
                976 (by kernel_rfl) rfl (by kernel_rfl) (⟨tt,trivial⟩) ?_
              refine Tri.cond_false (by kernel_rfl) ?_
              refine Tri.skip ?_
              change Tri _ _ _ _ _ _
              refine Tri.region' [] none [] [1042,1041,1040,0,4] (TT∧(TT∧(TT∧((((True∧((chLens (({p0 with ready:=false}:Ch).wait.length) (({p0 with ready:=false}:Ch).got.length) (({p0 with ready:=false}:Ch).out.length) (({p0 with ready:=false}:Ch).wait.length) (({p0 with ready:=false}:Ch).got.length) ({p0 with ready:=false}:Ch))∧True))∧(([some (.cells [.b p0.server,.i .i64 p0.state,.i .u32 p0.peer,.i .i64 p0.window,.i .i64 p0.most,.i .i64 p0.room,.sl 1 0 p0.wait.length 1 none,.sl 2 0 p0.got.length 1 none,.b false,.b p0.e0,.b p0.e1,.b p0.c0,.b p0.c1,.sl 3 0 p0.out.length 1 none]),some (.ints .u8 p0.wait.length p0.wait),some (.ints .u8 p0.got.length p0.got),some (.vec .row p0.out)]:List (Option Blk))=[some (.cells [.b p0.server,.i .i64 p0.state,.i .u32 p0.peer,.i .i64 p0.window,.i .i64 p0.most,.i .i64 p0.room,.sl 1 0 p0.wait.length 1 none,.sl 2 0 p0.got.length 1 none,.b false,.b p0.e0,.b p0.e1,.b p0.c0,.b p0.c1,.sl 3 0 p0.out.length 1 none]),some (.ints .u8 p0.wait.length p0.wait),some (.ints .u8 p0.got.length p0.got),some (.vec .row p0.out)]))∧True)∧(((TT∧((chLens (({p0 with ready:=false}:Ch).wait.length) (({p0 with ready:=false}:Ch).got.length) (({p0 with ready:=false}:Ch).out.length) (({p0 with ready:=false}:Ch).wait.length) (({p0 with ready:=false}:Ch).got.length) ({p0 with ready:=false}:Ch))∧(({p0 with ready:=false}:Ch).out.length≤1000000000)))∧True)∧True)))))
                ([],[(1042,.vec .row ((Fconv4 p0).out)),(1041,.ints .u8 ((Fconv4 p0).got.length) ((Fconv4 p0).got)),(1040,.ints .u8 ((Fconv4 p0).wait.length) ((Fconv4 p0).wait)),(0,chC 1040 1041 1042 (Fconv4 p0)),(4,.cells [.ro .u8 (FwText_1 (FwFlag_1 (FwText_1 p2 p3) (FwText_2 p2 p3)) (FwFlag_2 (FwText_1 p2 p3) (FwText_2 p2 p3))),.b (FwText_2 (FwFlag_1 (FwText_1 p2 p3) (FwText_2 p2 p3)) (FwFlag_2 (FwText_1 p2 p3) (FwText_2 p2 p3)))])])
                1056 (by kernel_rfl) rfl (by kernel_rfl) (⟨tt,⟨tt,⟨tt,⟨⟨⟨⟨trivial,⟨(chLens_self _),trivial⟩⟩,(rfl)⟩,trivial⟩,⟨⟨⟨tt,⟨(chLens_self _),(by first | omega | (dsimp only; omega) | decide | (simp only [Fconv0,Fconv1,Fconv2,Fconv3,Fconv4,Fconv5,len_say]; omega))⟩⟩,trivial⟩,trivial⟩⟩⟩⟩⟩) ?_
              change Tri _ _ _ _ _ _
              refine Tri.seq_region [] none [6] [1042,1041,1040,0,4] (TT∧True)
                ([(6,.sc (.i .i64 0))],[(1042,.vec .row ((Fconv4 p0).out)),(1041,.ints .u8 ((Fconv4 p0).got.length) ((Fconv4 p0).got)),(1040,.ints .u8 ((Fconv4 p0).wait.length) ((Fconv4 p0).wait)),(0,chC 1040 1041 1042 (Fconv4 p0)),(4,.cells [.ro .u8 (FwText_1 (FwFlag_1 (FwText_1 p2 p3) (FwText_2 p2 p3)) (FwFlag_2 (FwText_1 p2 p3) (FwText_2 p2 p3))),.b (FwText_2 (FwFlag_1 (FwText_1 p2 p3) (FwText_2 p2 p3)) (FwFlag_2 (FwText_1 p2 p3) (FwText_2 p2 p3)))])])
                1072 (by kernel_rfl) rfl (by kernel_rfl) (⟨tt,trivial⟩) ?_
              refine Tri.ret ?_
              repeat (first | refine thenP_ret ?_ | refine blkP_ret ?_ | refine countP_ret ?_ | refine joinP_ret ?_ | refine iterP_ret ?_)
              refine subP_done ?_
              refine endP.conv (r':=⟨.sc (.i .i64 0),[some (chC 5 6 7 (Fconv4 p0)),none,none,none,some (.cells [.ro .u8 (FwText_1 (FwFlag_1 (FwText_1 p2 p3) (FwText_2 p2 p3)) (FwFlag_2 (FwText_1 p2 p3) (FwText_2 p2 p3))),.b (FwText_2 (FwFlag_1 (FwText_1 p2 p3) (FwText_2 p2 p3)) (FwFlag_2 (FwText_1 p2 p3) (FwText_2 p2 p3)))]),some (.ints .u8 ((Fconv4 p0).wait.length) ((Fconv4 p0).wait)),some (.ints .u8 ((Fconv4 p0).got.length) ((Fconv4 p0).got)),some (.vec .row ((Fconv4 p0).out))]⟩) (by simp only [chC,Fcon,Fcon_1,Fcon_2,Fcon_3,h1,h4,h9,h12,h15,h16,h17,h18,h19,h26,h27,h29,sel_true,sel_false]) ?_
              exact endP.ret [(0,0),(4,4),(1040,5),(1041,6),(1042,7)] TT (by kernel_rfl) (by kernel_rfl) tt
             ·
              refine Tri.skip ?_
              change Tri _ _ _ _ _ _
              refine Tri.seq_region [] none [6] [0,4,1,2,3] (TT∧True)
                ([(6,.sc (.i .i64 0))],[(0,.cells [.b p0.server,.i .i64 p0.state,.i .u32 p0.peer,.i .i64 p0.window,.i .i64 p0.most,.i .i64 p0.room,.sl 1 0 p0.wait.length 1 none,.sl 2 0 p0.got.length 1 none,.b false,.b p0.e0,.b p0.e1,.b p0.c0,.b p0.c1,.sl 3 0 p0.out.length 1 none]),(4,.cells [.ro .u8 (FwText_1 (FwFlag_1 (FwText_1 p2 p3) (FwText_2 p2 p3)) (FwFlag_2 (FwText_1 p2 p3) (FwText_2 p2 p3))),.b (FwText_2 (FwFlag_1 (FwText_1 p2 p3) (FwText_2 p2 p3)) (FwFlag_2 (FwText_1 p2 p3) (FwText_2 p2 p3)))]),(1,.ints .u8 p0.wait.length p0.wait),(2,.ints .u8 p0.got.length p0.got),(3,.vec .row p0.out)])
                960 (by kernel_rfl) rfl (by kernel_rfl) (⟨tt,trivial⟩) ?_
              refine Tri.ret ?_
              repeat (first | refine thenP_ret ?_ | refine blkP_ret ?_ | refine countP_ret ?_ | refine joinP_ret ?_ | refine iterP_ret ?_)
              refine subP_done ?_
              refine endP.conv (r':=⟨.sc (.i .i64 0),[some (.cells [.b p0.server,.i .i64 p0.state,.i .u32 p0.peer,.i .i64 p0.window,.i .i64 p0.most,.i .i64 p0.room,.sl 5 0 p0.wait.length 1 none,.sl 6 0 p0.got.length 1 none,.b false,.b p0.e0,.b p0.e1,.b p0.c0,.b p0.c1,.sl 7 0 p0.out.length 1 none]),none,none,none,some (.cells [.ro .u8 (FwText_1 (FwFlag_1 (FwText_1 p2 p3) (FwText_2 p2 p3)) (FwFlag_2 (FwText_1 p2 p3) (FwText_2 p2 p3))),.b (FwText_2 (FwFlag_1 (FwText_1 p2 p3) (FwText_2 p2 p3)) (FwFlag_2 (FwText_1 p2 p3) (FwText_2 p2 p3)))]),some (.ints .u8 p0.wait.length p0.wait),some (.ints .u8 p0.got.length p0.got),some (.vec .row p0.out)]⟩) (by simp only [chC,Fcon,Fcon_1,Fcon_2,Fcon_3,h1,h4,h9,h12,h15,h16,h17,h18,h19,h26,h27,h29,sel_true,sel_false]) ?_
              exact endP.ret [(0,0),(4,4),(1,5),(2,6),(3,7)] TT (by kernel_rfl) (by kernel_rfl) tt
         ·
          refine Tri.seq_region [(132,qb true),(137,qb true),(141,qb false)] none [11,10,0,2] [4,0,1,2,3] (TT∧(TT∧((True∧((strEq (FwText p2 p3) (⟨#[115,117,98,115,121,115,116,101,109]⟩:ByteArray))=true))∧(TT∧((TT∧True)∧(TT∧(TT∧((True∧((strEq (FwText (FwFlag_1 (FwText_1 p2 p3) (FwText_2 p2 p3)) (FwFlag_2 (FwText_1 p2 p3) (FwText_2 p2 p3))) (⟨#[110,101,116,99,111,110,102]⟩:ByteArray))=true))∧(TT∧((TT∧True)∧(TT∧((True∧((FwEnd (FwText_1 (FwFlag_1 (FwText_1 p2 p3) (FwText_2 p2 p3)) (FwFlag_2 (FwText_1 p2 p3) (FwText_2 p2 p3))) (FwText_2 (FwFlag_1 (FwText_1 p2 p3) (FwText_2 p2 p3)) (FwFlag_2 (FwText_1 p2 p3) (FwText_2 p2 p3))))=false))∧(TT∧(TT∧(TT∧(TT∧(TT∧(TT∧(TT∧(TT∧(TT∧(TT∧(TT∧(TT∧(TT∧True)))))))))))))))))))))))))
            ([(11,.sc (.b false)),(10,.sc (.b (FwFlag (FwText_1 p2 p3) (FwText_2 p2 p3)))),(0,.sc (.p 0 0)),(2,.sc (.p 4 0))],[(4,.cells [.ro .u8 (FwText_1 (FwFlag_1 (FwText_1 p2 p3) (FwText_2 p2 p3)) (FwFlag_2 (FwText_1 p2 p3) (FwText_2 p2 p3))),.b (FwText_2 (FwFlag_1 (FwText_1 p2 p3) (FwText_2 p2 p3)) (FwFlag_2 (FwText_1 p2 p3) (FwText_2 p2 p3)))]),(0,chC 1 2 3 p0),(1,.ints .u8 p0.wait.length p0.wait),(2,.ints .u8 p0.got.length p0.got),(3,.vec .row p0.out)])
            704 (by kernel_rfl) rfl (by kernel_rfl) (⟨tt,⟨tt,⟨⟨trivial,(h16)⟩,⟨tt,⟨⟨tt,trivial⟩,⟨tt,⟨tt,⟨⟨trivial,(h17)⟩,⟨tt,⟨⟨tt,trivial⟩,⟨tt,⟨⟨trivial,(h18)⟩,⟨tt,⟨tt,⟨tt,⟨tt,⟨tt,⟨tt,⟨tt,⟨tt,⟨tt,⟨tt,⟨tt,⟨tt,⟨tt,trivial⟩⟩⟩⟩⟩⟩⟩⟩⟩⟩⟩⟩⟩⟩⟩⟩⟩⟩⟩⟩⟩⟩⟩⟩⟩) ?_
          refine Tri.seq ?_
          refine Tri.seq_region [] none [156,11,10,0] [4,0,1,2,3] (TT∧((TT∧True)∧(TT∧True)))
            ([(156,.sc (.b (!(FwOk (FwText_1 (FwFlag_1 (FwText_1 p2 p3) (FwText_2 p2 p3)) (FwFlag_2 (FwText_1 p2 p3) (FwText_2 p2 p3))) (FwText_2 (FwFlag_1 (FwText_1 p2 p3) (FwText_2 p2 p3)) (FwFlag_2 (FwText_1 p2 p3) (FwText_2 p2 p3))))))),(11,.sc (.b false)),(10,.sc (.b (FwFlag (FwText_1 p2 p3) (FwText_2 p2 p3)))),(0,.sc (.p 0 0))],[(4,.cells [.ro .u8 (FwText_1 (FwFlag_1 (FwText_1 p2 p3) (FwText_2 p2 p3)) (FwFlag_2 (FwText_1 p2 p3) (FwText_2 p2 p3))),.b (FwText_2 (FwFlag_1 (FwText_1 p2 p3) (FwText_2 p2 p3)) (FwFlag_2 (FwText_1 p2 p3) (FwText_2 p2 p3)))]),(0,chC 1 2 3 p0),(1,.ints .u8 p0.wait.length p0.wait),(2,.ints .u8 p0.got.length p0.got),(3,.vec .row p0.out)])
            752 (by kernel_rfl) rfl (by kernel_rfl) (⟨tt,⟨⟨tt,trivial⟩,⟨tt,trivial⟩⟩⟩) ?_
          refine Tri.cond (x:=(!(FwOk (FwText_1 (FwFlag_1 (FwText_1 p2 p3) (FwText_2 p2 p3)) (FwFlag_2 (FwText_1 p2 p3) (FwText_2 p2 p3))) (FwText_2 (FwFlag_1 (FwText_1 p2 p3) (FwText_2 p2 p3)) (FwFlag_2 (FwText_1 p2 p3) (FwText_2 p2 p3)))))) (by kernel_rfl) (fun h30 => ?_) (fun h30 => ?_)
          ·
           refine Tri.seq_region [] none [6] [4,0,1,2,3] (TT∧True)
             ([(6,.sc (.i .i64 3))],[(4,.cells [.ro .u8 (FwText_1 (FwFlag_1 (FwText_1 p2 p3) (FwText_2 p2 p3)) (FwFlag_2 (FwText_1 p2 p3) (FwText_2 p2 p3))),.b (FwText_2 (FwFlag_1 (FwText_1 p2 p3) (FwText_2 p2 p3)) (FwFlag_2 (FwText_1 p2 p3) (FwText_2 p2 p3)))]),(0,chC 1 2 3 p0),(1,.ints .u8 p0.wait.length p0.wait),(2,.ints .u8 p0.got.length p0.got),(3,.vec .row p0.out)])
             768 (by kernel_rfl) rfl (by kernel_rfl) (⟨tt,trivial⟩) ?_
           refine Tri.ret ?_
           repeat (first | refine thenP_ret ?_ | refine blkP_ret ?_ | refine countP_ret ?_ | refine joinP_ret ?_ | refine iterP_ret ?_)
           refine subP_done ?_
           refine endP.conv (r':=⟨.sc (.i .i64 3),[some (chC 5 6 7 p0),none,none,none,some (.cells [.ro .u8 (FwText_1 (FwFlag_1 (FwText_1 p2 p3) (FwText_2 p2 p3)) (FwFlag_2 (FwText_1 p2 p3) (FwText_2 p2 p3))),.b (FwText_2 (FwFlag_1 (FwText_1 p2 p3) (FwText_2 p2 p3)) (FwFlag_2 (FwText_1 p2 p3) (FwText_2 p2 p3)))]),some (.ints .u8 p0.wait.length p0.wait),some (.ints .u8 p0.got.length p0.got),some (.vec .row p0.out)]⟩) (by simp only [chC,Fcon,Fcon_1,Fcon_2,Fcon_3,h1,h4,h9,h12,h15,h16,h17,h18,h30,sel_true,sel_false]) ?_
           exact endP.ret [(0,0),(4,4),(1,5),(2,6),(3,7)] TT (by kernel_rfl) (by kernel_rfl) tt
          ·
           refine Tri.skip ?_
           change Tri _ _ _ _ _ _
           refine Tri.split p0.ready (fun h31 => ?_) (fun h31 => ?_)
           ·
            refine Tri.seq_region [(162,qb true)] none [11,10,0] [0,4,1,2,3] (TT∧(TT∧(TT∧(TT∧(((8 < 14)∧True)∧((True∧(p0.ready=true))∧(TT∧(TT∧(TT∧(TT∧((((8 < 14)∧(1=1))∧True)∧True)))))))))))
              ([(11,.sc (.b false)),(10,.sc (.b (FwFlag (FwText_1 p2 p3) (FwText_2 p2 p3)))),(0,.sc (.p 0 0))],[(0,.cells [.b p0.server,.i .i64 p0.state,.i .u32 p0.peer,.i .i64 p0.window,.i .i64 p0.most,.i .i64 p0.room,.sl 1 0 p0.wait.length 1 none,.sl 2 0 p0.got.length 1 none,.b true,.b p0.e0,.b p0.e1,.b p0.c0,.b p0.c1,.sl 3 0 p0.out.length 1 none]),(4,.cells [.ro .u8 (FwText_1 (FwFlag_1 (FwText_1 p2 p3) (FwText_2 p2 p3)) (FwFlag_2 (FwText_1 p2 p3) (FwText_2 p2 p3))),.b (FwText_2 (FwFlag_1 (FwText_1 p2 p3) (FwText_2 p2 p3)) (FwFlag_2 (FwText_1 p2 p3) (FwText_2 p2 p3)))]),(1,.ints .u8 p0.wait.length p0.wait),(2,.ints .u8 p0.got.length p0.got),(3,.vec .row p0.out)])
              928 (by kernel_rfl) rfl (by kernel_rfl) (⟨tt,⟨tt,⟨tt,⟨tt,⟨⟨(by first | omega | (dsimp only; omega) | decide | (simp only [Fconv0,Fconv1,Fconv2,Fconv3,Fconv4,Fconv5,len_say]; omega)),trivial⟩,⟨⟨trivial,(h31)⟩,⟨tt,⟨tt,⟨tt,⟨tt,⟨⟨⟨(by first | omega | (dsimp only; omega) | decide | (simp only [Fconv0,Fconv1,Fconv2,Fconv3,Fconv4,Fconv5,len_say]; omega)),(rfl)⟩,trivial⟩,trivial⟩⟩⟩⟩⟩⟩⟩⟩⟩⟩⟩) ?_
            refine Tri.seq_region [] none [167,11,0] [0,4,1,2,3] (TT∧True)
              ([(167,.sc (.b (FwFlag (FwText_1 p2 p3) (FwText_2 p2 p3)))),(11,.sc (.b false)),(0,.sc (.p 0 0))],[(0,.cells [.b p0.server,.i .i64 p0.state,.i .u32 p0.peer,.i .i64 p0.window,.i .i64 p0.most,.i .i64 p0.room,.sl 1 0 p0.wait.length 1 none,.sl 2 0 p0.got.length 1 none,.b true,.b p0.e0,.b p0.e1,.b p0.c0,.b p0.c1,.sl 3 0 p0.out.length 1 none]),(4,.cells [.ro .u8 (FwText_1 (FwFlag_1 (FwText_1 p2 p3) (FwText_2 p2 p3)) (FwFlag_2 (FwText_1 p2 p3) (FwText_2 p2 p3))),.b (FwText_2 (FwFlag_1 (FwText_1 p2 p3) (FwText_2 p2 p3)) (FwFlag_2 (FwText_1 p2 p3) (FwText_2 p2 p3)))]),(1,.ints .u8 p0.wait.length p0.wait),(2,.ints .u8 p0.got.length p0.got),(3,.vec .row p0.out)])
              944 (by kernel_rfl) rfl (by kernel_rfl) (⟨tt,trivial⟩) ?_
            refine Tri.cond (x:=(FwFlag (FwText_1 p2 p3) (FwText_2 p2 p3))) (by kernel_rfl) (fun h32 => ?_) (fun h32 => ?_)
            ·
             refine Tri.seq_region [] none [12,11,0] [0,4,1,2,3] (TT∧True)
               ([(12,.sc (.i .u8 100)),(11,.sc (.b false)),(0,.sc (.p 0 0))],[(0,.cells [.b p0.server,.i .i64 p0.state,.i .u32 p0.peer,.i .i64 p0.window,.i .i64 p0.most,.i .i64 p0.room,.sl 1 0 p0.wait.length 1 none,.sl 2 0 p0.got.length 1 none,.b true,.b p0.e0,.b p0.e1,.b p0.c0,.b p0.c1,.sl 3 0 p0.out.length 1 none]),(4,.cells [.ro .u8 (FwText_1 (FwFlag_1 (FwText_1 p2 p3) (FwText_2 p2 p3)) (FwFlag_2 (FwText_1 p2 p3) (FwText_2 p2 p3))),.b (FwText_2 (FwFlag_1 (FwText_1 p2 p3) (FwText_2 p2 p3)) (FwFlag_2 (FwText_1 p2 p3) (FwText_2 p2 p3)))]),(1,.ints .u8 p0.wait.length p0.wait),(2,.ints .u8 p0.got.length p0.got),(3,.vec .row p0.out)])
               960 (by kernel_rfl) rfl (by kernel_rfl) (⟨tt,trivial⟩) ?_
             refine Tri.seq ?_
             refine Tri.seq_region [] none [168,12,0] [0,4,1,2,3] (TT∧True)
               ([(168,.sc (.b false)),(12,.sc (.i .u8 100)),(0,.sc (.p 0 0))],[(0,.cells [.b p0.server,.i .i64 p0.state,.i .u32 p0.peer,.i .i64 p0.window,.i .i64 p0.most,.i .i64 p0.room,.sl 1 0 p0.wait.length 1 none,.sl 2 0 p0.got.length 1 none,.b true,.b p0.e0,.b p0.e1,.b p0.c0,.b p0.c1,.sl 3 0 p0.out.length 1 none]),(4,.cells [.ro .u8 (FwText_1 (FwFlag_1 (FwText_1 p2 p3) (FwText_2 p2 p3)) (FwFlag_2 (FwText_1 p2 p3) (FwText_2 p2 p3))),.b (FwText_2 (FwFlag_1 (FwText_1 p2 p3) (FwText_2 p2 p3)) (FwFlag_2 (FwText_1 p2 p3) (FwText_2 p2 p3)))]),(1,.ints .u8 p0.wait.length p0.wait),(2,.ints .u8 p0.got.length p0.got),(3,.vec .row p0.out)])
               976 (by kernel_rfl) rfl (by kernel_rfl) (⟨tt,trivial⟩) ?_
             refine Tri.cond_false (by kernel_rfl) ?_
             refine Tri.skip ?_
             change Tri _ _ _ _ _ _
             refine Tri.region' [] none [] [1042,1041,1040,0,4] (TT∧(TT∧(TT∧((((True∧((chLens (({p0 with ready:=true}:Ch).wait.length) (({p0 with ready:=true}:Ch).got.length) (({p0 with ready:=true}:Ch).out.length) (({p0 with ready:=true}:Ch).wait.length) (({p0 with ready:=true}:Ch).got.length) ({p0 with ready:=true}:Ch))∧True))∧(([some (.cells [.b p0.server,.i .i64 p0.state,.i .u32 p0.peer,.i .i64 p0.window,.i .i64 p0.most,.i .i64 p0.room,.sl 1 0 p0.wait.length 1 none,.sl 2 0 p0.got.length 1 none,.b true,.b p0.e0,.b p0.e1,.b p0.c0,.b p0.c1,.sl 3 0 p0.out.length 1 none]),some (.ints .u8 p0.wait.length p0.wait),some (.ints .u8 p0.got.length p0.got),some (.vec .row p0.out)]:List (Option Blk))=[some (.cells [.b p0.server,.i .i64 p0.state,.i .u32 p0.peer,.i .i64 p0.window,.i .i64 p0.most,.i .i64 p0.room,.sl 1 0 p0.wait.length 1 none,.sl 2 0 p0.got.length 1 none,.b true,.b p0.e0,.b p0.e1,.b p0.c0,.b p0.c1,.sl 3 0 p0.out.length 1 none]),some (.ints .u8 p0.wait.length p0.wait),some (.ints .u8 p0.got.length p0.got),some (.vec .row p0.out)]))∧True)∧(((TT∧((chLens (({p0 with ready:=true}:Ch).wait.length) (({p0 with ready:=true}:Ch).got.length) (({p0 with ready:=true}:Ch).out.length) (({p0 with ready:=true}:Ch).wait.length) (({p0 with ready:=true}:Ch).got.length) ({p0 with ready:=true}:Ch))∧(({p0 with ready:=true}:Ch).out.length≤1000000000)))∧True)∧True)))))
               ([],[(1042,.vec .row ((Fconv3 p0).out)),(1041,.ints .u8 ((Fconv3 p0).got.length) ((Fconv3 p0).got)),(1040,.ints .u8 ((Fconv3 p0).wait.length) ((Fconv3 p0).wait)),(0,chC 1040 1041 1042 (Fconv3 p0)),(4,.cells [.ro .u8 (FwText_1 (FwFlag_1 (FwText_1 p2 p3) (FwText_2 p2 p3)) (FwFlag_2 (FwText_1 p2 p3) (FwText_2 p2 p3))),.b (FwText_2 (FwFlag_1 (FwText_1 p2 p3) (FwText_2 p2 p3)) (FwFlag_2 (FwText_1 p2 p3) (FwText_2 p2 p3)))])])
               1056 (by kernel_rfl) rfl (by kernel_rfl) (⟨tt,⟨tt,⟨tt,⟨⟨⟨⟨trivial,⟨(chLens_self _),trivial⟩⟩,(rfl)⟩,trivial⟩,⟨⟨⟨tt,⟨(chLens_self _),(by first | omega | (dsimp only; omega) | decide | (simp only [Fconv0,Fconv1,Fconv2,Fconv3,Fconv4,Fconv5,len_say]; omega))⟩⟩,trivial⟩,trivial⟩⟩⟩⟩⟩) ?_
             change Tri _ _ _ _ _ _
             refine Tri.seq_region [] none [6] [1042,1041,1040,0,4] (TT∧True)
               ([(6,.sc (.i .i64 0))],[(1042,.vec .row ((Fconv3 p0).out)),(1041,.ints .u8 ((Fconv3 p0).got.length) ((Fconv3 p0).got)),(1040,.ints .u8 ((Fconv3 p0).wait.length) ((Fconv3 p0).wait)),(0,chC 1040 1041 1042 (Fconv3 p0)),(4,.cells [.ro .u8 (FwText_1 (FwFlag_1 (FwText_1 p2 p3) (FwText_2 p2 p3)) (FwFlag_2 (FwText_1 p2 p3) (FwText_2 p2 p3))),.b (FwText_2 (FwFlag_1 (FwText_1 p2 p3) (FwText_2 p2 p3)) (FwFlag_2 (FwText_1 p2 p3) (FwText_2 p2 p3)))])])
               1072 (by kernel_rfl) rfl (by kernel_rfl) (⟨tt,trivial⟩) ?_
             refine Tri.ret ?_
             repeat (first | refine thenP_ret ?_ | refine blkP_ret ?_ | refine countP_ret ?_ | refine joinP_ret ?_ | refine iterP_ret ?_)
             refine subP_done ?_
             refine endP.conv (r':=⟨.sc (.i .i64 0),[some (chC 5 6 7 (Fconv3 p0)),none,none,none,some (.cells [.ro .u8 (FwText_1 (FwFlag_1 (FwText_1 p2 p3) (FwText_2 p2 p3)) (FwFlag_2 (FwText_1 p2 p3) (FwText_2 p2 p3))),.b (FwText_2 (FwFlag_1 (FwText_1 p2 p3) (FwText_2 p2 p3)) (FwFlag_2 (FwText_1 p2 p3) (FwText_2 p2 p3)))]),some (.ints .u8 ((Fconv3 p0).wait.length) ((Fconv3 p0).wait)),some (.ints .u8 ((Fconv3 p0).got.length) ((Fconv3 p0).got)),some (.vec .row ((Fconv3 p0).out))]⟩) (by simp only [chC,Fcon,Fcon_1,Fcon_2,Fcon_3,h1,h4,h9,h12,h15,h16,h17,h18,h30,h31,h32,sel_true,sel_false]) ?_
             exact endP.ret [(0,0),(4,4),(1040,5),(1041,6),(1042,7)] TT (by kernel_rfl) (by kernel_rfl) tt
            ·
             refine Tri.skip ?_
             change Tri _ _ _ _ _ _
             refine Tri.seq_region [] none [6] [0,4,1,2,3] (TT∧True)
               ([(6,.sc (.i .i64 0))],[(0,.cells [.b p0.server,.i .i64 p0.state,.i .u32 p0.peer,.i .i64 p0.window,.i .i64 p0.most,.i .i64 p0.room,.sl 1 0 p0.wait.length 1 none,.sl 2 0 p0.got.length 1 none,.b true,.b p0.e0,.b p0.e1,.b p0.c0,.b p0.c1,.sl 3 0 p0.out.length 1 none]),(4,.cells [.ro .u8 (FwText_1 (FwFlag_1 (FwText_1 p2 p3) (FwText_2 p2 p3)) (FwFlag_2 (FwText_1 p2 p3) (FwText_2 p2 p3))),.b (FwText_2 (FwFlag_1 (FwText_1 p2 p3) (FwText_2 p2 p3)) (FwFlag_2 (FwText_1 p2 p3) (FwText_2 p2 p3)))]),(1,.ints .u8 p0.wait.length p0.wait),(2,.ints .u8 p0.got.length p0.got),(3,.vec .row p0.out)])
               960 (by kernel_rfl) rfl (by kernel_rfl) (⟨tt,trivial⟩) ?_
             refine Tri.ret ?_
             repeat (first | refine thenP_ret ?_ | refine blkP_ret ?_ | refine countP_ret ?_ | refine joinP_ret ?_ | refine iterP_ret ?_)
             refine subP_done ?_
             refine endP.conv (r':=⟨.sc (.i .i64 0),[some (.cells [.b p0.server,.i .i64 p0.state,.i .u32 p0.peer,.i .i64 p0.window,.i .i64 p0.most,.i .i64 p0.room,.sl 5 0 p0.wait.length 1 none,.sl 6 0 p0.got.length 1 none,.b true,.b p0.e0,.b p0.e1,.b p0.c0,.b p0.c1,.sl 7 0 p0.out.length 1 none]),none,none,none,some (.cells [.ro .u8 (FwText_1 (FwFlag_1 (FwText_1 p2 p3) (FwText_2 p2 p3)) (FwFlag_2 (FwText_1 p2 p3) (FwText_2 p2 p3))),.b (FwText_2 (FwFlag_1 (FwText_1 p2 p3) (FwText_2 p2 p3)) (FwFlag_2 (FwText_1 p2 p3) (FwText_2 p2 p3)))]),some (.ints .u8 p0.wait.length p0.wait),some (.ints .u8 p0.got.length p0.got),some (.vec .row p0.out)]⟩) (by simp only [chC,Fcon,Fcon_1,Fcon_2,Fcon_3,h1,h4,h9,h12,h15,h16,h17,h18,h30,h31,h32,sel_true,sel_false]) ?_
             exact endP.ret [(0,0),(4,4),(1,5),(2,6),(3,7)] TT (by kernel_rfl) (by kernel_rfl) tt
           ·
            refine Tri.seq_region [(162,qb false)] none [11,10,0] [0,4,1,2,3] (TT∧(TT∧(TT∧(TT∧(((8 < 14)∧True)∧((True∧(p0.ready=false))∧(TT∧(TT∧(TT∧(TT∧((((8 < 14)∧(1=1))∧True)∧True)))))))))))
              ([(11,.sc (.b false)),(10,.sc (.b (FwFlag (FwText_1 p2 p3) (FwText_2 p2 p3)))),(0,.sc (.p 0 0))],[(0,.cells [.b p0.server,.i .i64 p0.state,.i .u32 p0.peer,.i .i64 p0.window,.i .i64 p0.most,.i .i64 p0.room,.sl 1 0 p0.wait.length 1 none,.sl 2 0 p0.got.length 1 none,.b false,.b p0.e0,.b p0.e1,.b p0.c0,.b p0.c1,.sl 3 0 p0.out.length 1 none]),(4,.cells [.ro .u8 (FwText_1 (FwFlag_1 (FwText_1 p2 p3) (FwText_2 p2 p3)) (FwFlag_2 (FwText_1 p2 p3) (FwText_2 p2 p3))),.b (FwText_2 (FwFlag_1 (FwText_1 p2 p3) (FwText_2 p2 p3)) (FwFlag_2 (FwText_1 p2 p3) (FwText_2 p2 p3)))]),(1,.ints .u8 p0.wait.length p0.wait),(2,.ints .u8 p0.got.length p0.got),(3,.vec .row p0.out)])
              928 (by kernel_rfl) rfl (by kernel_rfl) (⟨tt,⟨tt,⟨tt,⟨tt,⟨⟨(by first | omega | (dsimp only; omega) | decide | (simp only [Fconv0,Fconv1,Fconv2,Fconv3,Fconv4,Fconv5,len_say]; omega)),trivial⟩,⟨⟨trivial,(h31)⟩,⟨tt,⟨tt,⟨tt,⟨tt,⟨⟨⟨(by first | omega | (dsimp only; omega) | decide | (simp only [Fconv0,Fconv1,Fconv2,Fconv3,Fconv4,Fconv5,len_say]; omega)),(rfl)⟩,trivial⟩,trivial⟩⟩⟩⟩⟩⟩⟩⟩⟩⟩⟩) ?_
            refine Tri.seq_region [] none [167,11,0] [0,4,1,2,3] (TT∧True)
              ([(167,.sc (.b (FwFlag (FwText_1 p2 p3) (FwText_2 p2 p3)))),(11,.sc (.b false)),(0,.sc (.p 0 0))],[(0,.cells [.b p0.server,.i .i64 p0.state,.i .u32 p0.peer,.i .i64 p0.window,.i .i64 p0.most,.i .i64 p0.room,.sl 1 0 p0.wait.length 1 none,.sl 2 0 p0.got.length 1 none,.b false,.b p0.e0,.b p0.e1,.b p0.c0,.b p0.c1,.sl 3 0 p0.out.length 1 none]),(4,.cells [.ro .u8 (FwText_1 (FwFlag_1 (FwText_1 p2 p3) (FwText_2 p2 p3)) (FwFlag_2 (FwText_1 p2 p3) (FwText_2 p2 p3))),.b (FwText_2 (FwFlag_1 (FwText_1 p2 p3) (FwText_2 p2 p3)) (FwFlag_2 (FwText_1 p2 p3) (FwText_2 p2 p3)))]),(1,.ints .u8 p0.wait.length p0.wait),(2,.ints .u8 p0.got.length p0.got),(3,.vec .row p0.out)])
              944 (by kernel_rfl) rfl (by kernel_rfl) (⟨tt,trivial⟩) ?_
            refine Tri.cond (x:=(FwFlag (FwText_1 p2 p3) (FwText_2 p2 p3))) (by kernel_rfl) (fun h33 => ?_) (fun h33 => ?_)
            ·
             refine Tri.seq_region [] none [12,11,0] [0,4,1,2,3] (TT∧True)
               ([(12,.sc (.i .u8 100)),(11,.sc (.b false)),(0,.sc (.p 0 0))],[(0,.cells [.b p0.server,.i .i64 p0.state,.i .u32 p0.peer,.i .i64 p0.window,.i .i64 p0.most,.i .i64 p0.room,.sl 1 0 p0.wait.length 1 none,.sl 2 0 p0.got.length 1 none,.b false,.b p0.e0,.b p0.e1,.b p0.c0,.b p0.c1,.sl 3 0 p0.out.length 1 none]),(4,.cells [.ro .u8 (FwText_1 (FwFlag_1 (FwText_1 p2 p3) (FwText_2 p2 p3)) (FwFlag_2 (FwText_1 p2 p3) (FwText_2 p2 p3))),.b (FwText_2 (FwFlag_1 (FwText_1 p2 p3) (FwText_2 p2 p3)) (FwFlag_2 (FwText_1 p2 p3) (FwText_2 p2 p3)))]),(1,.ints .u8 p0.wait.length p0.wait),(2,.ints .u8 p0.got.length p0.got),(3,.vec .row p0.out)])
               960 (by kernel_rfl) rfl (by kernel_rfl) (⟨tt,trivial⟩) ?_
             refine Tri.seq ?_
             refine Tri.seq_region [] none [168,12,0] [0,4,1,2,3] (TT∧True)
               ([(168,.sc (.b false)),(12,.sc (.i .u8 100)),(0,.sc (.p 0 0))],[(0,.cells [.b p0.server,.i .i64 p0.state,.i .u32 p0.peer,.i .i64 p0.window,.i .i64 p0.most,.i .i64 p0.room,.sl 1 0 p0.wait.length 1 none,.sl 2 0 p0.got.length 1 none,.b false,.b p0.e0,.b p0.e1,.b p0.c0,.b p0.c1,.sl 3 0 p0.out.length 1 none]),(4,.cells [.ro .u8 (FwText_1 (FwFlag_1 (FwText_1 p2 p3) (FwText_2 p2 p3)) (FwFlag_2 (FwText_1 p2 p3) (FwText_2 p2 p3))),.b (FwText_2 (FwFlag_1 (FwText_1 p2 p3) (FwText_2 p2 p3)) (FwFlag_2 (FwText_1 p2 p3) (FwText_2 p2 p3)))]),(1,.ints .u8 p0.wait.length p0.wait),(2,.ints .u8 p0.got.length p0.got),(3,.vec .row p0.out)])
               976 (by kernel_rfl) rfl (by kernel_rfl) (⟨tt,trivial⟩) ?_
             refine Tri.cond_false (by kernel_rfl) ?_
             refine Tri.skip ?_
             change Tri _ _ _ _ _ _
             refine Tri.region' [] none [] [1042,1041,1040,0,4] (TT∧(TT∧(TT∧((((True∧((chLens (({p0 with ready:=false}:Ch).wait.length) (({p0 with ready:=false}:Ch).got.length) (({p0 with ready:=false}:Ch).out.length) (({p0 with ready:=false}:Ch).wait.length) (({p0 with ready:=false}:Ch).got.length) ({p0 with ready:=false}:Ch))∧True))∧(([some (.cells [.b p0.server,.i .i64 p0.state,.i .u32 p0.peer,.i .i64 p0.window,.i .i64 p0.most,.i .i64 p0.room,.sl 1 0 p0.wait.length 1 none,.sl 2 0 p0.got.length 1 none,.b false,.b p0.e0,.b p0.e1,.b p0.c0,.b p0.c1,.sl 3 0 p0.out.length 1 none]),some (.ints .u8 p0.wait.length p0.wait),some (.ints .u8 p0.got.length p0.got),some (.vec .row p0.out)]:List (Option Blk))=[some (.cells [.b p0.server,.i .i64 p0.state,.i .u32 p0.peer,.i .i64 p0.window,.i .i64 p0.most,.i .i64 p0.room,.sl 1 0 p0.wait.length 1 none,.sl 2 0 p0.got.length 1 none,.b false,.b p0.e0,.b p0.e1,.b p0.c0,.b p0.c1,.sl 3 0 p0.out.length 1 none]),some (.ints .u8 p0.wait.length p0.wait),some (.ints .u8 p0.got.length p0.got),some (.vec .row p0.out)]))∧True)∧(((TT∧((chLens (({p0 with ready:=false}:Ch).wait.length) (({p0 with ready:=false}:Ch).got.length) (({p0 with ready:=false}:Ch).out.length) (({p0 with ready:=false}:Ch).wait.length) (({p0 with ready:=false}:Ch).got.length) ({p0 with ready:=false}:Ch))∧(({p0 with ready:=false}:Ch).out.length≤1000000000)))∧True)∧True)))))
               ([],[(1042,.vec .row ((Fconv4 p0).out)),(1041,.ints .u8 ((Fconv4 p0).got.length) ((Fconv4 p0).got)),(1040,.ints .u8 ((Fconv4 p0).wait.length) ((Fconv4 p0).wait)),(0,chC 1040 1041 1042 (Fconv4 p0)),(4,.cells [.ro .u8 (FwText_1 (FwFlag_1 (FwText_1 p2 p3) (FwText_2 p2 p3)) (FwFlag_2 (FwText_1 p2 p3) (FwText_2 p2 p3))),.b (FwText_2 (FwFlag_1 (FwText_1 p2 p3) (FwText_2 p2 p3)) (FwFlag_2 (FwText_1 p2 p3) (FwText_2 p2 p3)))])])
               1056 (by kernel_rfl) rfl (by kernel_rfl) (⟨tt,⟨tt,⟨tt,⟨⟨⟨⟨trivial,⟨(chLens_self _),trivial⟩⟩,(rfl)⟩,trivial⟩,⟨⟨⟨tt,⟨(chLens_self _),(by first | omega | (dsimp only; omega) | decide | (simp only [Fconv0,Fconv1,Fconv2,Fconv3,Fconv4,Fconv5,len_say]; omega))⟩⟩,trivial⟩,trivial⟩⟩⟩⟩⟩) ?_
             change Tri _ _ _ _ _ _
             refine Tri.seq_region [] none [6] [1042,1041,1040,0,4] (TT∧True)
               ([(6,.sc (.i .i64 0))],[(1042,.vec .row ((Fconv4 p0).out)),(1041,.ints .u8 ((Fconv4 p0).got.length) ((Fconv4 p0).got)),(1040,.ints .u8 ((Fconv4 p0).wait.length) ((Fconv4 p0).wait)),(0,chC 1040 1041 1042 (Fconv4 p0)),(4,.cells [.ro .u8 (FwText_1 (FwFlag_1 (FwText_1 p2 p3) (FwText_2 p2 p3)) (FwFlag_2 (FwText_1 p2 p3) (FwText_2 p2 p3))),.b (FwText_2 (FwFlag_1 (FwText_1 p2 p3) (FwText_2 p2 p3)) (FwFlag_2 (FwText_1 p2 p3) (FwText_2 p2 p3)))])])
               1072 (by kernel_rfl) rfl (by kernel_rfl) (⟨tt,trivial⟩) ?_
             refine Tri.ret ?_
             repeat (first | refine thenP_ret ?_ | refine blkP_ret ?_ | refine countP_ret ?_ | refine joinP_ret ?_ | refine iterP_ret ?_)
             refine subP_done ?_
             refine endP.conv (r':=⟨.sc (.i .i64 0),[some (chC 5 6 7 (Fconv4 p0)),none,none,none,some (.cells [.ro .u8 (FwText_1 (FwFlag_1 (FwText_1 p2 p3) (FwText_2 p2 p3)) (FwFlag_2 (FwText_1 p2 p3) (FwText_2 p2 p3))),.b (FwText_2 (FwFlag_1 (FwText_1 p2 p3) (FwText_2 p2 p3)) (FwFlag_2 (FwText_1 p2 p3) (FwText_2 p2 p3)))]),some (.ints .u8 ((Fconv4 p0).wait.length) ((Fconv4 p0).wait)),some (.ints .u8 ((Fconv4 p0).got.length) ((Fconv4 p0).got)),some (.vec .row ((Fconv4 p0).out))]⟩) (by simp only [chC,Fcon,Fcon_1,Fcon_2,Fcon_3,h1,h4,h9,h12,h15,h16,h17,h18,h30,h31,h33,sel_true,sel_false]) ?_
             exact endP.ret [(0,0),(4,4),(1040,5),(1041,6),(1042,7)] TT (by kernel_rfl) (by kernel_rfl) tt
            ·
             refine Tri.skip ?_
             change Tri _ _ _ _ _ _
             refine Tri.seq_region [] none [6] [0,4,1,2,3] (TT∧True)
               ([(6,.sc (.i .i64 0))],[(0,.cells [.b p0.server,.i .i64 p0.state,.i .u32 p0.peer,.i .i64 p0.window,.i .i64 p0.most,.i .i64 p0.room,.sl 1 0 p0.wait.length 1 none,.sl 2 0 p0.got.length 1 none,.b false,.b p0.e0,.b p0.e1,.b p0.c0,.b p0.c1,.sl 3 0 p0.out.length 1 none]),(4,.cells [.ro .u8 (FwText_1 (FwFlag_1 (FwText_1 p2 p3) (FwText_2 p2 p3)) (FwFlag_2 (FwText_1 p2 p3) (FwText_2 p2 p3))),.b (FwText_2 (FwFlag_1 (FwText_1 p2 p3) (FwText_2 p2 p3)) (FwFlag_2 (FwText_1 p2 p3) (FwText_2 p2 p3)))]),(1,.ints .u8 p0.wait.length p0.wait),(2,.ints .u8 p0.got.length p0.got),(3,.vec .row p0.out)])
               960 (by kernel_rfl) rfl (by kernel_rfl) (⟨tt,trivial⟩) ?_
             refine Tri.ret ?_
             repeat (first | refine thenP_ret ?_ | refine blkP_ret ?_ | refine countP_ret ?_ | refine joinP_ret ?_ | refine iterP_ret ?_)
             refine subP_done ?_
             refine endP.conv (r':=⟨.sc (.i .i64 0),[some (.cells [.b p0.server,.i .i64 p0.state,.i .u32 p0.peer,.i .i64 p0.window,.i .i64 p0.most,.i .i64 p0.room,.sl 5 0 p0.wait.length 1 none,.sl 6 0 p0.got.length 1 none,.b false,.b p0.e0,.b p0.e1,.b p0.c0,.b p0.c1,.sl 7 0 p0.out.length 1 none]),none,none,none,some (.cells [.ro .u8 (FwText_1 (FwFlag_1 (FwText_1 p2 p3) (FwText_2 p2 p3)) (FwFlag_2 (FwText_1 p2 p3) (FwText_2 p2 p3))),.b (FwText_2 (FwFlag_1 (FwText_1 p2 p3) (FwText_2 p2 p3)) (FwFlag_2 (FwText_1 p2 p3) (FwText_2 p2 p3)))]),some (.ints .u8 p0.wait.length p0.wait),some (.ints .u8 p0.got.length p0.got),some (.vec .row p0.out)]⟩) (by simp only [chC,Fcon,Fcon_1,Fcon_2,Fcon_3,h1,h4,h9,h12,h15,h16,h17,h18,h30,h31,h33,sel_true,sel_false]) ?_
             exact endP.ret [(0,0),(4,4),(1,5),(2,6),(3,7)] TT (by kernel_rfl) (by kernel_rfl) tt
        ·
         refine Tri.seq_region [(132,qb true),(137,qb false)] none [11,10,0,2] [4,0,1,2,3] (TT∧(TT∧((True∧((strEq (FwText p2 p3) (⟨#[115,117,98,115,121,115,116,101,109]⟩:ByteArray))=true))∧(TT∧((TT∧True)∧(TT∧(TT∧((True∧((strEq (FwText (FwFlag_1 (FwText_1 p2 p3) (FwText_2 p2 p3)) (FwFlag_2 (FwText_1 p2 p3) (FwText_2 p2 p3))) (⟨#[110,101,116,99,111,110,102]⟩:ByteArray))=false))∧(TT∧(TT∧(TT∧(TT∧(TT∧(TT∧(TT∧(TT∧(TT∧(TT∧(TT∧(TT∧(TT∧(TT∧(TT∧(TT∧(TT∧True)))))))))))))))))))))))))
           ([(11,.sc (.b false)),(10,.sc (.b (FwFlag (FwText_1 p2 p3) (FwText_2 p2 p3)))),(0,.sc (.p 0 0)),(2,.sc (.p 4 0))],[(4,.cells [.ro .u8 (FwText_1 (FwFlag_1 (FwText_1 p2 p3) (FwText_2 p2 p3)) (FwFlag_2 (FwText_1 p2 p3) (FwText_2 p2 p3))),.b (FwText_2 (FwFlag_1 (FwText_1 p2 p3) (FwText_2 p2 p3)) (FwFlag_2 (FwText_1 p2 p3) (FwText_2 p2 p3)))]),(0,chC 1 2 3 p0),(1,.ints .u8 p0.wait.length p0.wait),(2,.ints .u8 p0.got.length p0.got),(3,.vec .row p0.out)])
           704 (by kernel_rfl) rfl (by kernel_rfl) (⟨tt,⟨tt,⟨⟨trivial,(h16)⟩,⟨tt,⟨⟨tt,trivial⟩,⟨tt,⟨tt,⟨⟨trivial,(h17)⟩,⟨tt,⟨tt,⟨tt,⟨tt,⟨tt,⟨tt,⟨tt,⟨tt,⟨tt,⟨tt,⟨tt,⟨tt,⟨tt,⟨tt,⟨tt,⟨tt,⟨tt,trivial⟩⟩⟩⟩⟩⟩⟩⟩⟩⟩⟩⟩⟩⟩⟩⟩⟩⟩⟩⟩⟩⟩⟩⟩⟩) ?_
         refine Tri.seq ?_
         refine Tri.seq_region [] none [156,11,10,0] [4,0,1,2,3] (TT∧((TT∧True)∧(TT∧True)))
           ([(156,.sc (.b (!(FwOk (FwText_1 (FwFlag_1 (FwText_1 p2 p3) (FwText_2 p2 p3)) (FwFlag_2 (FwText_1 p2 p3) (FwText_2 p2 p3))) (FwText_2 (FwFlag_1 (FwText_1 p2 p3) (FwText_2 p2 p3)) (FwFlag_2 (FwText_1 p2 p3) (FwText_2 p2 p3))))))),(11,.sc (.b false)),(10,.sc (.b (FwFlag (FwText_1 p2 p3) (FwText_2 p2 p3)))),(0,.sc (.p 0 0))],[(4,.cells [.ro .u8 (FwText_1 (FwFlag_1 (FwText_1 p2 p3) (FwText_2 p2 p3)) (FwFlag_2 (FwText_1 p2 p3) (FwText_2 p2 p3))),.b (FwText_2 (FwFlag_1 (FwText_1 p2 p3) (FwText_2 p2 p3)) (FwFlag_2 (FwText_1 p2 p3) (FwText_2 p2 p3)))]),(0,chC 1 2 3 p0),(1,.ints .u8 p0.wait.length p0.wait),(2,.ints .u8 p0.got.length p0.got),(3,.vec .row p0.out)])
           752 (by kernel_rfl) rfl (by kernel_rfl) (⟨tt,⟨⟨tt,trivial⟩,⟨tt,trivial⟩⟩⟩) ?_
         refine Tri.cond (x:=(!(FwOk (FwText_1 (FwFlag_1 (FwText_1 p2 p3) (FwText_2 p2 p3)) (FwFlag_2 (FwText_1 p2 p3) (FwText_2 p2 p3))) (FwText_2 (FwFlag_1 (FwText_1 p2 p3) (FwText_2 p2 p3)) (FwFlag_2 (FwText_1 p2 p3) (FwText_2 p2 p3)))))) (by kernel_rfl) (fun h34 => ?_) (fun h34 => ?_)
         ·
          refine Tri.seq_region [] none [6] [4,0,1,2,3] (TT∧True)
            ([(6,.sc (.i .i64 3))],[(4,.cells [.ro .u8 (FwText_1 (FwFlag_1 (FwText_1 p2 p3) (FwText_2 p2 p3)) (FwFlag_2 (FwText_1 p2 p3) (FwText_2 p2 p3))),.b (FwText_2 (FwFlag_1 (FwText_1 p2 p3) (FwText_2 p2 p3)) (FwFlag_2 (FwText_1 p2 p3) (FwText_2 p2 p3)))]),(0,chC 1 2 3 p0),(1,.ints .u8 p0.wait.length p0.wait),(2,.ints .u8 p0.got.length p0.got),(3,.vec .row p0.out)])
            768 (by kernel_rfl) rfl (by kernel_rfl) (⟨tt,trivial⟩) ?_
          refine Tri.ret ?_
          repeat (first | refine thenP_ret ?_ | refine blkP_ret ?_ | refine countP_ret ?_ | refine joinP_ret ?_ | refine iterP_ret ?_)
          refine subP_done ?_
          refine endP.conv (r':=⟨.sc (.i .i64 3),[some (chC 5 6 7 p0),none,none,none,some (.cells [.ro .u8 (FwText_1 (FwFlag_1 (FwText_1 p2 p3) (FwText_2 p2 p3)) (FwFlag_2 (FwText_1 p2 p3) (FwText_2 p2 p3))),.b (FwText_2 (FwFlag_1 (FwText_1 p2 p3) (FwText_2 p2 p3)) (FwFlag_2 (FwText_1 p2 p3) (FwText_2 p2 p3)))]),some (.ints .u8 p0.wait.length p0.wait),some (.ints .u8 p0.got.length p0.got),some (.vec .row p0.out)]⟩) (by simp only [chC,Fcon,Fcon_1,Fcon_2,Fcon_3,h1,h4,h9,h12,h15,h16,h17,h34,sel_true,sel_false]) ?_
          exact endP.ret [(0,0),(4,4),(1,5),(2,6),(3,7)] TT (by kernel_rfl) (by kernel_rfl) tt
         ·
          refine Tri.skip ?_
          change Tri _ _ _ _ _ _
          refine Tri.split p0.ready (fun h35 => ?_) (fun h35 => ?_)
          ·
           refine Tri.seq_region [(162,qb true)] none [11,10,0] [0,4,1,2,3] (TT∧(TT∧(TT∧(TT∧(((8 < 14)∧True)∧((True∧(p0.ready=true))∧(TT∧(TT∧(TT∧(TT∧((((8 < 14)∧(1=1))∧True)∧True)))))))))))
             ([(11,.sc (.b false)),(10,.sc (.b (FwFlag (FwText_1 p2 p3) (FwText_2 p2 p3)))),(0,.sc (.p 0 0))],[(0,.cells [.b p0.server,.i .i64 p0.state,.i .u32 p0.peer,.i .i64 p0.window,.i .i64 p0.most,.i .i64 p0.room,.sl 1 0 p0.wait.length 1 none,.sl 2 0 p0.got.length 1 none,.b true,.b p0.e0,.b p0.e1,.b p0.c0,.b p0.c1,.sl 3 0 p0.out.length 1 none]),(4,.cells [.ro .u8 (FwText_1 (FwFlag_1 (FwText_1 p2 p3) (FwText_2 p2 p3)) (FwFlag_2 (FwText_1 p2 p3) (FwText_2 p2 p3))),.b (FwText_2 (FwFlag_1 (FwText_1 p2 p3) (FwText_2 p2 p3)) (FwFlag_2 (FwText_1 p2 p3) (FwText_2 p2 p3)))]),(1,.ints .u8 p0.wait.length p0.wait),(2,.ints .u8 p0.got.length p0.got),(3,.vec .row p0.out)])
             928 (by kernel_rfl) rfl (by kernel_rfl) (⟨tt,⟨tt,⟨tt,⟨tt,⟨⟨(by first | omega | (dsimp only; omega) | decide | (simp only [Fconv0,Fconv1,Fconv2,Fconv3,Fconv4,Fconv5,len_say]; omega)),trivial⟩,⟨⟨trivial,(h35)⟩,⟨tt,⟨tt,⟨tt,⟨tt,⟨⟨⟨(by first | omega | (dsimp only; omega) | decide | (simp only [Fconv0,Fconv1,Fconv2,Fconv3,Fconv4,Fconv5,len_say]; omega)),(rfl)⟩,trivial⟩,trivial⟩⟩⟩⟩⟩⟩⟩⟩⟩⟩⟩) ?_
           refine Tri.seq_region [] none [167,11,0] [0,4,1,2,3] (TT∧True)
             ([(167,.sc (.b (FwFlag (FwText_1 p2 p3) (FwText_2 p2 p3)))),(11,.sc (.b false)),(0,.sc (.p 0 0))],[(0,.cells [.b p0.server,.i .i64 p0.state,.i .u32 p0.peer,.i .i64 p0.window,.i .i64 p0.most,.i .i64 p0.room,.sl 1 0 p0.wait.length 1 none,.sl 2 0 p0.got.length 1 none,.b true,.b p0.e0,.b p0.e1,.b p0.c0,.b p0.c1,.sl 3 0 p0.out.length 1 none]),(4,.cells [.ro .u8 (FwText_1 (FwFlag_1 (FwText_1 p2 p3) (FwText_2 p2 p3)) (FwFlag_2 (FwText_1 p2 p3) (FwText_2 p2 p3))),.b (FwText_2 (FwFlag_1 (FwText_1 p2 p3) (FwText_2 p2 p3)) (FwFlag_2 (FwText_1 p2 p3) (FwText_2 p2 p3)))]),(1,.ints .u8 p0.wait.length p0.wait),(2,.ints .u8 p0.got.length p0.got),(3,.vec .row p0.out)])
             944 (by kernel_rfl) rfl (by kernel_rfl) (⟨tt,trivial⟩) ?_
           refine Tri.cond (x:=(FwFlag (FwText_1 p2 p3) (FwText_2 p2 p3))) (by kernel_rfl) (fun h36 => ?_) (fun h36 => ?_)
           ·
            refine Tri.seq_region [] none [12,11,0] [0,4,1,2,3] (TT∧True)
              ([(12,.sc (.i .u8 100)),(11,.sc (.b false)),(0,.sc (.p 0 0))],[(0,.cells [.b p0.server,.i .i64 p0.state,.i .u32 p0.peer,.i .i64 p0.window,.i .i64 p0.most,.i .i64 p0.room,.sl 1 0 p0.wait.length 1 none,.sl 2 0 p0.got.length 1 none,.b true,.b p0.e0,.b p0.e1,.b p0.c0,.b p0.c1,.sl 3 0 p0.out.length 1 none]),(4,.cells [.ro .u8 (FwText_1 (FwFlag_1 (FwText_1 p2 p3) (FwText_2 p2 p3)) (FwFlag_2 (FwText_1 p2 p3) (FwText_2 p2 p3))),.b (FwText_2 (FwFlag_1 (FwText_1 p2 p3) (FwText_2 p2 p3)) (FwFlag_2 (FwText_1 p2 p3) (FwText_2 p2 p3)))]),(1,.ints .u8 p0.wait.length p0.wait),(2,.ints .u8 p0.got.length p0.got),(3,.vec .row p0.out)])
              960 (by kernel_rfl) rfl (by kernel_rfl) (⟨tt,trivial⟩) ?_
            refine Tri.seq ?_
            refine Tri.seq_region [] none [168,12,0] [0,4,1,2,3] (TT∧True)
              ([(168,.sc (.b false)),(12,.sc (.i .u8 100)),(0,.sc (.p 0 0))],[(0,.cells [.b p0.server,.i .i64 p0.state,.i .u32 p0.peer,.i .i64 p0.window,.i .i64 p0.most,.i .i64 p0.room,.sl 1 0 p0.wait.length 1 none,.sl 2 0 p0.got.length 1 none,.b true,.b p0.e0,.b p0.e1,.b p0.c0,.b p0.c1,.sl 3 0 p0.out.length 1 none]),(4,.cells [.ro .u8 (FwText_1 (FwFlag_1 (FwText_1 p2 p3) (FwText_2 p2 p3)) (FwFlag_2 (FwText_1 p2 p3) (FwText_2 p2 p3))),.b (FwText_2 (FwFlag_1 (FwText_1 p2 p3) (FwText_2 p2 p3)) (FwFlag_2 (FwText_1 p2 p3) (FwText_2 p2 p3)))]),(1,.ints .u8 p0.wait.length p0.wait),(2,.ints .u8 p0.got.length p0.got),(3,.vec .row p0.out)])
              976 (by kernel_rfl) rfl (by kernel_rfl) (⟨tt,trivial⟩) ?_
            refine Tri.cond_false (by kernel_rfl) ?_
            refine Tri.skip ?_
            change Tri _ _ _ _ _ _
            refine Tri.region' [] none [] [1042,1041,1040,0,4] (TT∧(TT∧(TT∧((((True∧((chLens (({p0 with ready:=true}:Ch).wait.length) (({p0 with ready:=true}:Ch).got.length) (({p0 with ready:=true}:Ch).out.length) (({p0 with ready:=true}:Ch).wait.length) (({p0 with ready:=true}:Ch).got.length) ({p0 with ready:=true}:Ch))∧True))∧(([some (.cells [.b p0.server,.i .i64 p0.state,.i .u32 p0.peer,.i .i64 p0.window,.i .i64 p0.most,.i .i64 p0.room,.sl 1 0 p0.wait.length 1 none,.sl 2 0 p0.got.length 1 none,.b true,.b p0.e0,.b p0.e1,.b p0.c0,.b p0.c1,.sl 3 0 p0.out.length 1 none]),some (.ints .u8 p0.wait.length p0.wait),some (.ints .u8 p0.got.length p0.got),some (.vec .row p0.out)]:List (Option Blk))=[some (.cells [.b p0.server,.i .i64 p0.state,.i .u32 p0.peer,.i .i64 p0.window,.i .i64 p0.most,.i .i64 p0.room,.sl 1 0 p0.wait.length 1 none,.sl 2 0 p0.got.length 1 none,.b true,.b p0.e0,.b p0.e1,.b p0.c0,.b p0.c1,.sl 3 0 p0.out.length 1 none]),some (.ints .u8 p0.wait.length p0.wait),some (.ints .u8 p0.got.length p0.got),some (.vec .row p0.out)]))∧True)∧(((TT∧((chLens (({p0 with ready:=true}:Ch).wait.length) (({p0 with ready:=true}:Ch).got.length) (({p0 with ready:=true}:Ch).out.length) (({p0 with ready:=true}:Ch).wait.length) (({p0 with ready:=true}:Ch).got.length) ({p0 with ready:=true}:Ch))∧(({p0 with ready:=true}:Ch).out.length≤1000000000)))∧True)∧True)))))
              ([],[(1042,.vec .row ((Fconv3 p0).out)),(1041,.ints .u8 ((Fconv3 p0).got.length) ((Fconv3 p0).got)),(1040,.ints .u8 ((Fconv3 p0).wait.length) ((Fconv3 p0).wait)),(0,chC 1040 1041 1042 (Fconv3 p0)),(4,.cells [.ro .u8 (FwText_1 (FwFlag_1 (FwText_1 p2 p3) (FwText_2 p2 p3)) (FwFlag_2 (FwText_1 p2 p3) (FwText_2 p2 p3))),.b (FwText_2 (FwFlag_1 (FwText_1 p2 p3) (FwText_2 p2 p3)) (FwFlag_2 (FwText_1 p2 p3) (FwText_2 p2 p3)))])])
              1056 (by kernel_rfl) rfl (by kernel_rfl) (⟨tt,⟨tt,⟨tt,⟨⟨⟨⟨trivial,⟨(chLens_self _),trivial⟩⟩,(rfl)⟩,trivial⟩,⟨⟨⟨tt,⟨(chLens_self _),(by first | omega | (dsimp only; omega) | decide | (simp only [Fconv0,Fconv1,Fconv2,Fconv3,Fconv4,Fconv5,len_say]; omega))⟩⟩,trivial⟩,trivial⟩⟩⟩⟩⟩) ?_
            change Tri _ _ _ _ _ _
            refine Tri.seq_region [] none [6] [1042,1041,1040,0,4] (TT∧True)
              ([(6,.sc (.i .i64 0))],[(1042,.vec .row ((Fconv3 p0).out)),(1041,.ints .u8 ((Fconv3 p0).got.length) ((Fconv3 p0).got)),(1040,.ints .u8 ((Fconv3 p0).wait.length) ((Fconv3 p0).wait)),(0,chC 1040 1041 1042 (Fconv3 p0)),(4,.cells [.ro .u8 (FwText_1 (FwFlag_1 (FwText_1 p2 p3) (FwText_2 p2 p3)) (FwFlag_2 (FwText_1 p2 p3) (FwText_2 p2 p3))),.b (FwText_2 (FwFlag_1 (FwText_1 p2 p3) (FwText_2 p2 p3)) (FwFlag_2 (FwText_1 p2 p3) (FwText_2 p2 p3)))])])
              1072 (by kernel_rfl) rfl (by kernel_rfl) (⟨tt,trivial⟩) ?_
            refine Tri.ret ?_
            repeat (first | refine thenP_ret ?_ | refine blkP_ret ?_ | refine countP_ret ?_ | refine joinP_ret ?_ | refine iterP_ret ?_)
            refine subP_done ?_
            refine endP.conv (r':=⟨.sc (.i .i64 0),[some (chC 5 6 7 (Fconv3 p0)),none,none,none,some (.cells [.ro .u8 (FwText_1 (FwFlag_1 (FwText_1 p2 p3) (FwText_2 p2 p3)) (FwFlag_2 (FwText_1 p2 p3) (FwText_2 p2 p3))),.b (FwText_2 (FwFlag_1 (FwText_1 p2 p3) (FwText_2 p2 p3)) (FwFlag_2 (FwText_1 p2 p3) (FwText_2 p2 p3)))]),some (.ints .u8 ((Fconv3 p0).wait.length) ((Fconv3 p0).wait)),some (.ints .u8 ((Fconv3 p0).got.length) ((Fconv3 p0).got)),some (.vec .row ((Fconv3 p0).out))]⟩) (by simp only [chC,Fcon,Fcon_1,Fcon_2,Fcon_3,h1,h4,h9,h12,h15,h16,h17,h34,h35,h36,sel_true,sel_false]) ?_
            exact endP.ret [(0,0),(4,4),(1040,5),(1041,6),(1042,7)] TT (by kernel_rfl) (by kernel_rfl) tt
           ·
            refine Tri.skip ?_
            change Tri _ _ _ _ _ _
            refine Tri.seq_region [] none [6] [0,4,1,2,3] (TT∧True)
              ([(6,.sc (.i .i64 0))],[(0,.cells [.b p0.server,.i .i64 p0.state,.i .u32 p0.peer,.i .i64 p0.window,.i .i64 p0.most,.i .i64 p0.room,.sl 1 0 p0.wait.length 1 none,.sl 2 0 p0.got.length 1 none,.b true,.b p0.e0,.b p0.e1,.b p0.c0,.b p0.c1,.sl 3 0 p0.out.length 1 none]),(4,.cells [.ro .u8 (FwText_1 (FwFlag_1 (FwText_1 p2 p3) (FwText_2 p2 p3)) (FwFlag_2 (FwText_1 p2 p3) (FwText_2 p2 p3))),.b (FwText_2 (FwFlag_1 (FwText_1 p2 p3) (FwText_2 p2 p3)) (FwFlag_2 (FwText_1 p2 p3) (FwText_2 p2 p3)))]),(1,.ints .u8 p0.wait.length p0.wait),(2,.ints .u8 p0.got.length p0.got),(3,.vec .row p0.out)])
              960 (by kernel_rfl) rfl (by kernel_rfl) (⟨tt,trivial⟩) ?_
            refine Tri.ret ?_
            repeat (first | refine thenP_ret ?_ | refine blkP_ret ?_ | refine countP_ret ?_ | refine joinP_ret ?_ | refine iterP_ret ?_)
            refine subP_done ?_
            refine endP.conv (r':=⟨.sc (.i .i64 0),[some (.cells [.b p0.server,.i .i64 p0.state,.i .u32 p0.peer,.i .i64 p0.window,.i .i64 p0.most,.i .i64 p0.room,.sl 5 0 p0.wait.length 1 none,.sl 6 0 p0.got.length 1 none,.b true,.b p0.e0,.b p0.e1,.b p0.c0,.b p0.c1,.sl 7 0 p0.out.length 1 none]),none,none,none,some (.cells [.ro .u8 (FwText_1 (FwFlag_1 (FwText_1 p2 p3) (FwText_2 p2 p3)) (FwFlag_2 (FwText_1 p2 p3) (FwText_2 p2 p3))),.b (FwText_2 (FwFlag_1 (FwText_1 p2 p3) (FwText_2 p2 p3)) (FwFlag_2 (FwText_1 p2 p3) (FwText_2 p2 p3)))]),some (.ints .u8 p0.wait.length p0.wait),some (.ints .u8 p0.got.length p0.got),some (.vec .row p0.out)]⟩) (by simp only [chC,Fcon,Fcon_1,Fcon_2,Fcon_3,h1,h4,h9,h12,h15,h16,h17,h34,h35,h36,sel_true,sel_false]) ?_
            exact endP.ret [(0,0),(4,4),(1,5),(2,6),(3,7)] TT (by kernel_rfl) (by kernel_rfl) tt
          ·
           refine Tri.seq_region [(162,qb false)] none [11,10,0] [0,4,1,2,3] (TT∧(TT∧(TT∧(TT∧(((8 < 14)∧True)∧((True∧(p0.ready=false))∧(TT∧(TT∧(TT∧(TT∧((((8 < 14)∧(1=1))∧True)∧True)))))))))))
             ([(11,.sc (.b false)),(10,.sc (.b (FwFlag (FwText_1 p2 p3) (FwText_2 p2 p3)))),(0,.sc (.p 0 0))],[(0,.cells [.b p0.server,.i .i64 p0.state,.i .u32 p0.peer,.i .i64 p0.window,.i .i64 p0.most,.i .i64 p0.room,.sl 1 0 p0.wait.length 1 none,.sl 2 0 p0.got.length 1 none,.b false,.b p0.e0,.b p0.e1,.b p0.c0,.b p0.c1,.sl 3 0 p0.out.length 1 none]),(4,.cells [.ro .u8 (FwText_1 (FwFlag_1 (FwText_1 p2 p3) (FwText_2 p2 p3)) (FwFlag_2 (FwText_1 p2 p3) (FwText_2 p2 p3))),.b (FwText_2 (FwFlag_1 (FwText_1 p2 p3) (FwText_2 p2 p3)) (FwFlag_2 (FwText_1 p2 p3) (FwText_2 p2 p3)))]),(1,.ints .u8 p0.wait.length p0.wait),(2,.ints .u8 p0.got.length p0.got),(3,.vec .row p0.out)])
             928 (by kernel_rfl) rfl (by kernel_rfl) (⟨tt,⟨tt,⟨tt,⟨tt,⟨⟨(by first | omega | (dsimp only; omega) | decide | (simp only [Fconv0,Fconv1,Fconv2,Fconv3,Fconv4,Fconv5,len_say]; omega)),trivial⟩,⟨⟨trivial,(h35)⟩,⟨tt,⟨tt,⟨tt,⟨tt,⟨⟨⟨(by first | omega | (dsimp only; omega) | decide | (simp only [Fconv0,Fconv1,Fconv2,Fconv3,Fconv4,Fconv5,len_say]; omega)),(rfl)⟩,trivial⟩,trivial⟩⟩⟩⟩⟩⟩⟩⟩⟩⟩⟩) ?_
           refine Tri.seq_region [] none [167,11,0] [0,4,1,2,3] (TT∧True)
             ([(167,.sc (.b (FwFlag (FwText_1 p2 p3) (FwText_2 p2 p3)))),(11,.sc (.b false)),(0,.sc (.p 0 0))],[(0,.cells [.b p0.server,.i .i64 p0.state,.i .u32 p0.peer,.i .i64 p0.window,.i .i64 p0.most,.i .i64 p0.room,.sl 1 0 p0.wait.length 1 none,.sl 2 0 p0.got.length 1 none,.b false,.b p0.e0,.b p0.e1,.b p0.c0,.b p0.c1,.sl 3 0 p0.out.length 1 none]),(4,.cells [.ro .u8 (FwText_1 (FwFlag_1 (FwText_1 p2 p3) (FwText_2 p2 p3)) (FwFlag_2 (FwText_1 p2 p3) (FwText_2 p2 p3))),.b (FwText_2 (FwFlag_1 (FwText_1 p2 p3) (FwText_2 p2 p3)) (FwFlag_2 (FwText_1 p2 p3) (FwText_2 p2 p3)))]),(1,.ints .u8 p0.wait.length p0.wait),(2,.ints .u8 p0.got.length p0.got),(3,.vec .row p0.out)])
             944 (by kernel_rfl) rfl (by kernel_rfl) (⟨tt,trivial⟩) ?_
           refine Tri.cond (x:=(FwFlag (FwText_1 p2 p3) (FwText_2 p2 p3))) (by kernel_rfl) (fun h37 => ?_) (fun h37 => ?_)
           ·
            refine Tri.seq_region [] none [12,11,0] [0,4,1,2,3] (TT∧True)
              ([(12,.sc (.i .u8 100)),(11,.sc (.b false)),(0,.sc (.p 0 0))],[(0,.cells [.b p0.server,.i .i64 p0.state,.i .u32 p0.peer,.i .i64 p0.window,.i .i64 p0.most,.i .i64 p0.room,.sl 1 0 p0.wait.length 1 none,.sl 2 0 p0.got.length 1 none,.b false,.b p0.e0,.b p0.e1,.b p0.c0,.b p0.c1,.sl 3 0 p0.out.length 1 none]),(4,.cells [.ro .u8 (FwText_1 (FwFlag_1 (FwText_1 p2 p3) (FwText_2 p2 p3)) (FwFlag_2 (FwText_1 p2 p3) (FwText_2 p2 p3))),.b (FwText_2 (FwFlag_1 (FwText_1 p2 p3) (FwText_2 p2 p3)) (FwFlag_2 (FwText_1 p2 p3) (FwText_2 p2 p3)))]),(1,.ints .u8 p0.wait.length p0.wait),(2,.ints .u8 p0.got.length p0.got),(3,.vec .row p0.out)])
              960 (by kernel_rfl) rfl (by kernel_rfl) (⟨tt,trivial⟩) ?_
            refine Tri.seq ?_
            refine Tri.seq_region [] none [168,12,0] [0,4,1,2,3] (TT∧True)
              ([(168,.sc (.b false)),(12,.sc (.i .u8 100)),(0,.sc (.p 0 0))],[(0,.cells [.b p0.server,.i .i64 p0.state,.i .u32 p0.peer,.i .i64 p0.window,.i .i64 p0.most,.i .i64 p0.room,.sl 1 0 p0.wait.length 1 none,.sl 2 0 p0.got.length 1 none,.b false,.b p0.e0,.b p0.e1,.b p0.c0,.b p0.c1,.sl 3 0 p0.out.length 1 none]),(4,.cells [.ro .u8 (FwText_1 (FwFlag_1 (FwText_1 p2 p3) (FwText_2 p2 p3)) (FwFlag_2 (FwText_1 p2 p3) (FwText_2 p2 p3))),.b (FwText_2 (FwFlag_1 (FwText_1 p2 p3) (FwText_2 p2 p3)) (FwFlag_2 (FwText_1 p2 p3) (FwText_2 p2 p3)))]),(1,.ints .u8 p0.wait.length p0.wait),(2,.ints .u8 p0.got.length p0.got),(3,.vec .row p0.out)])
              976 (by kernel_rfl) rfl (by kernel_rfl) (⟨tt,trivial⟩) ?_
            refine Tri.cond_false (by kernel_rfl) ?_
            refine Tri.skip ?_
            change Tri _ _ _ _ _ _
            refine Tri.region' [] none [] [1042,1041,1040,0,4] (TT∧(TT∧(TT∧((((True∧((chLens (({p0 with ready:=false}:Ch).wait.length) (({p0 with ready:=false}:Ch).got.length) (({p0 with ready:=false}:Ch).out.length) (({p0 with ready:=false}:Ch).wait.length) (({p0 with ready:=false}:Ch).got.length) ({p0 with ready:=false}:Ch))∧True))∧(([some (.cells [.b p0.server,.i .i64 p0.state,.i .u32 p0.peer,.i .i64 p0.window,.i .i64 p0.most,.i .i64 p0.room,.sl 1 0 p0.wait.length 1 none,.sl 2 0 p0.got.length 1 none,.b false,.b p0.e0,.b p0.e1,.b p0.c0,.b p0.c1,.sl 3 0 p0.out.length 1 none]),some (.ints .u8 p0.wait.length p0.wait),some (.ints .u8 p0.got.length p0.got),some (.vec .row p0.out)]:List (Option Blk))=[some (.cells [.b p0.server,.i .i64 p0.state,.i .u32 p0.peer,.i .i64 p0.window,.i .i64 p0.most,.i .i64 p0.room,.sl 1 0 p0.wait.length 1 none,.sl 2 0 p0.got.length 1 none,.b false,.b p0.e0,.b p0.e1,.b p0.c0,.b p0.c1,.sl 3 0 p0.out.length 1 none]),some (.ints .u8 p0.wait.length p0.wait),some (.ints .u8 p0.got.length p0.got),some (.vec .row p0.out)]))∧True)∧(((TT∧((chLens (({p0 with ready:=false}:Ch).wait.length) (({p0 with ready:=false}:Ch).got.length) (({p0 with ready:=false}:Ch).out.length) (({p0 with ready:=false}:Ch).wait.length) (({p0 with ready:=false}:Ch).got.length) ({p0 with ready:=false}:Ch))∧(({p0 with ready:=false}:Ch).out.length≤1000000000)))∧True)∧True)))))
              ([],[(1042,.vec .row ((Fconv4 p0).out)),(1041,.ints .u8 ((Fconv4 p0).got.length) ((Fconv4 p0).got)),(1040,.ints .u8 ((Fconv4 p0).wait.length) ((Fconv4 p0).wait)),(0,chC 1040 1041 1042 (Fconv4 p0)),(4,.cells [.ro .u8 (FwText_1 (FwFlag_1 (FwText_1 p2 p3) (FwText_2 p2 p3)) (FwFlag_2 (FwText_1 p2 p3) (FwText_2 p2 p3))),.b (FwText_2 (FwFlag_1 (FwText_1 p2 p3) (FwText_2 p2 p3)) (FwFlag_2 (FwText_1 p2 p3) (FwText_2 p2 p3)))])])
              1056 (by kernel_rfl) rfl (by kernel_rfl) (⟨tt,⟨tt,⟨tt,⟨⟨⟨⟨trivial,⟨(chLens_self _),trivial⟩⟩,(rfl)⟩,trivial⟩,⟨⟨⟨tt,⟨(chLens_self _),(by first | omega | (dsimp only; omega) | decide | (simp only [Fconv0,Fconv1,Fconv2,Fconv3,Fconv4,Fconv5,len_say]; omega))⟩⟩,trivial⟩,trivial⟩⟩⟩⟩⟩) ?_
            change Tri _ _ _ _ _ _
            refine Tri.seq_region [] none [6] [1042,1041,1040,0,4] (TT∧True)
              ([(6,.sc (.i .i64 0))],[(1042,.vec .row ((Fconv4 p0).out)),(1041,.ints .u8 ((Fconv4 p0).got.length) ((Fconv4 p0).got)),(1040,.ints .u8 ((Fconv4 p0).wait.length) ((Fconv4 p0).wait)),(0,chC 1040 1041 1042 (Fconv4 p0)),(4,.cells [.ro .u8 (FwText_1 (FwFlag_1 (FwText_1 p2 p3) (FwText_2 p2 p3)) (FwFlag_2 (FwText_1 p2 p3) (FwText_2 p2 p3))),.b (FwText_2 (FwFlag_1 (FwText_1 p2 p3) (FwText_2 p2 p3)) (FwFlag_2 (FwText_1 p2 p3) (FwText_2 p2 p3)))])])
              1072 (by kernel_rfl) rfl (by kernel_rfl) (⟨tt,trivial⟩) ?_
            refine Tri.ret ?_
            repeat (first | refine thenP_ret ?_ | refine blkP_ret ?_ | refine countP_ret ?_ | refine joinP_ret ?_ | refine iterP_ret ?_)
            refine subP_done ?_
            refine endP.conv (r':=⟨.sc (.i .i64 0),[some (chC 5 6 7 (Fconv4 p0)),none,none,none,some (.cells [.ro .u8 (FwText_1 (FwFlag_1 (FwText_1 p2 p3) (FwText_2 p2 p3)) (FwFlag_2 (FwText_1 p2 p3) (FwText_2 p2 p3))),.b (FwText_2 (FwFlag_1 (FwText_1 p2 p3) (FwText_2 p2 p3)) (FwFlag_2 (FwText_1 p2 p3) (FwText_2 p2 p3)))]),some (.ints .u8 ((Fconv4 p0).wait.length) ((Fconv4 p0).wait)),some (.ints .u8 ((Fconv4 p0).got.length) ((Fconv4 p0).got)),some (.vec .row ((Fconv4 p0).out))]⟩) (by simp only [chC,Fcon,Fcon_1,Fcon_2,Fcon_3,h1,h4,h9,h12,h15,h16,h17,h34,h35,h37,sel_true,sel_false]) ?_
            exact endP.ret [(0,0),(4,4),(1040,5),(1041,6),(1042,7)] TT (by kernel_rfl) (by kernel_rfl) tt
           ·
            refine Tri.skip ?_
            change Tri _ _ _ _ _ _
            refine Tri.seq_region [] none [6] [0,4,1,2,3] (TT∧True)
              ([(6,.sc (.i .i64 0))],[(0,.cells [.b p0.server,.i .i64 p0.state,.i .u32 p0.peer,.i .i64 p0.window,.i .i64 p0.most,.i .i64 p0.room,.sl 1 0 p0.wait.length 1 none,.sl 2 0 p0.got.length 1 none,.b false,.b p0.e0,.b p0.e1,.b p0.c0,.b p0.c1,.sl 3 0 p0.out.length 1 none]),(4,.cells [.ro .u8 (FwText_1 (FwFlag_1 (FwText_1 p2 p3) (FwText_2 p2 p3)) (FwFlag_2 (FwText_1 p2 p3) (FwText_2 p2 p3))),.b (FwText_2 (FwFlag_1 (FwText_1 p2 p3) (FwText_2 p2 p3)) (FwFlag_2 (FwText_1 p2 p3) (FwText_2 p2 p3)))]),(1,.ints .u8 p0.wait.length p0.wait),(2,.ints .u8 p0.got.length p0.got),(3,.vec .row p0.out)])
              960 (by kernel_rfl) rfl (by kernel_rfl) (⟨tt,trivial⟩) ?_
            refine Tri.ret ?_
            repeat (first | refine thenP_ret ?_ | refine blkP_ret ?_ | refine countP_ret ?_ | refine joinP_ret ?_ | refine iterP_ret ?_)
            refine subP_done ?_
            refine endP.conv (r':=⟨.sc (.i .i64 0),[some (.cells [.b p0.server,.i .i64 p0.state,.i .u32 p0.peer,.i .i64 p0.window,.i .i64 p0.most,.i .i64 p0.room,.sl 5 0 p0.wait.length 1 none,.sl 6 0 p0.got.length 1 none,.b false,.b p0.e0,.b p0.e1,.b p0.c0,.b p0.c1,.sl 7 0 p0.out.length 1 none]),none,none,none,some (.cells [.ro .u8 (FwText_1 (FwFlag_1 (FwText_1 p2 p3) (FwText_2 p2 p3)) (FwFlag_2 (FwText_1 p2 p3) (FwText_2 p2 p3))),.b (FwText_2 (FwFlag_1 (FwText_1 p2 p3) (FwText_2 p2 p3)) (FwFlag_2 (FwText_1 p2 p3) (FwText_2 p2 p3)))]),some (.ints .u8 p0.wait.length p0.wait),some (.ints .u8 p0.got.length p0.got),some (.vec .row p0.out)]⟩) (by simp only [chC,Fcon,Fcon_1,Fcon_2,Fcon_3,h1,h4,h9,h12,h15,h16,h17,h34,h35,h37,sel_true,sel_false]) ?_
            exact endP.ret [(0,0),(4,4),(1,5),(2,6),(3,7)] TT (by kernel_rfl) (by kernel_rfl) tt
       ·
        refine Tri.seq_region [(132,qb false)] none [11,10,0,2] [4,0,1,2,3] (TT∧(TT∧((True∧((strEq (FwText p2 p3) (⟨#[115,117,98,115,121,115,116,101,109]⟩:ByteArray))=false))∧(TT∧(TT∧(TT∧(TT∧(TT∧(TT∧(TT∧(TT∧(TT∧(TT∧(TT∧(TT∧(TT∧(TT∧(TT∧(TT∧(TT∧(TT∧(TT∧(TT∧(TT∧(TT∧True)))))))))))))))))))))))))
          ([(11,.sc (.b false)),(10,.sc (.b (FwFlag (FwText_1 p2 p3) (FwText_2 p2 p3)))),(0,.sc (.p 0 0)),(2,.sc (.p 4 0))],[(4,.cells [.ro .u8 (FwFlag_1 (FwText_1 p2 p3) (FwText_2 p2 p3)),.b (FwFlag_2 (FwText_1 p2 p3) (FwText_2 p2 p3))]),(0,chC 1 2 3 p0),(1,.ints .u8 p0.wait.length p0.wait),(2,.ints .u8 p0.got.length p0.got),(3,.vec .row p0.out)])
          704 (by kernel_rfl) rfl (by kernel_rfl) (⟨tt,⟨tt,⟨⟨trivial,(h16)⟩,⟨tt,⟨tt,⟨tt,⟨tt,⟨tt,⟨tt,⟨tt,⟨tt,⟨tt,⟨tt,⟨tt,⟨tt,⟨tt,⟨tt,⟨tt,⟨tt,⟨tt,⟨tt,⟨tt,⟨tt,⟨tt,⟨tt,trivial⟩⟩⟩⟩⟩⟩⟩⟩⟩⟩⟩⟩⟩⟩⟩⟩⟩⟩⟩⟩⟩⟩⟩⟩⟩) ?_
        refine Tri.seq ?_
        refine Tri.seq_region [] none [156,11,10,0] [4,0,1,2,3] (TT∧((TT∧True)∧(TT∧True)))
          ([(156,.sc (.b (!(FwOk (FwFlag_1 (FwText_1 p2 p3) (FwText_2 p2 p3)) (FwFlag_2 (FwText_1 p2 p3) (FwText_2 p2 p3)))))),(11,.sc (.b false)),(10,.sc (.b (FwFlag (FwText_1 p2 p3) (FwText_2 p2 p3)))),(0,.sc (.p 0 0))],[(4,.cells [.ro .u8 (FwFlag_1 (FwText_1 p2 p3) (FwText_2 p2 p3)),.b (FwFlag_2 (FwText_1 p2 p3) (FwText_2 p2 p3))]),(0,chC 1 2 3 p0),(1,.ints .u8 p0.wait.length p0.wait),(2,.ints .u8 p0.got.length p0.got),(3,.vec .row p0.out)])
          752 (by kernel_rfl) rfl (by kernel_rfl) (⟨tt,⟨⟨tt,trivial⟩,⟨tt,trivial⟩⟩⟩) ?_
        refine Tri.cond (x:=(!(FwOk (FwFlag_1 (FwText_1 p2 p3) (FwText_2 p2 p3)) (FwFlag_2 (FwText_1 p2 p3) (FwText_2 p2 p3))))) (by kernel_rfl) (fun h38 => ?_) (fun h38 => ?_)
        ·
         refine Tri.seq_region [] none [6] [4,0,1,2,3] (TT∧True)
           ([(6,.sc (.i .i64 3))],[(4,.cells [.ro .u8 (FwFlag_1 (FwText_1 p2 p3) (FwText_2 p2 p3)),.b (FwFlag_2 (FwText_1 p2 p3) (FwText_2 p2 p3))]),(0,chC 1 2 3 p0),(1,.ints .u8 p0.wait.length p0.wait),(2,.ints .u8 p0.got.length p0.got),(3,.vec .row p0.out)])
           768 (by kernel_rfl) rfl (by kernel_rfl) (⟨tt,trivial⟩) ?_
         refine Tri.ret ?_
         repeat (first | refine thenP_ret ?_ | refine blkP_ret ?_ | refine countP_ret ?_ | refine joinP_ret ?_ | refine iterP_ret ?_)
         refine subP_done ?_
         refine endP.conv (r':=⟨.sc (.i .i64 3),[some (chC 5 6 7 p0),none,none,none,some (.cells [.ro .u8 (FwFlag_1 (FwText_1 p2 p3) (FwText_2 p2 p3)),.b (FwFlag_2 (FwText_1 p2 p3) (FwText_2 p2 p3))]),some (.ints .u8 p0.wait.length p0.wait),some (.ints .u8 p0.got.length p0.got),some (.vec .row p0.out)]⟩) (by simp only [chC,Fcon,Fcon_1,Fcon_2,Fcon_3,h1,h4,h9,h12,h15,h16,h38,sel_true,sel_false]) ?_
         exact endP.ret [(0,0),(4,4),(1,5),(2,6),(3,7)] TT (by kernel_rfl) (by kernel_rfl) tt
        ·
         refine Tri.skip ?_
         change Tri _ _ _ _ _ _
         refine Tri.split p0.ready (fun h39 => ?_) (fun h39 => ?_)
         ·
          refine Tri.seq_region [(162,qb true)] none [11,10,0] [0,4,1,2,3] (TT∧(TT∧(TT∧(TT∧(((8 < 14)∧True)∧((True∧(p0.ready=true))∧(TT∧(TT∧(TT∧(TT∧((((8 < 14)∧(1=1))∧True)∧True)))))))))))
            ([(11,.sc (.b false)),(10,.sc (.b (FwFlag (FwText_1 p2 p3) (FwText_2 p2 p3)))),(0,.sc (.p 0 0))],[(0,.cells [.b p0.server,.i .i64 p0.state,.i .u32 p0.peer,.i .i64 p0.window,.i .i64 p0.most,.i .i64 p0.room,.sl 1 0 p0.wait.length 1 none,.sl 2 0 p0.got.length 1 none,.b true,.b p0.e0,.b p0.e1,.b p0.c0,.b p0.c1,.sl 3 0 p0.out.length 1 none]),(4,.cells [.ro .u8 (FwFlag_1 (FwText_1 p2 p3) (FwText_2 p2 p3)),.b (FwFlag_2 (FwText_1 p2 p3) (FwText_2 p2 p3))]),(1,.ints .u8 p0.wait.length p0.wait),(2,.ints .u8 p0.got.length p0.got),(3,.vec .row p0.out)])
            928 (by kernel_rfl) rfl (by kernel_rfl) (⟨tt,⟨tt,⟨tt,⟨tt,⟨⟨(by first | omega | (dsimp only; omega) | decide | (simp only [Fconv0,Fconv1,Fconv2,Fconv3,Fconv4,Fconv5,len_say]; omega)),trivial⟩,⟨⟨trivial,(h39)⟩,⟨tt,⟨tt,⟨tt,⟨tt,⟨⟨⟨(by first | omega | (dsimp only; omega) | decide | (simp only [Fconv0,Fconv1,Fconv2,Fconv3,Fconv4,Fconv5,len_say]; omega)),(rfl)⟩,trivial⟩,trivial⟩⟩⟩⟩⟩⟩⟩⟩⟩⟩⟩) ?_
          refine Tri.seq_region [] none [167,11,0] [0,4,1,2,3] (TT∧True)
            ([(167,.sc (.b (FwFlag (FwText_1 p2 p3) (FwText_2 p2 p3)))),(11,.sc (.b false)),(0,.sc (.p 0 0))],[(0,.cells [.b p0.server,.i .i64 p0.state,.i .u32 p0.peer,.i .i64 p0.window,.i .i64 p0.most,.i .i64 p0.room,.sl 1 0 p0.wait.length 1 none,.sl 2 0 p0.got.length 1 none,.b true,.b p0.e0,.b p0.e1,.b p0.c0,.b p0.c1,.sl 3 0 p0.out.length 1 none]),(4,.cells [.ro .u8 (FwFlag_1 (FwText_1 p2 p3) (FwText_2 p2 p3)),.b (FwFlag_2 (FwText_1 p2 p3) (FwText_2 p2 p3))]),(1,.ints .u8 p0.wait.length p0.wait),(2,.ints .u8 p0.got.length p0.got),(3,.vec .row p0.out)])
            944 (by kernel_rfl) rfl (by kernel_rfl) (⟨tt,trivial⟩) ?_
          refine Tri.cond (x:=(FwFlag (FwText_1 p2 p3) (FwText_2 p2 p3))) (by kernel_rfl) (fun h40 => ?_) (fun h40 => ?_)
          ·
           refine Tri.seq_region [] none [12,11,0] [0,4,1,2,3] (TT∧True)
             ([(12,.sc (.i .u8 100)),(11,.sc (.b false)),(0,.sc (.p 0 0))],[(0,.cells [.b p0.server,.i .i64 p0.state,.i .u32 p0.peer,.i .i64 p0.window,.i .i64 p0.most,.i .i64 p0.room,.sl 1 0 p0.wait.length 1 none,.sl 2 0 p0.got.length 1 none,.b true,.b p0.e0,.b p0.e1,.b p0.c0,.b p0.c1,.sl 3 0 p0.out.length 1 none]),(4,.cells [.ro .u8 (FwFlag_1 (FwText_1 p2 p3) (FwText_2 p2 p3)),.b (FwFlag_2 (FwText_1 p2 p3) (FwText_2 p2 p3))]),(1,.ints .u8 p0.wait.length p0.wait),(2,.ints .u8 p0.got.length p0.got),(3,.vec .row p0.out)])
             960 (by kernel_rfl) rfl (by kernel_rfl) (⟨tt,trivial⟩) ?_
           refine Tri.seq ?_
           refine Tri.seq_region [] none [168,12,0] [0,4,1,2,3] (TT∧True)
             ([(168,.sc (.b false)),(12,.sc (.i .u8 100)),(0,.sc (.p 0 0))],[(0,.cells [.b p0.server,.i .i64 p0.state,.i .u32 p0.peer,.i .i64 p0.window,.i .i64 p0.most,.i .i64 p0.room,.sl 1 0 p0.wait.length 1 none,.sl 2 0 p0.got.length 1 none,.b true,.b p0.e0,.b p0.e1,.b p0.c0,.b p0.c1,.sl 3 0 p0.out.length 1 none]),(4,.cells [.ro .u8 (FwFlag_1 (FwText_1 p2 p3) (FwText_2 p2 p3)),.b (FwFlag_2 (FwText_1 p2 p3) (FwText_2 p2 p3))]),(1,.ints .u8 p0.wait.length p0.wait),(2,.ints .u8 p0.got.length p0.got),(3,.vec .row p0.out)])
             976 (by kernel_rfl) rfl (by kernel_rfl) (⟨tt,trivial⟩) ?_
           refine Tri.cond_false (by kernel_rfl) ?_
           refine Tri.skip ?_
           change Tri _ _ _ _ _ _
           refine Tri.region' [] none [] [1042,1041,1040,0,4] (TT∧(TT∧(TT∧((((True∧((chLens (({p0 with ready:=true}:Ch).wait.length) (({p0 with ready:=true}:Ch).got.length) (({p0 with ready:=true}:Ch).out.length) (({p0 with ready:=true}:Ch).wait.length) (({p0 with ready:=true}:Ch).got.length) ({p0 with ready:=true}:Ch))∧True))∧(([some (.cells [.b p0.server,.i .i64 p0.state,.i .u32 p0.peer,.i .i64 p0.window,.i .i64 p0.most,.i .i64 p0.room,.sl 1 0 p0.wait.length 1 none,.sl 2 0 p0.got.length 1 none,.b true,.b p0.e0,.b p0.e1,.b p0.c0,.b p0.c1,.sl 3 0 p0.out.length 1 none]),some (.ints .u8 p0.wait.length p0.wait),some (.ints .u8 p0.got.length p0.got),some (.vec .row p0.out)]:List (Option Blk))=[some (.cells [.b p0.server,.i .i64 p0.state,.i .u32 p0.peer,.i .i64 p0.window,.i .i64 p0.most,.i .i64 p0.room,.sl 1 0 p0.wait.length 1 none,.sl 2 0 p0.got.length 1 none,.b true,.b p0.e0,.b p0.e1,.b p0.c0,.b p0.c1,.sl 3 0 p0.out.length 1 none]),some (.ints .u8 p0.wait.length p0.wait),some (.ints .u8 p0.got.length p0.got),some (.vec .row p0.out)]))∧True)∧(((TT∧((chLens (({p0 with ready:=true}:Ch).wait.length) (({p0 with ready:=true}:Ch).got.length) (({p0 with ready:=true}:Ch).out.length) (({p0 with ready:=true}:Ch).wait.length) (({p0 with ready:=true}:Ch).got.length) ({p0 with ready:=true}:Ch))∧(({p0 with ready:=true}:Ch).out.length≤1000000000)))∧True)∧True)))))
             ([],[(1042,.vec .row ((Fconv3 p0).out)),(1041,.ints .u8 ((Fconv3 p0).got.length) ((Fconv3 p0).got)),(1040,.ints .u8 ((Fconv3 p0).wait.length) ((Fconv3 p0).wait)),(0,chC 1040 1041 1042 (Fconv3 p0)),(4,.cells [.ro .u8 (FwFlag_1 (FwText_1 p2 p3) (FwText_2 p2 p3)),.b (FwFlag_2 (FwText_1 p2 p3) (FwText_2 p2 p3))])])
             1056 (by kernel_rfl) rfl (by kernel_rfl) (⟨tt,⟨tt,⟨tt,⟨⟨⟨⟨trivial,⟨(chLens_self _),trivial⟩⟩,(rfl)⟩,trivial⟩,⟨⟨⟨tt,⟨(chLens_self _),(by first | omega | (dsimp only; omega) | decide | (simp only [Fconv0,Fconv1,Fconv2,Fconv3,Fconv4,Fconv5,len_say]; omega))⟩⟩,trivial⟩,trivial⟩⟩⟩⟩⟩) ?_
           change Tri _ _ _ _ _ _
           refine Tri.seq_region [] none [6] [1042,1041,1040,0,4] (TT∧True)
             ([(6,.sc (.i .i64 0))],[(1042,.vec .row ((Fconv3 p0).out)),(1041,.ints .u8 ((Fconv3 p0).got.length) ((Fconv3 p0).got)),(1040,.ints .u8 ((Fconv3 p0).wait.length) ((Fconv3 p0).wait)),(0,chC 1040 1041 1042 (Fconv3 p0)),(4,.cells [.ro .u8 (FwFlag_1 (FwText_1 p2 p3) (FwText_2 p2 p3)),.b (FwFlag_2 (FwText_1 p2 p3) (FwText_2 p2 p3))])])
             1072 (by kernel_rfl) rfl (by kernel_rfl) (⟨tt,trivial⟩) ?_
           refine Tri.ret ?_
           repeat (first | refine thenP_ret ?_ | refine blkP_ret ?_ | refine countP_ret ?_ | refine joinP_ret ?_ | refine iterP_ret ?_)
           refine subP_done ?_
           refine endP.conv (r':=⟨.sc (.i .i64 0),[some (chC 5 6 7 (Fconv3 p0)),none,none,none,some (.cells [.ro .u8 (FwFlag_1 (FwText_1 p2 p3) (FwText_2 p2 p3)),.b (FwFlag_2 (FwText_1 p2 p3) (FwText_2 p2 p3))]),some (.ints .u8 ((Fconv3 p0).wait.length) ((Fconv3 p0).wait)),some (.ints .u8 ((Fconv3 p0).got.length) ((Fconv3 p0).got)),some (.vec .row ((Fconv3 p0).out))]⟩) (by simp only [chC,Fcon,Fcon_1,Fcon_2,Fcon_3,h1,h4,h9,h12,h15,h16,h38,h39,h40,sel_true,sel_false]) ?_
           exact endP.ret [(0,0),(4,4),(1040,5),(1041,6),(1042,7)] TT (by kernel_rfl) (by kernel_rfl) tt
          ·
           refine Tri.skip ?_
           change Tri _ _ _ _ _ _
           refine Tri.seq_region [] none [6] [0,4,1,2,3] (TT∧True)
             ([(6,.sc (.i .i64 0))],[(0,.cells [.b p0.server,.i .i64 p0.state,.i .u32 p0.peer,.i .i64 p0.window,.i .i64 p0.most,.i .i64 p0.room,.sl 1 0 p0.wait.length 1 none,.sl 2 0 p0.got.length 1 none,.b true,.b p0.e0,.b p0.e1,.b p0.c0,.b p0.c1,.sl 3 0 p0.out.length 1 none]),(4,.cells [.ro .u8 (FwFlag_1 (FwText_1 p2 p3) (FwText_2 p2 p3)),.b (FwFlag_2 (FwText_1 p2 p3) (FwText_2 p2 p3))]),(1,.ints .u8 p0.wait.length p0.wait),(2,.ints .u8 p0.got.length p0.got),(3,.vec .row p0.out)])
             960 (by kernel_rfl) rfl (by kernel_rfl) (⟨tt,trivial⟩) ?_
           refine Tri.ret ?_
           repeat (first | refine thenP_ret ?_ | refine blkP_ret ?_ | refine countP_ret ?_ | refine joinP_ret ?_ | refine iterP_ret ?_)
           refine subP_done ?_
           refine endP.conv (r':=⟨.sc (.i .i64 0),[some (.cells [.b p0.server,.i .i64 p0.state,.i .u32 p0.peer,.i .i64 p0.window,.i .i64 p0.most,.i .i64 p0.room,.sl 5 0 p0.wait.length 1 none,.sl 6 0 p0.got.length 1 none,.b true,.b p0.e0,.b p0.e1,.b p0.c0,.b p0.c1,.sl 7 0 p0.out.length 1 none]),none,none,none,some (.cells [.ro .u8 (FwFlag_1 (FwText_1 p2 p3) (FwText_2 p2 p3)),.b (FwFlag_2 (FwText_1 p2 p3) (FwText_2 p2 p3))]),some (.ints .u8 p0.wait.length p0.wait),some (.ints .u8 p0.got.length p0.got),some (.vec .row p0.out)]⟩) (by simp only [chC,Fcon,Fcon_1,Fcon_2,Fcon_3,h1,h4,h9,h12,h15,h16,h38,h39,h40,sel_true,sel_false]) ?_
           exact endP.ret [(0,0),(4,4),(1,5),(2,6),(3,7)] TT (by kernel_rfl) (by kernel_rfl) tt
         ·
          refine Tri.seq_region [(162,qb false)] none [11,10,0] [0,4,1,2,3] (TT∧(TT∧(TT∧(TT∧(((8 < 14)∧True)∧((True∧(p0.ready=false))∧(TT∧(TT∧(TT∧(TT∧((((8 < 14)∧(1=1))∧True)∧True)))))))))))
            ([(11,.sc (.b false)),(10,.sc (.b (FwFlag (FwText_1 p2 p3) (FwText_2 p2 p3)))),(0,.sc (.p 0 0))],[(0,.cells [.b p0.server,.i .i64 p0.state,.i .u32 p0.peer,.i .i64 p0.window,.i .i64 p0.most,.i .i64 p0.room,.sl 1 0 p0.wait.length 1 none,.sl 2 0 p0.got.length 1 none,.b false,.b p0.e0,.b p0.e1,.b p0.c0,.b p0.c1,.sl 3 0 p0.out.length 1 none]),(4,.cells [.ro .u8 (FwFlag_1 (FwText_1 p2 p3) (FwText_2 p2 p3)),.b (FwFlag_2 (FwText_1 p2 p3) (FwText_2 p2 p3))]),(1,.ints .u8 p0.wait.length p0.wait),(2,.ints .u8 p0.got.length p0.got),(3,.vec .row p0.out)])
            928 (by kernel_rfl) rfl (by kernel_rfl) (⟨tt,⟨tt,⟨tt,⟨tt,⟨⟨(by first | omega | (dsimp only; omega) | decide | (simp only [Fconv0,Fconv1,Fconv2,Fconv3,Fconv4,Fconv5,len_say]; omega)),trivial⟩,⟨⟨trivial,(h39)⟩,⟨tt,⟨tt,⟨tt,⟨tt,⟨⟨⟨(by first | omega | (dsimp only; omega) | decide | (simp only [Fconv0,Fconv1,Fconv2,Fconv3,Fconv4,Fconv5,len_say]; omega)),(rfl)⟩,trivial⟩,trivial⟩⟩⟩⟩⟩⟩⟩⟩⟩⟩⟩) ?_
          refine Tri.seq_region [] none [167,11,0] [0,4,1,2,3] (TT∧True)
            ([(167,.sc (.b (FwFlag (FwText_1 p2 p3) (FwText_2 p2 p3)))),(11,.sc (.b false)),(0,.sc (.p 0 0))],[(0,.cells [.b p0.server,.i .i64 p0.state,.i .u32 p0.peer,.i .i64 p0.window,.i .i64 p0.most,.i .i64 p0.room,.sl 1 0 p0.wait.length 1 none,.sl 2 0 p0.got.length 1 none,.b false,.b p0.e0,.b p0.e1,.b p0.c0,.b p0.c1,.sl 3 0 p0.out.length 1 none]),(4,.cells [.ro .u8 (FwFlag_1 (FwText_1 p2 p3) (FwText_2 p2 p3)),.b (FwFlag_2 (FwText_1 p2 p3) (FwText_2 p2 p3))]),(1,.ints .u8 p0.wait.length p0.wait),(2,.ints .u8 p0.got.length p0.got),(3,.vec .row p0.out)])
            944 (by kernel_rfl) rfl (by kernel_rfl) (⟨tt,trivial⟩) ?_
          refine Tri.cond (x:=(FwFlag (FwText_1 p2 p3) (FwText_2 p2 p3))) (by kernel_rfl) (fun h41 => ?_) (fun h41 => ?_)
          ·
           refine Tri.seq_region [] none [12,11,0] [0,4,1,2,3] (TT∧True)
             ([(12,.sc (.i .u8 100)),(11,.sc (.b false)),(0,.sc (.p 0 0))],[(0,.cells [.b p0.server,.i .i64 p0.state,.i .u32 p0.peer,.i .i64 p0.window,.i .i64 p0.most,.i .i64 p0.room,.sl 1 0 p0.wait.length 1 none,.sl 2 0 p0.got.length 1 none,.b false,.b p0.e0,.b p0.e1,.b p0.c0,.b p0.c1,.sl 3 0 p0.out.length 1 none]),(4,.cells [.ro .u8 (FwFlag_1 (FwText_1 p2 p3) (FwText_2 p2 p3)),.b (FwFlag_2 (FwText_1 p2 p3) (FwText_2 p2 p3))]),(1,.ints .u8 p0.wait.length p0.wait),(2,.ints .u8 p0.got.length p0.got),(3,.vec .row p0.out)])
             960 (by kernel_rfl) rfl (by kernel_rfl) (⟨tt,trivial⟩) ?_
           refine Tri.seq ?_
           refine Tri.seq_region [] none [168,12,0] [0,4,1,2,3] (TT∧True)
             ([(168,.sc (.b false)),(12,.sc (.i .u8 100)),(0,.sc (.p 0 0))],[(0,.cells [.b p0.server,.i .i64 p0.state,.i .u32 p0.peer,.i .i64 p0.window,.i .i64 p0.most,.i .i64 p0.room,.sl 1 0 p0.wait.length 1 none,.sl 2 0 p0.got.length 1 none,.b false,.b p0.e0,.b p0.e1,.b p0.c0,.b p0.c1,.sl 3 0 p0.out.length 1 none]),(4,.cells [.ro .u8 (FwFlag_1 (FwText_1 p2 p3) (FwText_2 p2 p3)),.b (FwFlag_2 (FwText_1 p2 p3) (FwText_2 p2 p3))]),(1,.ints .u8 p0.wait.length p0.wait),(2,.ints .u8 p0.got.length p0.got),(3,.vec .row p0.out)])
             976 (by kernel_rfl) rfl (by kernel_rfl) (⟨tt,trivial⟩) ?_
           refine Tri.cond_false (by kernel_rfl) ?_
           refine Tri.skip ?_
           change Tri _ _ _ _ _ _
           refine Tri.region' [] none [] [1042,1041,1040,0,4] (TT∧(TT∧(TT∧((((True∧((chLens (({p0 with ready:=false}:Ch).wait.length) (({p0 with ready:=false}:Ch).got.length) (({p0 with ready:=false}:Ch).out.length) (({p0 with ready:=false}:Ch).wait.length) (({p0 with ready:=false}:Ch).got.length) ({p0 with ready:=false}:Ch))∧True))∧(([some (.cells [.b p0.server,.i .i64 p0.state,.i .u32 p0.peer,.i .i64 p0.window,.i .i64 p0.most,.i .i64 p0.room,.sl 1 0 p0.wait.length 1 none,.sl 2 0 p0.got.length 1 none,.b false,.b p0.e0,.b p0.e1,.b p0.c0,.b p0.c1,.sl 3 0 p0.out.length 1 none]),some (.ints .u8 p0.wait.length p0.wait),some (.ints .u8 p0.got.length p0.got),some (.vec .row p0.out)]:List (Option Blk))=[some (.cells [.b p0.server,.i .i64 p0.state,.i .u32 p0.peer,.i .i64 p0.window,.i .i64 p0.most,.i .i64 p0.room,.sl 1 0 p0.wait.length 1 none,.sl 2 0 p0.got.length 1 none,.b false,.b p0.e0,.b p0.e1,.b p0.c0,.b p0.c1,.sl 3 0 p0.out.length 1 none]),some (.ints .u8 p0.wait.length p0.wait),some (.ints .u8 p0.got.length p0.got),some (.vec .row p0.out)]))∧True)∧(((TT∧((chLens (({p0 with ready:=false}:Ch).wait.length) (({p0 with ready:=false}:Ch).got.length) (({p0 with ready:=false}:Ch).out.length) (({p0 with ready:=false}:Ch).wait.length) (({p0 with ready:=false}:Ch).got.length) ({p0 with ready:=false}:Ch))∧(({p0 with ready:=false}:Ch).out.length≤1000000000)))∧True)∧True)))))
             ([],[(1042,.vec .row ((Fconv4 p0).out)),(1041,.ints .u8 ((Fconv4 p0).got.length) ((Fconv4 p0).got)),(1040,.ints .u8 ((Fconv4 p0).wait.length) ((Fconv4 p0).wait)),(0,chC 1040 1041 1042 (Fconv4 p0)),(4,.cells [.ro .u8 (FwFlag_1 (FwText_1 p2 p3) (FwText_2 p2 p3)),.b (FwFlag_2 (FwText_1 p2 p3) (FwText_2 p2 p3))])])
             1056 (by kernel_rfl) rfl (by kernel_rfl) (⟨tt,⟨tt,⟨tt,⟨⟨⟨⟨trivial,⟨(chLens_self _),trivial⟩⟩,(rfl)⟩,trivial⟩,⟨⟨⟨tt,⟨(chLens_self _),(by first | omega | (dsimp only; omega) | decide | (simp only [Fconv0,Fconv1,Fconv2,Fconv3,Fconv4,Fconv5,len_say]; omega))⟩⟩,trivial⟩,trivial⟩⟩⟩⟩⟩) ?_
           change Tri _ _ _ _ _ _
           refine Tri.seq_region [] none [6] [1042,1041,1040,0,4] (TT∧True)
             ([(6,.sc (.i .i64 0))],[(1042,.vec .row ((Fconv4 p0).out)),(1041,.ints .u8 ((Fconv4 p0).got.length) ((Fconv4 p0).got)),(1040,.ints .u8 ((Fconv4 p0).wait.length) ((Fconv4 p0).wait)),(0,chC 1040 1041 1042 (Fconv4 p0)),(4,.cells [.ro .u8 (FwFlag_1 (FwText_1 p2 p3) (FwText_2 p2 p3)),.b (FwFlag_2 (FwText_1 p2 p3) (FwText_2 p2 p3))])])
             1072 (by kernel_rfl) rfl (by kernel_rfl) (⟨tt,trivial⟩) ?_
           refine Tri.ret ?_
           repeat (first | refine thenP_ret ?_ | refine blkP_ret ?_ | refine countP_ret ?_ | refine joinP_ret ?_ | refine iterP_ret ?_)
           refine subP_done ?_
           refine endP.conv (r':=⟨.sc (.i .i64 0),[some (chC 5 6 7 (Fconv4 p0)),none,none,none,some (.cells [.ro .u8 (FwFlag_1 (FwText_1 p2 p3) (FwText_2 p2 p3)),.b (FwFlag_2 (FwText_1 p2 p3) (FwText_2 p2 p3))]),some (.ints .u8 ((Fconv4 p0).wait.length) ((Fconv4 p0).wait)),some (.ints .u8 ((Fconv4 p0).got.length) ((Fconv4 p0).got)),some (.vec .row ((Fconv4 p0).out))]⟩) (by simp only [chC,Fcon,Fcon_1,Fcon_2,Fcon_3,h1,h4,h9,h12,h15,h16,h38,h39,h41,sel_true,sel_false]) ?_
           exact endP.ret [(0,0),(4,4),(1040,5),(1041,6),(1042,7)] TT (by kernel_rfl) (by kernel_rfl) tt
          ·
           refine Tri.skip ?_
           change Tri _ _ _ _ _ _
           refine Tri.seq_region [] none [6] [0,4,1,2,3] (TT∧True)
             ([(6,.sc (.i .i64 0))],[(0,.cells [.b p0.server,.i .i64 p0.state,.i .u32 p0.peer,.i .i64 p0.window,.i .i64 p0.most,.i .i64 p0.room,.sl 1 0 p0.wait.length 1 none,.sl 2 0 p0.got.length 1 none,.b false,.b p0.e0,.b p0.e1,.b p0.c0,.b p0.c1,.sl 3 0 p0.out.length 1 none]),(4,.cells [.ro .u8 (FwFlag_1 (FwText_1 p2 p3) (FwText_2 p2 p3)),.b (FwFlag_2 (FwText_1 p2 p3) (FwText_2 p2 p3))]),(1,.ints .u8 p0.wait.length p0.wait),(2,.ints .u8 p0.got.length p0.got),(3,.vec .row p0.out)])
             960 (by kernel_rfl) rfl (by kernel_rfl) (⟨tt,trivial⟩) ?_
           refine Tri.ret ?_
           repeat (first | refine thenP_ret ?_ | refine blkP_ret ?_ | refine countP_ret ?_ | refine joinP_ret ?_ | refine iterP_ret ?_)
           refine subP_done ?_
           refine endP.conv (r':=⟨.sc (.i .i64 0),[some (.cells [.b p0.server,.i .i64 p0.state,.i .u32 p0.peer,.i .i64 p0.window,.i .i64 p0.most,.i .i64 p0.room,.sl 5 0 p0.wait.length 1 none,.sl 6 0 p0.got.length 1 none,.b false,.b p0.e0,.b p0.e1,.b p0.c0,.b p0.c1,.sl 7 0 p0.out.length 1 none]),none,none,none,some (.cells [.ro .u8 (FwFlag_1 (FwText_1 p2 p3) (FwText_2 p2 p3)),.b (FwFlag_2 (FwText_1 p2 p3) (FwText_2 p2 p3))]),some (.ints .u8 p0.wait.length p0.wait),some (.ints .u8 p0.got.length p0.got),some (.vec .row p0.out)]⟩) (by simp only [chC,Fcon,Fcon_1,Fcon_2,Fcon_3,h1,h4,h9,h12,h15,h16,h38,h39,h41,sel_true,sel_false]) ?_
           exact endP.ret [(0,0),(4,4),(1,5),(2,6),(3,7)] TT (by kernel_rfl) (by kernel_rfl) tt
      ·
       have h15':=eq_false_i h15
       refine Tri.seq ?_
       refine Tri.seq_region [] none [174,13,0,1,2] [0,1,2,3,4] (TT∧(TT∧True))
         ([(174,.sc (.b ((p1:Int) == 99))),(13,.sc (.i .u8 p1)),(0,.sc (.p 0 0)),(1,.sc (.i .u8 p1)),(2,.sc (.p 4 0))],[(0,chC 1 2 3 p0),(1,.ints .u8 p0.wait.length p0.wait),(2,.ints .u8 p0.got.length p0.got),(3,.vec .row p0.out),(4,.cells [.ro .u8 p2,.b p3])])
         240 (by kernel_rfl) rfl (by kernel_rfl) (⟨tt,⟨tt,trivial⟩⟩) ?_
       refine Tri.join (x:=((p1:Int) == 99)) (fun bb => ([(174,.sc (.b (sel bb ((p1:Int) == 99) ((p1:Int) == 100)))),(0,.sc (.p 0 0)),(1,.sc (.i .u8 p1)),(2,.sc (.p 4 0))],[(0,chC 1 2 3 p0),(1,.ints .u8 p0.wait.length p0.wait),(2,.ints .u8 p0.got.length p0.got),(3,.vec .row p0.out),(4,.cells [.ro .u8 p2,.b p3])])) 272 (by kernel_rfl) (fun h42 => ?_) (fun h42 => ?_) ?_
       ·
        have h42':=eq_true_i h42
        refine Tri.skip ?_
        exact (Sub.ren (ns:=[(0,0),(1,1),(2,2),(3,3),(4,4)]) (kf:=[174,0,1,2]) (s':=([(174,.sc (.b ((p1:Int) == 99))),(0,.sc (.p 0 0)),(1,.sc (.i .u8 p1)),(2,.sc (.p 4 0))],[(0,chC 1 2 3 p0),(1,.ints .u8 p0.wait.length p0.wait),(2,.ints .u8 p0.got.length p0.got),(3,.vec .row p0.out),(4,.cells [.ro .u8 p2,.b p3])])) (by kernel_rfl) (by kernel_rfl)).trans (Sub.of_eq (by simp only [chC,sel_true,sel_false]))
       ·
        have h42':=eq_false_i h42
        refine Tri.region' [] none [174,0,1,2] [0,1,2,3,4] (TT∧(TT∧True))
          ([(174,.sc (.b ((p1:Int) == 100))),(0,.sc (.p 0 0)),(1,.sc (.i .u8 p1)),(2,.sc (.p 4 0))],[(0,chC 1 2 3 p0),(1,.ints .u8 p0.wait.length p0.wait),(2,.ints .u8 p0.got.length p0.got),(3,.vec .row p0.out),(4,.cells [.ro .u8 p2,.b p3])])
          272 (by kernel_rfl) rfl (by kernel_rfl) (⟨tt,⟨tt,trivial⟩⟩) ?_
        exact (Sub.ren (ns:=[(0,0),(1,1),(2,2),(3,3),(4,4)]) (kf:=[174,0,1,2]) (s':=([(174,.sc (.b ((p1:Int) == 100))),(0,.sc (.p 0 0)),(1,.sc (.i .u8 p1)),(2,.sc (.p 4 0))],[(0,chC 1 2 3 p0),(1,.ints .u8 p0.wait.length p0.wait),(2,.ints .u8 p0.got.length p0.got),(3,.vec .row p0.out),(4,.cells [.ro .u8 p2,.b p3])])) (by kernel_rfl) (by kernel_rfl)).trans (Sub.of_eq (by simp only [chC,sel_true,sel_false]))
       ·
        change Tri _ _ _ _ _ _
        refine Tri.cond (x:=(sel ((p1:Int) == 99) ((p1:Int) == 99) ((p1:Int) == 100))) (by kernel_rfl) (fun h43 => ?_) (fun h43 => ?_)
        ·
         refine Tri.seq ?_
         refine Tri.split (!(FwEnd p2 p3)) (fun h44 => ?_) (fun h44 => ?_)
         ·
          refine Tri.seq_region [(180,qb true)] none [191,0,1] [4,0,1,2,3] (TT∧((TT∧True)∧(TT∧((True∧((!(FwEnd p2 p3))=true))∧(TT∧(TT∧(TT∧(TT∧(TT∧(TT∧(TT∧(TT∧(TT∧(TT∧(TT∧True)))))))))))))))
            ([(191,.sc (.b true)),(0,.sc (.p 0 0)),(1,.sc (.i .u8 p1))],[(4,.cells [.ro .u8 p2,.b p3]),(0,chC 1 2 3 p0),(1,.ints .u8 p0.wait.length p0.wait),(2,.ints .u8 p0.got.length p0.got),(3,.vec .row p0.out)])
            512 (by kernel_rfl) rfl (by kernel_rfl) (⟨tt,⟨⟨tt,trivial⟩,⟨tt,⟨⟨trivial,(h44)⟩,⟨tt,⟨tt,⟨tt,⟨tt,⟨tt,⟨tt,⟨tt,⟨tt,⟨tt,⟨tt,⟨tt,trivial⟩⟩⟩⟩⟩⟩⟩⟩⟩⟩⟩⟩⟩⟩⟩) ?_
          refine Tri.cond_true (by kernel_rfl) ?_
          refine Tri.seq_region [] none [6] [4,0,1,2,3] (TT∧True)
            ([(6,.sc (.i .i64 3))],[(4,.cells [.ro .u8 p2,.b p3]),(0,chC 1 2 3 p0),(1,.ints .u8 p0.wait.length p0.wait),(2,.ints .u8 p0.got.length p0.got),(3,.vec .row p0.out)])
            528 (by kernel_rfl) rfl (by kernel_rfl) (⟨tt,trivial⟩) ?_
          refine Tri.ret ?_
          repeat (first | refine thenP_ret ?_ | refine blkP_ret ?_ | refine countP_ret ?_ | refine joinP_ret ?_ | refine iterP_ret ?_)
          refine subP_done ?_
          refine endP.conv (r':=⟨.sc (.i .i64 3),[some (chC 5 6 7 p0),none,none,none,some (.cells [.ro .u8 p2,.b p3]),some (.ints .u8 p0.wait.length p0.wait),some (.ints .u8 p0.got.length p0.got),some (.vec .row p0.out)]⟩) (by simp only [chC,Fcon,Fcon_1,Fcon_2,Fcon_3,h1,h4,h9,h12,h15,h43,h44,sel_true,sel_false]) ?_
          exact endP.ret [(0,0),(4,4),(1,5),(2,6),(3,7)] TT (by kernel_rfl) (by kernel_rfl) tt
         ·
          refine Tri.split p0.server (fun h45 => ?_) (fun h45 => ?_)
          ·
           refine Tri.seq_region [(180,qb false),(186,qb true)] none [191,0,1] [4,0,1,2,3] (TT∧((TT∧True)∧(TT∧((True∧((!(FwEnd p2 p3))=false))∧(TT∧(TT∧(TT∧(((0 < 14)∧True)∧(TT∧((True∧(p0.server=true))∧(TT∧(TT∧(TT∧(TT∧(TT∧True)))))))))))))))
             ([(191,.sc (.b true)),(0,.sc (.p 0 0)),(1,.sc (.i .u8 p1))],[(4,.cells [.ro .u8 p2,.b p3]),(0,chC 1 2 3 p0),(1,.ints .u8 p0.wait.length p0.wait),(2,.ints .u8 p0.got.length p0.got),(3,.vec .row p0.out)])
             512 (by kernel_rfl) rfl (by kernel_rfl) (⟨tt,⟨⟨tt,trivial⟩,⟨tt,⟨⟨trivial,(h44)⟩,⟨tt,⟨tt,⟨tt,⟨⟨(by first | omega | (dsimp only; omega) | decide | (simp only [Fconv0,Fconv1,Fconv2,Fconv3,Fconv4,Fconv5,len_say]; omega)),trivial⟩,⟨tt,⟨⟨trivial,(h45)⟩,⟨tt,⟨tt,⟨tt,⟨tt,⟨tt,trivial⟩⟩⟩⟩⟩⟩⟩⟩⟩⟩⟩⟩⟩⟩⟩) ?_
           refine Tri.cond_true (by kernel_rfl) ?_
           refine Tri.seq_region [] none [6] [4,0,1,2,3] (TT∧True)
             ([(6,.sc (.i .i64 3))],[(4,.cells [.ro .u8 p2,.b p3]),(0,chC 1 2 3 p0),(1,.ints .u8 p0.wait.length p0.wait),(2,.ints .u8 p0.got.length p0.got),(3,.vec .row p0.out)])
             528 (by kernel_rfl) rfl (by kernel_rfl) (⟨tt,trivial⟩) ?_
           refine Tri.ret ?_
           repeat (first | refine thenP_ret ?_ | refine blkP_ret ?_ | refine countP_ret ?_ | refine joinP_ret ?_ | refine iterP_ret ?_)
           refine subP_done ?_
           refine endP.conv (r':=⟨.sc (.i .i64 3),[some (chC 5 6 7 p0),none,none,none,some (.cells [.ro .u8 p2,.b p3]),some (.ints .u8 p0.wait.length p0.wait),some (.ints .u8 p0.got.length p0.got),some (.vec .row p0.out)]⟩) (by simp only [chC,Fcon,Fcon_1,Fcon_2,Fcon_3,h1,h4,h9,h12,h15,h43,h44,h45,sel_true,sel_false]) ?_
           exact endP.ret [(0,0),(4,4),(1,5),(2,6),(3,7)] TT (by kernel_rfl) (by kernel_rfl) tt
          ·
           refine Tri.seq_region [(180,qb false),(186,qb false)] none [191,0,1] [4,0,1,2,3] (TT∧((TT∧True)∧(TT∧((True∧((!(FwEnd p2 p3))=false))∧(TT∧(TT∧(TT∧(((0 < 14)∧True)∧(TT∧((True∧(p0.server=false))∧(TT∧(TT∧(TT∧(((8 < 14)∧True)∧(TT∧True)))))))))))))))
             ([(191,.sc (.b p0.ready)),(0,.sc (.p 0 0)),(1,.sc (.i .u8 p1))],[(4,.cells [.ro .u8 p2,.b p3]),(0,chC 1 2 3 p0),(1,.ints .u8 p0.wait.length p0.wait),(2,.ints .u8 p0.got.length p0.got),(3,.vec .row p0.out)])
             512 (by kernel_rfl) rfl (by kernel_rfl) (⟨tt,⟨⟨tt,trivial⟩,⟨tt,⟨⟨trivial,(h44)⟩,⟨tt,⟨tt,⟨tt,⟨⟨(by first | omega | (dsimp only; omega) | decide | (simp only [Fconv0,Fconv1,Fconv2,Fconv3,Fconv4,Fconv5,len_say]; omega)),trivial⟩,⟨tt,⟨⟨trivial,(h45)⟩,⟨tt,⟨tt,⟨tt,⟨⟨(by first | omega | (dsimp only; omega) | decide | (simp only [Fconv0,Fconv1,Fconv2,Fconv3,Fconv4,Fconv5,len_say]; omega)),trivial⟩,⟨tt,trivial⟩⟩⟩⟩⟩⟩⟩⟩⟩⟩⟩⟩⟩⟩⟩) ?_
           refine Tri.cond (x:=p0.ready) (by kernel_rfl) (fun h46 => ?_) (fun h46 => ?_)
           ·
            refine Tri.seq_region [] none [6] [4,0,1,2,3] (TT∧True)
              ([(6,.sc (.i .i64 3))],[(4,.cells [.ro .u8 p2,.b p3]),(0,chC 1 2 3 p0),(1,.ints .u8 p0.wait.length p0.wait),(2,.ints .u8 p0.got.length p0.got),(3,.vec .row p0.out)])
              528 (by kernel_rfl) rfl (by kernel_rfl) (⟨tt,trivial⟩) ?_
            refine Tri.ret ?_
            repeat (first | refine thenP_ret ?_ | refine blkP_ret ?_ | refine countP_ret ?_ | refine joinP_ret ?_ | refine iterP_ret ?_)
            refine subP_done ?_
            refine endP.conv (r':=⟨.sc (.i .i64 3),[some (chC 5 6 7 p0),none,none,none,some (.cells [.ro .u8 p2,.b p3]),some (.ints .u8 p0.wait.length p0.wait),some (.ints .u8 p0.got.length p0.got),some (.vec .row p0.out)]⟩) (by simp only [chC,Fcon,Fcon_1,Fcon_2,Fcon_3,h1,h4,h9,h12,h15,h43,h44,h45,h46,sel_true,sel_false]) ?_
            exact endP.ret [(0,0),(4,4),(1,5),(2,6),(3,7)] TT (by kernel_rfl) (by kernel_rfl) tt
           ·
            refine Tri.skip ?_
            change Tri _ _ _ _ _ _
            refine Tri.seq_region [] none [0] [0,4,1,2,3] (TT∧(TT∧(TT∧(TT∧(TT∧((((8 < 14)∧(1=1))∧True)∧True))))))
              ([(0,.sc (.p 0 0))],[(0,.cells [.b p0.server,.i .i64 p0.state,.i .u32 p0.peer,.i .i64 p0.window,.i .i64 p0.most,.i .i64 p0.room,.sl 1 0 p0.wait.length 1 none,.sl 2 0 p0.got.length 1 none,.b ((p1:Int) == 99),.b p0.e0,.b p0.e1,.b p0.c0,.b p0.c1,.sl 3 0 p0.out.length 1 none]),(4,.cells [.ro .u8 p2,.b p3]),(1,.ints .u8 p0.wait.length p0.wait),(2,.ints .u8 p0.got.length p0.got),(3,.vec .row p0.out)])
              608 (by kernel_rfl) rfl (by kernel_rfl) (⟨tt,⟨tt,⟨tt,⟨tt,⟨tt,⟨⟨⟨(by first | omega | (dsimp only; omega) | decide | (simp only [Fconv0,Fconv1,Fconv2,Fconv3,Fconv4,Fconv5,len_say]; omega)),(rfl)⟩,trivial⟩,trivial⟩⟩⟩⟩⟩⟩) ?_
            refine Tri.split (!((p1:Int) == 99)) (fun h47 => ?_) (fun h47 => ?_)
            ·
             refine Tri.seq_region [(202,qb true)] none [209,0] [0,4,1,2,3] (TT∧(TT∧(TT∧(((8 < 14)∧True)∧(TT∧((True∧((!((p1:Int) == 99))=true))∧(TT∧(TT∧(TT∧((((0:Int)≤0∧0 < ((2:Nat):Int))∧True)∧(((11 < 14)∧True)∧(TT∧(TT∧True)))))))))))))
               ([(209,.sc (.b (!p0.c0))),(0,.sc (.p 0 0))],[(0,.cells [.b p0.server,.i .i64 p0.state,.i .u32 p0.peer,.i .i64 p0.window,.i .i64 p0.most,.i .i64 p0.room,.sl 1 0 p0.wait.length 1 none,.sl 2 0 p0.got.length 1 none,.b ((p1:Int) == 99),.b p0.e0,.b p0.e1,.b p0.c0,.b p0.c1,.sl 3 0 p0.out.length 1 none]),(4,.cells [.ro .u8 p2,.b p3]),(1,.ints .u8 p0.wait.length p0.wait),(2,.ints .u8 p0.got.length p0.got),(3,.vec .row p0.out)])
               816 (by kernel_rfl) rfl (by kernel_rfl) (⟨tt,⟨tt,⟨tt,⟨⟨(by first | omega | (dsimp only; omega) | decide | (simp only [Fconv0,Fconv1,Fconv2,Fconv3,Fconv4,Fconv5,len_say]; omega)),trivial⟩,⟨tt,⟨⟨trivial,(h47)⟩,⟨tt,⟨tt,⟨tt,⟨⟨(by first | omega | (dsimp only; omega) | decide | (simp only [Fconv0,Fconv1,Fconv2,Fconv3,Fconv4,Fconv5,len_say]; omega)),trivial⟩,⟨⟨(by first | omega | (dsimp only; omega) | decide | (simp only [Fconv0,Fconv1,Fconv2,Fconv3,Fconv4,Fconv5,len_say]; omega)),trivial⟩,⟨tt,⟨tt,trivial⟩⟩⟩⟩⟩⟩⟩⟩⟩⟩⟩⟩⟩) ?_
             refine Tri.cond (x:=(!p0.c0)) (by kernel_rfl) (fun h48 => ?_) (fun h48 => ?_)
             ·
              refine Tri.region' [] none [] [834,833,832,0,4] (TT∧(((True∧((chLens (({p0 with ready:=((p1:Int) == 99)}:Ch).wait.length) (({p0 with ready:=((p1:Int) == 99)}:Ch).got.length) (({p0 with ready:=((p1:Int) == 99)}:Ch).out.length) (({p0 with ready:=((p1:Int) == 99)}:Ch).wait.length) (({p0 with ready:=((p1:Int) == 99)}:Ch).got.length) ({p0 with ready:=((p1:Int) == 99)}:Ch))∧(({p0 with ready:=((p1:Int) == 99)}:Ch).out.length≤900000000)))∧True)∧True))
                ([],[(834,.vec .row ((Fconv5 p0 p1).out)),(833,.ints .u8 ((Fconv5 p0 p1).got.length) ((Fconv5 p0 p1).got)),(832,.ints .u8 ((Fconv5 p0 p1).wait.length) ((Fconv5 p0 p1).wait)),(0,chC 832 833 834 (Fconv5 p0 p1)),(4,.cells [.ro .u8 p2,.b p3])])
                848 (by kernel_rfl) rfl (by kernel_rfl) (⟨tt,⟨⟨⟨trivial,⟨(chLens_self _),(by first | omega | (dsimp only; omega) | decide | (simp only [Fconv0,Fconv1,Fconv2,Fconv3,Fconv4,Fconv5,len_say]; omega))⟩⟩,trivial⟩,trivial⟩⟩) ?_
              change Tri _ _ _ _ _ _
              refine Tri.seq_region [] none [6] [834,833,832,0,4] (TT∧True)
                ([(6,.sc (.i .i64 0))],[(834,.vec .row ((Fconv5 p0 p1).out)),(833,.ints .u8 ((Fconv5 p0 p1).got.length) ((Fconv5 p0 p1).got)),(832,.ints .u8 ((Fconv5 p0 p1).wait.length) ((Fconv5 p0 p1).wait)),(0,chC 832 833 834 (Fconv5 p0 p1)),(4,.cells [.ro .u8 p2,.b p3])])
                864 (by kernel_rfl) rfl (by kernel_rfl) (⟨tt,trivial⟩) ?_
              refine Tri.ret ?_
              repeat (first | refine thenP_ret ?_ | refine blkP_ret ?_ | refine countP_ret ?_ | refine joinP_ret ?_ | refine iterP_ret ?_)
              refine subP_done ?_
              refine endP.conv (r':=⟨.sc (.i .i64 0),[some (chC 5 6 7 (Fconv5 p0 p1)),none,none,none,some (.cells [.ro .u8 p2,.b p3]),some (.ints .u8 ((Fconv5 p0 p1).wait.length) ((Fconv5 p0 p1).wait)),some (.ints .u8 ((Fconv5 p0 p1).got.length) ((Fconv5 p0 p1).got)),some (.vec .row ((Fconv5 p0 p1).out))]⟩) (by simp only [chC,Fcon,Fcon_1,Fcon_2,Fcon_3,h1,h4,h9,h12,h15,h43,h44,h45,h46,h47,h48,sel_true,sel_false]) ?_
              exact endP.ret [(0,0),(4,4),(832,5),(833,6),(834,7)] TT (by kernel_rfl) (by kernel_rfl) tt
             ·
              refine Tri.skip ?_
              change Tri _ _ _ _ _ _
              refine Tri.seq_region [] none [6] [0,4,1,2,3] (TT∧True)
                ([(6,.sc (.i .i64 0))],[(0,.cells [.b p0.server,.i .i64 p0.state,.i .u32 p0.peer,.i .i64 p0.window,.i .i64 p0.most,.i .i64 p0.room,.sl 1 0 p0.wait.length 1 none,.sl 2 0 p0.got.length 1 none,.b ((p1:Int) == 99),.b p0.e0,.b p0.e1,.b p0.c0,.b p0.c1,.sl 3 0 p0.out.length 1 none]),(4,.cells [.ro .u8 p2,.b p3]),(1,.ints .u8 p0.wait.length p0.wait),(2,.ints .u8 p0.got.length p0.got),(3,.vec .row p0.out)])
                832 (by kernel_rfl) rfl (by kernel_rfl) (⟨tt,trivial⟩) ?_
              refine Tri.ret ?_
              repeat (first | refine thenP_ret ?_ | refine blkP_ret ?_ | refine countP_ret ?_ | refine joinP_ret ?_ | refine iterP_ret ?_)
              refine subP_done ?_
              refine endP.conv (r':=⟨.sc (.i .i64 0),[some (.cells [.b p0.server,.i .i64 p0.state,.i .u32 p0.peer,.i .i64 p0.window,.i .i64 p0.most,.i .i64 p0.room,.sl 5 0 p0.wait.length 1 none,.sl 6 0 p0.got.length 1 none,.b ((p1:Int) == 99),.b p0.e0,.b p0.e1,.b p0.c0,.b p0.c1,.sl 7 0 p0.out.length 1 none]),none,none,none,some (.cells [.ro .u8 p2,.b p3]),some (.ints .u8 p0.wait.length p0.wait),some (.ints .u8 p0.got.length p0.got),some (.vec .row p0.out)]⟩) (by simp only [chC,Fcon,Fcon_1,Fcon_2,Fcon_3,h1,h4,h9,h12,h15,h43,h44,h45,h46,h47,h48,sel_true,sel_false]) ?_
              exact endP.ret [(0,0),(4,4),(1,5),(2,6),(3,7)] TT (by kernel_rfl) (by kernel_rfl) tt
            ·
             refine Tri.seq_region [(202,qb false)] none [209,0] [0,4,1,2,3] (TT∧(TT∧(TT∧(((8 < 14)∧True)∧(TT∧((True∧((!((p1:Int) == 99))=false))∧(TT∧(TT∧(TT∧(TT∧(TT∧(TT∧(TT∧True)))))))))))))
               ([(209,.sc (.b false)),(0,.sc (.p 0 0))],[(0,.cells [.b p0.server,.i .i64 p0.state,.i .u32 p0.peer,.i .i64 p0.window,.i .i64 p0.most,.i .i64 p0.room,.sl 1 0 p0.wait.length 1 none,.sl 2 0 p0.got.length 1 none,.b ((p1:Int) == 99),.b p0.e0,.b p0.e1,.b p0.c0,.b p0.c1,.sl 3 0 p0.out.length 1 none]),(4,.cells [.ro .u8 p2,.b p3]),(1,.ints .u8 p0.wait.length p0.wait),(2,.ints .u8 p0.got.length p0.got),(3,.vec .row p0.out)])
               816 (by kernel_rfl) rfl (by kernel_rfl) (⟨tt,⟨tt,⟨tt,⟨⟨(by first | omega | (dsimp only; omega) | decide | (simp only [Fconv0,Fconv1,Fconv2,Fconv3,Fconv4,Fconv5,len_say]; omega)),trivial⟩,⟨tt,⟨⟨trivial,(h47)⟩,⟨tt,⟨tt,⟨tt,⟨tt,⟨tt,⟨tt,⟨tt,trivial⟩⟩⟩⟩⟩⟩⟩⟩⟩⟩⟩⟩⟩) ?_
             refine Tri.cond_false (by kernel_rfl) ?_
             refine Tri.skip ?_
             change Tri _ _ _ _ _ _
             refine Tri.seq_region [] none [6] [0,4,1,2,3] (TT∧True)
               ([(6,.sc (.i .i64 0))],[(0,.cells [.b p0.server,.i .i64 p0.state,.i .u32 p0.peer,.i .i64 p0.window,.i .i64 p0.most,.i .i64 p0.room,.sl 1 0 p0.wait.length 1 none,.sl 2 0 p0.got.length 1 none,.b ((p1:Int) == 99),.b p0.e0,.b p0.e1,.b p0.c0,.b p0.c1,.sl 3 0 p0.out.length 1 none]),(4,.cells [.ro .u8 p2,.b p3]),(1,.ints .u8 p0.wait.length p0.wait),(2,.ints .u8 p0.got.length p0.got),(3,.vec .row p0.out)])
               832 (by kernel_rfl) rfl (by kernel_rfl) (⟨tt,trivial⟩) ?_
             refine Tri.ret ?_
             repeat (first | refine thenP_ret ?_ | refine blkP_ret ?_ | refine countP_ret ?_ | refine joinP_ret ?_ | refine iterP_ret ?_)
             refine subP_done ?_
             refine endP.conv (r':=⟨.sc (.i .i64 0),[some (.cells [.b p0.server,.i .i64 p0.state,.i .u32 p0.peer,.i .i64 p0.window,.i .i64 p0.most,.i .i64 p0.room,.sl 5 0 p0.wait.length 1 none,.sl 6 0 p0.got.length 1 none,.b ((p1:Int) == 99),.b p0.e0,.b p0.e1,.b p0.c0,.b p0.c1,.sl 7 0 p0.out.length 1 none]),none,none,none,some (.cells [.ro .u8 p2,.b p3]),some (.ints .u8 p0.wait.length p0.wait),some (.ints .u8 p0.got.length p0.got),some (.vec .row p0.out)]⟩) (by simp only [chC,Fcon,Fcon_1,Fcon_2,Fcon_3,h1,h4,h9,h12,h15,h43,h44,h45,h46,h47,sel_true,sel_false]) ?_
             exact endP.ret [(0,0),(4,4),(1,5),(2,6),(3,7)] TT (by kernel_rfl) (by kernel_rfl) tt
        ·
         refine Tri.seq_region [] none [6] [0,1,2,3,4] (TT∧True)
           ([(6,.sc (.i .i64 3))],[(0,chC 1 2 3 p0),(1,.ints .u8 p0.wait.length p0.wait),(2,.ints .u8 p0.got.length p0.got),(3,.vec .row p0.out),(4,.cells [.ro .u8 p2,.b p3])])
           288 (by kernel_rfl) rfl (by kernel_rfl) (⟨tt,trivial⟩) ?_
         refine Tri.ret ?_
         repeat (first | refine thenP_ret ?_ | refine blkP_ret ?_ | refine countP_ret ?_ | refine joinP_ret ?_ | refine iterP_ret ?_)
         refine subP_done ?_
         refine endP.conv (r':=⟨.sc (.i .i64 3),[some (chC 5 6 7 p0),none,none,none,some (.cells [.ro .u8 p2,.b p3]),some (.ints .u8 p0.wait.length p0.wait),some (.ints .u8 p0.got.length p0.got),some (.vec .row p0.out)]⟩) (by simp only [chC,Fcon,Fcon_1,Fcon_2,Fcon_3,h1,h4,h9,h12,h15,h43,sel_true,sel_false]) ?_
         exact endP.ret [(0,0),(4,4),(1,5),(2,6),(3,7)] TT (by kernel_rfl) (by kernel_rfl) tt
noncomputable def FcTakev0 (p0:Ch) (p1:List Int):Ch :=
 (Fcopen_1 p0 (FwByte_1 p1 false) (FwByte_2 p1 false))
noncomputable def FcTakev1 (p0:Ch) (p1:List Int):Ch :=
 (Fcconfirm_1 p0 (FwByte_1 p1 false) (FwByte_2 p1 false))
noncomputable def FcTakev2 (p0:Ch) (p1:List Int):Ch :=
 (Fcon_1 p0 (FwByte p1 false) (FwU32_1 (FwByte_1 p1 false) (FwByte_2 p1 false)) (FwU32_2 (FwByte_1 p1 false) (FwByte_2 p1 false)))
noncomputable def FcTake (p0:Ch) (p1:List Int):Int :=
 (sel (((p1.length:Int):Int) == 0) 3 (sel (((FwByte p1 false):Int) == 90) (Fcopen p0 (FwByte_1 p1 false) (FwByte_2 p1 false)) (sel (((FwByte p1 false):Int) == 91) (Fcconfirm p0 (FwByte_1 p1 false) (FwByte_2 p1 false)) (sel (((FwByte p1 false):Int) == 92) (sel (!(FwOk (FwU32_1 (FwByte_1 p1 false) (FwByte_2 p1 false)) (FwU32_2 (FwByte_1 p1 false) (FwByte_2 p1 false)))) 3 (sel ((p0.state:Int) != 1) 3 0)) (sel (((FwU32 (FwByte_1 p1 false) (FwByte_2 p1 false)):Int) != 0) 3 (sel ((p0.state:Int) != 2) 3 (sel p0.c1 3 (Fcon p0 (FwByte p1 false) (FwU32_1 (FwByte_1 p1 false) (FwByte_2 p1 false)) (FwU32_2 (FwByte_1 p1 false) (FwByte_2 p1 false))))))))))
noncomputable def FcTake_1 (p0:Ch) (p1:List Int):Ch :=
 (sel (((p1.length:Int):Int) == 0) p0 (sel (((FwByte p1 false):Int) == 90) (FcTakev0 p0 p1) (sel (((FwByte p1 false):Int) == 91) (FcTakev1 p0 p1) (sel (((FwByte p1 false):Int) == 92) (sel (!(FwOk (FwU32_1 (FwByte_1 p1 false) (FwByte_2 p1 false)) (FwU32_2 (FwByte_1 p1 false) (FwByte_2 p1 false)))) p0 (sel ((p0.state:Int) != 1) p0 ({p0 with state:=3}:Ch))) (sel (((FwU32 (FwByte_1 p1 false) (FwByte_2 p1 false)):Int) != 0) p0 (sel ((p0.state:Int) != 2) p0 (sel p0.c1 p0 (FcTakev2 p0 p1))))))))
noncomputable def ScTakec (p0:Ch) (y0_n1:Nat) (y0_n2:Nat) (y0_n3:Nat) (y0_m1:Nat) (y0_m2:Nat) (p1:List Int):Option (Prop × Ret) :=
 some ((chLens y0_n1 y0_n2 y0_n3 y0_m1 y0_m2 p0∧(chOk 900000000 p0)),⟨.sc (.i .i64 (FcTake p0 p1)),[some (chC 4 5 6 (FcTake_1 p0 p1)),none,none,none,some (.ints .u8 ((FcTake_1 p0 p1).wait.length) ((FcTake_1 p0 p1).wait)),some (.ints .u8 ((FcTake_1 p0 p1).got.length) ((FcTake_1 p0 p1).got)),some (.vec .row ((FcTake_1 p0 p1).out))]⟩)
noncomputable def ScTake:List AV→List Blk→Option (Prop × Ret)
 | [.sc (.p 0 0),.sc (.ro .u8 p1)],[.cells [.b y0_server,.i .i64 y0_state,.i .u32 y0_peer,.i .i64 y0_window,.i .i64 y0_most,.i .i64 y0_room,.sl 1 0 y0_n1 1 none,.sl 2 0 y0_n2 1 none,.b y0_ready,.b y0_e0,.b y0_e1,.b y0_c0,.b y0_c1,.sl 3 0 y0_n3 1 none],.ints .u8 y0_m1 y0_wait,.ints .u8 y0_m2 y0_got,.vec .row y0_out] => ScTakec ⟨y0_server,y0_state,y0_peer,y0_window,y0_most,y0_room,y0_wait,y0_got,y0_ready,y0_e0,y0_e1,y0_c0,y0_c1,y0_out⟩ y0_n1 y0_n2 y0_n3 y0_m1 y0_m2 p1
 | _,_ => none
noncomputable def BcTake:Bs:={ P:=Go.Proofs.Try.prog,G:=noG,tab:=tabOf [⟨31,160,[.ro .u8],[],[],⟨0,1,SwFrom⟩,false⟩,⟨32,208,[.io],[],[160],⟨1,0,SwByte⟩,false⟩,⟨33,320,[.io,.io],[],[0,1,2,3,160],⟨5,3,Scopen⟩,false⟩,⟨34,352,[.io,.io],[],[0,1,2,3,160],⟨5,3,Scconfirm⟩,false⟩,⟨35,368,[.io],[],[160],⟨1,0,SwU32⟩,false⟩,⟨36,400,[.io],[],[160],⟨1,0,SwOk⟩,false⟩,⟨37,704,[.io,.val,.io],[],[0,1,2,3,160],⟨5,3,Scon⟩,false⟩],n:=69 }
theorem BcTake.ok:BcTake.Ok:=⟨tabOk (P:=Go.Proofs.Try.prog) (G:=noG) (l:=[⟨31,160,[.ro .u8],[],[],⟨0,1,SwFrom⟩,false⟩,⟨32,208,[.io],[],[160],⟨1,0,SwByte⟩,false⟩,⟨33,320,[.io,.io],[],[0,1,2,3,160],⟨5,3,Scopen⟩,false⟩,⟨34,352,[.io,.io],[],[0,1,2,3,160],⟨5,3,Scconfirm⟩,false⟩,⟨35,368,[.io],[],[160],⟨1,0,SwU32⟩,false⟩,⟨36,400,[.io],[],[160],⟨1,0,SwOk⟩,false⟩,⟨37,704,[.io,.val,.io],[],[0,1,2,3,160],⟨5,3,Scon⟩,false⟩]) (And.intro KwFrom (And.intro KwByte (And.intro Kcopen (And.intro Kcconfirm (And.intro KwU32 (And.intro KwOk (And.intro Kcon True.intro))))))),mixed⟩
theorem KcTake:Known Go.Proofs.Try.prog noG 12 ⟨4,3,ScTake⟩:=by
 refine Known.walk (B:=BcTake) (fn:=Go.Proofs.Try.f12) BcTake.ok (by kernel_rfl) rfl (by kernel_rfl) (by kernel_rfl) (by decide) (by decide) ?_
 ·intro E args ks C r h hC hlen
  simp only at h
  unfold ScTake at h
  split at h
  rotate_left
  ·cases h
  rename_i p1 y0_server y0_state y0_peer y0_window y0_most y0_room y0_n1 y0_n2 y0_ready y0_e0 y0_e1 y0_c0 y0_c1 y0_n3 y0_m1 y0_wait y0_m2 y0_got y0_out
  generalize hp0:(⟨y0_server,y0_state,y0_peer,y0_window,y0_most,y0_room,y0_wait,y0_got,y0_ready,y0_e0,y0_e1,y0_c0,y0_c1,y0_out⟩:Ch)=p0 at h
  obtain rfl:y0_server=p0.server:=by rw [← hp0]
  obtain rfl:y0_state=p0.state:=by rw [← hp0]
  obtain rfl:y0_peer=p0.peer:=by rw [← hp0]
  obtain rfl:y0_window=p0.window:=by rw [← hp0]
  obtain rfl:y0_most=p0.most:=by rw [← hp0]
  obtain rfl:y0_room=p0.room:=by rw [← hp0]
  obtain rfl:y0_wait=p0.wait:=by rw [← hp0]
  obtain rfl:y0_got=p0.got:=by rw [← hp0]
  obtain rfl:y0_ready=p0.ready:=by rw [← hp0]
  obtain rfl:y0_e0=p0.e0:=by rw [← hp0]
  obtain rfl:y0_e1=p0.e1:=by rw [← hp0]
  obtain rfl:y0_c0=p0.c0:=by rw [← hp0]
  obtain rfl:y0_c1=p0.c1:=by rw [← hp0]
  obtain rfl:y0_out=p0.out:=by rw [← hp0]
  clear hp0
  unfold ScTakec at h
  cases h
  obtain ⟨⟨rfl,rfl,rfl,rfl,rfl⟩,hC⟩:=hC
  simp only [lens] at hlen
  obtain ⟨⟨hq1,hq2⟩,hq3,hq4,⟨hq5,hq5b⟩,hq6⟩:=id hC
  refine ⟨show 2≤69 from by decide,?_⟩
  refine Tri.sub (Sub.of_eq (show _=([(0,.sc (.p 0 0)),(1,.sc (.ro .u8 p1))],[(0,chC 1 2 3 p0),(1,.ints .u8 p0.wait.length p0.wait),(2,.ints .u8 p0.got.length p0.got),(3,.vec .row p0.out)]) from rfl)) ?_
  refine Tri.subP ?_
  refine Tri.seq_region [] none [0,1] [0,1,2,3] (TT∧True)
    ([(0,.sc (.p 0 0)),(1,.sc (.ro .u8 p1))],[(0,chC 1 2 3 p0),(1,.ints .u8 p0.wait.length p0.wait),(2,.ints .u8 p0.got.length p0.got),(3,.vec .row p0.out)])
    32 (by kernel_rfl) rfl (by kernel_rfl) (⟨tt,trivial⟩) ?_
  refine Tri.seq ?_
  refine Tri.seq_region [] none [14,0,1] [0,1,2,3] (TT∧(TT∧(TT∧(TT∧(TT∧(TT∧(TT∧True)))))))
    ([(14,.sc (.b (((p1.length:Int):Int) == 0))),(0,.sc (.p 0 0)),(1,.sc (.ro .u8 p1))],[(0,chC 1 2 3 p0),(1,.ints .u8 p0.wait.length p0.wait),(2,.ints .u8 p0.got.length p0.got),(3,.vec .row p0.out)])
    144 (by kernel_rfl) rfl (by kernel_rfl) (⟨tt,⟨tt,⟨tt,⟨tt,⟨tt,⟨tt,⟨tt,trivial⟩⟩⟩⟩⟩⟩⟩) ?_
  refine Tri.cond (x:=(((p1.length:Int):Int) == 0)) (by kernel_rfl) (fun h1 => ?_) (fun h1 => ?_)
  ·
   have h1':=eq_true_i h1
   refine Tri.seq_region [] none [4] [0,1,2,3] (TT∧True)
     ([(4,.sc (.i .i64 3))],[(0,chC 1 2 3 p0),(1,.ints .u8 p0.wait.length p0.wait),(2,.ints .u8 p0.got.length p0.got),(3,.vec .row p0.out)])
     160 (by kernel_rfl) rfl (by kernel_rfl) (⟨tt,trivial⟩) ?_
   refine Tri.ret ?_
   repeat (first | refine thenP_ret ?_ | refine blkP_ret ?_ | refine countP_ret ?_ | refine joinP_ret ?_ | refine iterP_ret ?_)
   refine subP_done ?_
   refine endP.conv (r':=⟨.sc (.i .i64 3),[some (chC 4 5 6 p0),none,none,none,some (.ints .u8 p0.wait.length p0.wait),some (.ints .u8 p0.got.length p0.got),some (.vec .row p0.out)]⟩) (by simp only [chC,FcTake,FcTake_1,h1,sel_true,sel_false]) ?_
   exact endP.ret [(0,0),(1,4),(2,5),(3,6)] TT (by kernel_rfl) (by kernel_rfl) tt
  ·
   have h1':=eq_false_i h1
   refine Tri.skip ?_
   change Tri _ _ _ _ _ _
   refine Tri.seq_region [] none [5,0] [160,0,1,2,3] (TT∧(((TT∧True)∧True)∧(TT∧True)))
     ([(5,.sc (.p 160 0)),(0,.sc (.p 0 0))],[(160,.cells [.ro .u8 p1,.b false]),(0,chC 1 2 3 p0),(1,.ints .u8 p0.wait.length p0.wait),(2,.ints .u8 p0.got.length p0.got),(3,.vec .row p0.out)])
     192 (by kernel_rfl) rfl (by kernel_rfl) (⟨tt,⟨⟨⟨tt,trivial⟩,trivial⟩,⟨tt,trivial⟩⟩⟩) ?_
   refine Tri.seq_region [] none [6,5,0] [160,0,1,2,3] (TT∧((TT∧True)∧(TT∧True)))
     ([(6,.sc (.i .u8 (FwByte p1 false))),(5,.sc (.p 160 0)),(0,.sc (.p 0 0))],[(160,.cells [.ro .u8 (FwByte_1 p1 false),.b (FwByte_2 p1 false)]),(0,chC 1 2 3 p0),(1,.ints .u8 p0.wait.length p0.wait),(2,.ints .u8 p0.got.length p0.got),(3,.vec .row p0.out)])
     240 (by kernel_rfl) rfl (by kernel_rfl) (⟨tt,⟨⟨tt,trivial⟩,⟨tt,trivial⟩⟩⟩) ?_
   refine Tri.seq_region [] none [19,6,5,0] [160,0,1,2,3] (TT∧True)
     ([(19,.sc (.i .u8 (FwByte p1 false))),(6,.sc (.i .u8 (FwByte p1 false))),(5,.sc (.p 160 0)),(0,.sc (.p 0 0))],[(160,.cells [.ro .u8 (FwByte_1 p1 false),.b (FwByte_2 p1 false)]),(0,chC 1 2 3 p0),(1,.ints .u8 p0.wait.length p0.wait),(2,.ints .u8 p0.got.length p0.got),(3,.vec .row p0.out)])
     256 (by kernel_rfl) rfl (by kernel_rfl) (⟨tt,trivial⟩) ?_
   refine Tri.block ?_
   refine Tri.seq_region [] none [42,19,6,5,0] [160,0,1,2,3] (TT∧(TT∧True))
     ([(42,.sc (.b (((FwByte p1 false):Int) == 90))),(19,.sc (.i .u8 (FwByte p1 false))),(6,.sc (.i .u8 (FwByte p1 false))),(5,.sc (.p 160 0)),(0,.sc (.p 0 0))],[(160,.cells [.ro .u8 (FwByte_1 p1 false),.b (FwByte_2 p1 false)]),(0,chC 1 2 3 p0),(1,.ints .u8 p0.wait.length p0.wait),(2,.ints .u8 p0.got.length p0.got),(3,.vec .row p0.out)])
     288 (by kernel_rfl) rfl (by kernel_rfl) (⟨tt,⟨tt,trivial⟩⟩) ?_
   refine Tri.cond (x:=(((FwByte p1 false):Int) == 90)) (by kernel_rfl) (fun h2 => ?_) (fun h2 => ?_)
   ·
    have h2':=eq_true_i h2
    refine Tri.seq_region [] none [4] [322,321,320,0] (TT∧(TT∧(((True∧((chLens p0.wait.length p0.got.length p0.out.length p0.wait.length p0.got.length p0)∧(p0.out.length≤900000000)))∧True)∧(TT∧True))))
      ([(4,.sc (.i .i64 (Fcopen p0 (FwByte_1 p1 false) (FwByte_2 p1 false))))],[(322,.vec .row ((FcTakev0 p0 p1).out)),(321,.ints .u8 ((FcTakev0 p0 p1).got.length) ((FcTakev0 p0 p1).got)),(320,.ints .u8 ((FcTakev0 p0 p1).wait.length) ((FcTakev0 p0 p1).wait)),(0,chC 320 321 322 (FcTakev0 p0 p1))])
      352 (by kernel_rfl) rfl (by kernel_rfl) (⟨tt,⟨tt,⟨⟨⟨trivial,⟨(chLens_self _),(by first | omega | (dsimp only; omega) | decide | (simp only [FcTakev0,FcTakev1,FcTakev2,len_say]; omega))⟩⟩,trivial⟩,⟨tt,trivial⟩⟩⟩⟩) ?_
    refine Tri.ret ?_
    repeat (first | refine thenP_ret ?_ | refine blkP_ret ?_ | refine countP_ret ?_ | refine joinP_ret ?_ | refine iterP_ret ?_)
    refine subP_done ?_
    refine endP.conv (r':=⟨.sc (.i .i64 (Fcopen p0 (FwByte_1 p1 false) (FwByte_2 p1 false))),[some (chC 4 5 6 (FcTakev0 p0 p1)),none,none,none,some (.ints .u8 ((FcTakev0 p0 p1).wait.length) ((FcTakev0 p0 p1).wait)),some (.ints .u8 ((FcTakev0 p0 p1).got.length) ((FcTakev0 p0 p1).got)),some (.vec .row ((FcTakev0 p0 p1).out))]⟩) (by simp only [chC,FcTake,FcTake_1,h1,h2,sel_true,sel_false]) ?_
    exact endP.ret [(0,0),(320,4),(321,5),(322,6)] TT (by kernel_rfl) (by kernel_rfl) tt
   ·
    have h2':=eq_false_i h2
    refine Tri.seq_region [] none [47,19,6,5,0] [160,0,1,2,3] (TT∧(TT∧True))
      ([(47,.sc (.b (((FwByte p1 false):Int) == 91))),(19,.sc (.i .u8 (FwByte p1 false))),(6,.sc (.i .u8 (FwByte p1 false))),(5,.sc (.p 160 0)),(0,.sc (.p 0 0))],[(160,.cells [.ro .u8 (FwByte_1 p1 false),.b (FwByte_2 p1 false)]),(0,chC 1 2 3 p0),(1,.ints .u8 p0.wait.length p0.wait),(2,.ints .u8 p0.got.length p0.got),(3,.vec .row p0.out)])
      320 (by kernel_rfl) rfl (by kernel_rfl) (⟨tt,⟨tt,trivial⟩⟩) ?_
    refine Tri.cond (x:=(((FwByte p1 false):Int) == 91)) (by kernel_rfl) (fun h3 => ?_) (fun h3 => ?_)
    ·
     have h3':=eq_true_i h3
     refine Tri.seq_region [] none [4] [354,353,352,0] (TT∧(TT∧(((True∧((chLens p0.wait.length p0.got.length p0.out.length p0.wait.length p0.got.length p0)∧(p0.out.length≤900000000)))∧True)∧(TT∧True))))
       ([(4,.sc (.i .i64 (Fcconfirm p0 (FwByte_1 p1 false) (FwByte_2 p1 false))))],[(354,.vec .row ((FcTakev1 p0 p1).out)),(353,.ints .u8 ((FcTakev1 p0 p1).got.length) ((FcTakev1 p0 p1).got)),(352,.ints .u8 ((FcTakev1 p0 p1).wait.length) ((FcTakev1 p0 p1).wait)),(0,chC 352 353 354 (FcTakev1 p0 p1))])
       384 (by kernel_rfl) rfl (by kernel_rfl) (⟨tt,⟨tt,⟨⟨⟨trivial,⟨(chLens_self _),(by first | omega | (dsimp only; omega) | decide | (simp only [FcTakev0,FcTakev1,FcTakev2,len_say]; omega))⟩⟩,trivial⟩,⟨tt,trivial⟩⟩⟩⟩) ?_
     refine Tri.ret ?_
     repeat (first | refine thenP_ret ?_ | refine blkP_ret ?_ | refine countP_ret ?_ | refine joinP_ret ?_ | refine iterP_ret ?_)
     refine subP_done ?_
     refine endP.conv (r':=⟨.sc (.i .i64 (Fcconfirm p0 (FwByte_1 p1 false) (FwByte_2 p1 false))),[some (chC 4 5 6 (FcTakev1 p0 p1)),none,none,none,some (.ints .u8 ((FcTakev1 p0 p1).wait.length) ((FcTakev1 p0 p1).wait)),some (.ints .u8 ((FcTakev1 p0 p1).got.length) ((FcTakev1 p0 p1).got)),some (.vec .row ((FcTakev1 p0 p1).out))]⟩) (by simp only [chC,FcTake,FcTake_1,h1,h2,h3,sel_true,sel_false]) ?_
     exact endP.ret [(0,0),(352,4),(353,5),(354,6)] TT (by kernel_rfl) (by kernel_rfl) tt
    ·
     have h3':=eq_false_i h3
     refine Tri.seq_region [] none [52,6,5,0] [160,0,1,2,3] (TT∧(TT∧True))
       ([(52,.sc (.b (((FwByte p1 false):Int) == 92))),(6,.sc (.i .u8 (FwByte p1 false))),(5,.sc (.p 160 0)),(0,.sc (.p 0 0))],[(160,.cells [.ro .u8 (FwByte_1 p1 false),.b (FwByte_2 p1 false)]),(0,chC 1 2 3 p0),(1,.ints .u8 p0.wait.length p0.wait),(2,.ints .u8 p0.got.length p0.got),(3,.vec .row p0.out)])
       352 (by kernel_rfl) rfl (by kernel_rfl) (⟨tt,⟨tt,trivial⟩⟩) ?_
     refine Tri.cond (x:=(((FwByte p1 false):Int) == 92)) (by kernel_rfl) (fun h4 => ?_) (fun h4 => ?_)
     ·
      have h4':=eq_true_i h4
      refine Tri.seq ?_
      refine Tri.seq_region [] none [5,0] [160,0,1,2,3] (TT∧((TT∧True)∧True))
        ([(5,.sc (.p 160 0)),(0,.sc (.p 0 0))],[(160,.cells [.ro .u8 (FwU32_1 (FwByte_1 p1 false) (FwByte_2 p1 false)),.b (FwU32_2 (FwByte_1 p1 false) (FwByte_2 p1 false))]),(0,chC 1 2 3 p0),(1,.ints .u8 p0.wait.length p0.wait),(2,.ints .u8 p0.got.length p0.got),(3,.vec .row p0.out)])
        384 (by kernel_rfl) rfl (by kernel_rfl) (⟨tt,⟨⟨tt,trivial⟩,trivial⟩⟩) ?_
      refine Tri.split (!(FwOk (FwU32_1 (FwByte_1 p1 false) (FwByte_2 p1 false)) (FwU32_2 (FwByte_1 p1 false) (FwByte_2 p1 false)))) (fun h5 => ?_) (fun h5 => ?_)
      ·
       refine Tri.seq_region [(59,qb true)] none [65,0] [0,1,2,3] (TT∧((TT∧True)∧(TT∧((True∧((!(FwOk (FwU32_1 (FwByte_1 p1 false) (FwByte_2 p1 false)) (FwU32_2 (FwByte_1 p1 false) (FwByte_2 p1 false))))=true))∧(TT∧(TT∧(TT∧(TT∧(TT∧(TT∧True))))))))))
         ([(65,.sc (.b true)),(0,.sc (.p 0 0))],[(0,chC 1 2 3 p0),(1,.ints .u8 p0.wait.length p0.wait),(2,.ints .u8 p0.got.length p0.got),(3,.vec .row p0.out)])
         544 (by kernel_rfl) rfl (by kernel_rfl) (⟨tt,⟨⟨tt,trivial⟩,⟨tt,⟨⟨trivial,(h5)⟩,⟨tt,⟨tt,⟨tt,⟨tt,⟨tt,⟨tt,trivial⟩⟩⟩⟩⟩⟩⟩⟩⟩⟩) ?_
       refine Tri.cond_true (by kernel_rfl) ?_
       refine Tri.seq_region [] none [4] [0,1,2,3] (TT∧True)
         ([(4,.sc (.i .i64 3))],[(0,chC 1 2 3 p0),(1,.ints .u8 p0.wait.length p0.wait),(2,.ints .u8 p0.got.length p0.got),(3,.vec .row p0.out)])
         560 (by kernel_rfl) rfl (by kernel_rfl) (⟨tt,trivial⟩) ?_
       refine Tri.ret ?_
       repeat (first | refine thenP_ret ?_ | refine blkP_ret ?_ | refine countP_ret ?_ | refine joinP_ret ?_ | refine iterP_ret ?_)
       refine subP_done ?_
       refine endP.conv (r':=⟨.sc (.i .i64 3),[some (chC 4 5 6 p0),none,none,none,some (.ints .u8 p0.wait.length p0.wait),some (.ints .u8 p0.got.length p0.got),some (.vec .row p0.out)]⟩) (by simp only [chC,FcTake,FcTake_1,h1,h2,h3,h4,h5,sel_true,sel_false]) ?_
       exact endP.ret [(0,0),(1,4),(2,5),(3,6)] TT (by kernel_rfl) (by kernel_rfl) tt
      ·
       refine Tri.seq_region [(59,qb false)] none [65,0] [0,1,2,3] (TT∧((TT∧True)∧(TT∧((True∧((!(FwOk (FwU32_1 (FwByte_1 p1 false) (FwByte_2 p1 false)) (FwU32_2 (FwByte_1 p1 false) (FwByte_2 p1 false))))=false))∧(TT∧(TT∧(TT∧(((1 < 14)∧True)∧(TT∧(TT∧True))))))))))
         ([(65,.sc (.b ((p0.state:Int) != 1))),(0,.sc (.p 0 0))],[(0,chC 1 2 3 p0),(1,.ints .u8 p0.wait.length p0.wait),(2,.ints .u8 p0.got.length p0.got),(3,.vec .row p0.out)])
         544 (by kernel_rfl) rfl (by kernel_rfl) (⟨tt,⟨⟨tt,trivial⟩,⟨tt,⟨⟨trivial,(h5)⟩,⟨tt,⟨tt,⟨tt,⟨⟨(by first | omega | (dsimp only; omega) | decide | (simp only [FcTakev0,FcTakev1,FcTakev2,len_say]; omega)),trivial⟩,⟨tt,⟨tt,trivial⟩⟩⟩⟩⟩⟩⟩⟩⟩⟩) ?_
       refine Tri.cond (x:=((p0.state:Int) != 1)) (by kernel_rfl) (fun h6 => ?_) (fun h6 => ?_)
       ·
        have h6':=ne_true_i h6
        refine Tri.seq_region [] none [4] [0,1,2,3] (TT∧True)
          ([(4,.sc (.i .i64 3))],[(0,chC 1 2 3 p0),(1,.ints .u8 p0.wait.length p0.wait),(2,.ints .u8 p0.got.length p0.got),(3,.vec .row p0.out)])
          560 (by kernel_rfl) rfl (by kernel_rfl) (⟨tt,trivial⟩) ?_
        refine Tri.ret ?_
        repeat (first | refine thenP_ret ?_ | refine blkP_ret ?_ | refine countP_ret ?_ | refine joinP_ret ?_ | refine iterP_ret ?_)
        refine subP_done ?_
        refine endP.conv (r':=⟨.sc (.i .i64 3),[some (chC 4 5 6 p0),none,none,none,some (.ints .u8 p0.wait.length p0.wait),some (.ints .u8 p0.got.length p0.got),some (.vec .row p0.out)]⟩) (by simp only [chC,FcTake,FcTake_1,h1,h2,h3,h4,h5,h6,sel_true,sel_false]) ?_
        exact endP.ret [(0,0),(1,4),(2,5),(3,6)] TT (by kernel_rfl) (by kernel_rfl) tt
       ·
        have h6':=ne_false_i h6
        refine Tri.skip ?_
        change Tri _ _ _ _ _ _
        refine Tri.seq_region [] none [] [0,1,2,3] (TT∧(TT∧(TT∧((((1 < 14)∧(1=1))∧True)∧True))))
          ([],[(0,.cells [.b p0.server,.i .i64 3,.i .u32 p0.peer,.i .i64 p0.window,.i .i64 p0.most,.i .i64 p0.room,.sl 1 0 p0.wait.length 1 none,.sl 2 0 p0.got.length 1 none,.b p0.ready,.b p0.e0,.b p0.e1,.b p0.c0,.b p0.c1,.sl 3 0 p0.out.length 1 none]),(1,.ints .u8 p0.wait.length p0.wait),(2,.ints .u8 p0.got.length p0.got),(3,.vec .row p0.out)])
          608 (by kernel_rfl) rfl (by kernel_rfl) (⟨tt,⟨tt,⟨tt,⟨⟨⟨(by first | omega | (dsimp only; omega) | decide | (simp only [FcTakev0,FcTakev1,FcTakev2,len_say]; omega)),(rfl)⟩,trivial⟩,trivial⟩⟩⟩⟩) ?_
        refine Tri.seq_region [] none [4] [0,1,2,3] (TT∧True)
          ([(4,.sc (.i .i64 0))],[(0,.cells [.b p0.server,.i .i64 3,.i .u32 p0.peer,.i .i64 p0.window,.i .i64 p0.most,.i .i64 p0.room,.sl 1 0 p0.wait.length 1 none,.sl 2 0 p0.got.length 1 none,.b p0.ready,.b p0.e0,.b p0.e1,.b p0.c0,.b p0.c1,.sl 3 0 p0.out.length 1 none]),(1,.ints .u8 p0.wait.length p0.wait),(2,.ints .u8 p0.got.length p0.got),(3,.vec .row p0.out)])
          624 (by kernel_rfl) rfl (by kernel_rfl) (⟨tt,trivial⟩) ?_
        refine Tri.ret ?_
        repeat (first | refine thenP_ret ?_ | refine blkP_ret ?_ | refine countP_ret ?_ | refine joinP_ret ?_ | refine iterP_ret ?_)
        refine subP_done ?_
        refine endP.conv (r':=⟨.sc (.i .i64 0),[some (.cells [.b p0.server,.i .i64 3,.i .u32 p0.peer,.i .i64 p0.window,.i .i64 p0.most,.i .i64 p0.room,.sl 4 0 p0.wait.length 1 none,.sl 5 0 p0.got.length 1 none,.b p0.ready,.b p0.e0,.b p0.e1,.b p0.c0,.b p0.c1,.sl 6 0 p0.out.length 1 none]),none,none,none,some (.ints .u8 p0.wait.length p0.wait),some (.ints .u8 p0.got.length p0.got),some (.vec .row p0.out)]⟩) (by simp only [chC,FcTake,FcTake_1,h1,h2,h3,h4,h5,h6,sel_true,sel_false]) ?_
        exact endP.ret [(0,0),(1,4),(2,5),(3,6)] TT (by kernel_rfl) (by kernel_rfl) tt
     ·
      have h4':=eq_false_i h4
      refine Tri.seq ?_
      refine Tri.seq_region [] none [7,6,5,0] [160,0,1,2,3] (TT∧((TT∧True)∧(TT∧True)))
        ([(7,.sc (.i .u32 (FwU32 (FwByte_1 p1 false) (FwByte_2 p1 false)))),(6,.sc (.i .u8 (FwByte p1 false))),(5,.sc (.p 160 0)),(0,.sc (.p 0 0))],[(160,.cells [.ro .u8 (FwU32_1 (FwByte_1 p1 false) (FwByte_2 p1 false)),.b (FwU32_2 (FwByte_1 p1 false) (FwByte_2 p1 false))]),(0,chC 1 2 3 p0),(1,.ints .u8 p0.wait.length p0.wait),(2,.ints .u8 p0.got.length p0.got),(3,.vec .row p0.out)])
        400 (by kernel_rfl) rfl (by kernel_rfl) (⟨tt,⟨⟨tt,trivial⟩,⟨tt,trivial⟩⟩⟩) ?_
      refine Tri.split (((FwU32 (FwByte_1 p1 false) (FwByte_2 p1 false)):Int) != 0) (fun h7 => ?_) (fun h7 => ?_)
      ·
       have h7':=ne_true_i h7
       refine Tri.seq_region [(24,qb true)] none [37,6,5,0] [160,0,1,2,3] (TT∧(TT∧((True∧((((FwU32 (FwByte_1 p1 false) (FwByte_2 p1 false)):Int) != 0)=true))∧(TT∧(TT∧(TT∧(TT∧(TT∧(TT∧(TT∧(TT∧(TT∧(TT∧(TT∧(TT∧(TT∧True))))))))))))))))
         ([(37,.sc (.b true)),(6,.sc (.i .u8 (FwByte p1 false))),(5,.sc (.p 160 0)),(0,.sc (.p 0 0))],[(160,.cells [.ro .u8 (FwU32_1 (FwByte_1 p1 false) (FwByte_2 p1 false)),.b (FwU32_2 (FwByte_1 p1 false) (FwByte_2 p1 false))]),(0,chC 1 2 3 p0),(1,.ints .u8 p0.wait.length p0.wait),(2,.ints .u8 p0.got.length p0.got),(3,.vec .row p0.out)])
         656 (by kernel_rfl) rfl (by kernel_rfl) (⟨tt,⟨tt,⟨⟨trivial,(h7)⟩,⟨tt,⟨tt,⟨tt,⟨tt,⟨tt,⟨tt,⟨tt,⟨tt,⟨tt,⟨tt,⟨tt,⟨tt,⟨tt,trivial⟩⟩⟩⟩⟩⟩⟩⟩⟩⟩⟩⟩⟩⟩⟩⟩) ?_
       refine Tri.cond_true (by kernel_rfl) ?_
       refine Tri.seq_region [] none [4] [0,1,2,3] (TT∧True)
         ([(4,.sc (.i .i64 3))],[(0,chC 1 2 3 p0),(1,.ints .u8 p0.wait.length p0.wait),(2,.ints .u8 p0.got.length p0.got),(3,.vec .row p0.out)])
         672 (by kernel_rfl) rfl (by kernel_rfl) (⟨tt,trivial⟩) ?_
       refine Tri.ret ?_
       repeat (first | refine thenP_ret ?_ | refine blkP_ret ?_ | refine countP_ret ?_ | refine joinP_ret ?_ | refine iterP_ret ?_)
       refine subP_done ?_
       refine endP.conv (r':=⟨.sc (.i .i64 3),[some (chC 4 5 6 p0),none,none,none,some (.ints .u8 p0.wait.length p0.wait),some (.ints .u8 p0.got.length p0.got),some (.vec .row p0.out)]⟩) (by simp only [chC,FcTake,FcTake_1,h1,h2,h3,h4,h7,sel_true,sel_false]) ?_
       exact endP.ret [(0,0),(1,4),(2,5),(3,6)] TT (by kernel_rfl) (by kernel_rfl) tt
      ·
       have h7':=ne_false_i h7
       refine Tri.split ((p0.state:Int) != 2) (fun h8 => ?_) (fun h8 => ?_)
       ·
        have h8':=ne_true_i h8
        refine Tri.seq_region [(24,qb false),(31,qb true)] none [37,6,5,0] [160,0,1,2,3] (TT∧(TT∧((True∧((((FwU32 (FwByte_1 p1 false) (FwByte_2 p1 false)):Int) != 0)=false))∧(TT∧(TT∧(TT∧(((1 < 14)∧True)∧(TT∧(TT∧((True∧(((p0.state:Int) != 2)=true))∧(TT∧(TT∧(TT∧(TT∧(TT∧(TT∧True))))))))))))))))
          ([(37,.sc (.b true)),(6,.sc (.i .u8 (FwByte p1 false))),(5,.sc (.p 160 0)),(0,.sc (.p 0 0))],[(160,.cells [.ro .u8 (FwU32_1 (FwByte_1 p1 false) (FwByte_2 p1 false)),.b (FwU32_2 (FwByte_1 p1 false) (FwByte_2 p1 false))]),(0,chC 1 2 3 p0),(1,.ints .u8 p0.wait.length p0.wait),(2,.ints .u8 p0.got.length p0.got),(3,.vec .row p0.out)])
          656 (by kernel_rfl) rfl (by kernel_rfl) (⟨tt,⟨tt,⟨⟨trivial,(h7)⟩,⟨tt,⟨tt,⟨tt,⟨⟨(by first | omega | (dsimp only; omega) | decide | (simp only [FcTakev0,FcTakev1,FcTakev2,len_say]; omega)),trivial⟩,⟨tt,⟨tt,⟨⟨trivial,(h8)⟩,⟨tt,⟨tt,⟨tt,⟨tt,⟨tt,⟨tt,trivial⟩⟩⟩⟩⟩⟩⟩⟩⟩⟩⟩⟩⟩⟩⟩⟩) ?_
        refine Tri.cond_true (by kernel_rfl) ?_
        refine Tri.seq_region [] none [4] [0,1,2,3] (TT∧True)
          ([(4,.sc (.i .i64 3))],[(0,chC 1 2 3 p0),(1,.ints .u8 p0.wait.length p0.wait),(2,.ints .u8 p0.got.length p0.got),(3,.vec .row p0.out)])
          672 (by kernel_rfl) rfl (by kernel_rfl) (⟨tt,trivial⟩) ?_
        refine Tri.ret ?_
        repeat (first | refine thenP_ret ?_ | refine blkP_ret ?_ | refine countP_ret ?_ | refine joinP_ret ?_ | refine iterP_ret ?_)
        refine subP_done ?_
        refine endP.conv (r':=⟨.sc (.i .i64 3),[some (chC 4 5 6 p0),none,none,none,some (.ints .u8 p0.wait.length p0.wait),some (.ints .u8 p0.got.length p0.got),some (.vec .row p0.out)]⟩) (by simp only [chC,FcTake,FcTake_1,h1,h2,h3,h4,h7,h8,sel_true,sel_false]) ?_
        exact endP.ret [(0,0),(1,4),(2,5),(3,6)] TT (by kernel_rfl) (by kernel_rfl) tt
       ·
        have h8':=ne_false_i h8
        refine Tri.seq_region [(24,qb false),(31,qb false)] none [37,6,5,0] [160,0,1,2,3] (TT∧(TT∧((True∧((((FwU32 (FwByte_1 p1 false) (FwByte_2 p1 false)):Int) != 0)=false))∧(TT∧(TT∧(TT∧(((1 < 14)∧True)∧(TT∧(TT∧((True∧(((p0.state:Int) != 2)=false))∧(TT∧(TT∧(TT∧((((0:Int)≤1∧1 < ((2:Nat):Int))∧True)∧(((12 < 14)∧True)∧(TT∧True))))))))))))))))
          ([(37,.sc (.b p0.c1)),(6,.sc (.i .u8 (FwByte p1 false))),(5,.sc (.p 160 0)),(0,.sc (.p 0 0))],[(160,.cells [.ro .u8 (FwU32_1 (FwByte_1 p1 false) (FwByte_2 p1 false)),.b (FwU32_2 (FwByte_1 p1 false) (FwByte_2 p1 false))]),(0,chC 1 2 3 p0),(1,.ints .u8 p0.wait.length p0.wait),(2,.ints .u8 p0.got.length p0.got),(3,.vec .row p0.out)])
          656 (by kernel_rfl) rfl (by kernel_rfl) (⟨tt,⟨tt,⟨⟨trivial,(h7)⟩,⟨tt,⟨tt,⟨tt,⟨⟨(by first | omega | (dsimp only; omega) | decide | (simp only [FcTakev0,FcTakev1,FcTakev2,len_say]; omega)),trivial⟩,⟨tt,⟨tt,⟨⟨trivial,(h8)⟩,⟨tt,⟨tt,⟨tt,⟨⟨(by first | omega | (dsimp only; omega) | decide | (simp only [FcTakev0,FcTakev1,FcTakev2,len_say]; omega)),trivial⟩,⟨⟨(by first | omega | (dsimp only; omega) | decide | (simp only [FcTakev0,FcTakev1,FcTakev2,len_say]; omega)),trivial⟩,⟨tt,trivial⟩⟩⟩⟩⟩⟩⟩⟩⟩⟩⟩⟩⟩⟩⟩⟩) ?_
        refine Tri.cond (x:=p0.c1) (by kernel_rfl) (fun h9 => ?_) (fun h9 => ?_)
        ·
         refine Tri.seq_region [] none [4] [0,1,2,3] (TT∧True)
           ([(4,.sc (.i .i64 3))],[(0,chC 1 2 3 p0),(1,.ints .u8 p0.wait.length p0.wait),(2,.ints .u8 p0.got.length p0.got),(3,.vec .row p0.out)])
           672 (by kernel_rfl) rfl (by kernel_rfl) (⟨tt,trivial⟩) ?_
         refine Tri.ret ?_
         repeat (first | refine thenP_ret ?_ | refine blkP_ret ?_ | refine countP_ret ?_ | refine joinP_ret ?_ | refine iterP_ret ?_)
         refine subP_done ?_
         refine endP.conv (r':=⟨.sc (.i .i64 3),[some (chC 4 5 6 p0),none,none,none,some (.ints .u8 p0.wait.length p0.wait),some (.ints .u8 p0.got.length p0.got),some (.vec .row p0.out)]⟩) (by simp only [chC,FcTake,FcTake_1,h1,h2,h3,h4,h7,h8,h9,sel_true,sel_false]) ?_
         exact endP.ret [(0,0),(1,4),(2,5),(3,6)] TT (by kernel_rfl) (by kernel_rfl) tt
        ·
         refine Tri.skip ?_
         change Tri _ _ _ _ _ _
         refine Tri.seq_region [] none [4] [706,705,704,0] (TT∧(TT∧(TT∧(((True∧((chLens p0.wait.length p0.got.length p0.out.length p0.wait.length p0.got.length p0)∧(chOk 900000000 p0∧0 < p0.most)))∧True)∧(TT∧True)))))
           ([(4,.sc (.i .i64 (Fcon p0 (FwByte p1 false) (FwU32_1 (FwByte_1 p1 false) (FwByte_2 p1 false)) (FwU32_2 (FwByte_1 p1 false) (FwByte_2 p1 false)))))],[(706,.vec .row ((FcTakev2 p0 p1).out)),(705,.ints .u8 ((FcTakev2 p0 p1).got.length) ((FcTakev2 p0 p1).got)),(704,.ints .u8 ((FcTakev2 p0 p1).wait.length) ((FcTakev2 p0 p1).wait)),(0,chC 704 705 706 (FcTakev2 p0 p1))])
           736 (by kernel_rfl) rfl (by kernel_rfl) (⟨tt,⟨tt,⟨tt,⟨⟨⟨trivial,⟨(chLens_self _),(⟨hC,hq6 (by assumption)⟩)⟩⟩,trivial⟩,⟨tt,trivial⟩⟩⟩⟩⟩) ?_
         refine Tri.ret ?_
         repeat (first | refine thenP_ret ?_ | refine blkP_ret ?_ | refine countP_ret ?_ | refine joinP_ret ?_ | refine iterP_ret ?_)
         refine subP_done ?_
         refine endP.conv (r':=⟨.sc (.i .i64 (Fcon p0 (FwByte p1 false) (FwU32_1 (FwByte_1 p1 false) (FwByte_2 p1 false)) (FwU32_2 (FwByte_1 p1 false) (FwByte_2 p1 false)))),[some (chC 4 5 6 (FcTakev2 p0 p1)),none,none,none,some (.ints .u8 ((FcTakev2 p0 p1).wait.length) ((FcTakev2 p0 p1).wait)),some (.ints .u8 ((FcTakev2 p0 p1).got.length) ((FcTakev2 p0 p1).got)),some (.vec .row ((FcTakev2 p0 p1).out))]⟩) (by simp only [chC,FcTake,FcTake_1,h1,h2,h3,h4,h7,h8,h9,sel_true,sel_false]) ?_
         exact endP.ret [(0,0),(704,4),(705,5),(706,6)] TT (by kernel_rfl) (by kernel_rfl) tt
end Go.Vm
set_option linter.unusedVariables false
set_option linter.unusedSimpArgs false
namespace Go.Vm
open Go
theorem chOk.mono {N M : Nat} {p : Ch} (h : chOk N p) (hN : N ≤ M) : chOk M p :=
  ⟨h.1, h.2.1, h.2.2.1, ⟨Nat.le_trans h.2.2.2.1.1 hN, Nat.le_trans h.2.2.2.1.2 hN⟩, h.2.2.2.2⟩
theorem say_ok {N : Nat} {p : Ch} (h : chOk N p) (q : List Int) : chOk (N + 1) (Fcsay p q) := by
  obtain ⟨h1, h2, h3, ⟨h4, h4b⟩, h5⟩ := h
  refine ⟨h1, h2, h3, ⟨?_, Nat.le_succ_of_le h4b⟩, h5⟩
  rw [len_say]
  show p.out.length + 1 + p.wait.length ≤ _
  omega
theorem bye_ok {N : Nat} {p : Ch} (h : chOk N p) : chOk (N + 2) (Fcbye p) := by
  have h0 : chOk N ({p with wait := ([] : List Int), c0 := true} : Ch) := by
    obtain ⟨h1, h2, h3, ⟨h4, h4b⟩, h5⟩ := h
    exact ⟨h1, h2, h3, ⟨by show p.out.length + 0 ≤ _; omega, h4b⟩, h5⟩
  have h1 : chOk (N + 2) (Fcbyev1 p) := say_ok (say_ok h0 _) _
  show chOk (N + 2) (sel _ _ _)
  cases (Fcbyev1 p).c1
  · rw [sel_false]; exact h1
  · rw [sel_true]
    obtain ⟨q1, q2, q3, q4, q5⟩ := h1
    exact ⟨q1, q2, q3, q4, fun e => absurd (show (3 : Int) = 2 from e) (by decide)⟩
theorem flowJ_go {p z : Ch} {k : Nat} (h : chFlow p) (hJ : flowJ p k z) (hk : k < flowN p) : (decide ((((z.wait.length : Nat) : Int) : Int) > 0)) = true ∧ (decide ((z.window : Int) > 0)) = true ∧ (!z.c0) = true := by
  cases h1 : (decide ((((z.wait.length : Nat) : Int) : Int) > 0))
  · have := flowJ_end h hJ (by omega) (.inl h1); omega
  · cases h2 : (decide ((z.window : Int) > 0))
    · have := flowJ_end h hJ (by omega) (.inr (.inl h2)); omega
    · cases h3 : (!z.c0)
      · have := flowJ_end h hJ (by omega) (.inr (.inr h3)); omega
      · exact ⟨rfl, rfl, rfl⟩
def still (p z : Ch) : Prop := z.server = p.server ∧ z.state = p.state ∧ z.peer = p.peer ∧ z.room = p.room ∧ z.got = p.got ∧ z.ready = p.ready ∧ z.e0 = p.e0 ∧ z.e1 = p.e1 ∧ z.c1 = p.c1
theorem flow_at {p : Ch} (h : chFlow p) : ∀ k, k ≤ flowN p → flowJ p k (itr Fcflowl0 k p) ∧ still p (itr Fcflowl0 k p) := by
  intro k
  induction k with
  | zero => intro _; rw [itr_zero]; exact ⟨flowJ_0, rfl, rfl, rfl, rfl, rfl, rfl, rfl, rfl, rfl⟩
  | succ k ih =>
    intro hk
    obtain ⟨h1, h2⟩ := ih (by omega)
    obtain ⟨g1, g2, g3⟩ := flowJ_go h h1 (by omega)
    rw [itr_succ]
    exact ⟨flowJ_next h h1 g1 g2 g3, h2⟩
theorem flow_is {p : Ch} (h : chFlow p) : flowJ p (flowN p) (Fcflow p) ∧ still p (Fcflow p) := flow_at h _ (Nat.le_refl _)
theorem flow_ok {N : Nat} {p : Ch} (h : chOk N p) (hf : chFlow p) : chOk N (Fcflow p) := by
  obtain ⟨h1, h2⟩ := flow_is hf
  obtain ⟨f1, f2, f3, f4⟩ := flowJ_facts hf h1
  obtain ⟨b1, b2, b3, b4, b5⟩ := h1
  obtain ⟨q1, q2, q3, ⟨q4, q4b⟩, q5⟩ := h
  obtain ⟨s1, s2, s3, s4, s5, s6, s7, s8, s9⟩ := h2
  refine ⟨f1, f2, fun hp => ?_, ⟨by omega, by rw [s5]; exact q4b⟩, fun e => ?_⟩
  · rw [b3]; apply q3; omega
  · rw [b3]; exact q5 (by rw [← s2]; exact e)
theorem sel_ok {N : Nat} {b : Bool} {x y : Ch} (hx : chOk N x) (hy : chOk N y) : chOk N (sel b x y) := by
  cases b
  · rw [sel_false]; exact hy
  · rw [sel_true]; exact hx
theorem minI_bd {x m : Int} (hx : 0 ≤ x) (hm : 0 ≤ m) : 0 ≤ minI x m ∧ minI x m ≤ m ∧ (x ≠ 0 → 0 < m → 0 < minI x m) := by
  unfold minI
  split <;> omega
theorem opened {N : Nat} {p : Ch} {id w m r : Int} (h : chOk N p) (hw : 0 ≤ w) (hm : 0 ≤ m) (hn : m ≠ 0) : chOk N ({p with state := 2, peer := id, window := (IntKind.wrap .i64 (minI w 1073741824)), most := (IntKind.wrap .i64 (minI m 512)), room := r} : Ch) := by
  obtain ⟨q1, q2, q3, q4, q5⟩ := h
  have a := minI_bd hw (show (0 : Int) ≤ 1073741824 by decide)
  have b := minI_bd hm (show (0 : Int) ≤ 512 by decide)
  have b3 := b.2.2 hn (by decide)
  have e1 : IntKind.wrap .i64 (minI w 1073741824) = minI w 1073741824 := wrap_small (by omega) (by omega)
  have e2 : IntKind.wrap .i64 (minI m 512) = minI m 512 := wrap_small (by omega) (by omega)
  rw [e1, e2]
  exact ⟨⟨a.1, Int.le_trans a.2.1 (by decide)⟩, ⟨b.1, b.2.1⟩, fun _ => b3, q4, fun _ => b3⟩
theorem open_ok {N : Nat} {p : Ch} (h : chOk N p) (p2 : List Int) (p3 : Bool) : chOk (N + 1) (Fcopen_1 p p2 p3) := by
  have h1 : chOk (N + 1) p := h.mono (by omega)
  have h2 : chOk (N + 1) (Fcopenv0 p p2 p3) := say_ok h _
  unfold Fcopen_1
  refine sel_ok h1 (sel_ok h1 (sel_ok h2 (sel_ok h2 ?_)))
  cases hz : ((FwU32 (FwU32_1 (FwU32_1 (FwText_1 p2 p3) (FwText_2 p2 p3)) (FwU32_2 (FwText_1 p2 p3) (FwText_2 p2 p3))) (FwU32_2 (FwU32_1 (FwText_1 p2 p3) (FwText_2 p2 p3)) (FwU32_2 (FwText_1 p2 p3) (FwText_2 p2 p3))) : Int) == 0)
  · rw [sel_false]
    exact say_ok (opened h (in_FwU32 _ _).1 (in_FwU32 _ _).1 (by simpa using hz)) _
  · rw [sel_true]; exact h2
theorem confirm_ok {N : Nat} {p : Ch} (h : chOk N p) (p2 : List Int) (p3 : Bool) : chOk (N + 1) (Fcconfirm_1 p p2 p3) := by
  have h1 : chOk (N + 1) p := h.mono (by omega)
  unfold Fcconfirm_1
  refine sel_ok h1 (sel_ok h1 (sel_ok h1 ?_))
  cases hz : ((FwU32 (FwU32_1 (FwU32_1 (FwU32_1 p2 p3) (FwU32_2 p2 p3)) (FwU32_2 (FwU32_1 p2 p3) (FwU32_2 p2 p3))) (FwU32_2 (FwU32_1 (FwU32_1 p2 p3) (FwU32_2 p2 p3)) (FwU32_2 (FwU32_1 p2 p3) (FwU32_2 p2 p3))) : Int) == 0)
  · rw [sel_false]
    exact say_ok (opened (r := p.room) h (in_FwU32 _ _).1 (in_FwU32 _ _).1 (by simpa using hz)) _
  · rw [sel_true]; exact h1
theorem flags_ok {N : Nat} {p : Ch} (h : chOk N p) (a b c d : Bool) : chOk N ({p with ready := a, e1 := b, c1 := c, c0 := d} : Ch) := h
theorem shut_ok {N : Nat} {p : Ch} (h : chOk N p) : chOk N ({p with state := 3} : Ch) := ⟨h.1, h.2.1, h.2.2.1, h.2.2.2.1, fun e => absurd (show (3 : Int) = 2 from e) (by decide)⟩
theorem on_ok {N : Nat} {p : Ch} (h : chOk N p) (hm : 0 < p.most) (hN : N ≤ 900000000) (p1 : Int) (p2 : List Int) (p3 : Bool) : chOk (N + 600) (Fcon_1 p p1 p2 p3) := by
  have h1 : chOk (N + 600) p := h.mono (by omega)
  have say1 : ∀ {x : Ch} (q : List Int), chOk N x → chOk (N + 600) (Fcsay x q) := fun q hx => (say_ok hx q).mono (by omega)
  have bye1 : ∀ {x : Ch}, chOk N x → chOk (N + 600) (Fcbye x) := fun hx => (bye_ok hx).mono (by omega)
  have v1 : chOk (N + 600) (Fconv1 p) := say1 _ h
  have v2 : chOk (N + 600) (Fconv2 p) := say1 _ h
  have v3 : chOk (N + 600) (Fconv3 p) := say1 _ h
  have v4 : chOk (N + 600) (Fconv4 p) := say1 _ h
  have v5 : chOk (N + 600) (Fconv5 p p1) := bye1 h
  have e1 : ∀ a : Bool, chOk (N + 600) ({p with ready := a} : Ch) := fun a => h1
  unfold Fcon_1
  refine sel_ok (sel_ok h1 ?_) (sel_ok (sel_ok h1 (sel_ok h1 ?_)) ?_)
  · cases hc : (decide (((iAdd .i64 p.window (IntKind.wrap .i64 (FwU32 p2 p3))) : Int) > 2147483647))
    · rw [sel_false]
      have hf := on_flow ⟨h.mono hN, hm⟩ (in_FwU32 p2 p3) hc
      refine flow_ok (p := ({p with window := (iAdd .i64 p.window (IntKind.wrap .i64 (FwU32 p2 p3)))} : Ch)) ?_ hf
      exact ⟨hf.1, h1.2.1, fun _ => hm, h1.2.2.2⟩
    · rw [sel_true]; exact h1
  · cases hc : (decide (((((FwText p2 p3).size : Nat) : Int) : Int) > 512))
    · rw [sel_false]
      have hc' := of_decide_eq_false hc
      refine sel_ok h1 ?_
      obtain ⟨q1, q2, q3, ⟨q4, q4b⟩, q5⟩ := h
      exact ⟨q1, q2, q3, ⟨Nat.le_trans q4 (by omega), by show (p.got ++ bytesI _).length ≤ _; rw [List.length_append, bytesI_length]; omega⟩, q5⟩
    · rw [sel_true]; exact h1
  · repeat first
      | exact h1
      | exact v1
      | exact v2
      | exact v3
      | exact v4
      | exact v5
      | exact e1 _
      | exact shut_ok (bye1 (flags_ok h p.ready p.e1 true p.c0))
      | exact shut_ok (flags_ok h1 p.ready p.e1 true p.c0)
      | exact flags_ok h1 p.ready true p.c1 p.c0
      | apply sel_ok
theorem chTake_ok {N : Nat} {p : Ch} (h : chOk N p) (hN : N ≤ 900000000) (q : List Int) : chOk (N + 600) (FcTake_1 p q) := by
  have h1 : chOk (N + 600) p := h.mono (by omega)
  unfold FcTake_1
  refine sel_ok h1 (sel_ok ((open_ok h _ _).mono (by omega)) (sel_ok ((confirm_ok h _ _).mono (by omega)) (sel_ok (sel_ok h1 (sel_ok h1 (shut_ok h1))) (sel_ok h1 ?_))))
  cases hc : ((p.state : Int) != 2)
  · rw [sel_false]
    exact sel_ok h1 (on_ok h (h.2.2.2.2 (by simpa using hc)) hN _ _ _)
  · rw [sel_true]; exact h1
end Go.Vm
set_option linter.unusedVariables false
set_option linter.unusedSimpArgs false
set_option maxRecDepth 4000
namespace Go.Vm
open Go
noncomputable def Fccarryl0 (p0:Ch) (k0:Nat) (z0:Ch):Ch :=
 (FcTake_1 z0 ((FcOut_1 p0).getD k0 []))
noncomputable def Fccarry (p0:Ch) (p1:Ch):Ch :=
 (FcOut p0)
noncomputable def Fccarry_1 (p0:Ch) (p1:Ch):Ch :=
 (itr (Fccarryl0 p0) p0.out.length p1)
noncomputable def Sccarryc (p0:Ch) (p1:Ch) (y0_n1:Nat) (y0_n2:Nat) (y0_n3:Nat) (y0_m1:Nat) (y0_m2:Nat) (y1_n1:Nat) (y1_n2:Nat) (y1_n3:Nat) (y1_m1:Nat) (y1_m2:Nat) :Option (Prop × Ret) :=
 some ((chLens y0_n1 y0_n2 y0_n3 y0_m1 y0_m2 p0∧(chLens y1_n1 y1_n2 y1_n3 y1_m1 y1_m2 p1∧(chOk 1000000 p1∧p0.out.length≤100000))),⟨.tup [],[some (chC 8 9 10 (Fccarry p0 p1)),none,none,none,some (chC 11 12 13 (Fccarry_1 p0 p1)),none,none,none,some (.ints .u8 ((Fccarry p0 p1).wait.length) ((Fccarry p0 p1).wait)),some (.ints .u8 ((Fccarry p0 p1).got.length) ((Fccarry p0 p1).got)),some (.vec .row ((Fccarry p0 p1).out)),some (.ints .u8 ((Fccarry_1 p0 p1).wait.length) ((Fccarry_1 p0 p1).wait)),some (.ints .u8 ((Fccarry_1 p0 p1).got.length) ((Fccarry_1 p0 p1).got)),some (.vec .row ((Fccarry_1 p0 p1).out))]⟩)
noncomputable def Sccarry:List AV→List Blk→Option (Prop × Ret)
 | [.sc (.p 0 0),.sc (.p 4 0)],[.cells [.b y0_server,.i .i64 y0_state,.i .u32 y0_peer,.i .i64 y0_window,.i .i64 y0_most,.i .i64 y0_room,.sl 1 0 y0_n1 1 none,.sl 2 0 y0_n2 1 none,.b y0_ready,.b y0_e0,.b y0_e1,.b y0_c0,.b y0_c1,.sl 3 0 y0_n3 1 none],.ints .u8 y0_m1 y0_wait,.ints .u8 y0_m2 y0_got,.vec .row y0_out,.cells [.b y1_server,.i .i64 y1_state,.i .u32 y1_peer,.i .i64 y1_window,.i .i64 y1_most,.i .i64 y1_room,.sl 5 0 y1_n1 1 none,.sl 6 0 y1_n2 1 none,.b y1_ready,.b y1_e0,.b y1_e1,.b y1_c0,.b y1_c1,.sl 7 0 y1_n3 1 none],.ints .u8 y1_m1 y1_wait,.ints .u8 y1_m2 y1_got,.vec .row y1_out] => Sccarryc ⟨y0_server,y0_state,y0_peer,y0_window,y0_most,y0_room,y0_wait,y0_got,y0_ready,y0_e0,y0_e1,y0_c0,y0_c1,y0_out⟩ ⟨y1_server,y1_state,y1_peer,y1_window,y1_most,y1_room,y1_wait,y1_got,y1_ready,y1_e0,y1_e1,y1_c0,y1_c1,y1_out⟩ y0_n1 y0_n2 y0_n3 y0_m1 y0_m2 y1_n1 y1_n2 y1_n3 y1_m1 y1_m2
 | _,_ => none
noncomputable def Bccarry:Bs:={ P:=Go.Proofs.Try.prog,G:=noG,tab:=tabOf [⟨12,192,[.io,.ro .u8],[],[4,80,81,82],⟨4,3,ScTake⟩,false⟩,⟨16,32,[.io],[],[0,1,2,3],⟨4,4,ScOut⟩,false⟩],n:=17 }
theorem Bccarry.ok:Bccarry.Ok:=⟨tabOk (P:=Go.Proofs.Try.prog) (G:=noG) (l:=[⟨12,192,[.io,.ro .u8],[],[4,80,81,82],⟨4,3,ScTake⟩,false⟩,⟨16,32,[.io],[],[0,1,2,3],⟨4,4,ScOut⟩,false⟩]) (And.intro KcTake (And.intro KcOut True.intro)),mixed⟩
theorem Kccarry:Known Go.Proofs.Try.prog noG 11 ⟨8,6,Sccarry⟩:=by
 refine Known.walk (B:=Bccarry) (fn:=Go.Proofs.Try.f11) Bccarry.ok (by kernel_rfl) rfl (by kernel_rfl) (by kernel_rfl) (by decide) (by decide) ?_
 ·intro E args ks C r h hC hlen
  simp only at h
  unfold Sccarry at h
  split at h
  rotate_left
  ·cases h
  rename_i y0_server y0_state y0_peer y0_window y0_most y0_room y0_n1 y0_n2 y0_ready y0_e0 y0_e1 y0_c0 y0_c1 y0_n3 y0_m1 y0_wait y0_m2 y0_got y0_out y1_server y1_state y1_peer y1_window y1_most y1_room y1_n1 y1_n2 y1_ready y1_e0 y1_e1 y1_c0 y1_c1 y1_n3 y1_m1 y1_wait y1_m2 y1_got y1_out
  generalize hp0:(⟨y0_server,y0_state,y0_peer,y0_window,y0_most,y0_room,y0_wait,y0_got,y0_ready,y0_e0,y0_e1,y0_c0,y0_c1,y0_out⟩:Ch)=p0 at h
  obtain rfl:y0_server=p0.server:=by rw [← hp0]
  obtain rfl:y0_state=p0.state:=by rw [← hp0]
  obtain rfl:y0_peer=p0.peer:=by rw [← hp0]
  obtain rfl:y0_window=p0.window:=by rw [← hp0]
  obtain rfl:y0_most=p0.most:=by rw [← hp0]
  obtain rfl:y0_room=p0.room:=by rw [← hp0]
  obtain rfl:y0_wait=p0.wait:=by rw [← hp0]
  obtain rfl:y0_got=p0.got:=by rw [← hp0]
  obtain rfl:y0_ready=p0.ready:=by rw [← hp0]
  obtain rfl:y0_e0=p0.e0:=by rw [← hp0]
  obtain rfl:y0_e1=p0.e1:=by rw [← hp0]
  obtain rfl:y0_c0=p0.c0:=by rw [← hp0]
  obtain rfl:y0_c1=p0.c1:=by rw [← hp0]
  obtain rfl:y0_out=p0.out:=by rw [← hp0]
  clear hp0
  generalize hp1:(⟨y1_server,y1_state,y1_peer,y1_window,y1_most,y1_room,y1_wait,y1_got,y1_ready,y1_e0,y1_e1,y1_c0,y1_c1,y1_out⟩:Ch)=p1 at h
  obtain rfl:y1_server=p1.server:=by rw [← hp1]
  obtain rfl:y1_state=p1.state:=by rw [← hp1]
  obtain rfl:y1_peer=p1.peer:=by rw [← hp1]
  obtain rfl:y1_window=p1.window:=by rw [← hp1]
  obtain rfl:y1_most=p1.most:=by rw [← hp1]
  obtain rfl:y1_room=p1.room:=by rw [← hp1]
  obtain rfl:y1_wait=p1.wait:=by rw [← hp1]
  obtain rfl:y1_got=p1.got:=by rw [← hp1]
  obtain rfl:y1_ready=p1.ready:=by rw [← hp1]
  obtain rfl:y1_e0=p1.e0:=by rw [← hp1]
  obtain rfl:y1_e1=p1.e1:=by rw [← hp1]
  obtain rfl:y1_c0=p1.c0:=by rw [← hp1]
  obtain rfl:y1_c1=p1.c1:=by rw [← hp1]
  obtain rfl:y1_out=p1.out:=by rw [← hp1]
  clear hp1
  unfold Sccarryc at h
  cases h
  obtain ⟨⟨rfl,rfl,rfl,rfl,rfl⟩,hC⟩:=hC
  obtain ⟨⟨rfl,rfl,rfl,rfl,rfl⟩,hC⟩:=hC
  simp only [lens] at hlen
  have ho:(FcOut_1 p0).length=p0.out.length:=rfl
  refine ⟨show 2≤17 from by decide,?_⟩
  refine Tri.sub (Sub.of_eq (show _=([(0,.sc (.p 0 0)),(1,.sc (.p 4 0))],[(0,chC 1 2 3 p0),(1,.ints .u8 p0.wait.length p0.wait),(2,.ints .u8 p0.got.length p0.got),(3,.vec .row p0.out),(4,chC 5 6 7 p1),(5,.ints .u8 p1.wait.length p1.wait),(6,.ints .u8 p1.got.length p1.got),(7,.vec .row p1.out)]) from rfl)) ?_
  refine Tri.subP ?_
  refine Tri.seq_region [] none [9,8,7,1] [35,34,33,32,0,4,5,6,7] (TT∧(((True∧((chLens p0.wait.length p0.got.length p0.out.length p0.wait.length p0.got.length p0)∧True))∧True)∧(TT∧(TT∧True))))
    ([(9,.sc (.i .i64 0)),(8,.sc (.i .i64 ((p0.out.length:Nat):Int))),(7,.sc (.sl 35 0 p0.out.length 1 none)),(1,.sc (.p 4 0))],[(35,.vec .row (FcOut_1 p0)),(34,.vec .row ((FcOut p0).out)),(33,.ints .u8 ((FcOut p0).got.length) ((FcOut p0).got)),(32,.ints .u8 ((FcOut p0).wait.length) ((FcOut p0).wait)),(0,chC 32 33 34 (FcOut p0)),(4,chC 5 6 7 p1),(5,.ints .u8 p1.wait.length p1.wait),(6,.ints .u8 p1.got.length p1.got),(7,.vec .row p1.out)])
    80 (by kernel_rfl) rfl (by kernel_rfl) (⟨tt,⟨⟨⟨trivial,⟨(chLens_self _),trivial⟩⟩,trivial⟩,⟨tt,⟨tt,trivial⟩⟩⟩⟩) ?_
  refine Tri.block ?_
  refine Tri.sub (Sub.ren (U:=80) (U':=96) (ns:=[(35,35),(34,34),(33,33),(32,32),(0,0),(4,4),(5,80),(6,81),(7,82)]) (kf:=[9,8,7,1]) (s':=([(9,.sc (.i .i64 0)),(8,.sc (.i .i64 ((p0.out.length:Nat):Int))),(7,.sc (.sl 35 0 p0.out.length 1 none)),(1,.sc (.p 4 0))],[(35,.vec .row (FcOut_1 p0)),(34,.vec .row ((FcOut p0).out)),(33,.ints .u8 ((FcOut p0).got.length) ((FcOut p0).got)),(32,.ints .u8 ((FcOut p0).wait.length) ((FcOut p0).wait)),(0,chC 32 33 34 (FcOut p0)),(4,chC 80 81 82 p1),(80,.ints .u8 p1.wait.length p1.wait),(81,.ints .u8 p1.got.length p1.got),(82,.vec .row p1.out)])) (by kernel_rfl) (by kernel_rfl)) ?_
  refine Tri.count 96 p0.out.length (Fccarryl0 p0) p1 (fun k0 z0 => chOk (1000000 + 600 * k0) z0) (fun k0 z0 => ([(9,.sc (.i .i64 (k0:Int))),(8,.sc (.i .i64 ((p0.out.length:Nat):Int))),(7,.sc (.sl 35 0 p0.out.length 1 none)),(1,.sc (.p 4 0))],[(35,.vec .row (FcOut_1 p0)),(34,.vec .row ((FcOut p0).out)),(33,.ints .u8 ((FcOut p0).got.length) ((FcOut p0).got)),(32,.ints .u8 ((FcOut p0).wait.length) ((FcOut p0).wait)),(0,chC 32 33 34 (FcOut p0)),(4,chC 80 81 82 z0),(80,.ints .u8 z0.wait.length z0.wait),(81,.ints .u8 z0.got.length z0.got),(82,.vec .row z0.out)])) (by exact hC.1) (Sub.of_eq (by kernel_rfl)) ?_
  intro k0 z0 hk0 hz0 hJ0
  refine Tri.seq_region [] none [10,9,8,7,1] [35,34,33,32,0,4,80,81,82] (TT∧True)
    ([(10,.sc (.b (decide (((k0:Int):Int) < ((p0.out.length:Nat):Int))))),(9,.sc (.i .i64 (k0:Int))),(8,.sc (.i .i64 ((p0.out.length:Nat):Int))),(7,.sc (.sl 35 0 p0.out.length 1 none)),(1,.sc (.p 4 0))],[(35,.vec .row (FcOut_1 p0)),(34,.vec .row ((FcOut p0).out)),(33,.ints .u8 ((FcOut p0).got.length) ((FcOut p0).got)),(32,.ints .u8 ((FcOut p0).wait.length) ((FcOut p0).wait)),(0,chC 32 33 34 (FcOut p0)),(4,chC 80 81 82 z0),(80,.ints .u8 z0.wait.length z0.wait),(81,.ints .u8 z0.got.length z0.got),(82,.vec .row z0.out)])
    112 (by kernel_rfl) rfl (by kernel_rfl) (⟨tt,trivial⟩) ?_
  refine Tri.seq ?_
  refine Tri.cond (x:=(decide (((k0:Int):Int) < ((p0.out.length:Nat):Int)))) (by kernel_rfl) (fun h1 => ?_) (fun h1 => ?_)
  ·
   have h1':=of_decide_eq_true h1
   refine Tri.skip ?_
   change Tri _ _ _ _ _ _
   refine Tri.seq ?_
   refine Tri.block ?_
   refine Tri.seq_region [] none [5,9,8,7,1] [35,34,33,32,0,4,80,81,82] ((((0:Int)≤(k0:Int)∧(k0:Int) < ((p0.out.length:Nat):Int))∧True)∧(((k0 < (FcOut_1 p0).length)∧True)∧(TT∧True)))
     ([(5,.sc (.ro .u8 ((FcOut_1 p0).getD k0 []))),(9,.sc (.i .i64 (k0:Int))),(8,.sc (.i .i64 ((p0.out.length:Nat):Int))),(7,.sc (.sl 35 0 p0.out.length 1 none)),(1,.sc (.p 4 0))],[(35,.vec .row (FcOut_1 p0)),(34,.vec .row ((FcOut p0).out)),(33,.ints .u8 ((FcOut p0).got.length) ((FcOut p0).got)),(32,.ints .u8 ((FcOut p0).wait.length) ((FcOut p0).wait)),(0,chC 32 33 34 (FcOut p0)),(4,chC 80 81 82 z0),(80,.ints .u8 z0.wait.length z0.wait),(81,.ints .u8 z0.got.length z0.got),(82,.vec .row z0.out)])
     160 (by kernel_rfl) rfl (by kernel_rfl) (⟨⟨(by first | omega | (dsimp only; omega) | decide | (simp only [len_say]; omega)),trivial⟩,⟨⟨(by first | omega | (dsimp only; omega) | decide | (simp only [len_say]; omega)),trivial⟩,⟨tt,trivial⟩⟩⟩) ?_
   refine Tri.region' [] none [9,8,7,1] [194,193,192,4,35,34,33,32,0] (TT∧(TT∧(((TT∧((chLens z0.wait.length z0.got.length z0.out.length z0.wait.length z0.got.length z0)∧(chOk 900000000 z0)))∧True)∧True)))
     ([(9,.sc (.i .i64 (k0:Int))),(8,.sc (.i .i64 ((p0.out.length:Nat):Int))),(7,.sc (.sl 35 0 p0.out.length 1 none)),(1,.sc (.p 4 0))],[(194,.vec .row ((FcTake_1 z0 ((FcOut_1 p0).getD k0 [])).out)),(193,.ints .u8 ((FcTake_1 z0 ((FcOut_1 p0).getD k0 [])).got.length) ((FcTake_1 z0 ((FcOut_1 p0).getD k0 [])).got)),(192,.ints .u8 ((FcTake_1 z0 ((FcOut_1 p0).getD k0 [])).wait.length) ((FcTake_1 z0 ((FcOut_1 p0).getD k0 [])).wait)),(4,chC 192 193 194 (FcTake_1 z0 ((FcOut_1 p0).getD k0 []))),(35,.vec .row (FcOut_1 p0)),(34,.vec .row ((FcOut p0).out)),(33,.ints .u8 ((FcOut p0).got.length) ((FcOut p0).got)),(32,.ints .u8 ((FcOut p0).wait.length) ((FcOut p0).wait)),(0,chC 32 33 34 (FcOut p0))])
     208 (by kernel_rfl) rfl (by kernel_rfl) (⟨tt,⟨tt,⟨⟨⟨tt,⟨(chLens_self _),((hJ0.mono (by omega)))⟩⟩,trivial⟩,trivial⟩⟩⟩) ?_
   change Tri _ _ _ _ _ _
   refine Tri.region' [(16,qi ((k0 + 1:Nat):Int))] none [9,8,7,1] [194,193,192,4,35,34,33,32,0] ((True∧((iAdd .i64 (k0:Int) 1)=((k0 + 1:Nat):Int)))∧(TT∧True))
     ([(9,.sc (.i .i64 ((k0 + 1:Nat):Int))),(8,.sc (.i .i64 ((p0.out.length:Nat):Int))),(7,.sc (.sl 35 0 p0.out.length 1 none)),(1,.sc (.p 4 0))],[(194,.vec .row ((FcTake_1 z0 ((FcOut_1 p0).getD k0 [])).out)),(193,.ints .u8 ((FcTake_1 z0 ((FcOut_1 p0).getD k0 [])).got.length) ((FcTake_1 z0 ((FcOut_1 p0).getD k0 [])).got)),(192,.ints .u8 ((FcTake_1 z0 ((FcOut_1 p0).getD k0 [])).wait.length) ((FcTake_1 z0 ((FcOut_1 p0).getD k0 [])).wait)),(4,chC 192 193 194 (FcTake_1 z0 ((FcOut_1 p0).getD k0 []))),(35,.vec .row (FcOut_1 p0)),(34,.vec .row ((FcOut p0).out)),(33,.ints .u8 ((FcOut p0).got.length) ((FcOut p0).got)),(32,.ints .u8 ((FcOut p0).wait.length) ((FcOut p0).wait)),(0,chC 32 33 34 (FcOut p0))])
     240 (by kernel_rfl) rfl (by kernel_rfl) (⟨⟨trivial,(iAdd_nat (a:=k0) (b:=1) (by omega))⟩,⟨tt,trivial⟩⟩) ?_
   repeat (refine blkP_normal ?_)
   refine countP_normal (by omega) (chOk.mono (chTake_ok hJ0 (by omega) _) (by omega)) ?_
   exact Sub.ren (ns:=[(35,35),(34,34),(33,33),(32,32),(0,0),(4,4),(192,80),(193,81),(194,82)]) (kf:=[9,8,7,1]) (by kernel_rfl) (by kernel_rfl)
  ·
   have h1':=of_decide_eq_false h1
   refine Tri.exit ?_
   have hend0:k0=p0.out.length:=by (have:=of_decide_eq_false h1; omega)
   subst hend0; subst hz0
   show subP _ _ _ _
   repeat (first | refine thenP_ret ?_ | refine blkP_ret ?_ | refine countP_ret ?_ | refine joinP_ret ?_ | refine iterP_ret ?_)
   refine subP_done ?_
   exact endP.nret [(0,0),(4,4),(32,8),(33,9),(34,10),(80,11),(81,12),(82,13)] True (by kernel_rfl) (by kernel_rfl) trivial
end Go.Vm
set_option linter.unusedVariables false
set_option linter.unusedSimpArgs false
set_option maxRecDepth 4000
namespace Go.Vm
open Go
noncomputable def Fcfitv2 (z0:Ch × Ch):Ch :=
 (Fccarry (Fccarry_1 z0.1 z0.2) (Fccarry z0.1 z0.2))
noncomputable def Fcfitv3 (z0:Ch × Ch):Ch :=
 (Fccarry_1 (Fccarry_1 z0.1 z0.2) (Fccarry z0.1 z0.2))
noncomputable def Fcfitl0 (k0:Nat) (z0:Ch × Ch):Ch × Ch :=
 ((Fcfitv3 z0),(Fcfitv2 z0))
noncomputable def Fcfit:Bool :=
 (sel (((FcBegin (FcNew false)):Int) == 0) (sel (((FcState ((itr (Fcfitl0) 4 ((FcBegin_1 (FcNew false)),(FcNew true))).1)):Int) == 2) (sel (((FcState ((itr (Fcfitl0) 4 ((FcBegin_1 (FcNew false)),(FcNew true))).2)):Int) == 2) (sel (FcReady ((itr (Fcfitl0) 4 ((FcBegin_1 (FcNew false)),(FcNew true))).1)) (FcReady ((itr (Fcfitl0) 4 ((FcBegin_1 (FcNew false)),(FcNew true))).2)) false) false) false) false)
def chOkB (N:Nat) (p:Ch):Bool:=(decide (0≤p.window) && decide (p.window≤2147483647)) && (decide (0≤p.most) && decide (p.most≤512)) && (decide (p.window≤0) || decide (0 < p.most)) && (Nat.ble (p.out.length + p.wait.length) N && Nat.ble p.got.length N) && ((p.state != 2) || decide (0 < p.most))
theorem chOk_of {N:Nat} {p:Ch} (h:chOkB N p=true):chOk N p:=by
 unfold chOkB at h
 simp only [Bool.and_eq_true,Bool.or_eq_true,decide_eq_true_eq,Nat.ble_eq,bne_iff_ne,ne_eq] at h
 obtain ⟨⟨⟨⟨⟨h1,h2⟩,h3,h4⟩,h5⟩,h6,h7⟩,h8⟩:=h
 exact ⟨⟨h1,h2⟩,⟨h3,h4⟩,fun hp => by rcases h5 with h5 | h5 <;> omega,⟨h6,h7⟩,fun e => by rcases h8 with h8 | h8; exact absurd e h8; exact h8⟩
noncomputable def fitB (z:Ch × Ch):Bool:=chOkB 1000000 z.2 && Nat.ble z.1.out.length 100000 && (chOkB 1000000 (Fccarry z.1 z.2) && Nat.ble (Fccarry_1 z.1 z.2).out.length 100000)
theorem fit_0:fitB (itr Fcfitl0 0 ((FcBegin_1 (FcNew false)),(FcNew true)))=true:=by kernel_rfl
theorem fit_1:fitB (itr Fcfitl0 1 ((FcBegin_1 (FcNew false)),(FcNew true)))=true:=by kernel_rfl
theorem fit_2:fitB (itr Fcfitl0 2 ((FcBegin_1 (FcNew false)),(FcNew true)))=true:=by kernel_rfl
theorem fit_3:fitB (itr Fcfitl0 3 ((FcBegin_1 (FcNew false)),(FcNew true)))=true:=by kernel_rfl
theorem fit_at {k:Nat} (hk:k < 4) {z:Ch × Ch} (hz:z=itr Fcfitl0 k ((FcBegin_1 (FcNew false)),(FcNew true))):(chOk 1000000 z.2∧z.1.out.length≤100000)∧(chOk 1000000 (Fccarry z.1 z.2)∧(Fccarry_1 z.1 z.2).out.length≤100000):=by
 have h:fitB z=true:=by
  subst hz
  rcases k with _ | _ | _ | _ | k
  ·exact fit_0
  ·exact fit_1
  ·exact fit_2
  ·exact fit_3
  ·omega
 unfold fitB at h
 simp only [Bool.and_eq_true,Nat.ble_eq] at h
 exact ⟨⟨chOk_of h.1.1,h.1.2⟩,chOk_of h.2.1,h.2.2⟩
noncomputable def Scfit:List AV→List Blk→Option (Prop × Ret)
 | [],[] => some (True,⟨.sc (.b (Fcfit)),[]⟩)
 | _,_ => none
noncomputable def Bcfit:Bs:={ P:=Go.Proofs.Try.prog,G:=noG,tab:=tabOf [⟨9,32,[.val],[],[],⟨0,4,ScNew⟩,false⟩,⟨9,48,[.val],[],[],⟨0,4,ScNew⟩,false⟩,⟨10,112,[.io],[],[32,33,34,35],⟨4,3,ScBegin⟩,false⟩,⟨11,208,[.io,.io],[],[32,112,113,114,48,49,50,51],⟨8,6,Sccarry⟩,false⟩,⟨11,256,[.io,.io],[],[48,211,212,213,32,208,209,210],⟨8,6,Sccarry⟩,false⟩,⟨17,240,[.io],[],[32,112,113,114],⟨4,0,ScState⟩,true⟩,⟨17,320,[.io],[],[48,49,50,51],⟨4,0,ScState⟩,true⟩,⟨18,400,[.io],[],[32,112,113,114],⟨4,0,ScReady⟩,true⟩,⟨18,464,[.io],[],[48,49,50,51],⟨4,0,ScReady⟩,true⟩],n:=37 }
theorem Bcfit.ok:Bcfit.Ok:=⟨tabOk (P:=Go.Proofs.Try.prog) (G:=noG) (l:=[⟨9,32,[.val],[],[],⟨0,4,ScNew⟩,false⟩,⟨9,48,[.val],[],[],⟨0,4,ScNew⟩,false⟩,⟨10,112,[.io],[],[32,33,34,35],⟨4,3,ScBegin⟩,false⟩,⟨11,208,[.io,.io],[],[32,112,113,114,48,49,50,51],⟨8,6,Sccarry⟩,false⟩,⟨11,256,[.io,.io],[],[48,211,212,213,32,208,209,210],⟨8,6,Sccarry⟩,false⟩,⟨17,240,[.io],[],[32,112,113,114],⟨4,0,ScState⟩,true⟩,⟨17,320,[.io],[],[48,49,50,51],⟨4,0,ScState⟩,true⟩,⟨18,400,[.io],[],[32,112,113,114],⟨4,0,ScReady⟩,true⟩,⟨18,464,[.io],[],[48,49,50,51],⟨4,0,ScReady⟩,true⟩]) (And.intro KcNew (And.intro KcNew (And.intro KcBegin (And.intro Kccarry (And.intro Kccarry (And.intro KcState (And.intro KcState (And.intro KcReady (And.intro KcReady True.intro))))))))),mixed⟩
theorem Kcfit:Known Go.Proofs.Try.prog noG 8 ⟨0,0,Scfit⟩:=by
 refine Known.walk (B:=Bcfit) (fn:=Go.Proofs.Try.f8) Bcfit.ok (by kernel_rfl) rfl (by kernel_rfl) (by kernel_rfl) (by decide) (by decide) ?_
 ·intro E args ks C r h hC hlen
  simp only at h
  unfold Scfit at h
  split at h
  rotate_left
  ·cases h
  skip
  cases h
  simp only [lens] at hlen
  refine ⟨show 0≤37 from by decide,?_⟩
  refine Tri.sub (Sub.of_eq (show _=([],[]) from rfl)) ?_
  refine Tri.seq_region [] none [] [] (TT∧True)
    ([],[])
    32 (by kernel_rfl) rfl (by kernel_rfl) (⟨tt,trivial⟩) ?_
  refine Tri.seq_region [] none [2,1] [51,50,49,48,35,34,33,32] ((TT∧True)∧((TT∧True)∧(TT∧(TT∧True))))
    ([(2,.sc (.p 48 0)),(1,.sc (.p 32 0))],[(51,.vec .row ((FcNew true).out)),(50,.ints .u8 ((FcNew true).got.length) ((FcNew true).got)),(49,.ints .u8 ((FcNew true).wait.length) ((FcNew true).wait)),(48,chC 49 50 51 (FcNew true)),(35,.vec .row ((FcNew false).out)),(34,.ints .u8 ((FcNew false).got.length) ((FcNew false).got)),(33,.ints .u8 ((FcNew false).wait.length) ((FcNew false).wait)),(32,chC 33 34 35 (FcNew false))])
    96 (by kernel_rfl) rfl (by kernel_rfl) (⟨⟨tt,trivial⟩,⟨⟨tt,trivial⟩,⟨tt,⟨tt,trivial⟩⟩⟩⟩) ?_
  refine Tri.seq_region [] none [3,2,1] [114,113,112,32,51,50,49,48] (TT∧(((True∧((chLens ((FcNew false).wait.length) ((FcNew false).got.length) ((FcNew false).out.length) ((FcNew false).wait.length) ((FcNew false).got.length) (FcNew false))∧((FcNew false).out.length≤1000000000)))∧True)∧(TT∧True)))
    ([(3,.sc (.i .i64 (FcBegin (FcNew false)))),(2,.sc (.p 48 0)),(1,.sc (.p 32 0))],[(114,.vec .row ((FcBegin_1 (FcNew false)).out)),(113,.ints .u8 ((FcBegin_1 (FcNew false)).got.length) ((FcBegin_1 (FcNew false)).got)),(112,.ints .u8 ((FcBegin_1 (FcNew false)).wait.length) ((FcBegin_1 (FcNew false)).wait)),(32,chC 112 113 114 (FcBegin_1 (FcNew false))),(51,.vec .row ((FcNew true).out)),(50,.ints .u8 ((FcNew true).got.length) ((FcNew true).got)),(49,.ints .u8 ((FcNew true).wait.length) ((FcNew true).wait)),(48,chC 49 50 51 (FcNew true))])
    144 (by kernel_rfl) rfl (by kernel_rfl) (⟨tt,⟨⟨⟨trivial,⟨(chLens_self _),(by first | omega | (dsimp only; omega) | decide | (simp only [Fcfitv2,Fcfitv3,len_say]; omega))⟩⟩,trivial⟩,⟨tt,trivial⟩⟩⟩) ?_
  refine Tri.seq ?_
  refine Tri.seq_region [] none [8,3,2,1] [114,113,112,32,51,50,49,48] (TT∧True)
    ([(8,.sc (.i .i64 0)),(3,.sc (.i .i64 (FcBegin (FcNew false)))),(2,.sc (.p 48 0)),(1,.sc (.p 32 0))],[(114,.vec .row ((FcBegin_1 (FcNew false)).out)),(113,.ints .u8 ((FcBegin_1 (FcNew false)).got.length) ((FcBegin_1 (FcNew false)).got)),(112,.ints .u8 ((FcBegin_1 (FcNew false)).wait.length) ((FcBegin_1 (FcNew false)).wait)),(32,chC 112 113 114 (FcBegin_1 (FcNew false))),(51,.vec .row ((FcNew true).out)),(50,.ints .u8 ((FcNew true).got.length) ((FcNew true).got)),(49,.ints .u8 ((FcNew true).wait.length) ((FcNew true).wait)),(48,chC 49 50 51 (FcNew true))])
    160 (by kernel_rfl) rfl (by kernel_rfl) (⟨tt,trivial⟩) ?_
  refine Tri.block ?_
  refine Tri.count 160 4 (Fcfitl0) ((FcBegin_1 (FcNew false)),(FcNew true)) (fun k0 z0 => True) (fun k0 z0 => ([(8,.sc (.i .i64 (k0:Int))),(3,.sc (.i .i64 (FcBegin (FcNew false)))),(2,.sc (.p 48 0)),(1,.sc (.p 32 0))],[(114,.vec .row z0.1.out),(113,.ints .u8 z0.1.got.length z0.1.got),(112,.ints .u8 z0.1.wait.length z0.1.wait),(32,chC 112 113 114 z0.1),(51,.vec .row z0.2.out),(50,.ints .u8 z0.2.got.length z0.2.got),(49,.ints .u8 z0.2.wait.length z0.2.wait),(48,chC 49 50 51 z0.2)])) trivial (Sub.of_eq (by kernel_rfl)) ?_
  intro k0 z0 hk0 hz0 hJ0
  refine Tri.seq_region [] none [9,8,3,2,1] [114,113,112,32,51,50,49,48] (TT∧True)
    ([(9,.sc (.b (decide (((k0:Int):Int) < 4)))),(8,.sc (.i .i64 (k0:Int))),(3,.sc (.i .i64 (FcBegin (FcNew false)))),(2,.sc (.p 48 0)),(1,.sc (.p 32 0))],[(114,.vec .row z0.1.out),(113,.ints .u8 z0.1.got.length z0.1.got),(112,.ints .u8 z0.1.wait.length z0.1.wait),(32,chC 112 113 114 z0.1),(51,.vec .row z0.2.out),(50,.ints .u8 z0.2.got.length z0.2.got),(49,.ints .u8 z0.2.wait.length z0.2.wait),(48,chC 49 50 51 z0.2)])
    176 (by kernel_rfl) rfl (by kernel_rfl) (⟨tt,trivial⟩) ?_
  refine Tri.seq ?_
  refine Tri.cond (x:=(decide (((k0:Int):Int) < 4))) (by kernel_rfl) (fun h1 => ?_) (fun h1 => ?_)
  ·
   have h1':=of_decide_eq_true h1
   refine Tri.skip ?_
   change Tri _ _ _ _ _ _
   refine Tri.seq ?_
   refine Tri.block ?_
   refine Tri.seq_region [] none [8,3,2,1] [213,212,211,210,209,208,48,32] (TT∧(TT∧(((True∧((chLens z0.1.wait.length z0.1.got.length z0.1.out.length z0.1.wait.length z0.1.got.length z0.1)∧((chLens z0.2.wait.length z0.2.got.length z0.2.out.length z0.2.wait.length z0.2.got.length z0.2)∧(chOk 1000000 z0.2∧z0.1.out.length≤100000))))∧True)∧True)))
     ([(8,.sc (.i .i64 (k0:Int))),(3,.sc (.i .i64 (FcBegin (FcNew false)))),(2,.sc (.p 48 0)),(1,.sc (.p 32 0))],[(213,.vec .row ((Fccarry_1 z0.1 z0.2).out)),(212,.ints .u8 ((Fccarry_1 z0.1 z0.2).got.length) ((Fccarry_1 z0.1 z0.2).got)),(211,.ints .u8 ((Fccarry_1 z0.1 z0.2).wait.length) ((Fccarry_1 z0.1 z0.2).wait)),(210,.vec .row ((Fccarry z0.1 z0.2).out)),(209,.ints .u8 ((Fccarry z0.1 z0.2).got.length) ((Fccarry z0.1 z0.2).got)),(208,.ints .u8 ((Fccarry z0.1 z0.2).wait.length) ((Fccarry z0.1 z0.2).wait)),(48,chC 211 212 213 (Fccarry_1 z0.1 z0.2)),(32,chC 208 209 210 (Fccarry z0.1 z0.2))])
     224 (by kernel_rfl) rfl (by kernel_rfl) (⟨tt,⟨tt,⟨⟨⟨trivial,⟨(chLens_self _),⟨(chLens_self _),((by first | exact (fit_at (by omega) hz0).1 | exact (fit_at (by omega) hz0).2))⟩⟩⟩,trivial⟩,trivial⟩⟩⟩) ?_
   refine Tri.region' [] none [8,3,2,1] [261,260,259,258,257,256,32,48] (TT∧(TT∧(((True∧((chLens ((Fccarry_1 z0.1 z0.2).wait.length) ((Fccarry_1 z0.1 z0.2).got.length) ((Fccarry_1 z0.1 z0.2).out.length) ((Fccarry_1 z0.1 z0.2).wait.length) ((Fccarry_1 z0.1 z0.2).got.length) (Fccarry_1 z0.1 z0.2))∧((chLens ((Fccarry z0.1 z0.2).wait.length) ((Fccarry z0.1 z0.2).got.length) ((Fccarry z0.1 z0.2).out.length) ((Fccarry z0.1 z0.2).wait.length) ((Fccarry z0.1 z0.2).got.length) (Fccarry z0.1 z0.2))∧(chOk 1000000 (Fccarry z0.1 z0.2)∧(Fccarry_1 z0.1 z0.2).out.length≤100000))))∧True)∧True)))
     ([(8,.sc (.i .i64 (k0:Int))),(3,.sc (.i .i64 (FcBegin (FcNew false)))),(2,.sc (.p 48 0)),(1,.sc (.p 32 0))],[(261,.vec .row ((Fcfitv3 z0).out)),(260,.ints .u8 ((Fcfitv3 z0).got.length) ((Fcfitv3 z0).got)),(259,.ints .u8 ((Fcfitv3 z0).wait.length) ((Fcfitv3 z0).wait)),(258,.vec .row ((Fcfitv2 z0).out)),(257,.ints .u8 ((Fcfitv2 z0).got.length) ((Fcfitv2 z0).got)),(256,.ints .u8 ((Fcfitv2 z0).wait.length) ((Fcfitv2 z0).wait)),(32,chC 259 260 261 (Fcfitv3 z0)),(48,chC 256 257 258 (Fcfitv2 z0))])
     272 (by kernel_rfl) rfl (by kernel_rfl) (⟨tt,⟨tt,⟨⟨⟨trivial,⟨(chLens_self _),⟨(chLens_self _),((by first | exact (fit_at (by omega) hz0).1 | exact (fit_at (by omega) hz0).2))⟩⟩⟩,trivial⟩,trivial⟩⟩⟩) ?_
   change Tri _ _ _ _ _ _
   refine Tri.region' [(16,qi ((k0 + 1:Nat):Int))] none [8,3,2,1] [261,260,259,258,257,256,32,48] ((True∧((iAdd .i64 (k0:Int) 1)=((k0 + 1:Nat):Int)))∧(TT∧True))
     ([(8,.sc (.i .i64 ((k0 + 1:Nat):Int))),(3,.sc (.i .i64 (FcBegin (FcNew false)))),(2,.sc (.p 48 0)),(1,.sc (.p 32 0))],[(261,.vec .row ((Fcfitv3 z0).out)),(260,.ints .u8 ((Fcfitv3 z0).got.length) ((Fcfitv3 z0).got)),(259,.ints .u8 ((Fcfitv3 z0).wait.length) ((Fcfitv3 z0).wait)),(258,.vec .row ((Fcfitv2 z0).out)),(257,.ints .u8 ((Fcfitv2 z0).got.length) ((Fcfitv2 z0).got)),(256,.ints .u8 ((Fcfitv2 z0).wait.length) ((Fcfitv2 z0).wait)),(32,chC 259 260 261 (Fcfitv3 z0)),(48,chC 256 257 258 (Fcfitv2 z0))])
     304 (by kernel_rfl) rfl (by kernel_rfl) (⟨⟨trivial,(iAdd_nat (a:=k0) (b:=1) (by omega))⟩,⟨tt,trivial⟩⟩) ?_
   repeat (refine blkP_normal ?_)
   refine countP_normal (by omega) trivial ?_
   exact Sub.ren (ns:=[(261,114),(260,113),(259,112),(32,32),(258,51),(257,50),(256,49),(48,48)]) (kf:=[8,3,2,1]) (by kernel_rfl) (by kernel_rfl)
  ·
   have h1':=of_decide_eq_false h1
   refine Tri.exit ?_
   have hend0:k0=4:=by (have:=of_decide_eq_false h1; omega)
   subst hend0; subst hz0
   change Tri _ _ _ _ _ _
   refine Tri.split (((FcBegin (FcNew false)):Int) == 0) (fun h2 => ?_) (fun h2 => ?_)
   ·
    have h2':=eq_true_i h2
    refine Tri.split (((FcState ((itr (Fcfitl0) 4 ((FcBegin_1 (FcNew false)),(FcNew true))).1)):Int) == 2) (fun h3 => ?_) (fun h3 => ?_)
    ·
     have h3':=eq_true_i h3
     refine Tri.split (((FcState ((itr (Fcfitl0) 4 ((FcBegin_1 (FcNew false)),(FcNew true))).2)):Int) == 2) (fun h4 => ?_) (fun h4 => ?_)
     ·
      have h4':=eq_true_i h4
      refine Tri.split (FcReady ((itr (Fcfitl0) 4 ((FcBegin_1 (FcNew false)),(FcNew true))).1)) (fun h5 => ?_) (fun h5 => ?_)
      ·
       refine Tri.seq_region [(19,qb true),(24,qb true),(29,qb true),(33,qb true)] none [0] [] (TT∧(TT∧((True∧((((FcBegin (FcNew false)):Int) == 0)=true))∧(TT∧((((True∧((chLens (((itr (Fcfitl0) 4 ((FcBegin_1 (FcNew false)),(FcNew true))).1).wait.length) (((itr (Fcfitl0) 4 ((FcBegin_1 (FcNew false)),(FcNew true))).1).got.length) (((itr (Fcfitl0) 4 ((FcBegin_1 (FcNew false)),(FcNew true))).1).out.length) (((itr (Fcfitl0) 4 ((FcBegin_1 (FcNew false)),(FcNew true))).1).wait.length) (((itr (Fcfitl0) 4 ((FcBegin_1 (FcNew false)),(FcNew true))).1).got.length) ((itr (Fcfitl0) 4 ((FcBegin_1 (FcNew false)),(FcNew true))).1))∧True))∧(([some (chC 112 113 114 ((itr (Fcfitl0) 4 ((FcBegin_1 (FcNew false)),(FcNew true))).1)),some (.ints .u8 ((itr (Fcfitl0) 4 ((FcBegin_1 (FcNew false)),(FcNew true))).1.wait.length) ((itr (Fcfitl0) 4 ((FcBegin_1 (FcNew false)),(FcNew true))).1.wait)),some (.ints .u8 ((itr (Fcfitl0) 4 ((FcBegin_1 (FcNew false)),(FcNew true))).1.got.length) ((itr (Fcfitl0) 4 ((FcBegin_1 (FcNew false)),(FcNew true))).1.got)),some (.vec .row ((itr (Fcfitl0) 4 ((FcBegin_1 (FcNew false)),(FcNew true))).1.out))]:List (Option Blk))=[some (chC 112 113 114 ((itr (Fcfitl0) 4 ((FcBegin_1 (FcNew false)),(FcNew true))).1)),some (.ints .u8 ((itr (Fcfitl0) 4 ((FcBegin_1 (FcNew false)),(FcNew true))).1.wait.length) ((itr (Fcfitl0) 4 ((FcBegin_1 (FcNew false)),(FcNew true))).1.wait)),some (.ints .u8 ((itr (Fcfitl0) 4 ((FcBegin_1 (FcNew false)),(FcNew true))).1.got.length) ((itr (Fcfitl0) 4 ((FcBegin_1 (FcNew false)),(FcNew true))).1.got)),some (.vec .row ((itr (Fcfitl0) 4 ((FcBegin_1 (FcNew false)),(FcNew true))).1.out))]))∧True)∧(TT∧(TT∧((True∧((((FcState ((itr (Fcfitl0) 4 ((FcBegin_1 (FcNew false)),(FcNew true))).1)):Int) == 2)=true))∧(TT∧((((True∧((chLens (((itr (Fcfitl0) 4 ((FcBegin_1 (FcNew false)),(FcNew true))).2).wait.length) (((itr (Fcfitl0) 4 ((FcBegin_1 (FcNew false)),(FcNew true))).2).got.length) (((itr (Fcfitl0) 4 ((FcBegin_1 (FcNew false)),(FcNew true))).2).out.length) (((itr (Fcfitl0) 4 ((FcBegin_1 (FcNew false)),(FcNew true))).2).wait.length) (((itr (Fcfitl0) 4 ((FcBegin_1 (FcNew false)),(FcNew true))).2).got.length) ((itr (Fcfitl0) 4 ((FcBegin_1 (FcNew false)),(FcNew true))).2))∧True))∧(([some (chC 49 50 51 ((itr (Fcfitl0) 4 ((FcBegin_1 (FcNew false)),(FcNew true))).2)),some (.ints .u8 ((itr (Fcfitl0) 4 ((FcBegin_1 (FcNew false)),(FcNew true))).2.wait.length) ((itr (Fcfitl0) 4 ((FcBegin_1 (FcNew false)),(FcNew true))).2.wait)),some (.ints .u8 ((itr (Fcfitl0) 4 ((FcBegin_1 (FcNew false)),(FcNew true))).2.got.length) ((itr (Fcfitl0) 4 ((FcBegin_1 (FcNew false)),(FcNew true))).2.got)),some (.vec .row ((itr (Fcfitl0) 4 ((FcBegin_1 (FcNew false)),(FcNew true))).2.out))]:List (Option Blk))=[some (chC 49 50 51 ((itr (Fcfitl0) 4 ((FcBegin_1 (FcNew false)),(FcNew true))).2)),some (.ints .u8 ((itr (Fcfitl0) 4 ((FcBegin_1 (FcNew false)),(FcNew true))).2.wait.length) ((itr (Fcfitl0) 4 ((FcBegin_1 (FcNew false)),(FcNew true))).2.wait)),some (.ints .u8 ((itr (Fcfitl0) 4 ((FcBegin_1 (FcNew false)),(FcNew true))).2.got.length) ((itr (Fcfitl0) 4 ((FcBegin_1 (FcNew false)),(FcNew true))).2.got)),some (.vec .row ((itr (Fcfitl0) 4 ((FcBegin_1 (FcNew false)),(FcNew true))).2.out))]))∧True)∧(TT∧(TT∧((True∧((((FcState ((itr (Fcfitl0) 4 ((FcBegin_1 (FcNew false)),(FcNew true))).2)):Int) == 2)=true))∧(TT∧((((True∧((chLens (((itr (Fcfitl0) 4 ((FcBegin_1 (FcNew false)),(FcNew true))).1).wait.length) (((itr (Fcfitl0) 4 ((FcBegin_1 (FcNew false)),(FcNew true))).1).got.length) (((itr (Fcfitl0) 4 ((FcBegin_1 (FcNew false)),(FcNew true))).1).out.length) (((itr (Fcfitl0) 4 ((FcBegin_1 (FcNew false)),(FcNew true))).1).wait.length) (((itr (Fcfitl0) 4 ((FcBegin_1 (FcNew false)),(FcNew true))).1).got.length) ((itr (Fcfitl0) 4 ((FcBegin_1 (FcNew false)),(FcNew true))).1))∧True))∧(([some (chC 112 113 114 ((itr (Fcfitl0) 4 ((FcBegin_1 (FcNew false)),(FcNew true))).1)),some (.ints .u8 ((itr (Fcfitl0) 4 ((FcBegin_1 (FcNew false)),(FcNew true))).1.wait.length) ((itr (Fcfitl0) 4 ((FcBegin_1 (FcNew false)),(FcNew true))).1.wait)),some (.ints .u8 ((itr (Fcfitl0) 4 ((FcBegin_1 (FcNew false)),(FcNew true))).1.got.length) ((itr (Fcfitl0) 4 ((FcBegin_1 (FcNew false)),(FcNew true))).1.got)),some (.vec .row ((itr (Fcfitl0) 4 ((FcBegin_1 (FcNew false)),(FcNew true))).1.out))]:List (Option Blk))=[some (chC 112 113 114 ((itr (Fcfitl0) 4 ((FcBegin_1 (FcNew false)),(FcNew true))).1)),some (.ints .u8 ((itr (Fcfitl0) 4 ((FcBegin_1 (FcNew false)),(FcNew true))).1.wait.length) ((itr (Fcfitl0) 4 ((FcBegin_1 (FcNew false)),(FcNew true))).1.wait)),some (.ints .u8 ((itr (Fcfitl0) 4 ((FcBegin_1 (FcNew false)),(FcNew true))).1.got.length) ((itr (Fcfitl0) 4 ((FcBegin_1 (FcNew false)),(FcNew true))).1.got)),some (.vec .row ((itr (Fcfitl0) 4 ((FcBegin_1 (FcNew false)),(FcNew true))).1.out))]))∧True)∧(TT∧((True∧((FcReady ((itr (Fcfitl0) 4 ((FcBegin_1 (FcNew false)),(FcNew true))).1))=true))∧(TT∧((((True∧((chLens (((itr (Fcfitl0) 4 ((FcBegin_1 (FcNew false)),(FcNew true))).2).wait.length) (((itr (Fcfitl0) 4 ((FcBegin_1 (FcNew false)),(FcNew true))).2).got.length) (((itr (Fcfitl0) 4 ((FcBegin_1 (FcNew false)),(FcNew true))).2).out.length) (((itr (Fcfitl0) 4 ((FcBegin_1 (FcNew false)),(FcNew true))).2).wait.length) (((itr (Fcfitl0) 4 ((FcBegin_1 (FcNew false)),(FcNew true))).2).got.length) ((itr (Fcfitl0) 4 ((FcBegin_1 (FcNew false)),(FcNew true))).2))∧True))∧(([some (chC 49 50 51 ((itr (Fcfitl0) 4 ((FcBegin_1 (FcNew false)),(FcNew true))).2)),some (.ints .u8 ((itr (Fcfitl0) 4 ((FcBegin_1 (FcNew false)),(FcNew true))).2.wait.length) ((itr (Fcfitl0) 4 ((FcBegin_1 (FcNew false)),(FcNew true))).2.wait)),some (.ints .u8 ((itr (Fcfitl0) 4 ((FcBegin_1 (FcNew false)),(FcNew true))).2.got.length) ((itr (Fcfitl0) 4 ((FcBegin_1 (FcNew false)),(FcNew true))).2.got)),some (.vec .row ((itr (Fcfitl0) 4 ((FcBegin_1 (FcNew false)),(FcNew true))).2.out))]:List (Option Blk))=[some (chC 49 50 51 ((itr (Fcfitl0) 4 ((FcBegin_1 (FcNew false)),(FcNew true))).2)),some (.ints .u8 ((itr (Fcfitl0) 4 ((FcBegin_1 (FcNew false)),(FcNew true))).2.wait.length) ((itr (Fcfitl0) 4 ((FcBegin_1 (FcNew false)),(FcNew true))).2.wait)),some (.ints .u8 ((itr (Fcfitl0) 4 ((FcBegin_1 (FcNew false)),(FcNew true))).2.got.length) ((itr (Fcfitl0) 4 ((FcBegin_1 (FcNew false)),(FcNew true))).2.got)),some (.vec .row ((itr (Fcfitl0) 4 ((FcBegin_1 (FcNew false)),(FcNew true))).2.out))]))∧True)∧(TT∧(TT∧True)))))))))))))))))))))
         ([(0,.sc (.b (FcReady ((itr (Fcfitl0) 4 ((FcBegin_1 (FcNew false)),(FcNew true))).2))))],[])
         512 (by kernel_rfl) rfl (by kernel_rfl) (⟨tt,⟨tt,⟨⟨trivial,(h2)⟩,⟨tt,⟨⟨⟨⟨trivial,⟨(chLens_self _),trivial⟩⟩,(rfl)⟩,trivial⟩,⟨tt,⟨tt,⟨⟨trivial,(h3)⟩,⟨tt,⟨⟨⟨⟨trivial,⟨(chLens_self _),trivial⟩⟩,(rfl)⟩,trivial⟩,⟨tt,⟨tt,⟨⟨trivial,(h4)⟩,⟨tt,⟨⟨⟨⟨trivial,⟨(chLens_self _),trivial⟩⟩,(rfl)⟩,trivial⟩,⟨tt,⟨⟨trivial,(h5)⟩,⟨tt,⟨⟨⟨⟨trivial,⟨(chLens_self _),trivial⟩⟩,(rfl)⟩,trivial⟩,⟨tt,⟨tt,trivial⟩⟩⟩⟩⟩⟩⟩⟩⟩⟩⟩⟩⟩⟩⟩⟩⟩⟩⟩⟩⟩) ?_
       refine Tri.ret ?_
       repeat (first | refine thenP_ret ?_ | refine blkP_ret ?_ | refine countP_ret ?_ | refine joinP_ret ?_ | refine iterP_ret ?_)
       refine endP.conv (r':=⟨.sc (.b (FcReady ((itr (Fcfitl0) 4 ((FcBegin_1 (FcNew false)),(FcNew true))).2))),[]⟩) (by simp only [chC,Fcfit,h2,h3,h4,h5,sel_true,sel_false]) ?_
       exact endP.ret [] TT (by kernel_rfl) (by kernel_rfl) tt
      ·
       refine Tri.seq_region [(19,qb true),(24,qb true),(29,qb true),(33,qb false)] none [0] [] (TT∧(TT∧((True∧((((FcBegin (FcNew false)):Int) == 0)=true))∧(TT∧((((True∧((chLens (((itr (Fcfitl0) 4 ((FcBegin_1 (FcNew false)),(FcNew true))).1).wait.length) (((itr (Fcfitl0) 4 ((FcBegin_1 (FcNew false)),(FcNew true))).1).got.length) (((itr (Fcfitl0) 4 ((FcBegin_1 (FcNew false)),(FcNew true))).1).out.length) (((itr (Fcfitl0) 4 ((FcBegin_1 (FcNew false)),(FcNew true))).1).wait.length) (((itr (Fcfitl0) 4 ((FcBegin_1 (FcNew false)),(FcNew true))).1).got.length) ((itr (Fcfitl0) 4 ((FcBegin_1 (FcNew false)),(FcNew true))).1))∧True))∧(([some (chC 112 113 114 ((itr (Fcfitl0) 4 ((FcBegin_1 (FcNew false)),(FcNew true))).1)),some (.ints .u8 ((itr (Fcfitl0) 4 ((FcBegin_1 (FcNew false)),(FcNew true))).1.wait.length) ((itr (Fcfitl0) 4 ((FcBegin_1 (FcNew false)),(FcNew true))).1.wait)),some (.ints .u8 ((itr (Fcfitl0) 4 ((FcBegin_1 (FcNew false)),(FcNew true))).1.got.length) ((itr (Fcfitl0) 4 ((FcBegin_1 (FcNew false)),(FcNew true))).1.got)),some (.vec .row ((itr (Fcfitl0) 4 ((FcBegin_1 (FcNew false)),(FcNew true))).1.out))]:List (Option Blk))=[some (chC 112 113 114 ((itr (Fcfitl0) 4 ((FcBegin_1 (FcNew false)),(FcNew true))).1)),some (.ints .u8 ((itr (Fcfitl0) 4 ((FcBegin_1 (FcNew false)),(FcNew true))).1.wait.length) ((itr (Fcfitl0) 4 ((FcBegin_1 (FcNew false)),(FcNew true))).1.wait)),some (.ints .u8 ((itr (Fcfitl0) 4 ((FcBegin_1 (FcNew false)),(FcNew true))).1.got.length) ((itr (Fcfitl0) 4 ((FcBegin_1 (FcNew false)),(FcNew true))).1.got)),some (.vec .row ((itr (Fcfitl0) 4 ((FcBegin_1 (FcNew false)),(FcNew true))).1.out))]))∧True)∧(TT∧(TT∧((True∧((((FcState ((itr (Fcfitl0) 4 ((FcBegin_1 (FcNew false)),(FcNew true))).1)):Int) == 2)=true))∧(TT∧((((True∧((chLens (((itr (Fcfitl0) 4 ((FcBegin_1 (FcNew false)),(FcNew true))).2).wait.length) (((itr (Fcfitl0) 4 ((FcBegin_1 (FcNew false)),(FcNew true))).2).got.length) (((itr (Fcfitl0) 4 ((FcBegin_1 (FcNew false)),(FcNew true))).2).out.length) (((itr (Fcfitl0) 4 ((FcBegin_1 (FcNew false)),(FcNew true))).2).wait.length) (((itr (Fcfitl0) 4 ((FcBegin_1 (FcNew false)),(FcNew true))).2).got.length) ((itr (Fcfitl0) 4 ((FcBegin_1 (FcNew false)),(FcNew true))).2))∧True))∧(([some (chC 49 50 51 ((itr (Fcfitl0) 4 ((FcBegin_1 (FcNew false)),(FcNew true))).2)),some (.ints .u8 ((itr (Fcfitl0) 4 ((FcBegin_1 (FcNew false)),(FcNew true))).2.wait.length) ((itr (Fcfitl0) 4 ((FcBegin_1 (FcNew false)),(FcNew true))).2.wait)),some (.ints .u8 ((itr (Fcfitl0) 4 ((FcBegin_1 (FcNew false)),(FcNew true))).2.got.length) ((itr (Fcfitl0) 4 ((FcBegin_1 (FcNew false)),(FcNew true))).2.got)),some (.vec .row ((itr (Fcfitl0) 4 ((FcBegin_1 (FcNew false)),(FcNew true))).2.out))]:List (Option Blk))=[some (chC 49 50 51 ((itr (Fcfitl0) 4 ((FcBegin_1 (FcNew false)),(FcNew true))).2)),some (.ints .u8 ((itr (Fcfitl0) 4 ((FcBegin_1 (FcNew false)),(FcNew true))).2.wait.length) ((itr (Fcfitl0) 4 ((FcBegin_1 (FcNew false)),(FcNew true))).2.wait)),some (.ints .u8 ((itr (Fcfitl0) 4 ((FcBegin_1 (FcNew false)),(FcNew true))).2.got.length) ((itr (Fcfitl0) 4 ((FcBegin_1 (FcNew false)),(FcNew true))).2.got)),some (.vec .row ((itr (Fcfitl0) 4 ((FcBegin_1 (FcNew false)),(FcNew true))).2.out))]))∧True)∧(TT∧(TT∧((True∧((((FcState ((itr (Fcfitl0) 4 ((FcBegin_1 (FcNew false)),(FcNew true))).2)):Int) == 2)=true))∧(TT∧((((True∧((chLens (((itr (Fcfitl0) 4 ((FcBegin_1 (FcNew false)),(FcNew true))).1).wait.length) (((itr (Fcfitl0) 4 ((FcBegin_1 (FcNew false)),(FcNew true))).1).got.length) (((itr (Fcfitl0) 4 ((FcBegin_1 (FcNew false)),(FcNew true))).1).out.length) (((itr (Fcfitl0) 4 ((FcBegin_1 (FcNew false)),(FcNew true))).1).wait.length) (((itr (Fcfitl0) 4 ((FcBegin_1 (FcNew false)),(FcNew true))).1).got.length) ((itr (Fcfitl0) 4 ((FcBegin_1 (FcNew false)),(FcNew true))).1))∧True))∧(([some (chC 112 113 114 ((itr (Fcfitl0) 4 ((FcBegin_1 (FcNew false)),(FcNew true))).1)),some (.ints .u8 ((itr (Fcfitl0) 4 ((FcBegin_1 (FcNew false)),(FcNew true))).1.wait.length) ((itr (Fcfitl0) 4 ((FcBegin_1 (FcNew false)),(FcNew true))).1.wait)),some (.ints .u8 ((itr (Fcfitl0) 4 ((FcBegin_1 (FcNew false)),(FcNew true))).1.got.length) ((itr (Fcfitl0) 4 ((FcBegin_1 (FcNew false)),(FcNew true))).1.got)),some (.vec .row ((itr (Fcfitl0) 4 ((FcBegin_1 (FcNew false)),(FcNew true))).1.out))]:List (Option Blk))=[some (chC 112 113 114 ((itr (Fcfitl0) 4 ((FcBegin_1 (FcNew false)),(FcNew true))).1)),some (.ints .u8 ((itr (Fcfitl0) 4 ((FcBegin_1 (FcNew false)),(FcNew true))).1.wait.length) ((itr (Fcfitl0) 4 ((FcBegin_1 (FcNew false)),(FcNew true))).1.wait)),some (.ints .u8 ((itr (Fcfitl0) 4 ((FcBegin_1 (FcNew false)),(FcNew true))).1.got.length) ((itr (Fcfitl0) 4 ((FcBegin_1 (FcNew false)),(FcNew true))).1.got)),some (.vec .row ((itr (Fcfitl0) 4 ((FcBegin_1 (FcNew false)),(FcNew true))).1.out))]))∧True)∧(TT∧((True∧((FcReady ((itr (Fcfitl0) 4 ((FcBegin_1 (FcNew false)),(FcNew true))).1))=false))∧(TT∧(TT∧(TT∧(TT∧True)))))))))))))))))))))
         ([(0,.sc (.b false))],[])
         512 (by kernel_rfl) rfl (by kernel_rfl) (⟨tt,⟨tt,⟨⟨trivial,(h2)⟩,⟨tt,⟨⟨⟨⟨trivial,⟨(chLens_self _),trivial⟩⟩,(rfl)⟩,trivial⟩,⟨tt,⟨tt,⟨⟨trivial,(h3)⟩,⟨tt,⟨⟨⟨⟨trivial,⟨(chLens_self _),trivial⟩⟩,(rfl)⟩,trivial⟩,⟨tt,⟨tt,⟨⟨trivial,(h4)⟩,⟨tt,⟨⟨⟨⟨trivial,⟨(chLens_self _),trivial⟩⟩,(rfl)⟩,trivial⟩,⟨tt,⟨⟨trivial,(h5)⟩,⟨tt,⟨tt,⟨tt,⟨tt,trivial⟩⟩⟩⟩⟩⟩⟩⟩⟩⟩⟩⟩⟩⟩⟩⟩⟩⟩⟩⟩⟩) ?_
       refine Tri.ret ?_
       repeat (first | refine thenP_ret ?_ | refine blkP_ret ?_ | refine countP_ret ?_ | refine joinP_ret ?_ | refine iterP_ret ?_)
       refine endP.conv (r':=⟨.sc (.b false),[]⟩) (by simp only [chC,Fcfit,h2,h3,h4,h5,sel_true,sel_false]) ?_
       exact endP.ret [] TT (by kernel_rfl) (by kernel_rfl) tt
     ·
      have h4':=eq_false_i h4
      refine Tri.seq_region [(19,qb true),(24,qb true),(29,qb false)] none [0] [] (TT∧(TT∧((True∧((((FcBegin (FcNew false)):Int) == 0)=true))∧(TT∧((((True∧((chLens (((itr (Fcfitl0) 4 ((FcBegin_1 (FcNew false)),(FcNew true))).1).wait.length) (((itr (Fcfitl0) 4 ((FcBegin_1 (FcNew false)),(FcNew true))).1).got.length) (((itr (Fcfitl0) 4 ((FcBegin_1 (FcNew false)),(FcNew true))).1).out.length) (((itr (Fcfitl0) 4 ((FcBegin_1 (FcNew false)),(FcNew true))).1).wait.length) (((itr (Fcfitl0) 4 ((FcBegin_1 (FcNew false)),(FcNew true))).1).got.length) ((itr (Fcfitl0) 4 ((FcBegin_1 (FcNew false)),(FcNew true))).1))∧True))∧(([some (chC 112 113 114 ((itr (Fcfitl0) 4 ((FcBegin_1 (FcNew false)),(FcNew true))).1)),some (.ints .u8 ((itr (Fcfitl0) 4 ((FcBegin_1 (FcNew false)),(FcNew true))).1.wait.length) ((itr (Fcfitl0) 4 ((FcBegin_1 (FcNew false)),(FcNew true))).1.wait)),some (.ints .u8 ((itr (Fcfitl0) 4 ((FcBegin_1 (FcNew false)),(FcNew true))).1.got.length) ((itr (Fcfitl0) 4 ((FcBegin_1 (FcNew false)),(FcNew true))).1.got)),some (.vec .row ((itr (Fcfitl0) 4 ((FcBegin_1 (FcNew false)),(FcNew true))).1.out))]:List (Option Blk))=[some (chC 112 113 114 ((itr (Fcfitl0) 4 ((FcBegin_1 (FcNew false)),(FcNew true))).1)),some (.ints .u8 ((itr (Fcfitl0) 4 ((FcBegin_1 (FcNew false)),(FcNew true))).1.wait.length) ((itr (Fcfitl0) 4 ((FcBegin_1 (FcNew false)),(FcNew true))).1.wait)),some (.ints .u8 ((itr (Fcfitl0) 4 ((FcBegin_1 (FcNew false)),(FcNew true))).1.got.length) ((itr (Fcfitl0) 4 ((FcBegin_1 (FcNew false)),(FcNew true))).1.got)),some (.vec .row ((itr (Fcfitl0) 4 ((FcBegin_1 (FcNew false)),(FcNew true))).1.out))]))∧True)∧(TT∧(TT∧((True∧((((FcState ((itr (Fcfitl0) 4 ((FcBegin_1 (FcNew false)),(FcNew true))).1)):Int) == 2)=true))∧(TT∧((((True∧((chLens (((itr (Fcfitl0) 4 ((FcBegin_1 (FcNew false)),(FcNew true))).2).wait.length) (((itr (Fcfitl0) 4 ((FcBegin_1 (FcNew false)),(FcNew true))).2).got.length) (((itr (Fcfitl0) 4 ((FcBegin_1 (FcNew false)),(FcNew true))).2).out.length) (((itr (Fcfitl0) 4 ((FcBegin_1 (FcNew false)),(FcNew true))).2).wait.length) (((itr (Fcfitl0) 4 ((FcBegin_1 (FcNew false)),(FcNew true))).2).got.length) ((itr (Fcfitl0) 4 ((FcBegin_1 (FcNew false)),(FcNew true))).2))∧True))∧(([some (chC 49 50 51 ((itr (Fcfitl0) 4 ((FcBegin_1 (FcNew false)),(FcNew true))).2)),some (.ints .u8 ((itr (Fcfitl0) 4 ((FcBegin_1 (FcNew false)),(FcNew true))).2.wait.length) ((itr (Fcfitl0) 4 ((FcBegin_1 (FcNew false)),(FcNew true))).2.wait)),some (.ints .u8 ((itr (Fcfitl0) 4 ((FcBegin_1 (FcNew false)),(FcNew true))).2.got.length) ((itr (Fcfitl0) 4 ((FcBegin_1 (FcNew false)),(FcNew true))).2.got)),some (.vec .row ((itr (Fcfitl0) 4 ((FcBegin_1 (FcNew false)),(FcNew true))).2.out))]:List (Option Blk))=[some (chC 49 50 51 ((itr (Fcfitl0) 4 ((FcBegin_1 (FcNew false)),(FcNew true))).2)),some (.ints .u8 ((itr (Fcfitl0) 4 ((FcBegin_1 (FcNew false)),(FcNew true))).2.wait.length) ((itr (Fcfitl0) 4 ((FcBegin_1 (FcNew false)),(FcNew true))).2.wait)),some (.ints .u8 ((itr (Fcfitl0) 4 ((FcBegin_1 (FcNew false)),(FcNew true))).2.got.length) ((itr (Fcfitl0) 4 ((FcBegin_1 (FcNew false)),(FcNew true))).2.got)),some (.vec .row ((itr (Fcfitl0) 4 ((FcBegin_1 (FcNew false)),(FcNew true))).2.out))]))∧True)∧(TT∧(TT∧((True∧((((FcState ((itr (Fcfitl0) 4 ((FcBegin_1 (FcNew false)),(FcNew true))).2)):Int) == 2)=false))∧(TT∧(TT∧(TT∧(TT∧(TT∧(TT∧(TT∧(TT∧True)))))))))))))))))))))
        ([(0,.sc (.b false))],[])
        512 (by kernel_rfl) rfl (by kernel_rfl) (⟨tt,⟨tt,⟨⟨trivial,(h2)⟩,⟨tt,⟨⟨⟨⟨trivial,⟨(chLens_self _),trivial⟩⟩,(rfl)⟩,trivial⟩,⟨tt,⟨tt,⟨⟨trivial,(h3)⟩,⟨tt,⟨⟨⟨⟨trivial,⟨(chLens_self _),trivial⟩⟩,(rfl)⟩,trivial⟩,⟨tt,⟨tt,⟨⟨trivial,(h4)⟩,⟨tt,⟨tt,⟨tt,⟨tt,⟨tt,⟨tt,⟨tt,⟨tt,trivial⟩⟩⟩⟩⟩⟩⟩⟩⟩⟩⟩⟩⟩⟩⟩⟩⟩⟩⟩⟩⟩) ?_
      refine Tri.ret ?_
      repeat (first | refine thenP_ret ?_ | refine blkP_ret ?_ | refine countP_ret ?_ | refine joinP_ret ?_ | refine iterP_ret ?_)
      refine endP.conv (r':=⟨.sc (.b false),[]⟩) (by simp only [chC,Fcfit,h2,h3,h4,sel_true,sel_false]) ?_
      exact endP.ret [] TT (by kernel_rfl) (by kernel_rfl) tt
    ·
     have h3':=eq_false_i h3
     refine Tri.seq_region [(19,qb true),(24,qb false)] none [0] [] (TT∧(TT∧((True∧((((FcBegin (FcNew false)):Int) == 0)=true))∧(TT∧((((True∧((chLens (((itr (Fcfitl0) 4 ((FcBegin_1 (FcNew false)),(FcNew true))).1).wait.length) (((itr (Fcfitl0) 4 ((FcBegin_1 (FcNew false)),(FcNew true))).1).got.length) (((itr (Fcfitl0) 4 ((FcBegin_1 (FcNew false)),(FcNew true))).1).out.length) (((itr (Fcfitl0) 4 ((FcBegin_1 (FcNew false)),(FcNew true))).1).wait.length) (((itr (Fcfitl0) 4 ((FcBegin_1 (FcNew false)),(FcNew true))).1).got.length) ((itr (Fcfitl0) 4 ((FcBegin_1 (FcNew false)),(FcNew true))).1))∧True))∧(([some (chC 112 113 114 ((itr (Fcfitl0) 4 ((FcBegin_1 (FcNew false)),(FcNew true))).1)),some (.ints .u8 ((itr (Fcfitl0) 4 ((FcBegin_1 (FcNew false)),(FcNew true))).1.wait.length) ((itr (Fcfitl0) 4 ((FcBegin_1 (FcNew false)),(FcNew true))).1.wait)),some (.ints .u8 ((itr (Fcfitl0) 4 ((FcBegin_1 (FcNew false)),(FcNew true))).1.got.length) ((itr (Fcfitl0) 4 ((FcBegin_1 (FcNew false)),(FcNew true))).1.got)),some (.vec .row ((itr (Fcfitl0) 4 ((FcBegin_1 (FcNew false)),(FcNew true))).1.out))]:List (Option Blk))=[some (chC 112 113 114 ((itr (Fcfitl0) 4 ((FcBegin_1 (FcNew false)),(FcNew true))).1)),some (.ints .u8 ((itr (Fcfitl0) 4 ((FcBegin_1 (FcNew false)),(FcNew true))).1.wait.length) ((itr (Fcfitl0) 4 ((FcBegin_1 (FcNew false)),(FcNew true))).1.wait)),some (.ints .u8 ((itr (Fcfitl0) 4 ((FcBegin_1 (FcNew false)),(FcNew true))).1.got.length) ((itr (Fcfitl0) 4 ((FcBegin_1 (FcNew false)),(FcNew true))).1.got)),some (.vec .row ((itr (Fcfitl0) 4 ((FcBegin_1 (FcNew false)),(FcNew true))).1.out))]))∧True)∧(TT∧(TT∧((True∧((((FcState ((itr (Fcfitl0) 4 ((FcBegin_1 (FcNew false)),(FcNew true))).1)):Int) == 2)=false))∧(TT∧(TT∧(TT∧(TT∧(TT∧(TT∧(TT∧(TT∧(TT∧(TT∧(TT∧(TT∧(TT∧True)))))))))))))))))))))
       ([(0,.sc (.b false))],[])
       512 (by kernel_rfl) rfl (by kernel_rfl) (⟨tt,⟨tt,⟨⟨trivial,(h2)⟩,⟨tt,⟨⟨⟨⟨trivial,⟨(chLens_self _),trivial⟩⟩,(rfl)⟩,trivial⟩,⟨tt,⟨tt,⟨⟨trivial,(h3)⟩,⟨tt,⟨tt,⟨tt,⟨tt,⟨tt,⟨tt,⟨tt,⟨tt,⟨tt,⟨tt,⟨tt,⟨tt,⟨tt,trivial⟩⟩⟩⟩⟩⟩⟩⟩⟩⟩⟩⟩⟩⟩⟩⟩⟩⟩⟩⟩⟩) ?_
     refine Tri.ret ?_
     repeat (first | refine thenP_ret ?_ | refine blkP_ret ?_ | refine countP_ret ?_ | refine joinP_ret ?_ | refine iterP_ret ?_)
     refine endP.conv (r':=⟨.sc (.b false),[]⟩) (by simp only [chC,Fcfit,h2,h3,sel_true,sel_false]) ?_
     exact endP.ret [] TT (by kernel_rfl) (by kernel_rfl) tt
   ·
    have h2':=eq_false_i h2
    refine Tri.seq_region [(19,qb false)] none [0] [] (TT∧(TT∧((True∧((((FcBegin (FcNew false)):Int) == 0)=false))∧(TT∧(TT∧(TT∧(TT∧(TT∧(TT∧(TT∧(TT∧(TT∧(TT∧(TT∧(TT∧(TT∧(TT∧(TT∧(TT∧(TT∧(TT∧True)))))))))))))))))))))
      ([(0,.sc (.b false))],[])
      512 (by kernel_rfl) rfl (by kernel_rfl) (⟨tt,⟨tt,⟨⟨trivial,(h2)⟩,⟨tt,⟨tt,⟨tt,⟨tt,⟨tt,⟨tt,⟨tt,⟨tt,⟨tt,⟨tt,⟨tt,⟨tt,⟨tt,⟨tt,⟨tt,⟨tt,⟨tt,⟨tt,trivial⟩⟩⟩⟩⟩⟩⟩⟩⟩⟩⟩⟩⟩⟩⟩⟩⟩⟩⟩⟩⟩) ?_
    refine Tri.ret ?_
    repeat (first | refine thenP_ret ?_ | refine blkP_ret ?_ | refine countP_ret ?_ | refine joinP_ret ?_ | refine iterP_ret ?_)
    refine endP.conv (r':=⟨.sc (.b false),[]⟩) (by simp only [chC,Fcfit,h2,sel_true,sel_false]) ?_
    exact endP.ret [] TT (by kernel_rfl) (by kernel_rfl) tt
end Go.Vm
namespace Go.Vm
open Go
theorem cfit_true : Fcfit = true := by kernel_rfl
end Go.Vm
set_option linter.unusedVariables false
set_option linter.unusedSimpArgs false
namespace Go.Vm
open Go
def Dg (xs : List Int) : Prop := ∀ x ∈ xs, 0 ≤ x ∧ x < 256
theorem dg_drop {xs : List Int} (n : Nat) (h : Dg xs) : Dg (xs.drop n) := fun x hx => h x (List.mem_of_mem_drop hx)
theorem dg_take {xs : List Int} (n : Nat) (h : Dg xs) : Dg (xs.take n) := fun x hx => h x (List.mem_of_mem_take hx)
theorem dg_row {xs : List Int} (h : ∀ x ∈ xs, IntKind.min .u8 ≤ x ∧ x ≤ IntKind.max .u8) : Dg xs := fun x hx => ⟨(h x hx).1, Int.lt_of_le_of_lt (h x hx).2 (by decide)⟩
theorem bytesI_bytesOf : ∀ {xs : List Int}, Dg xs → bytesI (bytesOf xs) = xs := by
  intro xs h
  unfold bytesI bytesOf
  simp only [List.map_map]
  conv => rhs; rw [← List.map_id xs]
  refine List.map_congr_left fun x hx => ?_
  have := h x hx
  show ((UInt8.ofNat x.toNat).toNat : Int) = x
  rw [UInt8.toNat_ofNat']
  omega
theorem strEq_self (s : ByteArray) : strEq s s = true := by simp [strEq]
theorem sel_f {α : Type} {b : Bool} {x y : α} (h : b = false) : sel b x y = y := by rw [h, sel_false]
def be4 (n : Nat) : List Int := [((n / 16777216 % 256 : Nat) : Int), ((n / 65536 % 256 : Nat) : Int), ((n / 256 % 256 : Nat) : Int), ((n % 256 : Nat) : Int)]
theorem be4_of (n : Nat) (h : n < 4294967296) : [(IntKind.wrap .u8 (iShr .u32 (IntKind.wrap .u32 (n : Int)) 24)), (IntKind.wrap .u8 (iShr .u32 (IntKind.wrap .u32 (n : Int)) 16)), (IntKind.wrap .u8 (iShr .u32 (IntKind.wrap .u32 (n : Int)) 8)), (IntKind.wrap .u8 (IntKind.wrap .u32 (n : Int)))] = be4 n := by
  have e1 := iShr_at .u32 (IntKind.wrap .u32 (n : Int)) 24 (by decide)
  have e2 := iShr_at .u32 (IntKind.wrap .u32 (n : Int)) 16 (by decide)
  have e3 := iShr_at .u32 (IntKind.wrap .u32 (n : Int)) 8 (by decide)
  have w : IntKind.wrap .u32 (n : Int) = (n : Int) := by rw [wrap_u32]; omega
  rw [w] at e1 e2 e3 ⊢
  rw [show (24 : Int) = ((24 : Nat) : Int) from rfl, show (16 : Int) = ((16 : Nat) : Int) from rfl, show (8 : Int) = ((8 : Nat) : Int) from rfl, e1, e2, e3]
  have p1 : (2 : Int) ^ 24 = 16777216 := rfl
  have p2 : (2 : Int) ^ 16 = 65536 := rfl
  have p3 : (2 : Int) ^ 8 = 256 := rfl
  rw [p1, p2, p3, wrap_u8, wrap_u8, wrap_u8, wrap_u8]
  have q1 : (n : Int) / 16777216 % 256 = ((n / 16777216 % 256 : Nat) : Int) := by omega
  have q2 : (n : Int) / 65536 % 256 = ((n / 65536 % 256 : Nat) : Int) := by omega
  have q3 : (n : Int) / 256 % 256 = ((n / 256 % 256 : Nat) : Int) := by omega
  have q4 : (n : Int) % 256 = ((n % 256 : Nat) : Int) := by omega
  rw [q1, q2, q3, q4]
  rfl
theorem or8 (z c : Nat) (hz : z < 16777216) (hc : c < 256) : iOr .u32 (iShl .u32 (z : Int) 8) (IntKind.wrap .u32 (c : Int)) = ((z * 256 + c : Nat) : Int) := by
  have e1 : iShl .u32 (z : Int) 8 = ((z * 256 : Nat) : Int) := by
    have := iShl_at .u32 (z : Int) 8 (by decide)
    rw [show (8 : Int) = ((8 : Nat) : Int) from rfl, this, wrap_u32, show (2 : Int) ^ 8 = 256 from rfl]
    omega
  rw [e1, wrap_u32]
  have e2 : ((c : Int) % 4294967296) = (c : Int) := by omega
  rw [e2]
  unfold iOr
  rw [wrap_u32]
  have e3 : (BitVec.ofInt (IntKind.bits .u32) ((z * 256 : Nat) : Int) ||| BitVec.ofInt (IntKind.bits .u32) ((c : Nat) : Int)).toNat = z * 256 + c := by
    rw [BitVec.toNat_or, BitVec.ofInt_natCast, BitVec.ofInt_natCast, BitVec.toNat_ofNat, BitVec.toNat_ofNat]
    show (z * 256 % 4294967296 ||| c % 4294967296) = z * 256 + c
    rw [Nat.mod_eq_of_lt (by omega), Nat.mod_eq_of_lt (by omega)]
    have := Nat.two_pow_add_eq_or_of_lt (i := 8) (b := c) (by omega) z
    rw [show 2 ^ 8 * z = z * 256 from by omega] at this
    exact this.symm
  rw [e3]
  omega
theorem take_ok (xs r : List Int) (n : Int) (h : n = (xs.length : Int)) : FwtakeF (xs ++ r) false n = xs ∧ FwtakeF_1 (xs ++ r) false n = r ∧ FwtakeF_2 (xs ++ r) false n = false := by
  subst h
  unfold FwtakeF FwtakeF_1 FwtakeF_2
  have h0 : (decide (((xs.length : Nat) : Int) > (((xs ++ r).length : Nat) : Int))) = false := decide_eq_false (by rw [List.length_append]; omega)
  refine ⟨?_, ?_, ?_⟩
  · rw [sel_false, sel_f h0, Int.toNat_natCast, List.drop_zero, Nat.sub_zero, List.take_left']
    rfl
  · rw [sel_false, sel_f h0, Int.toNat_natCast, List.drop_left' rfl, List.take_of_length_le]
    rw [List.length_append]; omega
  · rw [sel_false, sel_f h0]
theorem u32_read (n : Nat) (h : n < 4294967296) (r : List Int) : FwU32 (be4 n ++ r) false = (n : Int) ∧ FwU32_1 (be4 n ++ r) false = r ∧ FwU32_2 (be4 n ++ r) false = false := by
  obtain ⟨h1, h2, h3⟩ := take_ok (be4 n) r 4 rfl
  refine ⟨?_, h2, h3⟩
  have f0 : ∀ k z, FwU32l0 (be4 n ++ r) false k z = iOr .u32 (iShl .u32 z 8) (IntKind.wrap .u32 ((be4 n).getD k 0)) := fun k z => by unfold FwU32l0; rw [h1]
  unfold FwU32
  rw [h1]
  show itr _ 4 0 = _
  rw [itr_succ, itr_succ, itr_succ, itr_succ, itr_zero, f0, f0, f0, f0]
  show iOr .u32 (iShl .u32 (iOr .u32 (iShl .u32 (iOr .u32 (iShl .u32 (iOr .u32 (iShl .u32 ((0 : Nat) : Int) 8) (IntKind.wrap .u32 ((n / 16777216 % 256 : Nat) : Int))) 8) (IntKind.wrap .u32 ((n / 65536 % 256 : Nat) : Int))) 8) (IntKind.wrap .u32 ((n / 256 % 256 : Nat) : Int))) 8) (IntKind.wrap .u32 ((n % 256 : Nat) : Int)) = _
  rw [or8 _ _ (by omega) (by omega), or8 _ _ (by omega) (by omega), or8 _ _ (by omega) (by omega), or8 _ _ (by omega) (by omega)]
  congr 1
  omega
theorem text_read (s r : List Int) (h : s.length ≤ 16384) : FwText (be4 s.length ++ s ++ r) false = bytesOf s ∧ FwText_1 (be4 s.length ++ s ++ r) false = r ∧ FwText_2 (be4 s.length ++ s ++ r) false = false := by
  rw [List.append_assoc]
  obtain ⟨h1, h2, h3⟩ := u32_read s.length (by omega) (s ++ r)
  unfold FwText FwText_1 FwText_2
  rw [h1, h2, h3]
  have h0 : (decide (((s.length : Nat) : Int) > 16384)) = false := decide_eq_false (by omega)
  obtain ⟨h4, h5, h6⟩ := take_ok s r (IntKind.wrap .i64 ((s.length : Nat) : Int)) (wrap_small (by omega) (by omega))
  rw [sel_f h0, sel_f h0, sel_f h0, h4, h5, h6]
  exact ⟨rfl, rfl, rfl⟩
theorem u32o_at (k : Nat) (xs : List Int) (n : Nat) (h : n < 4294967296) : FwwU32 k xs (IntKind.wrap .u32 ((n : Nat) : Int)) = xs ++ be4 n := congrArg (xs ++ ·) (be4_of n h)
theorem text_writes (k : Nat) (xs : List Int) (s : ByteArray) (h : s.size < 4294967296) : FwwText k xs s = xs ++ be4 s.size ++ bytesI s := by
  unfold FwwText
  rw [u32o_at _ _ _ h]
theorem end_at : FwEnd [] false = true := rfl
abbrev Rd := Option (List Int)
def tkO : Rd → Nat → List Int
  | some s, n => if n ≤ s.length then s.take n else []
  | none, _ => []
def nxO : Rd → Nat → Rd
  | some s, n => if n ≤ s.length then some (s.drop n) else none
  | none, _ => none
theorem tkO_some (s : List Int) (n : Nat) : tkO (some s) n = if n ≤ s.length then s.take n else [] := rfl
theorem nxO_some (s : List Int) (n : Nat) : nxO (some s) n = if n ≤ s.length then some (s.drop n) else none := rfl
def rb : Rd → List Int
  | some s => s
  | none => []
def rbad : Rd → Bool
  | some _ => false
  | none => true
def byteV (st : Rd) : Int := (tkO st 1).getD 0 0
theorem takeOk_at (s : List Int) (b : Bool) (n : Int) : FwtakeOk s b n = s.take n.toNat ∧ FwtakeOk_1 s b n = s.drop n.toNat := by
  unfold FwtakeOk FwtakeOk_1
  refine ⟨rfl, ?_⟩
  rw [List.take_of_length_le (by rw [List.length_drop]; exact Nat.le_refl _)]
theorem byte_at (st : Rd) : FwByte (rb st) (rbad st) = byteV st ∧ FwByte_1 (rb st) (rbad st) = rb (nxO st 1) ∧ FwByte_2 (rb st) (rbad st) = rbad (nxO st 1) := by
  unfold FwByte FwByte_1 FwByte_2 byteV
  cases st with
  | none => exact ⟨rfl, rfl, rfl⟩
  | some s =>
    rw [tkO_some, nxO_some]
    show sel false _ _ = _ ∧ sel false _ _ = _ ∧ sel false _ _ = _
    rw [sel_false, sel_false, sel_false]
    show sel (decide ((1 : Int) > (s.length : Int))) _ _ = _ ∧ sel (decide ((1 : Int) > (s.length : Int))) _ _ = _ ∧ sel (decide ((1 : Int) > (s.length : Int))) _ _ = _
    by_cases hn : 1 ≤ s.length
    · rw [decide_eq_false (show ¬ (1 : Int) > (s.length : Int) by omega), sel_false, sel_false, sel_false, if_pos hn, if_pos hn]
      exact ⟨by show (FwtakeOk s false 1).getD 0 0 = _; rw [(takeOk_at s false 1).1]; rfl, (takeOk_at s false 1).2, rfl⟩
    · rw [decide_eq_true (show (1 : Int) > (s.length : Int) by omega), sel_true, sel_true, sel_true, if_neg hn, if_neg hn]
      exact ⟨rfl, rfl, rfl⟩
end Go.Vm
set_option linter.unusedVariables false
set_option linter.unusedSimpArgs false
set_option maxRecDepth 4000
namespace Go.Vm
open Go
noncomputable def BcTakeO:Bs:={ P:=Go.Proofs.Try.prog,G:=noG,tab:=tabOf [⟨31,160,[.ro .u8],[],[],⟨0,1,SwFrom⟩,false⟩,⟨32,208,[.io],[],[160],⟨1,0,SwByte⟩,false⟩,⟨33,320,[.io,.io],[],[0,1,2,3,160],⟨5,3,Scopen⟩,false⟩,⟨34,352,[.io,.io],[],[0,1,2,3,160],⟨5,3,Scconfirm⟩,false⟩,⟨35,368,[.io],[],[160],⟨1,0,SwU32⟩,false⟩,⟨36,400,[.io],[],[160],⟨1,0,SwOk⟩,false⟩,⟨37,704,[.io,.val,.io],[],[0,1,2,3,160],⟨5,3,Scon⟩,false⟩],n:=69 }
theorem BcTakeO.ok:BcTakeO.Ok:=⟨tabOk (P:=Go.Proofs.Try.prog) (G:=noG) (l:=[⟨31,160,[.ro .u8],[],[],⟨0,1,SwFrom⟩,false⟩,⟨32,208,[.io],[],[160],⟨1,0,SwByte⟩,false⟩,⟨33,320,[.io,.io],[],[0,1,2,3,160],⟨5,3,Scopen⟩,false⟩,⟨34,352,[.io,.io],[],[0,1,2,3,160],⟨5,3,Scconfirm⟩,false⟩,⟨35,368,[.io],[],[160],⟨1,0,SwU32⟩,false⟩,⟨36,400,[.io],[],[160],⟨1,0,SwOk⟩,false⟩,⟨37,704,[.io,.val,.io],[],[0,1,2,3,160],⟨5,3,Scon⟩,false⟩]) (And.intro KwFrom (And.intro KwByte (And.intro Kcopen (And.intro Kcconfirm (And.intro KwU32 (And.intro KwOk (And.intro Kcon True.intro))))))),mixed⟩
end Go.Vm
