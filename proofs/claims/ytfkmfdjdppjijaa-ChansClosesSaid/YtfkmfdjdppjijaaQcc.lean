/- A part of a proof: the small machine that walks the program, the walks of its functions, and what they compute in plain. -/
import Derived.Test.YtfkmfdjdppjijaaQcb
set_option linter.unusedVariables false
set_option linter.unusedSimpArgs false
set_option maxRecDepth 4000
namespace Go.Vm
open Go
structure Ch where
 server:Bool
 state:Int
 peer:Int
 window:Int
 most:Int
 room:Int
 wait:List Int
 got:List Int
 ready:Bool
 e0:Bool
 e1:Bool
 c0:Bool
 c1:Bool
 out:List (List Int)
def chC (a b c:Nat) (p:Ch):Blk:=.cells [.b p.server,.i .i64 p.state,.i .u32 p.peer,.i .i64 p.window,.i .i64 p.most,.i .i64 p.room,.sl a 0 p.wait.length 1 none,.sl b 0 p.got.length 1 none,.b p.ready,.b p.e0,.b p.e1,.b p.c0,.b p.c1,.sl c 0 p.out.length 1 none]
def chLens (n1 n2 n3 m1 m2:Nat) (p:Ch):Prop:=n1=p.wait.length∧n2=p.got.length∧n3=p.out.length∧m1=p.wait.length∧m2=p.got.length
theorem chLens_self (p:Ch):chLens p.wait.length p.got.length p.out.length p.wait.length p.got.length p:=⟨rfl,rfl,rfl,rfl,rfl⟩
theorem minI_nat3 {a:Nat} {w m:Int} (hw:0≤w) (hm:0≤m):minI (minI (a:Int) w) m=((min (min a w.toNat) m.toNat:Nat):Int):=by
 unfold minI
 split <;> split <;> omega
def chFlow (p:Ch):Prop:=(0≤p.window∧p.window≤2147483647)∧(0≤p.most∧p.most≤512)∧(0 < p.window→0 < p.most)∧p.out.length + p.wait.length≤1000000000
def chOk (N:Nat) (p:Ch):Prop:=(0≤p.window∧p.window≤2147483647)∧(0≤p.most∧p.most≤512)∧(0 < p.window→0 < p.most)∧(p.out.length + p.wait.length≤N∧p.got.length≤N)∧(p.state=2→0 < p.most)
def flowM (p:Ch):Nat:=min p.wait.length p.window.toNat
def flowN (p:Ch):Nat:=sel p.c0 0 ((flowM p + p.most.toNat - 1) / p.most.toNat)
def flowJ (p:Ch) (k:Nat) (z:Ch):Prop:=z.wait=p.wait.drop (min (k * p.most.toNat) (flowM p))∧z.window=p.window - ((min (k * p.most.toNat) (flowM p):Nat):Int)∧z.most=p.most∧z.c0=p.c0∧z.out.length + z.wait.length≤p.out.length + p.wait.length
theorem flowJ_0 {p:Ch}:flowJ p 0 p:=by
 unfold flowJ
 rw [Nat.zero_mul,Nat.zero_min]
 exact ⟨rfl,by omega,rfl,rfl,Nat.le_refl _⟩
theorem flowJ_facts {p z:Ch} {k:Nat} (h:chFlow p) (hJ:flowJ p k z):(0≤z.window∧z.window≤2147483647)∧(0≤z.most∧z.most≤512)∧z.wait.length≤1000000000∧z.out.length≤1000000000:=by
 obtain ⟨⟨a1,a2⟩,⟨a3,a4⟩,a5,a6⟩:=h
 obtain ⟨b1,b2,b3,b4,b5⟩:=hJ
 have hm:min (k * p.most.toNat) (flowM p)≤p.window.toNat:=Nat.le_trans (Nat.min_le_right _ _) (Nat.min_le_right _ _)
 refine ⟨⟨by omega,by omega⟩,by rw [b3]; exact ⟨a3,a4⟩,by omega,by omega⟩
theorem flowJ_lt' {p z:Ch} {k:Nat} (h:chFlow p) (hJ:flowJ p k z) (h1:(0:Int) < (z.wait.length:Int)) (h2:0 < z.window) (h3:z.c0=false):(0 < p.most.toNat∧k * p.most.toNat < flowM p)∧k < flowN p:=by
 obtain ⟨⟨a1,a2⟩,⟨a3,a4⟩,a5,a6⟩:=h
 obtain ⟨b1,b2,b3,b4,b5⟩:=hJ
 rw [b1,List.length_drop] at h1
 rw [b2] at h2
 rw [b4] at h3
 have hM:flowM p=min p.wait.length p.window.toNat:=rfl
 have hs:min (k * p.most.toNat) (flowM p) < flowM p:=by omega
 have hk:k * p.most.toNat < flowM p:=by omega
 have hq:0 < p.most:=a5 (by omega)
 refine ⟨⟨by omega,hk⟩,?_⟩
 unfold flowN
 rw [h3,sel_false]
 refine (Nat.le_div_iff_mul_le (by omega)).2 ?_
 rw [Nat.succ_mul]
 omega
theorem flowJ_lt {p z:Ch} {k:Nat} (h:chFlow p) (hJ:flowJ p k z) (h1:(decide ((((z.wait.length:Nat):Int):Int) > 0))=true) (h2:(decide ((z.window:Int) > 0))=true) (h3:(!z.c0)=true):k < flowN p :=
 (flowJ_lt' h hJ (of_decide_eq_true h1) (of_decide_eq_true h2) (by cases hc:z.c0; rfl; rw [hc] at h3; cases h3)).2
theorem flowJ_end {p z:Ch} {k:Nat} (h:chFlow p) (hJ:flowJ p k z) (hk:k≤flowN p) (h1:(decide ((((z.wait.length:Nat):Int):Int) > 0))=false ∨ (decide ((z.window:Int) > 0))=false ∨ (!z.c0)=false):k=flowN p:=by
 obtain ⟨⟨a1,a2⟩,⟨a3,a4⟩,a5,a6⟩:=h
 obtain ⟨b1,b2,b3,b4,b5⟩:=hJ
 have hM:flowM p=min p.wait.length p.window.toNat:=rfl
 unfold flowN at hk ⊢
 cases hc:p.c0
 ·rw [hc] at hk
  rw [sel_false] at hk ⊢
  have hs:flowM p≤min (k * p.most.toNat) (flowM p):=by
   rcases h1 with h1 | h1 | h1
   ·have h1':=of_decide_eq_false h1
    rw [b1,List.length_drop] at h1'
    omega
   ·have h1':=of_decide_eq_false h1
    rw [b2] at h1'
    omega
   ·rw [b4,hc] at h1; cases h1
  rcases Nat.eq_zero_or_pos p.most.toNat with hq | hq
  ·rw [hq,Nat.div_zero] at hk ⊢
   omega
  ·have hlt:(flowM p + p.most.toNat - 1) / p.most.toNat < k + 1:=by
    refine (Nat.div_lt_iff_lt_mul hq).2 ?_
    rw [Nat.succ_mul]
    omega
   omega
 ·rw [hc] at hk
  rw [sel_true] at hk ⊢
  omega
noncomputable def FcNew (p0:Bool):Ch :=
 ({server:=p0,state:=0,peer:=0,window:=0,most:=0,room:=0,wait:=([]:List Int),got:=([]:List Int),ready:=false,e0:=false,e1:=false,c0:=false,c1:=false,out:=([]:List (List Int))}:Ch)
noncomputable def ScNew:List AV→List Blk→Option (Prop × Ret)
 | [.sc (.b p0)],[] => some (True,⟨.sc (.p 0 0),[some (chC 1 2 3 (FcNew p0)),some (.ints .u8 ((FcNew p0).wait.length) ((FcNew p0).wait)),some (.ints .u8 ((FcNew p0).got.length) ((FcNew p0).got)),some (.vec .row ((FcNew p0).out))]⟩)
 | _,_ => none
noncomputable def BcNew:Bs:={ P:=Go.Proofs.Try.prog,G:=noG,tab:=tabOf [],n:=6 }
theorem BcNew.ok:BcNew.Ok:=⟨tabOk (P:=Go.Proofs.Try.prog) (G:=noG) (l:=[]) True.intro,mixed⟩
theorem KcNew:Known Go.Proofs.Try.prog noG 9 ⟨0,4,ScNew⟩:=by
 refine Known.walk (B:=BcNew) (fn:=Go.Proofs.Try.f9) BcNew.ok (by kernel_rfl) rfl (by kernel_rfl) (by kernel_rfl) (by decide) (by decide) ?_
 ·intro E args ks C r h hC hlen
  simp only at h
  unfold ScNew at h
  split at h
  rotate_left
  ·cases h
  rename_i p0
  cases h
  simp only [lens] at hlen
  refine ⟨show 1≤6 from by decide,?_⟩
  refine Tri.sub (Sub.of_eq (show _=([(0,.sc (.b p0))],[]) from rfl)) ?_
  refine Tri.seq_region [] none [0] [] (TT∧True)
    ([(0,.sc (.b p0))],[])
    32 (by kernel_rfl) rfl (by kernel_rfl) (⟨tt,trivial⟩) ?_
  refine Tri.seq_region [] none [2] [64] (TT∧(((((0 < 14)∧(1=1))∧True)∧True)∧(TT∧(TT∧True))))
    ([(2,.sc (.p 64 0))],[(64,.cells [.b p0,.i .i64 0,.i .u32 0,.i .i64 0,.i .i64 0,.i .i64 0,.nils,.nils,.b false,.b false,.b false,.b false,.b false,.nils])])
    96 (by kernel_rfl) rfl (by kernel_rfl) (⟨tt,⟨⟨⟨⟨(by first | omega | (dsimp only; omega) | decide | (simp only [len_say]; omega)),(rfl)⟩,trivial⟩,trivial⟩,⟨tt,⟨tt,trivial⟩⟩⟩⟩) ?_
  refine Tri.sub (Sub.openC (U:=96) (U':=112) 64 6 96 1 (.ints .u8 0 ([]:List Int)) (l:=[.b p0,.i .i64 0,.i .u32 0,.i .i64 0,.i .i64 0,.i .i64 0,.nils,.nils,.b false,.b false,.b false,.b false,.b false,.nils]) ⟨rfl,rfl⟩ (by decide) (by kernel_rfl) (by kernel_rfl)) ?_
  refine Tri.sub (Sub.of_eq (congrArg (fun (qq:Nat) => (([(2,.sc (.p 64 0))],[(96,.ints .u8 qq ([]:List Int)),(64,.cells [.b p0,.i .i64 0,.i .u32 0,.i .i64 0,.i .i64 0,.i .i64 0,.sl 96 0 qq 1 none,.nils,.b false,.b false,.b false,.b false,.b false,.nils])]):St)) (show 0=([]:List Int).length from by simp only [List.length_append,List.length_drop,List.length_cons,List.length_nil,Nat.zero_add,Nat.sub_zero,Nat.reduceAdd,bytesI_length]))) ?_
  show Tri _ _ _ _ ([(2,.sc (.p 64 0))],[(96,.ints .u8 (([]:List Int).length) ([]:List Int)),(64,.cells [.b p0,.i .i64 0,.i .u32 0,.i .i64 0,.i .i64 0,.i .i64 0,.sl 96 0 (([]:List Int).length) 1 none,.nils,.b false,.b false,.b false,.b false,.b false,.nils])]) _
  refine Tri.sub (Sub.openC (U:=112) (U':=128) 64 7 112 1 (.ints .u8 0 ([]:List Int)) (l:=[.b p0,.i .i64 0,.i .u32 0,.i .i64 0,.i .i64 0,.i .i64 0,.sl 96 0 (([]:List Int).length) 1 none,.nils,.b false,.b false,.b false,.b false,.b false,.nils]) ⟨rfl,rfl⟩ (by decide) (by kernel_rfl) (by kernel_rfl)) ?_
  refine Tri.sub (Sub.of_eq (congrArg (fun (qq:Nat) => (([(2,.sc (.p 64 0))],[(112,.ints .u8 qq ([]:List Int)),(64,.cells [.b p0,.i .i64 0,.i .u32 0,.i .i64 0,.i .i64 0,.i .i64 0,.sl 96 0 (([]:List Int).length) 1 none,.sl 112 0 qq 1 none,.b false,.b false,.b false,.b false,.b false,.nils]),(96,.ints .u8 (([]:List Int).length) ([]:List Int))]):St)) (show 0=([]:List Int).length from by simp only [List.length_append,List.length_drop,List.length_cons,List.length_nil,Nat.zero_add,Nat.sub_zero,Nat.reduceAdd,bytesI_length]))) ?_
  show Tri _ _ _ _ ([(2,.sc (.p 64 0))],[(112,.ints .u8 (([]:List Int).length) ([]:List Int)),(64,.cells [.b p0,.i .i64 0,.i .u32 0,.i .i64 0,.i .i64 0,.i .i64 0,.sl 96 0 (([]:List Int).length) 1 none,.sl 112 0 (([]:List Int).length) 1 none,.b false,.b false,.b false,.b false,.b false,.nils]),(96,.ints .u8 (([]:List Int).length) ([]:List Int))]) _
  refine Tri.sub (Sub.openC (U:=128) (U':=144) 64 13 128 1 (.vec .row ([]:List (List Int))) (l:=[.b p0,.i .i64 0,.i .u32 0,.i .i64 0,.i .i64 0,.i .i64 0,.sl 96 0 (([]:List Int).length) 1 none,.sl 112 0 (([]:List Int).length) 1 none,.b false,.b false,.b false,.b false,.b false,.nils]) ⟨rfl,trivial⟩ (by decide) (by kernel_rfl) (by kernel_rfl)) ?_
  refine Tri.sub (Sub.of_eq (congrArg (fun (qq:Nat) => (([(2,.sc (.p 64 0))],[(128,.vec .row ([]:List (List Int))),(64,.cells [.b p0,.i .i64 0,.i .u32 0,.i .i64 0,.i .i64 0,.i .i64 0,.sl 96 0 (([]:List Int).length) 1 none,.sl 112 0 (([]:List Int).length) 1 none,.b false,.b false,.b false,.b false,.b false,.sl 128 0 qq 1 none]),(112,.ints .u8 (([]:List Int).length) ([]:List Int)),(96,.ints .u8 (([]:List Int).length) ([]:List Int))]):St)) (show 0=([]:List (List Int)).length from by simp only [List.length_append,List.length_drop,List.length_cons,List.length_nil,Nat.zero_add,Nat.sub_zero,Nat.reduceAdd,bytesI_length]))) ?_
  show Tri _ _ _ _ ([(2,.sc (.p 64 0))],[(128,.vec .row ([]:List (List Int))),(64,.cells [.b p0,.i .i64 0,.i .u32 0,.i .i64 0,.i .i64 0,.i .i64 0,.sl 96 0 (([]:List Int).length) 1 none,.sl 112 0 (([]:List Int).length) 1 none,.b false,.b false,.b false,.b false,.b false,.sl 128 0 (([]:List (List Int)).length) 1 none]),(112,.ints .u8 (([]:List Int).length) ([]:List Int)),(96,.ints .u8 (([]:List Int).length) ([]:List Int))]) _
  refine Tri.ret ?_
  repeat (first | refine thenP_ret ?_ | refine blkP_ret ?_ | refine countP_ret ?_ | refine joinP_ret ?_ | refine iterP_ret ?_)
  exact endP.ret [(64,0),(96,1),(112,2),(128,3)] TT (by kernel_rfl) (by kernel_rfl) tt
noncomputable def FcOut (p0:Ch):Ch :=
 ({p0 with out:=([]:List (List Int))}:Ch)
noncomputable def FcOut_1 (p0:Ch):List (List Int) :=
 p0.out
noncomputable def ScOutc (p0:Ch) (y0_n1:Nat) (y0_n2:Nat) (y0_n3:Nat) (y0_m1:Nat) (y0_m2:Nat) :Option (Prop × Ret) :=
 some ((chLens y0_n1 y0_n2 y0_n3 y0_m1 y0_m2 p0∧True),⟨.sc (.sl 7 0 p0.out.length 1 none),[some (chC 4 5 6 (FcOut p0)),none,none,none,some (.ints .u8 ((FcOut p0).wait.length) ((FcOut p0).wait)),some (.ints .u8 ((FcOut p0).got.length) ((FcOut p0).got)),some (.vec .row ((FcOut p0).out)),some (.vec .row (FcOut_1 p0))]⟩)
noncomputable def ScOut:List AV→List Blk→Option (Prop × Ret)
 | [.sc (.p 0 0)],[.cells [.b y0_server,.i .i64 y0_state,.i .u32 y0_peer,.i .i64 y0_window,.i .i64 y0_most,.i .i64 y0_room,.sl 1 0 y0_n1 1 none,.sl 2 0 y0_n2 1 none,.b y0_ready,.b y0_e0,.b y0_e1,.b y0_c0,.b y0_c1,.sl 3 0 y0_n3 1 none],.ints .u8 y0_m1 y0_wait,.ints .u8 y0_m2 y0_got,.vec .row y0_out] => ScOutc ⟨y0_server,y0_state,y0_peer,y0_window,y0_most,y0_room,y0_wait,y0_got,y0_ready,y0_e0,y0_e1,y0_c0,y0_c1,y0_out⟩ y0_n1 y0_n2 y0_n3 y0_m1 y0_m2
 | _,_ => none
noncomputable def BcOut:Bs:={ P:=Go.Proofs.Try.prog,G:=noG,tab:=tabOf [],n:=14 }
theorem BcOut.ok:BcOut.Ok:=⟨tabOk (P:=Go.Proofs.Try.prog) (G:=noG) (l:=[]) True.intro,mixed⟩
theorem KcOut:Known Go.Proofs.Try.prog noG 16 ⟨4,4,ScOut⟩:=by
 refine Known.walk (B:=BcOut) (fn:=Go.Proofs.Try.f16) BcOut.ok (by kernel_rfl) rfl (by kernel_rfl) (by kernel_rfl) (by decide) (by decide) ?_
 ·intro E args ks C r h hC hlen
  simp only at h
  unfold ScOut at h
  split at h
  rotate_left
  ·cases h
  rename_i y0_server y0_state y0_peer y0_window y0_most y0_room y0_n1 y0_n2 y0_ready y0_e0 y0_e1 y0_c0 y0_c1 y0_n3 y0_m1 y0_wait y0_m2 y0_got y0_out
  generalize hp0:(⟨y0_server,y0_state,y0_peer,y0_window,y0_most,y0_room,y0_wait,y0_got,y0_ready,y0_e0,y0_e1,y0_c0,y0_c1,y0_out⟩:Ch)=p0 at h
  obtain rfl:y0_server=p0.server:=by rw [← hp0]
  obtain rfl:y0_state=p0.state:=by rw [← hp0]
  obtain rfl:y0_peer=p0.peer:=by rw [← hp0]
  obtain rfl:y0_window=p0.window:=by rw [← hp0]
  obtain rfl:y0_most=p0.most:=by rw [← hp0]
  obtain rfl:y0_room=p0.room:=by rw [← hp0]
  obtain rfl:y0_wait=p0.wait:=by rw [← hp0]
  obtain rfl:y0_got=p0.got:=by rw [← hp0]
  obtain rfl:y0_ready=p0.ready:=by rw [← hp0]
  obtain rfl:y0_e0=p0.e0:=by rw [← hp0]
  obtain rfl:y0_e1=p0.e1:=by rw [← hp0]
  obtain rfl:y0_c0=p0.c0:=by rw [← hp0]
  obtain rfl:y0_c1=p0.c1:=by rw [← hp0]
  obtain rfl:y0_out=p0.out:=by rw [← hp0]
  clear hp0
  unfold ScOutc at h
  cases h
  obtain ⟨⟨rfl,rfl,rfl,rfl,rfl⟩,hC⟩:=hC
  simp only [lens] at hlen
  refine ⟨show 1≤14 from by decide,?_⟩
  refine Tri.sub (Sub.of_eq (show _=([(0,.sc (.p 0 0))],[(0,chC 1 2 3 p0),(1,.ints .u8 p0.wait.length p0.wait),(2,.ints .u8 p0.got.length p0.got),(3,.vec .row p0.out)]) from rfl)) ?_
  refine Tri.subP ?_
  refine Tri.seq_region [] none [0] [0,1,2,3] (TT∧True)
    ([(0,.sc (.p 0 0))],[(0,chC 1 2 3 p0),(1,.ints .u8 p0.wait.length p0.wait),(2,.ints .u8 p0.got.length p0.got),(3,.vec .row p0.out)])
    32 (by kernel_rfl) rfl (by kernel_rfl) (⟨tt,trivial⟩) ?_
  refine Tri.seq ?_
  refine Tri.seq_region [] none [5,0] [0,1,2,3] (TT∧(TT∧True))
    ([(5,.sc (.b false)),(0,.sc (.p 0 0))],[(0,chC 1 2 3 p0),(1,.ints .u8 p0.wait.length p0.wait),(2,.ints .u8 p0.got.length p0.got),(3,.vec .row p0.out)])
    64 (by kernel_rfl) rfl (by kernel_rfl) (⟨tt,⟨tt,trivial⟩⟩) ?_
  refine Tri.cond_false (by kernel_rfl) ?_
  refine Tri.skip ?_
  change Tri _ _ _ _ _ _
  refine Tri.seq_region [] none [3,0] [0,1,2,3] (TT∧(TT∧(TT∧(((13 < 14)∧True)∧(TT∧True)))))
    ([(3,.sc (.sl 3 0 p0.out.length 1 none)),(0,.sc (.p 0 0))],[(0,chC 1 2 3 p0),(1,.ints .u8 p0.wait.length p0.wait),(2,.ints .u8 p0.got.length p0.got),(3,.vec .row p0.out)])
    144 (by kernel_rfl) rfl (by kernel_rfl) (⟨tt,⟨tt,⟨tt,⟨⟨(by first | omega | (dsimp only; omega) | decide | (simp only [len_say]; omega)),trivial⟩,⟨tt,trivial⟩⟩⟩⟩⟩) ?_
  refine Tri.seq_region [] none [3] [0,1,2,3] (TT∧(TT∧(TT∧((((13 < 14)∧(1=1))∧True)∧True))))
    ([(3,.sc (.sl 3 0 p0.out.length 1 none))],[(0,.cells [.b p0.server,.i .i64 p0.state,.i .u32 p0.peer,.i .i64 p0.window,.i .i64 p0.most,.i .i64 p0.room,.sl 1 0 p0.wait.length 1 none,.sl 2 0 p0.got.length 1 none,.b p0.ready,.b p0.e0,.b p0.e1,.b p0.c0,.b p0.c1,.nils]),(1,.ints .u8 p0.wait.length p0.wait),(2,.ints .u8 p0.got.length p0.got),(3,.vec .row p0.out)])
    208 (by kernel_rfl) rfl (by kernel_rfl) (⟨tt,⟨tt,⟨tt,⟨⟨⟨(by first | omega | (dsimp only; omega) | decide | (simp only [len_say]; omega)),(rfl)⟩,trivial⟩,trivial⟩⟩⟩⟩) ?_
  refine Tri.sub (Sub.openC (U:=208) (U':=224) 0 13 208 1 (.vec .row ([]:List (List Int))) (l:=[.b p0.server,.i .i64 p0.state,.i .u32 p0.peer,.i .i64 p0.window,.i .i64 p0.most,.i .i64 p0.room,.sl 1 0 p0.wait.length 1 none,.sl 2 0 p0.got.length 1 none,.b p0.ready,.b p0.e0,.b p0.e1,.b p0.c0,.b p0.c1,.nils]) ⟨rfl,trivial⟩ (by decide) (by kernel_rfl) (by kernel_rfl)) ?_
  refine Tri.sub (Sub.of_eq (congrArg (fun (qq:Nat) => (([(3,.sc (.sl 3 0 p0.out.length 1 none))],[(208,.vec .row ([]:List (List Int))),(0,.cells [.b p0.server,.i .i64 p0.state,.i .u32 p0.peer,.i .i64 p0.window,.i .i64 p0.most,.i .i64 p0.room,.sl 1 0 p0.wait.length 1 none,.sl 2 0 p0.got.length 1 none,.b p0.ready,.b p0.e0,.b p0.e1,.b p0.c0,.b p0.c1,.sl 208 0 qq 1 none]),(1,.ints .u8 p0.wait.length p0.wait),(2,.ints .u8 p0.got.length p0.got),(3,.vec .row p0.out)]):St)) (show 0=([]:List (List Int)).length from by simp only [List.length_append,List.length_drop,List.length_cons,List.length_nil,Nat.zero_add,Nat.sub_zero,Nat.reduceAdd,bytesI_length]))) ?_
  show Tri _ _ _ _ ([(3,.sc (.sl 3 0 p0.out.length 1 none))],[(208,.vec .row ([]:List (List Int))),(0,.cells [.b p0.server,.i .i64 p0.state,.i .u32 p0.peer,.i .i64 p0.window,.i .i64 p0.most,.i .i64 p0.room,.sl 1 0 p0.wait.length 1 none,.sl 2 0 p0.got.length 1 none,.b p0.ready,.b p0.e0,.b p0.e1,.b p0.c0,.b p0.c1,.sl 208 0 (([]:List (List Int)).length) 1 none]),(1,.ints .u8 p0.wait.length p0.wait),(2,.ints .u8 p0.got.length p0.got),(3,.vec .row p0.out)]) _
  refine Tri.seq_region [] none [2] [208,0,1,2,3] (TT∧(TT∧True))
    ([(2,.sc (.sl 3 0 p0.out.length 1 none))],[(208,.vec .row ([]:List (List Int))),(0,.cells [.b p0.server,.i .i64 p0.state,.i .u32 p0.peer,.i .i64 p0.window,.i .i64 p0.most,.i .i64 p0.room,.sl 1 0 p0.wait.length 1 none,.sl 2 0 p0.got.length 1 none,.b p0.ready,.b p0.e0,.b p0.e1,.b p0.c0,.b p0.c1,.sl 208 0 (([]:List (List Int)).length) 1 none]),(1,.ints .u8 p0.wait.length p0.wait),(2,.ints .u8 p0.got.length p0.got),(3,.vec .row p0.out)])
    256 (by kernel_rfl) rfl (by kernel_rfl) (⟨tt,⟨tt,trivial⟩⟩) ?_
  refine Tri.ret ?_
  repeat (first | refine thenP_ret ?_ | refine blkP_ret ?_ | refine countP_ret ?_ | refine joinP_ret ?_ | refine iterP_ret ?_)
  refine subP_done ?_
  exact endP.ret [(0,0),(1,4),(2,5),(208,6),(3,7)] TT (by kernel_rfl) (by kernel_rfl) tt
noncomputable def FcState (p0:Ch):Int :=
 p0.state
noncomputable def ScStatec (p0:Ch) (y0_n1:Nat) (y0_n2:Nat) (y0_n3:Nat) (y0_m1:Nat) (y0_m2:Nat) :Option (Prop × Ret) :=
 some ((chLens y0_n1 y0_n2 y0_n3 y0_m1 y0_m2 p0∧True),⟨.sc (.i .i64 (FcState p0)),[some (chC 1 2 3 p0),some (.ints .u8 p0.wait.length p0.wait),some (.ints .u8 p0.got.length p0.got),some (.vec .row p0.out)]⟩)
noncomputable def ScState:List AV→List Blk→Option (Prop × Ret)
 | [.sc (.p 0 0)],[.cells [.b y0_server,.i .i64 y0_state,.i .u32 y0_peer,.i .i64 y0_window,.i .i64 y0_most,.i .i64 y0_room,.sl 1 0 y0_n1 1 none,.sl 2 0 y0_n2 1 none,.b y0_ready,.b y0_e0,.b y0_e1,.b y0_c0,.b y0_c1,.sl 3 0 y0_n3 1 none],.ints .u8 y0_m1 y0_wait,.ints .u8 y0_m2 y0_got,.vec .row y0_out] => ScStatec ⟨y0_server,y0_state,y0_peer,y0_window,y0_most,y0_room,y0_wait,y0_got,y0_ready,y0_e0,y0_e1,y0_c0,y0_c1,y0_out⟩ y0_n1 y0_n2 y0_n3 y0_m1 y0_m2
 | _,_ => none
noncomputable def BcState:Bs:={ P:=Go.Proofs.Try.prog,G:=noG,tab:=tabOf [],n:=9 }
theorem BcState.ok:BcState.Ok:=⟨tabOk (P:=Go.Proofs.Try.prog) (G:=noG) (l:=[]) True.intro,mixed⟩
theorem KcState:Known Go.Proofs.Try.prog noG 17 ⟨4,0,ScState⟩:=by
 refine Known.walk (B:=BcState) (fn:=Go.Proofs.Try.f17) BcState.ok (by kernel_rfl) rfl (by kernel_rfl) (by kernel_rfl) (by decide) (by decide) ?_
 ·intro E args ks C r h hC hlen
  simp only at h
  unfold ScState at h
  split at h
  rotate_left
  ·cases h
  rename_i y0_server y0_state y0_peer y0_window y0_most y0_room y0_n1 y0_n2 y0_ready y0_e0 y0_e1 y0_c0 y0_c1 y0_n3 y0_m1 y0_wait y0_m2 y0_got y0_out
  generalize hp0:(⟨y0_server,y0_state,y0_peer,y0_window,y0_most,y0_room,y0_wait,y0_got,y0_ready,y0_e0,y0_e1,y0_c0,y0_c1,y0_out⟩:Ch)=p0 at h
  obtain rfl:y0_server=p0.server:=by rw [← hp0]
  obtain rfl:y0_state=p0.state:=by rw [← hp0]
  obtain rfl:y0_peer=p0.peer:=by rw [← hp0]
  obtain rfl:y0_window=p0.window:=by rw [← hp0]
  obtain rfl:y0_most=p0.most:=by rw [← hp0]
  obtain rfl:y0_room=p0.room:=by rw [← hp0]
  obtain rfl:y0_wait=p0.wait:=by rw [← hp0]
  obtain rfl:y0_got=p0.got:=by rw [← hp0]
  obtain rfl:y0_ready=p0.ready:=by rw [← hp0]
  obtain rfl:y0_e0=p0.e0:=by rw [← hp0]
  obtain rfl:y0_e1=p0.e1:=by rw [← hp0]
  obtain rfl:y0_c0=p0.c0:=by rw [← hp0]
  obtain rfl:y0_c1=p0.c1:=by rw [← hp0]
  obtain rfl:y0_out=p0.out:=by rw [← hp0]
  clear hp0
  unfold ScStatec at h
  cases h
  obtain ⟨⟨rfl,rfl,rfl,rfl,rfl⟩,hC⟩:=hC
  simp only [lens] at hlen
  refine ⟨show 1≤9 from by decide,?_⟩
  refine Tri.sub (Sub.of_eq (show _=([(0,.sc (.p 0 0))],[(0,chC 1 2 3 p0),(1,.ints .u8 p0.wait.length p0.wait),(2,.ints .u8 p0.got.length p0.got),(3,.vec .row p0.out)]) from rfl)) ?_
  refine Tri.subP ?_
  refine Tri.seq_region [] none [0] [0,1,2,3] (TT∧True)
    ([(0,.sc (.p 0 0))],[(0,chC 1 2 3 p0),(1,.ints .u8 p0.wait.length p0.wait),(2,.ints .u8 p0.got.length p0.got),(3,.vec .row p0.out)])
    32 (by kernel_rfl) rfl (by kernel_rfl) (⟨tt,trivial⟩) ?_
  refine Tri.seq ?_
  refine Tri.seq_region [] none [4,0] [0,1,2,3] (TT∧(TT∧True))
    ([(4,.sc (.b false)),(0,.sc (.p 0 0))],[(0,chC 1 2 3 p0),(1,.ints .u8 p0.wait.length p0.wait),(2,.ints .u8 p0.got.length p0.got),(3,.vec .row p0.out)])
    64 (by kernel_rfl) rfl (by kernel_rfl) (⟨tt,⟨tt,trivial⟩⟩) ?_
  refine Tri.cond_false (by kernel_rfl) ?_
  refine Tri.skip ?_
  change Tri _ _ _ _ _ _
  refine Tri.seq_region [] none [2] [0,1,2,3] (TT∧(TT∧(TT∧(((1 < 14)∧True)∧(TT∧True)))))
    ([(2,.sc (.i .i64 p0.state))],[(0,chC 1 2 3 p0),(1,.ints .u8 p0.wait.length p0.wait),(2,.ints .u8 p0.got.length p0.got),(3,.vec .row p0.out)])
    144 (by kernel_rfl) rfl (by kernel_rfl) (⟨tt,⟨tt,⟨tt,⟨⟨(by first | omega | (dsimp only; omega) | decide | (simp only [len_say]; omega)),trivial⟩,⟨tt,trivial⟩⟩⟩⟩⟩) ?_
  refine Tri.ret ?_
  repeat (first | refine thenP_ret ?_ | refine blkP_ret ?_ | refine countP_ret ?_ | refine joinP_ret ?_ | refine iterP_ret ?_)
  refine subP_done ?_
  exact endP.ret [(0,0),(1,1),(2,2),(3,3)] TT (by kernel_rfl) (by kernel_rfl) tt
noncomputable def FcReady (p0:Ch):Bool :=
 p0.ready
noncomputable def ScReadyc (p0:Ch) (y0_n1:Nat) (y0_n2:Nat) (y0_n3:Nat) (y0_m1:Nat) (y0_m2:Nat) :Option (Prop × Ret) :=
 some ((chLens y0_n1 y0_n2 y0_n3 y0_m1 y0_m2 p0∧True),⟨.sc (.b (FcReady p0)),[some (chC 1 2 3 p0),some (.ints .u8 p0.wait.length p0.wait),some (.ints .u8 p0.got.length p0.got),some (.vec .row p0.out)]⟩)
noncomputable def ScReady:List AV→List Blk→Option (Prop × Ret)
 | [.sc (.p 0 0)],[.cells [.b y0_server,.i .i64 y0_state,.i .u32 y0_peer,.i .i64 y0_window,.i .i64 y0_most,.i .i64 y0_room,.sl 1 0 y0_n1 1 none,.sl 2 0 y0_n2 1 none,.b y0_ready,.b y0_e0,.b y0_e1,.b y0_c0,.b y0_c1,.sl 3 0 y0_n3 1 none],.ints .u8 y0_m1 y0_wait,.ints .u8 y0_m2 y0_got,.vec .row y0_out] => ScReadyc ⟨y0_server,y0_state,y0_peer,y0_window,y0_most,y0_room,y0_wait,y0_got,y0_ready,y0_e0,y0_e1,y0_c0,y0_c1,y0_out⟩ y0_n1 y0_n2 y0_n3 y0_m1 y0_m2
 | _,_ => none
noncomputable def BcReady:Bs:={ P:=Go.Proofs.Try.prog,G:=noG,tab:=tabOf [],n:=11 }
theorem BcReady.ok:BcReady.Ok:=⟨tabOk (P:=Go.Proofs.Try.prog) (G:=noG) (l:=[]) True.intro,mixed⟩
theorem KcReady:Known Go.Proofs.Try.prog noG 18 ⟨4,0,ScReady⟩:=by
 refine Known.walk (B:=BcReady) (fn:=Go.Proofs.Try.f18) BcReady.ok (by kernel_rfl) rfl (by kernel_rfl) (by kernel_rfl) (by decide) (by decide) ?_
 ·intro E args ks C r h hC hlen
  simp only at h
  unfold ScReady at h
  split at h
  rotate_left
  ·cases h
  rename_i y0_server y0_state y0_peer y0_window y0_most y0_room y0_n1 y0_n2 y0_ready y0_e0 y0_e1 y0_c0 y0_c1 y0_n3 y0_m1 y0_wait y0_m2 y0_got y0_out
  generalize hp0:(⟨y0_server,y0_state,y0_peer,y0_window,y0_most,y0_room,y0_wait,y0_got,y0_ready,y0_e0,y0_e1,y0_c0,y0_c1,y0_out⟩:Ch)=p0 at h
  obtain rfl:y0_server=p0.server:=by rw [← hp0]
  obtain rfl:y0_state=p0.state:=by rw [← hp0]
  obtain rfl:y0_peer=p0.peer:=by rw [← hp0]
  obtain rfl:y0_window=p0.window:=by rw [← hp0]
  obtain rfl:y0_most=p0.most:=by rw [← hp0]
  obtain rfl:y0_room=p0.room:=by rw [← hp0]
  obtain rfl:y0_wait=p0.wait:=by rw [← hp0]
  obtain rfl:y0_got=p0.got:=by rw [← hp0]
  obtain rfl:y0_ready=p0.ready:=by rw [← hp0]
  obtain rfl:y0_e0=p0.e0:=by rw [← hp0]
  obtain rfl:y0_e1=p0.e1:=by rw [← hp0]
  obtain rfl:y0_c0=p0.c0:=by rw [← hp0]
  obtain rfl:y0_c1=p0.c1:=by rw [← hp0]
  obtain rfl:y0_out=p0.out:=by rw [← hp0]
  clear hp0
  unfold ScReadyc at h
  cases h
  obtain ⟨⟨rfl,rfl,rfl,rfl,rfl⟩,hC⟩:=hC
  simp only [lens] at hlen
  refine ⟨show 1≤11 from by decide,?_⟩
  refine Tri.sub (Sub.of_eq (show _=([(0,.sc (.p 0 0))],[(0,chC 1 2 3 p0),(1,.ints .u8 p0.wait.length p0.wait),(2,.ints .u8 p0.got.length p0.got),(3,.vec .row p0.out)]) from rfl)) ?_
  refine Tri.subP ?_
  refine Tri.seq_region [] none [0] [0,1,2,3] (TT∧True)
    ([(0,.sc (.p 0 0))],[(0,chC 1 2 3 p0),(1,.ints .u8 p0.wait.length p0.wait),(2,.ints .u8 p0.got.length p0.got),(3,.vec .row p0.out)])
    32 (by kernel_rfl) rfl (by kernel_rfl) (⟨tt,trivial⟩) ?_
  refine Tri.seq_region [] none [2] [0,1,2,3] (TT∧(TT∧(TT∧(TT∧(TT∧(TT∧(((8 < 14)∧True)∧(TT∧(TT∧True)))))))))
    ([(2,.sc (.b p0.ready))],[(0,chC 1 2 3 p0),(1,.ints .u8 p0.wait.length p0.wait),(2,.ints .u8 p0.got.length p0.got),(3,.vec .row p0.out)])
    176 (by kernel_rfl) rfl (by kernel_rfl) (⟨tt,⟨tt,⟨tt,⟨tt,⟨tt,⟨tt,⟨⟨(by first | omega | (dsimp only; omega) | decide | (simp only [len_say]; omega)),trivial⟩,⟨tt,⟨tt,trivial⟩⟩⟩⟩⟩⟩⟩⟩⟩) ?_
  refine Tri.ret ?_
  repeat (first | refine thenP_ret ?_ | refine blkP_ret ?_ | refine countP_ret ?_ | refine joinP_ret ?_ | refine iterP_ret ?_)
  refine subP_done ?_
  exact endP.ret [(0,0),(1,1),(2,2),(3,3)] TT (by kernel_rfl) (by kernel_rfl) tt
noncomputable def FcPending (p0:Ch):Int :=
 ((p0.wait.length:Nat):Int)
noncomputable def ScPendingc (p0:Ch) (y0_n1:Nat) (y0_n2:Nat) (y0_n3:Nat) (y0_m1:Nat) (y0_m2:Nat) :Option (Prop × Ret) :=
 some ((chLens y0_n1 y0_n2 y0_n3 y0_m1 y0_m2 p0∧True),⟨.sc (.i .i64 (FcPending p0)),[some (chC 1 2 3 p0),some (.ints .u8 p0.wait.length p0.wait),some (.ints .u8 p0.got.length p0.got),some (.vec .row p0.out)]⟩)
noncomputable def ScPending:List AV→List Blk→Option (Prop × Ret)
 | [.sc (.p 0 0)],[.cells [.b y0_server,.i .i64 y0_state,.i .u32 y0_peer,.i .i64 y0_window,.i .i64 y0_most,.i .i64 y0_room,.sl 1 0 y0_n1 1 none,.sl 2 0 y0_n2 1 none,.b y0_ready,.b y0_e0,.b y0_e1,.b y0_c0,.b y0_c1,.sl 3 0 y0_n3 1 none],.ints .u8 y0_m1 y0_wait,.ints .u8 y0_m2 y0_got,.vec .row y0_out] => ScPendingc ⟨y0_server,y0_state,y0_peer,y0_window,y0_most,y0_room,y0_wait,y0_got,y0_ready,y0_e0,y0_e1,y0_c0,y0_c1,y0_out⟩ y0_n1 y0_n2 y0_n3 y0_m1 y0_m2
 | _,_ => none
noncomputable def BcPending:Bs:={ P:=Go.Proofs.Try.prog,G:=noG,tab:=tabOf [],n:=10 }
theorem BcPending.ok:BcPending.Ok:=⟨tabOk (P:=Go.Proofs.Try.prog) (G:=noG) (l:=[]) True.intro,mixed⟩
theorem KcPending:Known Go.Proofs.Try.prog noG 24 ⟨4,0,ScPending⟩:=by
 refine Known.walk (B:=BcPending) (fn:=Go.Proofs.Try.f24) BcPending.ok (by kernel_rfl) rfl (by kernel_rfl) (by kernel_rfl) (by decide) (by decide) ?_
 ·intro E args ks C r h hC hlen
  simp only at h
  unfold ScPending at h
  split at h
  rotate_left
  ·cases h
  rename_i y0_server y0_state y0_peer y0_window y0_most y0_room y0_n1 y0_n2 y0_ready y0_e0 y0_e1 y0_c0 y0_c1 y0_n3 y0_m1 y0_wait y0_m2 y0_got y0_out
  generalize hp0:(⟨y0_server,y0_state,y0_peer,y0_window,y0_most,y0_room,y0_wait,y0_got,y0_ready,y0_e0,y0_e1,y0_c0,y0_c1,y0_out⟩:Ch)=p0 at h
  obtain rfl:y0_server=p0.server:=by rw [← hp0]
  obtain rfl:y0_state=p0.state:=by rw [← hp0]
  obtain rfl:y0_peer=p0.peer:=by rw [← hp0]
  obtain rfl:y0_window=p0.window:=by rw [← hp0]
  obtain rfl:y0_most=p0.most:=by rw [← hp0]
  obtain rfl:y0_room=p0.room:=by rw [← hp0]
  obtain rfl:y0_wait=p0.wait:=by rw [← hp0]
  obtain rfl:y0_got=p0.got:=by rw [← hp0]
  obtain rfl:y0_ready=p0.ready:=by rw [← hp0]
  obtain rfl:y0_e0=p0.e0:=by rw [← hp0]
  obtain rfl:y0_e1=p0.e1:=by rw [← hp0]
  obtain rfl:y0_c0=p0.c0:=by rw [← hp0]
  obtain rfl:y0_c1=p0.c1:=by rw [← hp0]
  obtain rfl:y0_out=p0.out:=by rw [← hp0]
  clear hp0
  unfold ScPendingc at h
  cases h
  obtain ⟨⟨rfl,rfl,rfl,rfl,rfl⟩,hC⟩:=hC
  simp only [lens] at hlen
  refine ⟨show 1≤10 from by decide,?_⟩
  refine Tri.sub (Sub.of_eq (show _=([(0,.sc (.p 0 0))],[(0,chC 1 2 3 p0),(1,.ints .u8 p0.wait.length p0.wait),(2,.ints .u8 p0.got.length p0.got),(3,.vec .row p0.out)]) from rfl)) ?_
  refine Tri.subP ?_
  refine Tri.seq_region [] none [0] [0,1,2,3] (TT∧True)
    ([(0,.sc (.p 0 0))],[(0,chC 1 2 3 p0),(1,.ints .u8 p0.wait.length p0.wait),(2,.ints .u8 p0.got.length p0.got),(3,.vec .row p0.out)])
    32 (by kernel_rfl) rfl (by kernel_rfl) (⟨tt,trivial⟩) ?_
  refine Tri.seq ?_
  refine Tri.seq_region [] none [4,0] [0,1,2,3] (TT∧(TT∧True))
    ([(4,.sc (.b false)),(0,.sc (.p 0 0))],[(0,chC 1 2 3 p0),(1,.ints .u8 p0.wait.length p0.wait),(2,.ints .u8 p0.got.length p0.got),(3,.vec .row p0.out)])
    64 (by kernel_rfl) rfl (by kernel_rfl) (⟨tt,⟨tt,trivial⟩⟩) ?_
  refine Tri.cond_false (by kernel_rfl) ?_
  refine Tri.skip ?_
  change Tri _ _ _ _ _ _
  refine Tri.seq_region [] none [2] [0,1,2,3] (TT∧(TT∧(TT∧(((6 < 14)∧True)∧(TT∧(TT∧True))))))
    ([(2,.sc (.i .i64 ((p0.wait.length:Nat):Int)))],[(0,chC 1 2 3 p0),(1,.ints .u8 p0.wait.length p0.wait),(2,.ints .u8 p0.got.length p0.got),(3,.vec .row p0.out)])
    160 (by kernel_rfl) rfl (by kernel_rfl) (⟨tt,⟨tt,⟨tt,⟨⟨(by first | omega | (dsimp only; omega) | decide | (simp only [len_say]; omega)),trivial⟩,⟨tt,⟨tt,trivial⟩⟩⟩⟩⟩⟩) ?_
  refine Tri.ret ?_
  repeat (first | refine thenP_ret ?_ | refine blkP_ret ?_ | refine countP_ret ?_ | refine joinP_ret ?_ | refine iterP_ret ?_)
  refine subP_done ?_
  exact endP.ret [(0,0),(1,1),(2,2),(3,3)] TT (by kernel_rfl) (by kernel_rfl) tt
noncomputable def Fcsay (p0:Ch) (p1:List Int):Ch :=
 ({p0 with out:=p0.out ++ [p1]}:Ch)
noncomputable def Scsayc (p0:Ch) (y0_n1:Nat) (y0_n2:Nat) (y0_n3:Nat) (y0_m1:Nat) (y0_m2:Nat) (p1:List Int):Option (Prop × Ret) :=
 some ((chLens y0_n1 y0_n2 y0_n3 y0_m1 y0_m2 p0∧(p0.out.length≤1000000000)),⟨.tup [],[some (chC 4 5 6 (Fcsay p0 p1)),none,none,none,some (.ints .u8 ((Fcsay p0 p1).wait.length) ((Fcsay p0 p1).wait)),some (.ints .u8 ((Fcsay p0 p1).got.length) ((Fcsay p0 p1).got)),some (.vec .row ((Fcsay p0 p1).out))]⟩)
noncomputable def Scsay:List AV→List Blk→Option (Prop × Ret)
 | [.sc (.p 0 0),.sc (.ro .u8 p1)],[.cells [.b y0_server,.i .i64 y0_state,.i .u32 y0_peer,.i .i64 y0_window,.i .i64 y0_most,.i .i64 y0_room,.sl 1 0 y0_n1 1 none,.sl 2 0 y0_n2 1 none,.b y0_ready,.b y0_e0,.b y0_e1,.b y0_c0,.b y0_c1,.sl 3 0 y0_n3 1 none],.ints .u8 y0_m1 y0_wait,.ints .u8 y0_m2 y0_got,.vec .row y0_out] => Scsayc ⟨y0_server,y0_state,y0_peer,y0_window,y0_most,y0_room,y0_wait,y0_got,y0_ready,y0_e0,y0_e1,y0_c0,y0_c1,y0_out⟩ y0_n1 y0_n2 y0_n3 y0_m1 y0_m2 p1
 | _,_ => none
noncomputable def Bcsay:Bs:={ P:=Go.Proofs.Try.prog,G:=noG,tab:=tabOf [],n:=14 }
theorem Bcsay.ok:Bcsay.Ok:=⟨tabOk (P:=Go.Proofs.Try.prog) (G:=noG) (l:=[]) True.intro,mixed⟩
theorem Kcsay:Known Go.Proofs.Try.prog noG 28 ⟨4,3,Scsay⟩:=by
 refine Known.walk (B:=Bcsay) (fn:=Go.Proofs.Try.f28) Bcsay.ok (by kernel_rfl) rfl (by kernel_rfl) (by kernel_rfl) (by decide) (by decide) ?_
 ·intro E args ks C r h hC hlen
  simp only at h
  unfold Scsay at h
  split at h
  rotate_left
  ·cases h
  rename_i p1 y0_server y0_state y0_peer y0_window y0_most y0_room y0_n1 y0_n2 y0_ready y0_e0 y0_e1 y0_c0 y0_c1 y0_n3 y0_m1 y0_wait y0_m2 y0_got y0_out
  generalize hp0:(⟨y0_server,y0_state,y0_peer,y0_window,y0_most,y0_room,y0_wait,y0_got,y0_ready,y0_e0,y0_e1,y0_c0,y0_c1,y0_out⟩:Ch)=p0 at h
  obtain rfl:y0_server=p0.server:=by rw [← hp0]
  obtain rfl:y0_state=p0.state:=by rw [← hp0]
  obtain rfl:y0_peer=p0.peer:=by rw [← hp0]
  obtain rfl:y0_window=p0.window:=by rw [← hp0]
  obtain rfl:y0_most=p0.most:=by rw [← hp0]
  obtain rfl:y0_room=p0.room:=by rw [← hp0]
  obtain rfl:y0_wait=p0.wait:=by rw [← hp0]
  obtain rfl:y0_got=p0.got:=by rw [← hp0]
  obtain rfl:y0_ready=p0.ready:=by rw [← hp0]
  obtain rfl:y0_e0=p0.e0:=by rw [← hp0]
  obtain rfl:y0_e1=p0.e1:=by rw [← hp0]
  obtain rfl:y0_c0=p0.c0:=by rw [← hp0]
  obtain rfl:y0_c1=p0.c1:=by rw [← hp0]
  obtain rfl:y0_out=p0.out:=by rw [← hp0]
  clear hp0
  unfold Scsayc at h
  cases h
  obtain ⟨⟨rfl,rfl,rfl,rfl,rfl⟩,hC⟩:=hC
  simp only [lens] at hlen
  refine ⟨show 2≤14 from by decide,?_⟩
  refine Tri.sub (Sub.of_eq (show _=([(0,.sc (.p 0 0)),(1,.sc (.ro .u8 p1))],[(0,chC 1 2 3 p0),(1,.ints .u8 p0.wait.length p0.wait),(2,.ints .u8 p0.got.length p0.got),(3,.vec .row p0.out)]) from rfl)) ?_
  refine Tri.subP ?_
  refine Tri.region' [] none [] [0,128,1,2] (TT∧(TT∧(TT∧(TT∧(((13 < 14)∧True)∧(TT∧((((((0 < 1)∧(1=1))∧True)∧((1 * 1≤16777216)∧(1=1)))∧True)∧(((((((0 + 1≤1)∧(1=1))∧((0 < 1)∧(((p0.out.length + 1) * 24≤140737488355328)∧(p0.out.length + 1≤140737488355328))))∧(1=1 * 1))∧((1=1)∧(0 + p0.out.length * 1=p0.out.length)))∧True)∧(TT∧(TT∧((((13 < 14)∧(1=1))∧True)∧True)))))))))))
    ([],[(0,.cells [.b p0.server,.i .i64 p0.state,.i .u32 p0.peer,.i .i64 p0.window,.i .i64 p0.most,.i .i64 p0.room,.sl 1 0 p0.wait.length 1 none,.sl 2 0 p0.got.length 1 none,.b p0.ready,.b p0.e0,.b p0.e1,.b p0.c0,.b p0.c1,.sl 128 0 (p0.out.length + 1) 1 none]),(128,.vec .row (p0.out ++ [p1])),(1,.ints .u8 p0.wait.length p0.wait),(2,.ints .u8 p0.got.length p0.got)])
    192 (by kernel_rfl) rfl (by kernel_rfl) (⟨tt,⟨tt,⟨tt,⟨tt,⟨⟨(by first | omega | (dsimp only; omega) | decide | (simp only [len_say]; omega)),trivial⟩,⟨tt,⟨⟨⟨⟨⟨(by first | omega | (dsimp only; omega) | decide | (simp only [len_say]; omega)),(rfl)⟩,trivial⟩,⟨(by first | omega | (dsimp only; omega) | decide | (simp only [len_say]; omega)),(rfl)⟩⟩,trivial⟩,⟨⟨⟨⟨⟨⟨(by first | omega | (dsimp only; omega) | decide | (simp only [len_say]; omega)),(rfl)⟩,⟨(by first | omega | (dsimp only; omega) | decide | (simp only [len_say]; omega)),⟨(by first | omega | (dsimp only; omega) | decide | (simp only [len_say]; omega)),(by first | omega | (dsimp only; omega) | decide | (simp only [len_say]; omega))⟩⟩⟩,(by first | omega | (dsimp only; omega) | decide | (simp only [len_say]; omega))⟩,⟨(rfl),(by first | omega | (dsimp only; omega) | decide | (simp only [len_say]; omega))⟩⟩,trivial⟩,⟨tt,⟨tt,⟨⟨⟨(by first | omega | (dsimp only; omega) | decide | (simp only [len_say]; omega)),(rfl)⟩,trivial⟩,trivial⟩⟩⟩⟩⟩⟩⟩⟩⟩⟩⟩) ?_
  show subP _ _ _ _
  refine subP_sub (Sub.of_eq (congrArg (fun (qq:Nat) => (([],[(0,.cells [.b p0.server,.i .i64 p0.state,.i .u32 p0.peer,.i .i64 p0.window,.i .i64 p0.most,.i .i64 p0.room,.sl 1 0 p0.wait.length 1 none,.sl 2 0 p0.got.length 1 none,.b p0.ready,.b p0.e0,.b p0.e1,.b p0.c0,.b p0.c1,.sl 128 0 qq 1 none]),(128,.vec .row (p0.out ++ [p1])),(1,.ints .u8 p0.wait.length p0.wait),(2,.ints .u8 p0.got.length p0.got)]):St)) (show p0.out.length + 1=(p0.out ++ [p1]).length from by simp only [List.length_append,List.length_drop,List.length_cons,List.length_nil,Nat.zero_add,Nat.sub_zero,Nat.reduceAdd,bytesI_length]))) ?_
  show subP _ _ _ ([],[(0,.cells [.b p0.server,.i .i64 p0.state,.i .u32 p0.peer,.i .i64 p0.window,.i .i64 p0.most,.i .i64 p0.room,.sl 1 0 p0.wait.length 1 none,.sl 2 0 p0.got.length 1 none,.b p0.ready,.b p0.e0,.b p0.e1,.b p0.c0,.b p0.c1,.sl 128 0 ((p0.out ++ [p1]).length) 1 none]),(128,.vec .row (p0.out ++ [p1])),(1,.ints .u8 p0.wait.length p0.wait),(2,.ints .u8 p0.got.length p0.got)])
  repeat (first | refine thenP_ret ?_ | refine blkP_ret ?_ | refine countP_ret ?_ | refine joinP_ret ?_ | refine iterP_ret ?_)
  refine subP_done ?_
  exact endP.nret [(0,0),(1,4),(2,5),(128,6)] True (by kernel_rfl) (by kernel_rfl) trivial
theorem len_say (p:Ch) (q:List Int):(Fcsay p q).out.length=p.out.length + 1:=by
 show (p.out ++ [q]).length=_
 rw [List.length_append]
 rfl
noncomputable def Fcto (p0:Ch) (p1:Int):List Int :=
 (FwwU32 1 [p1] p0.peer)
noncomputable def Sctoc (p0:Ch) (y0_n1:Nat) (y0_n2:Nat) (y0_n3:Nat) (y0_m1:Nat) (y0_m2:Nat) (p1:Int):Option (Prop × Ret) :=
 some ((chLens y0_n1 y0_n2 y0_n3 y0_m1 y0_m2 p0∧True),⟨.sc (.sl 4 0 (1 + 4) 1 none),[some (chC 1 2 3 p0),some (.ints .u8 p0.wait.length p0.wait),some (.ints .u8 p0.got.length p0.got),some (.vec .row p0.out),some (.ints .u8 (1 + 4) (Fcto p0 p1))]⟩)
noncomputable def Scto:List AV→List Blk→Option (Prop × Ret)
 | [.sc (.p 0 0),.sc (.i .u8 p1)],[.cells [.b y0_server,.i .i64 y0_state,.i .u32 y0_peer,.i .i64 y0_window,.i .i64 y0_most,.i .i64 y0_room,.sl 1 0 y0_n1 1 none,.sl 2 0 y0_n2 1 none,.b y0_ready,.b y0_e0,.b y0_e1,.b y0_c0,.b y0_c1,.sl 3 0 y0_n3 1 none],.ints .u8 y0_m1 y0_wait,.ints .u8 y0_m2 y0_got,.vec .row y0_out] => Sctoc ⟨y0_server,y0_state,y0_peer,y0_window,y0_most,y0_room,y0_wait,y0_got,y0_ready,y0_e0,y0_e1,y0_c0,y0_c1,y0_out⟩ y0_n1 y0_n2 y0_n3 y0_m1 y0_m2 p1
 | _,_ => none
noncomputable def Bcto:Bs:={ P:=Go.Proofs.Try.prog,G:=noG,tab:=tabOf [⟨29,128,[.io,.val],[],[48],⟨1,1,SwwU32⟩,false⟩],n:=12 }
theorem Bcto.ok:Bcto.Ok:=⟨tabOk (P:=Go.Proofs.Try.prog) (G:=noG) (l:=[⟨29,128,[.io,.val],[],[48],⟨1,1,SwwU32⟩,false⟩]) (And.intro KwwU32 True.intro),mixed⟩
theorem Kcto:Known Go.Proofs.Try.prog noG 40 ⟨4,1,Scto⟩:=by
 refine Known.walk (B:=Bcto) (fn:=Go.Proofs.Try.f40) Bcto.ok (by kernel_rfl) rfl (by kernel_rfl) (by kernel_rfl) (by decide) (by decide) ?_
 ·intro E args ks C r h hC hlen
  simp only at h
  unfold Scto at h
  split at h
  rotate_left
  ·cases h
  rename_i p1 y0_server y0_state y0_peer y0_window y0_most y0_room y0_n1 y0_n2 y0_ready y0_e0 y0_e1 y0_c0 y0_c1 y0_n3 y0_m1 y0_wait y0_m2 y0_got y0_out
  generalize hp0:(⟨y0_server,y0_state,y0_peer,y0_window,y0_most,y0_room,y0_wait,y0_got,y0_ready,y0_e0,y0_e1,y0_c0,y0_c1,y0_out⟩:Ch)=p0 at h
  obtain rfl:y0_server=p0.server:=by rw [← hp0]
  obtain rfl:y0_state=p0.state:=by rw [← hp0]
  obtain rfl:y0_peer=p0.peer:=by rw [← hp0]
  obtain rfl:y0_window=p0.window:=by rw [← hp0]
  obtain rfl:y0_most=p0.most:=by rw [← hp0]
  obtain rfl:y0_room=p0.room:=by rw [← hp0]
  obtain rfl:y0_wait=p0.wait:=by rw [← hp0]
  obtain rfl:y0_got=p0.got:=by rw [← hp0]
  obtain rfl:y0_ready=p0.ready:=by rw [← hp0]
  obtain rfl:y0_e0=p0.e0:=by rw [← hp0]
  obtain rfl:y0_e1=p0.e1:=by rw [← hp0]
  obtain rfl:y0_c0=p0.c0:=by rw [← hp0]
  obtain rfl:y0_c1=p0.c1:=by rw [← hp0]
  obtain rfl:y0_out=p0.out:=by rw [← hp0]
  clear hp0
  unfold Sctoc at h
  cases h
  obtain ⟨⟨rfl,rfl,rfl,rfl,rfl⟩,hC⟩:=hC
  simp only [lens] at hlen
  refine ⟨show 2≤12 from by decide,?_⟩
  refine Tri.sub (Sub.of_eq (show _=([(0,.sc (.p 0 0)),(1,.sc (.i .u8 p1))],[(0,chC 1 2 3 p0),(1,.ints .u8 p0.wait.length p0.wait),(2,.ints .u8 p0.got.length p0.got),(3,.vec .row p0.out)]) from rfl)) ?_
  refine Tri.subP ?_
  refine Tri.seq_region [] none [0,1] [0,1,2,3] (TT∧True)
    ([(0,.sc (.p 0 0)),(1,.sc (.i .u8 p1))],[(0,chC 1 2 3 p0),(1,.ints .u8 p0.wait.length p0.wait),(2,.ints .u8 p0.got.length p0.got),(3,.vec .row p0.out)])
    32 (by kernel_rfl) rfl (by kernel_rfl) (⟨tt,trivial⟩) ?_
  refine Tri.seq_region [] none [4] [128,0,1,2,3] (TT∧((((((0 < 1)∧(1=1))∧True)∧((1 * 1≤16777216)∧(1=1)))∧True)∧(TT∧(TT∧(TT∧(((2 < 14)∧True)∧(((True∧((1=1)∧(1≤1000000000)))∧True)∧(TT∧True))))))))
    ([(4,.sc (.sl 128 0 (1 + 4) 1 none))],[(128,.ints .u8 (1 + 4) (FwwU32 1 [p1] p0.peer)),(0,chC 1 2 3 p0),(1,.ints .u8 p0.wait.length p0.wait),(2,.ints .u8 p0.got.length p0.got),(3,.vec .row p0.out)])
    160 (by kernel_rfl) rfl (by kernel_rfl) (⟨tt,⟨⟨⟨⟨⟨(by first | omega | (dsimp only; omega) | decide | (simp only [len_say]; omega)),(rfl)⟩,trivial⟩,⟨(by first | omega | (dsimp only; omega) | decide | (simp only [len_say]; omega)),(rfl)⟩⟩,trivial⟩,⟨tt,⟨tt,⟨tt,⟨⟨(by first | omega | (dsimp only; omega) | decide | (simp only [len_say]; omega)),trivial⟩,⟨⟨⟨trivial,⟨(rfl),(by first | omega | (dsimp only; omega) | decide | (simp only [len_say]; omega))⟩⟩,trivial⟩,⟨tt,trivial⟩⟩⟩⟩⟩⟩⟩⟩) ?_
  refine Tri.ret ?_
  repeat (first | refine thenP_ret ?_ | refine blkP_ret ?_ | refine countP_ret ?_ | refine joinP_ret ?_ | refine iterP_ret ?_)
  refine subP_done ?_
  exact endP.ret [(0,0),(1,1),(2,2),(3,3),(128,4)] TT (by kernel_rfl) (by kernel_rfl) tt
noncomputable def Fctoz (p0:Ch) (p1:Int):List Int :=
 part1 (FwwU32 1 [p1] p0.peer) (1 + 4) 0 (1 + 4)
noncomputable def Sctozc (p0:Ch) (y0_n1:Nat) (y0_n2:Nat) (y0_n3:Nat) (y0_m1:Nat) (y0_m2:Nat) (p1:Int):Option (Prop × Ret) :=
 some ((chLens y0_n1 y0_n2 y0_n3 y0_m1 y0_m2 p0∧True),⟨.sc (.ro .u8 (Fctoz p0 p1)),[some (chC 1 2 3 p0),some (.ints .u8 p0.wait.length p0.wait),some (.ints .u8 p0.got.length p0.got),some (.vec .row p0.out)]⟩)
noncomputable def Sctoz:List AV→List Blk→Option (Prop × Ret)
 | [.sc (.p 0 0),.sc (.i .u8 p1)],[.cells [.b y0_server,.i .i64 y0_state,.i .u32 y0_peer,.i .i64 y0_window,.i .i64 y0_most,.i .i64 y0_room,.sl 1 0 y0_n1 1 none,.sl 2 0 y0_n2 1 none,.b y0_ready,.b y0_e0,.b y0_e1,.b y0_c0,.b y0_c1,.sl 3 0 y0_n3 1 none],.ints .u8 y0_m1 y0_wait,.ints .u8 y0_m2 y0_got,.vec .row y0_out] => Sctozc ⟨y0_server,y0_state,y0_peer,y0_window,y0_most,y0_room,y0_wait,y0_got,y0_ready,y0_e0,y0_e1,y0_c0,y0_c1,y0_out⟩ y0_n1 y0_n2 y0_n3 y0_m1 y0_m2 p1
 | _,_ => none
noncomputable def Bctoz:Bs:={ P:=Go.Proofs.Try.prog,G:=noG,tab:=tabOf [⟨29,128,[.io,.val],[],[48],⟨1,1,SwwU32⟩,false⟩],n:=12 }
theorem Bctoz.ok:Bctoz.Ok:=⟨tabOk (P:=Go.Proofs.Try.prog) (G:=noG) (l:=[⟨29,128,[.io,.val],[],[48],⟨1,1,SwwU32⟩,false⟩]) (And.intro KwwU32 True.intro),mixed⟩
theorem Kctoz:Known Go.Proofs.Try.prog noG 40 ⟨4,0,Sctoz⟩:=by
 refine Known.walk (B:=Bctoz) (fn:=Go.Proofs.Try.f40) Bctoz.ok (by kernel_rfl) rfl (by kernel_rfl) (by kernel_rfl) (by decide) (by decide) ?_
 ·intro E args ks C r h hC hlen
  simp only at h
  unfold Sctoz at h
  split at h
  rotate_left
  ·cases h
  rename_i p1 y0_server y0_state y0_peer y0_window y0_most y0_room y0_n1 y0_n2 y0_ready y0_e0 y0_e1 y0_c0 y0_c1 y0_n3 y0_m1 y0_wait y0_m2 y0_got y0_out
  generalize hp0:(⟨y0_server,y0_state,y0_peer,y0_window,y0_most,y0_room,y0_wait,y0_got,y0_ready,y0_e0,y0_e1,y0_c0,y0_c1,y0_out⟩:Ch)=p0 at h
  obtain rfl:y0_server=p0.server:=by rw [← hp0]
  obtain rfl:y0_state=p0.state:=by rw [← hp0]
  obtain rfl:y0_peer=p0.peer:=by rw [← hp0]
  obtain rfl:y0_window=p0.window:=by rw [← hp0]
  obtain rfl:y0_most=p0.most:=by rw [← hp0]
  obtain rfl:y0_room=p0.room:=by rw [← hp0]
  obtain rfl:y0_wait=p0.wait:=by rw [← hp0]
  obtain rfl:y0_got=p0.got:=by rw [← hp0]
  obtain rfl:y0_ready=p0.ready:=by rw [← hp0]
  obtain rfl:y0_e0=p0.e0:=by rw [← hp0]
  obtain rfl:y0_e1=p0.e1:=by rw [← hp0]
  obtain rfl:y0_c0=p0.c0:=by rw [← hp0]
  obtain rfl:y0_c1=p0.c1:=by rw [← hp0]
  obtain rfl:y0_out=p0.out:=by rw [← hp0]
  clear hp0
  unfold Sctozc at h
  cases h
  obtain ⟨⟨rfl,rfl,rfl,rfl,rfl⟩,hC⟩:=hC
  simp only [lens] at hlen
  refine ⟨show 2≤12 from by decide,?_⟩
  refine Tri.sub (Sub.of_eq (show _=([(0,.sc (.p 0 0)),(1,.sc (.i .u8 p1))],[(0,chC 1 2 3 p0),(1,.ints .u8 p0.wait.length p0.wait),(2,.ints .u8 p0.got.length p0.got),(3,.vec .row p0.out)]) from rfl)) ?_
  refine Tri.subP ?_
  refine Tri.seq_region [] none [0,1] [0,1,2,3] (TT∧True)
    ([(0,.sc (.p 0 0)),(1,.sc (.i .u8 p1))],[(0,chC 1 2 3 p0),(1,.ints .u8 p0.wait.length p0.wait),(2,.ints .u8 p0.got.length p0.got),(3,.vec .row p0.out)])
    32 (by kernel_rfl) rfl (by kernel_rfl) (⟨tt,trivial⟩) ?_
  refine Tri.seq_region [] none [4] [128,0,1,2,3] (TT∧((((((0 < 1)∧(1=1))∧True)∧((1 * 1≤16777216)∧(1=1)))∧True)∧(TT∧(TT∧(TT∧(((2 < 14)∧True)∧(((True∧((1=1)∧(1≤1000000000)))∧True)∧(TT∧True))))))))
    ([(4,.sc (.sl 128 0 (1 + 4) 1 none))],[(128,.ints .u8 (1 + 4) (FwwU32 1 [p1] p0.peer)),(0,chC 1 2 3 p0),(1,.ints .u8 p0.wait.length p0.wait),(2,.ints .u8 p0.got.length p0.got),(3,.vec .row p0.out)])
    160 (by kernel_rfl) rfl (by kernel_rfl) (⟨tt,⟨⟨⟨⟨⟨(by first | omega | (dsimp only; omega) | decide | (simp only [len_say]; omega)),(rfl)⟩,trivial⟩,⟨(by first | omega | (dsimp only; omega) | decide | (simp only [len_say]; omega)),(rfl)⟩⟩,trivial⟩,⟨tt,⟨tt,⟨tt,⟨⟨(by first | omega | (dsimp only; omega) | decide | (simp only [len_say]; omega)),trivial⟩,⟨⟨⟨trivial,⟨(rfl),(by first | omega | (dsimp only; omega) | decide | (simp only [len_say]; omega))⟩⟩,trivial⟩,⟨tt,trivial⟩⟩⟩⟩⟩⟩⟩⟩) ?_
  refine Tri.sub (Sub.still (s':=([(4,.sc (.ro .u8 (part1 (FwwU32 1 [p1] p0.peer) (1 + 4) 0 (1 + 4))))],[(0,chC 1 2 3 p0),(1,.ints .u8 p0.wait.length p0.wait),(2,.ints .u8 p0.got.length p0.got),(3,.vec .row p0.out)])) 128 (.ints .u8 (1 + 4) (FwwU32 1 [p1] p0.peer)) (by kernel_rfl) (show 0 + (1 + 4)≤1 + 4 from by first | omega | (dsimp only; omega) | decide | (simp only [len_say]; omega)) (by kernel_rfl)) ?_
  refine Tri.ret ?_
  repeat (first | refine thenP_ret ?_ | refine blkP_ret ?_ | refine countP_ret ?_ | refine joinP_ret ?_ | refine iterP_ret ?_)
  refine subP_done ?_
  exact endP.ret [(0,0),(1,1),(2,2),(3,3)] TT (by kernel_rfl) (by kernel_rfl) tt
noncomputable def FcBeginv0 (p0:Ch):Ch :=
 (Fcsay ({p0 with state:=1,room:=4096}:Ch) (FwwU32z ((((1 + 4) + (⟨#[115,101,115,115,105,111,110]⟩:ByteArray).size) + 4) + 4) (FwwU32 (((1 + 4) + (⟨#[115,101,115,115,105,111,110]⟩:ByteArray).size) + 4) (FwwU32 ((1 + 4) + (⟨#[115,101,115,115,105,111,110]⟩:ByteArray).size) (FwwText 1 [90] (⟨#[115,101,115,115,105,111,110]⟩:ByteArray)) 0) 4096) 512))
noncomputable def FcBegin (p0:Ch):Int :=
 (sel p0.server 8 (sel ((p0.state:Int) != 0) 8 0))
noncomputable def FcBegin_1 (p0:Ch):Ch :=
 (sel p0.server p0 (sel ((p0.state:Int) != 0) p0 (FcBeginv0 p0)))
noncomputable def ScBeginc (p0:Ch) (y0_n1:Nat) (y0_n2:Nat) (y0_n3:Nat) (y0_m1:Nat) (y0_m2:Nat) :Option (Prop × Ret) :=
 some ((chLens y0_n1 y0_n2 y0_n3 y0_m1 y0_m2 p0∧(p0.out.length≤1000000000)),⟨.sc (.i .i64 (FcBegin p0)),[some (chC 4 5 6 (FcBegin_1 p0)),none,none,none,some (.ints .u8 ((FcBegin_1 p0).wait.length) ((FcBegin_1 p0).wait)),some (.ints .u8 ((FcBegin_1 p0).got.length) ((FcBegin_1 p0).got)),some (.vec .row ((FcBegin_1 p0).out))]⟩)
noncomputable def ScBegin:List AV→List Blk→Option (Prop × Ret)
 | [.sc (.p 0 0)],[.cells [.b y0_server,.i .i64 y0_state,.i .u32 y0_peer,.i .i64 y0_window,.i .i64 y0_most,.i .i64 y0_room,.sl 1 0 y0_n1 1 none,.sl 2 0 y0_n2 1 none,.b y0_ready,.b y0_e0,.b y0_e1,.b y0_c0,.b y0_c1,.sl 3 0 y0_n3 1 none],.ints .u8 y0_m1 y0_wait,.ints .u8 y0_m2 y0_got,.vec .row y0_out] => ScBeginc ⟨y0_server,y0_state,y0_peer,y0_window,y0_most,y0_room,y0_wait,y0_got,y0_ready,y0_e0,y0_e1,y0_c0,y0_c1,y0_out⟩ y0_n1 y0_n2 y0_n3 y0_m1 y0_m2
 | _,_ => none
noncomputable def BcBegin:Bs:={ P:=Go.Proofs.Try.prog,G:=noG,tab:=tabOf [⟨28,496,[.io,.ro .u8],[],[0,1,2,3],⟨4,3,Scsay⟩,false⟩,⟨29,448,[.io,.val],[],[432],⟨1,1,SwwU32⟩,false⟩,⟨29,464,[.io,.val],[],[448],⟨1,1,SwwU32⟩,false⟩,⟨29,480,[.io,.val],[],[464],⟨1,0,SwwU32z⟩,false⟩,⟨30,432,[.io,.val],[],[416],⟨1,1,SwwText⟩,false⟩],n:=31 }
theorem BcBegin.ok:BcBegin.Ok:=⟨tabOk (P:=Go.Proofs.Try.prog) (G:=noG) (l:=[⟨28,496,[.io,.ro .u8],[],[0,1,2,3],⟨4,3,Scsay⟩,false⟩,⟨29,448,[.io,.val],[],[432],⟨1,1,SwwU32⟩,false⟩,⟨29,464,[.io,.val],[],[448],⟨1,1,SwwU32⟩,false⟩,⟨29,480,[.io,.val],[],[464],⟨1,0,SwwU32z⟩,false⟩,⟨30,432,[.io,.val],[],[416],⟨1,1,SwwText⟩,false⟩]) (And.intro Kcsay (And.intro KwwU32 (And.intro KwwU32 (And.intro KwwU32z (And.intro KwwText True.intro))))),mixed⟩
theorem KcBegin:Known Go.Proofs.Try.prog noG 10 ⟨4,3,ScBegin⟩:=by
 refine Known.walk (B:=BcBegin) (fn:=Go.Proofs.Try.f10) BcBegin.ok (by kernel_rfl) rfl (by kernel_rfl) (by kernel_rfl) (by decide) (by decide) ?_
 ·intro E args ks C r h hC hlen
  simp only at h
  unfold ScBegin at h
  split at h
  rotate_left
  ·cases h
  rename_i y0_server y0_state y0_peer y0_window y0_most y0_room y0_n1 y0_n2 y0_ready y0_e0 y0_e1 y0_c0 y0_c1 y0_n3 y0_m1 y0_wait y0_m2 y0_got y0_out
  generalize hp0:(⟨y0_server,y0_state,y0_peer,y0_window,y0_most,y0_room,y0_wait,y0_got,y0_ready,y0_e0,y0_e1,y0_c0,y0_c1,y0_out⟩:Ch)=p0 at h
  obtain rfl:y0_server=p0.server:=by rw [← hp0]
  obtain rfl:y0_state=p0.state:=by rw [← hp0]
  obtain rfl:y0_peer=p0.peer:=by rw [← hp0]
  obtain rfl:y0_window=p0.window:=by rw [← hp0]
  obtain rfl:y0_most=p0.most:=by rw [← hp0]
  obtain rfl:y0_room=p0.room:=by rw [← hp0]
  obtain rfl:y0_wait=p0.wait:=by rw [← hp0]
  obtain rfl:y0_got=p0.got:=by rw [← hp0]
  obtain rfl:y0_ready=p0.ready:=by rw [← hp0]
  obtain rfl:y0_e0=p0.e0:=by rw [← hp0]
  obtain rfl:y0_e1=p0.e1:=by rw [← hp0]
  obtain rfl:y0_c0=p0.c0:=by rw [← hp0]
  obtain rfl:y0_c1=p0.c1:=by rw [← hp0]
  obtain rfl:y0_out=p0.out:=by rw [← hp0]
  clear hp0
  unfold ScBeginc at h
  cases h
  obtain ⟨⟨rfl,rfl,rfl,rfl,rfl⟩,hC⟩:=hC
  simp only [lens] at hlen
  refine ⟨show 1≤31 from by decide,?_⟩
  refine Tri.sub (Sub.of_eq (show _=([(0,.sc (.p 0 0))],[(0,chC 1 2 3 p0),(1,.ints .u8 p0.wait.length p0.wait),(2,.ints .u8 p0.got.length p0.got),(3,.vec .row p0.out)]) from rfl)) ?_
  refine Tri.subP ?_
  refine Tri.seq_region [] none [0] [0,1,2,3] (TT∧True)
    ([(0,.sc (.p 0 0))],[(0,chC 1 2 3 p0),(1,.ints .u8 p0.wait.length p0.wait),(2,.ints .u8 p0.got.length p0.got),(3,.vec .row p0.out)])
    32 (by kernel_rfl) rfl (by kernel_rfl) (⟨tt,trivial⟩) ?_
  refine Tri.seq ?_
  refine Tri.split p0.server (fun h1 => ?_) (fun h1 => ?_)
  ·
   refine Tri.seq_region [(11,qb true)] none [17,0] [0,1,2,3] (TT∧(TT∧(TT∧(TT∧(TT∧(TT∧(((0 < 14)∧True)∧(TT∧((True∧(p0.server=true))∧(TT∧(TT∧(TT∧(TT∧(TT∧(TT∧True)))))))))))))))
     ([(17,.sc (.b true)),(0,.sc (.p 0 0))],[(0,chC 1 2 3 p0),(1,.ints .u8 p0.wait.length p0.wait),(2,.ints .u8 p0.got.length p0.got),(3,.vec .row p0.out)])
     272 (by kernel_rfl) rfl (by kernel_rfl) (⟨tt,⟨tt,⟨tt,⟨tt,⟨tt,⟨tt,⟨⟨(by first | omega | (dsimp only; omega) | decide | (simp only [FcBeginv0,len_say]; omega)),trivial⟩,⟨tt,⟨⟨trivial,(h1)⟩,⟨tt,⟨tt,⟨tt,⟨tt,⟨tt,⟨tt,trivial⟩⟩⟩⟩⟩⟩⟩⟩⟩⟩⟩⟩⟩⟩⟩) ?_
   refine Tri.cond_true (by kernel_rfl) ?_
   refine Tri.seq_region [] none [2] [0,1,2,3] (TT∧True)
     ([(2,.sc (.i .i64 8))],[(0,chC 1 2 3 p0),(1,.ints .u8 p0.wait.length p0.wait),(2,.ints .u8 p0.got.length p0.got),(3,.vec .row p0.out)])
     288 (by kernel_rfl) rfl (by kernel_rfl) (⟨tt,trivial⟩) ?_
   refine Tri.ret ?_
   repeat (first | refine thenP_ret ?_ | refine blkP_ret ?_ | refine countP_ret ?_ | refine joinP_ret ?_ | refine iterP_ret ?_)
   refine subP_done ?_
   refine endP.conv (r':=⟨.sc (.i .i64 8),[some (chC 4 5 6 p0),none,none,none,some (.ints .u8 p0.wait.length p0.wait),some (.ints .u8 p0.got.length p0.got),some (.vec .row p0.out)]⟩) (by simp only [chC,FcBegin,FcBegin_1,h1,sel_true,sel_false]) ?_
   exact endP.ret [(0,0),(1,4),(2,5),(3,6)] TT (by kernel_rfl) (by kernel_rfl) tt
  ·
   refine Tri.seq_region [(11,qb false)] none [17,0] [0,1,2,3] (TT∧(TT∧(TT∧(TT∧(TT∧(TT∧(((0 < 14)∧True)∧(TT∧((True∧(p0.server=false))∧(TT∧(TT∧(TT∧(((1 < 14)∧True)∧(TT∧(TT∧True)))))))))))))))
     ([(17,.sc (.b ((p0.state:Int) != 0))),(0,.sc (.p 0 0))],[(0,chC 1 2 3 p0),(1,.ints .u8 p0.wait.length p0.wait),(2,.ints .u8 p0.got.length p0.got),(3,.vec .row p0.out)])
     272 (by kernel_rfl) rfl (by kernel_rfl) (⟨tt,⟨tt,⟨tt,⟨tt,⟨tt,⟨tt,⟨⟨(by first | omega | (dsimp only; omega) | decide | (simp only [FcBeginv0,len_say]; omega)),trivial⟩,⟨tt,⟨⟨trivial,(h1)⟩,⟨tt,⟨tt,⟨tt,⟨⟨(by first | omega | (dsimp only; omega) | decide | (simp only [FcBeginv0,len_say]; omega)),trivial⟩,⟨tt,⟨tt,trivial⟩⟩⟩⟩⟩⟩⟩⟩⟩⟩⟩⟩⟩⟩⟩) ?_
   refine Tri.cond (x:=((p0.state:Int) != 0)) (by kernel_rfl) (fun h2 => ?_) (fun h2 => ?_)
   ·
    have h2':=ne_true_i h2
    refine Tri.seq_region [] none [2] [0,1,2,3] (TT∧True)
      ([(2,.sc (.i .i64 8))],[(0,chC 1 2 3 p0),(1,.ints .u8 p0.wait.length p0.wait),(2,.ints .u8 p0.got.length p0.got),(3,.vec .row p0.out)])
      288 (by kernel_rfl) rfl (by kernel_rfl) (⟨tt,trivial⟩) ?_
    refine Tri.ret ?_
    repeat (first | refine thenP_ret ?_ | refine blkP_ret ?_ | refine countP_ret ?_ | refine joinP_ret ?_ | refine iterP_ret ?_)
    refine subP_done ?_
    refine endP.conv (r':=⟨.sc (.i .i64 8),[some (chC 4 5 6 p0),none,none,none,some (.ints .u8 p0.wait.length p0.wait),some (.ints .u8 p0.got.length p0.got),some (.vec .row p0.out)]⟩) (by simp only [chC,FcBegin,FcBegin_1,h1,h2,sel_true,sel_false]) ?_
    exact endP.ret [(0,0),(1,4),(2,5),(3,6)] TT (by kernel_rfl) (by kernel_rfl) tt
   ·
    have h2':=ne_false_i h2
    refine Tri.skip ?_
    change Tri _ _ _ _ _ _
    refine Tri.seq_region [] none [0] [0,1,2,3] (TT∧(TT∧(TT∧(TT∧((((1 < 14)∧(1=1))∧True)∧(TT∧(TT∧((((5 < 14)∧(1=1))∧True)∧True))))))))
      ([(0,.sc (.p 0 0))],[(0,.cells [.b p0.server,.i .i64 1,.i .u32 p0.peer,.i .i64 p0.window,.i .i64 p0.most,.i .i64 4096,.sl 1 0 p0.wait.length 1 none,.sl 2 0 p0.got.length 1 none,.b p0.ready,.b p0.e0,.b p0.e1,.b p0.c0,.b p0.c1,.sl 3 0 p0.out.length 1 none]),(1,.ints .u8 p0.wait.length p0.wait),(2,.ints .u8 p0.got.length p0.got),(3,.vec .row p0.out)])
      400 (by kernel_rfl) rfl (by kernel_rfl) (⟨tt,⟨tt,⟨tt,⟨tt,⟨⟨⟨(by first | omega | (dsimp only; omega) | decide | (simp only [FcBeginv0,len_say]; omega)),(rfl)⟩,trivial⟩,⟨tt,⟨tt,⟨⟨⟨(by first | omega | (dsimp only; omega) | decide | (simp only [FcBeginv0,len_say]; omega)),(rfl)⟩,trivial⟩,trivial⟩⟩⟩⟩⟩⟩⟩⟩) ?_
    refine Tri.seq_region [] none [] [498,497,496,0] (TT∧((((((0 < 1)∧(1=1))∧True)∧((1 * 1≤16777216)∧(1=1)))∧True)∧(((True∧((1=1)∧(1≤1000000000∧(⟨#[115,101,115,115,105,111,110]⟩:ByteArray).size≤1000000000)))∧True)∧(((True∧((((1 + 4) + (⟨#[115,101,115,115,105,111,110]⟩:ByteArray).size)=((1 + 4) + (⟨#[115,101,115,115,105,111,110]⟩:ByteArray).size))∧(((1 + 4) + (⟨#[115,101,115,115,105,111,110]⟩:ByteArray).size)≤1000000000)))∧True)∧(((True∧(((((1 + 4) + (⟨#[115,101,115,115,105,111,110]⟩:ByteArray).size) + 4)=(((1 + 4) + (⟨#[115,101,115,115,105,111,110]⟩:ByteArray).size) + 4))∧((((1 + 4) + (⟨#[115,101,115,115,105,111,110]⟩:ByteArray).size) + 4)≤1000000000)))∧True)∧(((True∧((((((1 + 4) + (⟨#[115,101,115,115,105,111,110]⟩:ByteArray).size) + 4) + 4)=((((1 + 4) + (⟨#[115,101,115,115,105,111,110]⟩:ByteArray).size) + 4) + 4))∧(((((1 + 4) + (⟨#[115,101,115,115,105,111,110]⟩:ByteArray).size) + 4) + 4)≤1000000000)))∧True)∧(((TT∧((chLens (({p0 with state:=1,room:=4096}:Ch).wait.length) (({p0 with state:=1,room:=4096}:Ch).got.length) (({p0 with state:=1,room:=4096}:Ch).out.length) (({p0 with state:=1,room:=4096}:Ch).wait.length) (({p0 with state:=1,room:=4096}:Ch).got.length) ({p0 with state:=1,room:=4096}:Ch))∧(({p0 with state:=1,room:=4096}:Ch).out.length≤1000000000)))∧True)∧True)))))))
      ([],[(498,.vec .row ((FcBeginv0 p0).out)),(497,.ints .u8 ((FcBeginv0 p0).got.length) ((FcBeginv0 p0).got)),(496,.ints .u8 ((FcBeginv0 p0).wait.length) ((FcBeginv0 p0).wait)),(0,chC 496 497 498 (FcBeginv0 p0))])
      512 (by kernel_rfl) rfl (by kernel_rfl) (⟨tt,⟨⟨⟨⟨⟨(by first | omega | (dsimp only; omega) | decide | (simp only [FcBeginv0,len_say]; omega)),(rfl)⟩,trivial⟩,⟨(by first | omega | (dsimp only; omega) | decide | (simp only [FcBeginv0,len_say]; omega)),(rfl)⟩⟩,trivial⟩,⟨⟨⟨trivial,⟨(rfl),(by first | omega | (dsimp only; omega) | decide | (simp only [FcBeginv0,len_say]; omega))⟩⟩,trivial⟩,⟨⟨⟨trivial,⟨(rfl),(by first | omega | (dsimp only; omega) | decide | (simp only [FcBeginv0,len_say]; omega))⟩⟩,trivial⟩,⟨⟨⟨trivial,⟨(rfl),(by first | omega | (dsimp only; omega) | decide | (simp only [FcBeginv0,len_say]; omega))⟩⟩,trivial⟩,⟨⟨⟨trivial,⟨(rfl),(by first | omega | (dsimp only; omega) | decide | (simp only [FcBeginv0,len_say]; omega))⟩⟩,trivial⟩,⟨⟨⟨tt,⟨(chLens_self _),(by first | omega | (dsimp only; omega) | decide | (simp only [FcBeginv0,len_say]; omega))⟩⟩,trivial⟩,trivial⟩⟩⟩⟩⟩⟩⟩) ?_
    refine Tri.seq_region [] none [2] [498,497,496,0] (TT∧True)
      ([(2,.sc (.i .i64 0))],[(498,.vec .row ((FcBeginv0 p0).out)),(497,.ints .u8 ((FcBeginv0 p0).got.length) ((FcBeginv0 p0).got)),(496,.ints .u8 ((FcBeginv0 p0).wait.length) ((FcBeginv0 p0).wait)),(0,chC 496 497 498 (FcBeginv0 p0))])
      528 (by kernel_rfl) rfl (by kernel_rfl) (⟨tt,trivial⟩) ?_
    refine Tri.ret ?_
    repeat (first | refine thenP_ret ?_ | refine blkP_ret ?_ | refine countP_ret ?_ | refine joinP_ret ?_ | refine iterP_ret ?_)
    refine subP_done ?_
    refine endP.conv (r':=⟨.sc (.i .i64 0),[some (chC 4 5 6 (FcBeginv0 p0)),none,none,none,some (.ints .u8 ((FcBeginv0 p0).wait.length) ((FcBeginv0 p0).wait)),some (.ints .u8 ((FcBeginv0 p0).got.length) ((FcBeginv0 p0).got)),some (.vec .row ((FcBeginv0 p0).out))]⟩) (by simp only [chC,FcBegin,FcBegin_1,h1,h2,sel_true,sel_false]) ?_
    exact endP.ret [(0,0),(496,4),(497,5),(498,6)] TT (by kernel_rfl) (by kernel_rfl) tt
end Go.Vm
set_option linter.unusedVariables false
set_option linter.unusedSimpArgs false
set_option maxRecDepth 4000
namespace Go.Vm
open Go
noncomputable def Fcflowv1 (z0:Ch):Ch :=
 (Fcsay z0 (FwwTextz (1 + 4) (Fcto z0 94) (bytesOf ((z0.wait.drop 0).take ((min (min z0.wait.length ((z0.window).toNat)) ((z0.most).toNat)) - 0)))))
noncomputable def Fcflowl0 (k0:Nat) (z0:Ch):Ch :=
 ({(Fcflowv1 z0) with window:=(iSub .i64 ((Fcflowv1 z0).window) ((min (min z0.wait.length ((z0.window).toNat)) ((z0.most).toNat):Nat):Int)),wait:=((Fcflowv1 z0).wait).drop (min (min z0.wait.length ((z0.window).toNat)) ((z0.most).toNat))}:Ch)
noncomputable def Fcflow (p0:Ch):Ch :=
 (itr (Fcflowl0) (flowN p0) p0)
theorem flowJ_next {p z:Ch} {k:Nat} (h:chFlow p) (hJ:flowJ p k z) (h1:(decide ((((z.wait.length:Nat):Int):Int) > 0))=true) (h2:(decide ((z.window:Int) > 0))=true) (h3:(!z.c0)=true):flowJ p (k + 1) (Fcflowl0 k z):=by
 obtain ⟨⟨hq,hk⟩,_⟩:=flowJ_lt' h hJ (of_decide_eq_true h1) (of_decide_eq_true h2) (by cases hc:z.c0; rfl; rw [hc] at h3; cases h3)
 obtain ⟨f1,f2,f3,f4⟩:=flowJ_facts h hJ
 obtain ⟨⟨a1,a2⟩,⟨a3,a4⟩,a5,a6⟩:=h
 obtain ⟨b1,b2,b3,b4,b5⟩:=hJ
 have hM:flowM p=min p.wait.length p.window.toNat:=rfl
 have hl:z.wait.length=p.wait.length - k * p.most.toNat:=by rw [b1,List.length_drop]; omega
 have hn:min (k * p.most.toNat) (flowM p) + min (min z.wait.length z.window.toNat) z.most.toNat=min ((k + 1) * p.most.toNat) (flowM p):=by
  rw [b3,Nat.succ_mul]
  omega
 refine ⟨?_,?_,b3,b4,?_⟩
 ·show z.wait.drop _=_
  rw [← hn,← List.drop_drop,← b1]
 ·show iSub .i64 z.window _=_
  rw [iSub_i64 (by omega) (by omega),← hn]
  omega
 ·show (z.out ++ [_]).length + (z.wait.drop _).length≤_
  rw [List.length_append,List.length_drop]
  show _ + 1 + _≤_
  rw [b3]
  omega
theorem flowv1_is (z:Ch):(Fcflowv1 z).wait=z.wait∧(Fcflowv1 z).window=z.window:=⟨rfl,rfl⟩
noncomputable def Scflowc (p0:Ch) (y0_n1:Nat) (y0_n2:Nat) (y0_n3:Nat) (y0_m1:Nat) (y0_m2:Nat) :Option (Prop × Ret) :=
 some ((chLens y0_n1 y0_n2 y0_n3 y0_m1 y0_m2 p0∧(chFlow p0)),⟨.tup [],[some (chC 4 5 6 (Fcflow p0)),none,none,none,some (.ints .u8 ((Fcflow p0).wait.length) ((Fcflow p0).wait)),some (.ints .u8 ((Fcflow p0).got.length) ((Fcflow p0).got)),some (.vec .row ((Fcflow p0).out))]⟩)
noncomputable def Scflow:List AV→List Blk→Option (Prop × Ret)
 | [.sc (.p 0 0)],[.cells [.b y0_server,.i .i64 y0_state,.i .u32 y0_peer,.i .i64 y0_window,.i .i64 y0_most,.i .i64 y0_room,.sl 1 0 y0_n1 1 none,.sl 2 0 y0_n2 1 none,.b y0_ready,.b y0_e0,.b y0_e1,.b y0_c0,.b y0_c1,.sl 3 0 y0_n3 1 none],.ints .u8 y0_m1 y0_wait,.ints .u8 y0_m2 y0_got,.vec .row y0_out] => Scflowc ⟨y0_server,y0_state,y0_peer,y0_window,y0_most,y0_room,y0_wait,y0_got,y0_ready,y0_e0,y0_e1,y0_c0,y0_c1,y0_out⟩ y0_n1 y0_n2 y0_n3 y0_m1 y0_m2
 | _,_ => none
noncomputable def Bcflow:Bs:={ P:=Go.Proofs.Try.prog,G:=noG,tab:=tabOf [⟨28,784,[.io,.ro .u8],[],[0,16,17,18],⟨4,3,Scsay⟩,false⟩,⟨30,768,[.io,.val],[],[640],⟨1,0,SwwTextz⟩,false⟩,⟨40,640,[.io,.val],[],[0,16,17,18],⟨4,1,Scto⟩,true⟩],n:=67 }
theorem Bcflow.ok:Bcflow.Ok:=⟨tabOk (P:=Go.Proofs.Try.prog) (G:=noG) (l:=[⟨28,784,[.io,.ro .u8],[],[0,16,17,18],⟨4,3,Scsay⟩,false⟩,⟨30,768,[.io,.val],[],[640],⟨1,0,SwwTextz⟩,false⟩,⟨40,640,[.io,.val],[],[0,16,17,18],⟨4,1,Scto⟩,true⟩]) (And.intro Kcsay (And.intro KwwTextz (And.intro Kcto True.intro))),mixed⟩
theorem Kcflow:Known Go.Proofs.Try.prog noG 38 ⟨4,3,Scflow⟩:=by
 refine Known.walk (B:=Bcflow) (fn:=Go.Proofs.Try.f38) Bcflow.ok (by kernel_rfl) rfl (by kernel_rfl) (by kernel_rfl) (by decide) (by decide) ?_
 ·intro E args ks C r h hC hlen
  simp only at h
  unfold Scflow at h
  split at h
  rotate_left
  ·cases h
  rename_i y0_server y0_state y0_peer y0_window y0_most y0_room y0_n1 y0_n2 y0_ready y0_e0 y0_e1 y0_c0 y0_c1 y0_n3 y0_m1 y0_wait y0_m2 y0_got y0_out
  generalize hp0:(⟨y0_server,y0_state,y0_peer,y0_window,y0_most,y0_room,y0_wait,y0_got,y0_ready,y0_e0,y0_e1,y0_c0,y0_c1,y0_out⟩:Ch)=p0 at h
  obtain rfl:y0_server=p0.server:=by rw [← hp0]
  obtain rfl:y0_state=p0.state:=by rw [← hp0]
  obtain rfl:y0_peer=p0.peer:=by rw [← hp0]
  obtain rfl:y0_window=p0.window:=by rw [← hp0]
  obtain rfl:y0_most=p0.most:=by rw [← hp0]
  obtain rfl:y0_room=p0.room:=by rw [← hp0]
  obtain rfl:y0_wait=p0.wait:=by rw [← hp0]
  obtain rfl:y0_got=p0.got:=by rw [← hp0]
  obtain rfl:y0_ready=p0.ready:=by rw [← hp0]
  obtain rfl:y0_e0=p0.e0:=by rw [← hp0]
  obtain rfl:y0_e1=p0.e1:=by rw [← hp0]
  obtain rfl:y0_c0=p0.c0:=by rw [← hp0]
  obtain rfl:y0_c1=p0.c1:=by rw [← hp0]
  obtain rfl:y0_out=p0.out:=by rw [← hp0]
  clear hp0
  unfold Scflowc at h
  cases h
  obtain ⟨⟨rfl,rfl,rfl,rfl,rfl⟩,hC⟩:=hC
  simp only [lens] at hlen
  refine ⟨show 1≤67 from by decide,?_⟩
  refine Tri.sub (Sub.of_eq (show _=([(0,.sc (.p 0 0))],[(0,chC 1 2 3 p0),(1,.ints .u8 p0.wait.length p0.wait),(2,.ints .u8 p0.got.length p0.got),(3,.vec .row p0.out)]) from rfl)) ?_
  refine Tri.subP ?_
  refine Tri.block ?_
  refine Tri.sub (Sub.ren (U:=16) (U':=32) (ns:=[(0,0),(1,16),(2,17),(3,18)]) (kf:=[0]) (s':=([(0,.sc (.p 0 0))],[(0,chC 16 17 18 p0),(16,.ints .u8 p0.wait.length p0.wait),(17,.ints .u8 p0.got.length p0.got),(18,.vec .row p0.out)])) (by kernel_rfl) (by kernel_rfl)) ?_
  refine Tri.count 32 (flowN p0) (Fcflowl0) p0 (fun k0 z0 => flowJ p0 k0 z0) (fun k0 z0 => ([(0,.sc (.p 0 0))],[(0,chC 16 17 18 z0),(16,.ints .u8 z0.wait.length z0.wait),(17,.ints .u8 z0.got.length z0.got),(18,.vec .row z0.out)])) flowJ_0 (Sub.of_eq (by kernel_rfl)) ?_
  intro k0 z0 hk0 hz0 hJ0
  obtain ⟨⟨hz1,hz2⟩,⟨hz3,hz4⟩,hz5,hz6⟩:=flowJ_facts hC hJ0
  obtain ⟨hw1,hw2⟩:=flowv1_is z0
  refine Tri.seq ?_
  refine Tri.split (decide ((((z0.wait.length:Nat):Int):Int) > 0)) (fun h1 => ?_) (fun h1 => ?_)
  ·
   have h1':=of_decide_eq_true h1
   refine Tri.split (decide ((z0.window:Int) > 0)) (fun h2 => ?_) (fun h2 => ?_)
   ·
    have h2':=of_decide_eq_true h2
    refine Tri.seq_region [(9,qb true),(16,qb true)] none [23,0] [0,16,17,18] (TT∧(TT∧(TT∧(((6 < 14)∧True)∧(TT∧(TT∧((True∧((decide ((((z0.wait.length:Nat):Int):Int) > 0))=true))∧(TT∧(TT∧(TT∧(((3 < 14)∧True)∧(TT∧(TT∧((True∧((decide ((z0.window:Int) > 0))=true))∧(TT∧(TT∧(TT∧((((0:Int)≤0∧0 < ((2:Nat):Int))∧True)∧(((11 < 14)∧True)∧(TT∧(TT∧True)))))))))))))))))))))
      ([(23,.sc (.b (!z0.c0))),(0,.sc (.p 0 0))],[(0,chC 16 17 18 z0),(16,.ints .u8 z0.wait.length z0.wait),(17,.ints .u8 z0.got.length z0.got),(18,.vec .row z0.out)])
      368 (by kernel_rfl) rfl (by kernel_rfl) (⟨tt,⟨tt,⟨tt,⟨⟨(by first | omega | decide | (rw [hw1]; omega) | (rw [size_bytesOf,List.length_take,List.length_drop]; omega) | exact ⟨by decide,by rw [size_bytesOf,List.length_take,List.length_drop]; omega⟩),trivial⟩,⟨tt,⟨tt,⟨⟨trivial,(h1)⟩,⟨tt,⟨tt,⟨tt,⟨⟨(by first | omega | decide | (rw [hw1]; omega) | (rw [size_bytesOf,List.length_take,List.length_drop]; omega) | exact ⟨by decide,by rw [size_bytesOf,List.length_take,List.length_drop]; omega⟩),trivial⟩,⟨tt,⟨tt,⟨⟨trivial,(h2)⟩,⟨tt,⟨tt,⟨tt,⟨⟨(by first | omega | decide | (rw [hw1]; omega) | (rw [size_bytesOf,List.length_take,List.length_drop]; omega) | exact ⟨by decide,by rw [size_bytesOf,List.length_take,List.length_drop]; omega⟩),trivial⟩,⟨⟨(by first | omega | decide | (rw [hw1]; omega) | (rw [size_bytesOf,List.length_take,List.length_drop]; omega) | exact ⟨by decide,by rw [size_bytesOf,List.length_take,List.length_drop]; omega⟩),trivial⟩,⟨tt,⟨tt,trivial⟩⟩⟩⟩⟩⟩⟩⟩⟩⟩⟩⟩⟩⟩⟩⟩⟩⟩⟩⟩⟩) ?_
    refine Tri.cond (x:=(!z0.c0)) (by kernel_rfl) (fun h3 => ?_) (fun h3 => ?_)
    ·
     refine Tri.skip ?_
     change Tri _ _ _ _ _ _
     refine Tri.block ?_
     refine Tri.seq_region [(37,qi ((min (min z0.wait.length ((z0.window).toNat)) ((z0.most).toNat):Nat):Int))] (some [0,1,3,7,15,0,32,96,224,0,512,1536,3584,8191,16383]) [2,0] [0,16,17,18] (TT∧(TT∧(TT∧(((6 < 14)∧True)∧(TT∧(TT∧(TT∧(TT∧(((3 < 14)∧True)∧(TT∧(TT∧(TT∧(((4 < 14)∧True)∧((True∧((minI (minI ((z0.wait.length:Nat):Int) z0.window) z0.most)=((min (min z0.wait.length ((z0.window).toNat)) ((z0.most).toNat):Nat):Int)))∧(TT∧True)))))))))))))))
       ([(2,.sc (.i .i64 ((min (min z0.wait.length ((z0.window).toNat)) ((z0.most).toNat):Nat):Int))),(0,.sc (.p 0 0))],[(0,chC 16 17 18 z0),(16,.ints .u8 z0.wait.length z0.wait),(17,.ints .u8 z0.got.length z0.got),(18,.vec .row z0.out)])
       608 (by kernel_rfl) rfl (by kernel_rfl) (⟨tt,⟨tt,⟨tt,⟨⟨(by first | omega | decide | (rw [hw1]; omega) | (rw [size_bytesOf,List.length_take,List.length_drop]; omega) | exact ⟨by decide,by rw [size_bytesOf,List.length_take,List.length_drop]; omega⟩),trivial⟩,⟨tt,⟨tt,⟨tt,⟨tt,⟨⟨(by first | omega | decide | (rw [hw1]; omega) | (rw [size_bytesOf,List.length_take,List.length_drop]; omega) | exact ⟨by decide,by rw [size_bytesOf,List.length_take,List.length_drop]; omega⟩),trivial⟩,⟨tt,⟨tt,⟨tt,⟨⟨(by first | omega | decide | (rw [hw1]; omega) | (rw [size_bytesOf,List.length_take,List.length_drop]; omega) | exact ⟨by decide,by rw [size_bytesOf,List.length_take,List.length_drop]; omega⟩),trivial⟩,⟨⟨trivial,((minI_nat3 (by omega) (by omega)))⟩,⟨tt,trivial⟩⟩⟩⟩⟩⟩⟩⟩⟩⟩⟩⟩⟩⟩⟩) ?_
     refine Tri.seq_region [] (some [0,0,2,0,8,24,56,0,248,504,1022,2047]) [2,0] [786,785,784,0] (TT∧(TT∧((((True∧((chLens z0.wait.length z0.got.length z0.out.length z0.wait.length z0.got.length z0)∧True))∧(([some (chC 16 17 18 z0),some (.ints .u8 z0.wait.length z0.wait),some (.ints .u8 z0.got.length z0.got),some (.vec .row z0.out)]:List (Option Blk))=[some (chC 16 17 18 z0),some (.ints .u8 z0.wait.length z0.wait),some (.ints .u8 z0.got.length z0.got),some (.vec .row z0.out)]))∧True)∧(TT∧(TT∧(TT∧(((6 < 14)∧True)∧(TT∧((((0:Int)≤0∧(0:Int)≤((min (min z0.wait.length ((z0.window).toNat)) ((z0.most).toNat):Nat):Int)∧((min (min z0.wait.length ((z0.window).toNat)) ((z0.most).toNat):Nat):Int)≤((z0.wait.length:Nat):Int))∧True)∧(((0 + ((min (min z0.wait.length ((z0.window).toNat)) ((z0.most).toNat)) - 0)≤z0.wait.length)∧True)∧(((True∧(((1 + 4)=(1 + 4))∧((1 + 4)≤1000000000∧(bytesOf ((z0.wait.drop 0).take ((min (min z0.wait.length ((z0.window).toNat)) ((z0.most).toNat)) - 0))).size≤1000000000)))∧True)∧(((TT∧((chLens z0.wait.length z0.got.length z0.out.length z0.wait.length z0.got.length z0)∧(z0.out.length≤1000000000)))∧True)∧True))))))))))))
       ([(2,.sc (.i .i64 ((min (min z0.wait.length ((z0.window).toNat)) ((z0.most).toNat):Nat):Int))),(0,.sc (.p 0 0))],[(786,.vec .row ((Fcflowv1 z0).out)),(785,.ints .u8 ((Fcflowv1 z0).got.length) ((Fcflowv1 z0).got)),(784,.ints .u8 ((Fcflowv1 z0).wait.length) ((Fcflowv1 z0).wait)),(0,chC 784 785 786 (Fcflowv1 z0))])
       800 (by kernel_rfl) rfl (by kernel_rfl) (⟨tt,⟨tt,⟨⟨⟨⟨trivial,⟨(chLens_self _),trivial⟩⟩,(rfl)⟩,trivial⟩,⟨tt,⟨tt,⟨tt,⟨⟨(by first | omega | decide | (rw [hw1]; omega) | (rw [size_bytesOf,List.length_take,List.length_drop]; omega) | exact ⟨by decide,by rw [size_bytesOf,List.length_take,List.length_drop]; omega⟩),trivial⟩,⟨tt,⟨⟨(by first | omega | decide | (rw [hw1]; omega) | (rw [size_bytesOf,List.length_take,List.length_drop]; omega) | exact ⟨by decide,by rw [size_bytesOf,List.length_take,List.length_drop]; omega⟩),trivial⟩,⟨⟨(by first | omega | decide | (rw [hw1]; omega) | (rw [size_bytesOf,List.length_take,List.length_drop]; omega) | exact ⟨by decide,by rw [size_bytesOf,List.length_take,List.length_drop]; omega⟩),trivial⟩,⟨⟨⟨trivial,⟨(rfl),(by first | omega | decide | (rw [hw1]; omega) | (rw [size_bytesOf,List.length_take,List.length_drop]; omega) | exact ⟨by decide,by rw [size_bytesOf,List.length_take,List.length_drop]; omega⟩)⟩⟩,trivial⟩,⟨⟨⟨tt,⟨(chLens_self _),(by first | omega | decide | (rw [hw1]; omega) | (rw [size_bytesOf,List.length_take,List.length_drop]; omega) | exact ⟨by decide,by rw [size_bytesOf,List.length_take,List.length_drop]; omega⟩)⟩⟩,trivial⟩,trivial⟩⟩⟩⟩⟩⟩⟩⟩⟩⟩⟩⟩) ?_
     refine Tri.seq_region [] none [2,0] [0,786,785,784] (TT∧(TT∧(TT∧(TT∧(((6 < 14)∧True)∧(TT∧((((0:Int)≤((min (min z0.wait.length ((z0.window).toNat)) ((z0.most).toNat):Nat):Int)∧(((min (min z0.wait.length ((z0.window).toNat)) ((z0.most).toNat):Nat):Int):Int)≤(((Fcflowv1 z0).wait.length:Nat):Int)∧(((Fcflowv1 z0).wait.length:Nat):Int)≤(((Fcflowv1 z0).wait.length:Nat):Int))∧True)∧(TT∧(TT∧((((6 < 14)∧(1=1))∧True)∧True))))))))))
       ([(2,.sc (.i .i64 ((min (min z0.wait.length ((z0.window).toNat)) ((z0.most).toNat):Nat):Int))),(0,.sc (.p 0 0))],[(0,.cells [.b ((Fcflowv1 z0).server),.i .i64 ((Fcflowv1 z0).state),.i .u32 ((Fcflowv1 z0).peer),.i .i64 ((Fcflowv1 z0).window),.i .i64 ((Fcflowv1 z0).most),.i .i64 ((Fcflowv1 z0).room),.sl 784 (0 + ((min (min z0.wait.length ((z0.window).toNat)) ((z0.most).toNat)) * 1)) (((Fcflowv1 z0).wait.length) - (min (min z0.wait.length ((z0.window).toNat)) ((z0.most).toNat))) 1 none,.sl 785 0 ((Fcflowv1 z0).got.length) 1 none,.b ((Fcflowv1 z0).ready),.b ((Fcflowv1 z0).e0),.b ((Fcflowv1 z0).e1),.b ((Fcflowv1 z0).c0),.b ((Fcflowv1 z0).c1),.sl 786 0 ((Fcflowv1 z0).out.length) 1 none]),(786,.vec .row ((Fcflowv1 z0).out)),(785,.ints .u8 ((Fcflowv1 z0).got.length) ((Fcflowv1 z0).got)),(784,.ints .u8 ((Fcflowv1 z0).wait.length) ((Fcflowv1 z0).wait))])
       960 (by kernel_rfl) rfl (by kernel_rfl) (⟨tt,⟨tt,⟨tt,⟨tt,⟨⟨(by first | omega | decide | (rw [hw1]; omega) | (rw [size_bytesOf,List.length_take,List.length_drop]; omega) | exact ⟨by decide,by rw [size_bytesOf,List.length_take,List.length_drop]; omega⟩),trivial⟩,⟨tt,⟨⟨(by first | omega | decide | (rw [hw1]; omega) | (rw [size_bytesOf,List.length_take,List.length_drop]; omega) | exact ⟨by decide,by rw [size_bytesOf,List.length_take,List.length_drop]; omega⟩),trivial⟩,⟨tt,⟨tt,⟨⟨⟨(by first | omega | decide | (rw [hw1]; omega) | (rw [size_bytesOf,List.length_take,List.length_drop]; omega) | exact ⟨by decide,by rw [size_bytesOf,List.length_take,List.length_drop]; omega⟩),(rfl)⟩,trivial⟩,trivial⟩⟩⟩⟩⟩⟩⟩⟩⟩⟩) ?_
     refine Tri.sub (Sub.rebaseCi (U:=960) (U':=976) 0 6 784 960 (l:=[.b ((Fcflowv1 z0).server),.i .i64 ((Fcflowv1 z0).state),.i .u32 ((Fcflowv1 z0).peer),.i .i64 ((Fcflowv1 z0).window),.i .i64 ((Fcflowv1 z0).most),.i .i64 ((Fcflowv1 z0).room),.sl 784 (0 + ((min (min z0.wait.length ((z0.window).toNat)) ((z0.most).toNat)) * 1)) (((Fcflowv1 z0).wait.length) - (min (min z0.wait.length ((z0.window).toNat)) ((z0.most).toNat))) 1 none,.sl 785 0 ((Fcflowv1 z0).got.length) 1 none,.b ((Fcflowv1 z0).ready),.b ((Fcflowv1 z0).e0),.b ((Fcflowv1 z0).e1),.b ((Fcflowv1 z0).c0),.b ((Fcflowv1 z0).c1),.sl 786 0 ((Fcflowv1 z0).out.length) 1 none]) (kd:=.u8) (n:=(Fcflowv1 z0).wait.length) (xs:=(Fcflowv1 z0).wait) (len:=((Fcflowv1 z0).wait.length) - (min (min z0.wait.length ((z0.window).toNat)) ((z0.most).toNat))) (es:=1) (cap:=none) (show 0 + ((min (min z0.wait.length ((z0.window).toNat)) ((z0.most).toNat)) * 1)=min (min z0.wait.length ((z0.window).toNat)) ((z0.most).toNat) by omega) (show min (min z0.wait.length ((z0.window).toNat)) ((z0.most).toNat)≤(Fcflowv1 z0).wait.length from by first | omega | decide | (rw [hw1]; omega) | (rw [size_bytesOf,List.length_take,List.length_drop]; omega) | exact ⟨by decide,by rw [size_bytesOf,List.length_take,List.length_drop]; omega⟩) (by decide) (by kernel_rfl) (by kernel_rfl) (by kernel_rfl)) ?_
     refine Tri.sub (Sub.of_eq (congrArg (fun (qq:Nat) => (([(2,.sc (.i .i64 ((min (min z0.wait.length ((z0.window).toNat)) ((z0.most).toNat):Nat):Int))),(0,.sc (.p 0 0))],[(0,.cells [.b ((Fcflowv1 z0).server),.i .i64 ((Fcflowv1 z0).state),.i .u32 ((Fcflowv1 z0).peer),.i .i64 ((Fcflowv1 z0).window),.i .i64 ((Fcflowv1 z0).most),.i .i64 ((Fcflowv1 z0).room),.sl 960 0 qq 1 none,.sl 785 0 ((Fcflowv1 z0).got.length) 1 none,.b ((Fcflowv1 z0).ready),.b ((Fcflowv1 z0).e0),.b ((Fcflowv1 z0).e1),.b ((Fcflowv1 z0).c0),.b ((Fcflowv1 z0).c1),.sl 786 0 ((Fcflowv1 z0).out.length) 1 none]),(960,.ints .u8 qq (((Fcflowv1 z0).wait).drop (min (min z0.wait.length ((z0.window).toNat)) ((z0.most).toNat)))),(786,.vec .row ((Fcflowv1 z0).out)),(785,.ints .u8 ((Fcflowv1 z0).got.length) ((Fcflowv1 z0).got))]):St)) (show ((Fcflowv1 z0).wait.length) - (min (min z0.wait.length ((z0.window).toNat)) ((z0.most).toNat))=(((Fcflowv1 z0).wait).drop (min (min z0.wait.length ((z0.window).toNat)) ((z0.most).toNat))).length from by simp only [List.length_append,List.length_drop,List.length_cons,List.length_nil,Nat.zero_add,Nat.sub_zero,Nat.reduceAdd,bytesI_length]))) ?_
     show Tri _ _ _ _ ([(2,.sc (.i .i64 ((min (min z0.wait.length ((z0.window).toNat)) ((z0.most).toNat):Nat):Int))),(0,.sc (.p 0 0))],[(0,.cells [.b ((Fcflowv1 z0).server),.i .i64 ((Fcflowv1 z0).state),.i .u32 ((Fcflowv1 z0).peer),.i .i64 ((Fcflowv1 z0).window),.i .i64 ((Fcflowv1 z0).most),.i .i64 ((Fcflowv1 z0).room),.sl 960 0 ((((Fcflowv1 z0).wait).drop (min (min z0.wait.length ((z0.window).toNat)) ((z0.most).toNat))).length) 1 none,.sl 785 0 ((Fcflowv1 z0).got.length) 1 none,.b ((Fcflowv1 z0).ready),.b ((Fcflowv1 z0).e0),.b ((Fcflowv1 z0).e1),.b ((Fcflowv1 z0).c0),.b ((Fcflowv1 z0).c1),.sl 786 0 ((Fcflowv1 z0).out.length) 1 none]),(960,.ints .u8 ((((Fcflowv1 z0).wait).drop (min (min z0.wait.length ((z0.window).toNat)) ((z0.most).toNat))).length) (((Fcflowv1 z0).wait).drop (min (min z0.wait.length ((z0.window).toNat)) ((z0.most).toNat)))),(786,.vec .row ((Fcflowv1 z0).out)),(785,.ints .u8 ((Fcflowv1 z0).got.length) ((Fcflowv1 z0).got))]) _
     refine Tri.region' [] none [0] [0,960,786,785] (TT∧(TT∧(TT∧(((3 < 14)∧True)∧(TT∧(TT∧(TT∧(TT∧((((3 < 14)∧(1=1))∧True)∧True)))))))))
       ([(0,.sc (.p 0 0))],[(0,.cells [.b ((Fcflowv1 z0).server),.i .i64 ((Fcflowv1 z0).state),.i .u32 ((Fcflowv1 z0).peer),.i .i64 (iSub .i64 ((Fcflowv1 z0).window) ((min (min z0.wait.length ((z0.window).toNat)) ((z0.most).toNat):Nat):Int)),.i .i64 ((Fcflowv1 z0).most),.i .i64 ((Fcflowv1 z0).room),.sl 960 0 ((((Fcflowv1 z0).wait).drop (min (min z0.wait.length ((z0.window).toNat)) ((z0.most).toNat))).length) 1 none,.sl 785 0 ((Fcflowv1 z0).got.length) 1 none,.b ((Fcflowv1 z0).ready),.b ((Fcflowv1 z0).e0),.b ((Fcflowv1 z0).e1),.b ((Fcflowv1 z0).c0),.b ((Fcflowv1 z0).c1),.sl 786 0 ((Fcflowv1 z0).out.length) 1 none]),(960,.ints .u8 ((((Fcflowv1 z0).wait).drop (min (min z0.wait.length ((z0.window).toNat)) ((z0.most).toNat))).length) (((Fcflowv1 z0).wait).drop (min (min z0.wait.length ((z0.window).toNat)) ((z0.most).toNat)))),(786,.vec .row ((Fcflowv1 z0).out)),(785,.ints .u8 ((Fcflowv1 z0).got.length) ((Fcflowv1 z0).got))])
       1120 (by kernel_rfl) rfl (by kernel_rfl) (⟨tt,⟨tt,⟨tt,⟨⟨(by first | omega | decide | (rw [hw1]; omega) | (rw [size_bytesOf,List.length_take,List.length_drop]; omega) | exact ⟨by decide,by rw [size_bytesOf,List.length_take,List.length_drop]; omega⟩),trivial⟩,⟨tt,⟨tt,⟨tt,⟨tt,⟨⟨⟨(by first | omega | decide | (rw [hw1]; omega) | (rw [size_bytesOf,List.length_take,List.length_drop]; omega) | exact ⟨by decide,by rw [size_bytesOf,List.length_take,List.length_drop]; omega⟩),(rfl)⟩,trivial⟩,trivial⟩⟩⟩⟩⟩⟩⟩⟩⟩) ?_
     repeat (refine blkP_normal ?_)
     refine countP_normal (flowJ_lt hC hJ0 (by assumption) (by assumption) (by assumption)) (flowJ_next hC hJ0 (by assumption) (by assumption) (by assumption)) ?_
     exact Sub.ren (ns:=[(0,0),(960,16),(785,17),(786,18)]) (kf:=[0]) (by kernel_rfl) (by kernel_rfl)
    ·
     refine Tri.exit ?_
     have hend0:k0=(flowN p0):=by exact (flowJ_end hC hJ0 (by omega) (by first | exact .inl (by assumption) | exact .inr (.inl (by assumption)) | exact .inr (.inr (by assumption))))
     subst hend0; subst hz0
     show subP _ _ _ _
     repeat (first | refine thenP_ret ?_ | refine blkP_ret ?_ | refine countP_ret ?_ | refine joinP_ret ?_ | refine iterP_ret ?_)
     refine subP_done ?_
     exact endP.nret [(0,0),(16,4),(17,5),(18,6)] True (by kernel_rfl) (by kernel_rfl) trivial
   ·
    have h2':=of_decide_eq_false h2
    refine Tri.seq_region [(9,qb true),(16,qb false)] none [23,0] [0,16,17,18] (TT∧(TT∧(TT∧(((6 < 14)∧True)∧(TT∧(TT∧((True∧((decide ((((z0.wait.length:Nat):Int):Int) > 0))=true))∧(TT∧(TT∧(TT∧(((3 < 14)∧True)∧(TT∧(TT∧((True∧((decide ((z0.window:Int) > 0))=false))∧(TT∧(TT∧(TT∧(TT∧(TT∧(TT∧(TT∧True)))))))))))))))))))))
      ([(23,.sc (.b false)),(0,.sc (.p 0 0))],[(0,chC 16 17 18 z0),(16,.ints .u8 z0.wait.length z0.wait),(17,.ints .u8 z0.got.length z0.got),(18,.vec .row z0.out)])
      368 (by kernel_rfl) rfl (by kernel_rfl) (⟨tt,⟨tt,⟨tt,⟨⟨(by first | omega | decide | (rw [hw1]; omega) | (rw [size_bytesOf,List.length_take,List.length_drop]; omega) | exact ⟨by decide,by rw [size_bytesOf,List.length_take,List.length_drop]; omega⟩),trivial⟩,⟨tt,⟨tt,⟨⟨trivial,(h1)⟩,⟨tt,⟨tt,⟨tt,⟨⟨(by first | omega | decide | (rw [hw1]; omega) | (rw [size_bytesOf,List.length_take,List.length_drop]; omega) | exact ⟨by decide,by rw [size_bytesOf,List.length_take,List.length_drop]; omega⟩),trivial⟩,⟨tt,⟨tt,⟨⟨trivial,(h2)⟩,⟨tt,⟨tt,⟨tt,⟨tt,⟨tt,⟨tt,⟨tt,trivial⟩⟩⟩⟩⟩⟩⟩⟩⟩⟩⟩⟩⟩⟩⟩⟩⟩⟩⟩⟩⟩) ?_
    refine Tri.cond_false (by kernel_rfl) ?_
    refine Tri.exit ?_
    have hend0:k0=(flowN p0):=by exact (flowJ_end hC hJ0 (by omega) (by first | exact .inl (by assumption) | exact .inr (.inl (by assumption)) | exact .inr (.inr (by assumption))))
    subst hend0; subst hz0
    show subP _ _ _ _
    repeat (first | refine thenP_ret ?_ | refine blkP_ret ?_ | refine countP_ret ?_ | refine joinP_ret ?_ | refine iterP_ret ?_)
    refine subP_done ?_
    exact endP.nret [(0,0),(16,4),(17,5),(18,6)] True (by kernel_rfl) (by kernel_rfl) trivial
  ·
   have h1':=of_decide_eq_false h1
   refine Tri.seq_region [(9,qb false)] none [23,0] [0,16,17,18] (TT∧(TT∧(TT∧(((6 < 14)∧True)∧(TT∧(TT∧((True∧((decide ((((z0.wait.length:Nat):Int):Int) > 0))=false))∧(TT∧(TT∧(TT∧(TT∧(TT∧(TT∧(TT∧(TT∧(TT∧(TT∧(TT∧(TT∧(TT∧(TT∧True)))))))))))))))))))))
     ([(23,.sc (.b false)),(0,.sc (.p 0 0))],[(0,chC 16 17 18 z0),(16,.ints .u8 z0.wait.length z0.wait),(17,.ints .u8 z0.got.length z0.got),(18,.vec .row z0.out)])
     368 (by kernel_rfl) rfl (by kernel_rfl) (⟨tt,⟨tt,⟨tt,⟨⟨(by first | omega | decide | (rw [hw1]; omega) | (rw [size_bytesOf,List.length_take,List.length_drop]; omega) | exact ⟨by decide,by rw [size_bytesOf,List.length_take,List.length_drop]; omega⟩),trivial⟩,⟨tt,⟨tt,⟨⟨trivial,(h1)⟩,⟨tt,⟨tt,⟨tt,⟨tt,⟨tt,⟨tt,⟨tt,⟨tt,⟨tt,⟨tt,⟨tt,⟨tt,⟨tt,⟨tt,trivial⟩⟩⟩⟩⟩⟩⟩⟩⟩⟩⟩⟩⟩⟩⟩⟩⟩⟩⟩⟩⟩) ?_
   refine Tri.cond_false (by kernel_rfl) ?_
   refine Tri.exit ?_
   have hend0:k0=(flowN p0):=by exact (flowJ_end hC hJ0 (by omega) (by first | exact .inl (by assumption) | exact .inr (.inl (by assumption)) | exact .inr (.inr (by assumption))))
   subst hend0; subst hz0
   show subP _ _ _ _
   repeat (first | refine thenP_ret ?_ | refine blkP_ret ?_ | refine countP_ret ?_ | refine joinP_ret ?_ | refine iterP_ret ?_)
   refine subP_done ?_
   exact endP.nret [(0,0),(16,4),(17,5),(18,6)] True (by kernel_rfl) (by kernel_rfl) trivial
noncomputable def FcSendv0 (p0:Ch) (p1:List Int):Ch :=
 (Fcflow ({p0 with wait:=p0.wait ++ p1}:Ch))
noncomputable def FcSend (p0:Ch) (p1:List Int):Int :=
 (sel ((p0.state:Int) != 2) 8 (sel (!p0.ready) 8 (sel p0.e0 8 (sel p0.c0 8 0))))
noncomputable def FcSend_1 (p0:Ch) (p1:List Int):Ch :=
 (sel ((p0.state:Int) != 2) p0 (sel (!p0.ready) p0 (sel p0.e0 p0 (sel p0.c0 p0 (FcSendv0 p0 p1)))))
noncomputable def ScSendc (p0:Ch) (y0_n1:Nat) (y0_n2:Nat) (y0_n3:Nat) (y0_m1:Nat) (y0_m2:Nat) (p1:List Int):Option (Prop × Ret) :=
 some ((chLens y0_n1 y0_n2 y0_n3 y0_m1 y0_m2 p0∧(chFlow p0∧p0.out.length + p0.wait.length + p1.length≤1000000000)),⟨.sc (.i .i64 (FcSend p0 p1)),[some (chC 4 5 6 (FcSend_1 p0 p1)),none,none,none,some (.ints .u8 ((FcSend_1 p0 p1).wait.length) ((FcSend_1 p0 p1).wait)),some (.ints .u8 ((FcSend_1 p0 p1).got.length) ((FcSend_1 p0 p1).got)),some (.vec .row ((FcSend_1 p0 p1).out))]⟩)
noncomputable def ScSend:List AV→List Blk→Option (Prop × Ret)
 | [.sc (.p 0 0),.sc (.ro .u8 p1)],[.cells [.b y0_server,.i .i64 y0_state,.i .u32 y0_peer,.i .i64 y0_window,.i .i64 y0_most,.i .i64 y0_room,.sl 1 0 y0_n1 1 none,.sl 2 0 y0_n2 1 none,.b y0_ready,.b y0_e0,.b y0_e1,.b y0_c0,.b y0_c1,.sl 3 0 y0_n3 1 none],.ints .u8 y0_m1 y0_wait,.ints .u8 y0_m2 y0_got,.vec .row y0_out] => ScSendc ⟨y0_server,y0_state,y0_peer,y0_window,y0_most,y0_room,y0_wait,y0_got,y0_ready,y0_e0,y0_e1,y0_c0,y0_c1,y0_out⟩ y0_n1 y0_n2 y0_n3 y0_m1 y0_m2 p1
 | _,_ => none
noncomputable def BcSend:Bs:={ P:=Go.Proofs.Try.prog,G:=noG,tab:=tabOf [⟨38,688,[.io],[],[0,608,2,3],⟨4,3,Scflow⟩,false⟩],n:=46 }
theorem BcSend.ok:BcSend.Ok:=⟨tabOk (P:=Go.Proofs.Try.prog) (G:=noG) (l:=[⟨38,688,[.io],[],[0,608,2,3],⟨4,3,Scflow⟩,false⟩]) (And.intro Kcflow True.intro),mixed⟩
theorem KcSend:Known Go.Proofs.Try.prog noG 19 ⟨4,3,ScSend⟩:=by
 refine Known.walk (B:=BcSend) (fn:=Go.Proofs.Try.f19) BcSend.ok (by kernel_rfl) rfl (by kernel_rfl) (by kernel_rfl) (by decide) (by decide) ?_
 ·intro E args ks C r h hC hlen
  simp only at h
  unfold ScSend at h
  split at h
  rotate_left
  ·cases h
  rename_i p1 y0_server y0_state y0_peer y0_window y0_most y0_room y0_n1 y0_n2 y0_ready y0_e0 y0_e1 y0_c0 y0_c1 y0_n3 y0_m1 y0_wait y0_m2 y0_got y0_out
  generalize hp0:(⟨y0_server,y0_state,y0_peer,y0_window,y0_most,y0_room,y0_wait,y0_got,y0_ready,y0_e0,y0_e1,y0_c0,y0_c1,y0_out⟩:Ch)=p0 at h
  obtain rfl:y0_server=p0.server:=by rw [← hp0]
  obtain rfl:y0_state=p0.state:=by rw [← hp0]
  obtain rfl:y0_peer=p0.peer:=by rw [← hp0]
  obtain rfl:y0_window=p0.window:=by rw [← hp0]
  obtain rfl:y0_most=p0.most:=by rw [← hp0]
  obtain rfl:y0_room=p0.room:=by rw [← hp0]
  obtain rfl:y0_wait=p0.wait:=by rw [← hp0]
  obtain rfl:y0_got=p0.got:=by rw [← hp0]
  obtain rfl:y0_ready=p0.ready:=by rw [← hp0]
  obtain rfl:y0_e0=p0.e0:=by rw [← hp0]
  obtain rfl:y0_e1=p0.e1:=by rw [← hp0]
  obtain rfl:y0_c0=p0.c0:=by rw [← hp0]
  obtain rfl:y0_c1=p0.c1:=by rw [← hp0]
  obtain rfl:y0_out=p0.out:=by rw [← hp0]
  clear hp0
  unfold ScSendc at h
  cases h
  obtain ⟨⟨rfl,rfl,rfl,rfl,rfl⟩,hC⟩:=hC
  simp only [lens] at hlen
  refine ⟨show 2≤46 from by decide,?_⟩
  refine Tri.sub (Sub.of_eq (show _=([(0,.sc (.p 0 0)),(1,.sc (.ro .u8 p1))],[(0,chC 1 2 3 p0),(1,.ints .u8 p0.wait.length p0.wait),(2,.ints .u8 p0.got.length p0.got),(3,.vec .row p0.out)]) from rfl)) ?_
  refine Tri.subP ?_
  refine Tri.seq_region [] none [0,1] [0,1,2,3] (TT∧True)
    ([(0,.sc (.p 0 0)),(1,.sc (.ro .u8 p1))],[(0,chC 1 2 3 p0),(1,.ints .u8 p0.wait.length p0.wait),(2,.ints .u8 p0.got.length p0.got),(3,.vec .row p0.out)])
    32 (by kernel_rfl) rfl (by kernel_rfl) (⟨tt,trivial⟩) ?_
  refine Tri.seq ?_
  refine Tri.split ((p0.state:Int) != 2) (fun h1 => ?_) (fun h1 => ?_)
  ·
   have h1':=ne_true_i h1
   refine Tri.seq_region [(14,qb true)] none [34,0,1] [0,1,2,3] (TT∧(TT∧(TT∧(TT∧(TT∧(TT∧(((1 < 14)∧True)∧(TT∧(TT∧((True∧(((p0.state:Int) != 2)=true))∧(TT∧(TT∧(TT∧(TT∧(TT∧(TT∧(TT∧(TT∧(TT∧(TT∧(TT∧(TT∧(TT∧(TT∧(TT∧(TT∧(TT∧(TT∧(TT∧(TT∧True))))))))))))))))))))))))))))))
     ([(34,.sc (.b true)),(0,.sc (.p 0 0)),(1,.sc (.ro .u8 p1))],[(0,chC 1 2 3 p0),(1,.ints .u8 p0.wait.length p0.wait),(2,.ints .u8 p0.got.length p0.got),(3,.vec .row p0.out)])
     512 (by kernel_rfl) rfl (by kernel_rfl) (⟨tt,⟨tt,⟨tt,⟨tt,⟨tt,⟨tt,⟨⟨(by first | omega | (dsimp only; omega) | decide | (simp only [FcSendv0,len_say]; omega)),trivial⟩,⟨tt,⟨tt,⟨⟨trivial,(h1)⟩,⟨tt,⟨tt,⟨tt,⟨tt,⟨tt,⟨tt,⟨tt,⟨tt,⟨tt,⟨tt,⟨tt,⟨tt,⟨tt,⟨tt,⟨tt,⟨tt,⟨tt,⟨tt,⟨tt,⟨tt,trivial⟩⟩⟩⟩⟩⟩⟩⟩⟩⟩⟩⟩⟩⟩⟩⟩⟩⟩⟩⟩⟩⟩⟩⟩⟩⟩⟩⟩⟩⟩) ?_
   refine Tri.cond_true (by kernel_rfl) ?_
   refine Tri.seq_region [] none [4] [0,1,2,3] (TT∧True)
     ([(4,.sc (.i .i64 8))],[(0,chC 1 2 3 p0),(1,.ints .u8 p0.wait.length p0.wait),(2,.ints .u8 p0.got.length p0.got),(3,.vec .row p0.out)])
     528 (by kernel_rfl) rfl (by kernel_rfl) (⟨tt,trivial⟩) ?_
   refine Tri.ret ?_
   repeat (first | refine thenP_ret ?_ | refine blkP_ret ?_ | refine countP_ret ?_ | refine joinP_ret ?_ | refine iterP_ret ?_)
   refine subP_done ?_
   refine endP.conv (r':=⟨.sc (.i .i64 8),[some (chC 4 5 6 p0),none,none,none,some (.ints .u8 p0.wait.length p0.wait),some (.ints .u8 p0.got.length p0.got),some (.vec .row p0.out)]⟩) (by simp only [chC,FcSend,FcSend_1,h1,sel_true,sel_false]) ?_
   exact endP.ret [(0,0),(1,4),(2,5),(3,6)] TT (by kernel_rfl) (by kernel_rfl) tt
  ·
   have h1':=ne_false_i h1
   refine Tri.split (!p0.ready) (fun h2 => ?_) (fun h2 => ?_)
   ·
    refine Tri.seq_region [(14,qb false),(21,qb true)] none [34,0,1] [0,1,2,3] (TT∧(TT∧(TT∧(TT∧(TT∧(TT∧(((1 < 14)∧True)∧(TT∧(TT∧((True∧(((p0.state:Int) != 2)=false))∧(TT∧(TT∧(TT∧(((8 < 14)∧True)∧(TT∧(TT∧((True∧((!p0.ready)=true))∧(TT∧(TT∧(TT∧(TT∧(TT∧(TT∧(TT∧(TT∧(TT∧(TT∧(TT∧(TT∧(TT∧True))))))))))))))))))))))))))))))
      ([(34,.sc (.b true)),(0,.sc (.p 0 0)),(1,.sc (.ro .u8 p1))],[(0,chC 1 2 3 p0),(1,.ints .u8 p0.wait.length p0.wait),(2,.ints .u8 p0.got.length p0.got),(3,.vec .row p0.out)])
      512 (by kernel_rfl) rfl (by kernel_rfl) (⟨tt,⟨tt,⟨tt,⟨tt,⟨tt,⟨tt,⟨⟨(by first | omega | (dsimp only; omega) | decide | (simp only [FcSendv0,len_say]; omega)),trivial⟩,⟨tt,⟨tt,⟨⟨trivial,(h1)⟩,⟨tt,⟨tt,⟨tt,⟨⟨(by first | omega | (dsimp only; omega) | decide | (simp only [FcSendv0,len_say]; omega)),trivial⟩,⟨tt,⟨tt,⟨⟨trivial,(h2)⟩,⟨tt,⟨tt,⟨tt,⟨tt,⟨tt,⟨tt,⟨tt,⟨tt,⟨tt,⟨tt,⟨tt,⟨tt,⟨tt,trivial⟩⟩⟩⟩⟩⟩⟩⟩⟩⟩⟩⟩⟩⟩⟩⟩⟩⟩⟩⟩⟩⟩⟩⟩⟩⟩⟩⟩⟩⟩) ?_
    refine Tri.cond_true (by kernel_rfl) ?_
    refine Tri.seq_region [] none [4] [0,1,2,3] (TT∧True)
      ([(4,.sc (.i .i64 8))],[(0,chC 1 2 3 p0),(1,.ints .u8 p0.wait.length p0.wait),(2,.ints .u8 p0.got.length p0.got),(3,.vec .row p0.out)])
      528 (by kernel_rfl) rfl (by kernel_rfl) (⟨tt,trivial⟩) ?_
    refine Tri.ret ?_
    repeat (first | refine thenP_ret ?_ | refine blkP_ret ?_ | refine countP_ret ?_ | refine joinP_ret ?_ | refine iterP_ret ?_)
    refine subP_done ?_
    refine endP.conv (r':=⟨.sc (.i .i64 8),[some (chC 4 5 6 p0),none,none,none,some (.ints .u8 p0.wait.length p0.wait),some (.ints .u8 p0.got.length p0.got),some (.vec .row p0.out)]⟩) (by simp only [chC,FcSend,FcSend_1,h1,h2,sel_true,sel_false]) ?_
    exact endP.ret [(0,0),(1,4),(2,5),(3,6)] TT (by kernel_rfl) (by kernel_rfl) tt
   ·
    refine Tri.split p0.e0 (fun h3 => ?_) (fun h3 => ?_)
    ·
     refine Tri.seq_region [(14,qb false),(21,qb false),(28,qb true)] none [34,0,1] [0,1,2,3] (TT∧(TT∧(TT∧(TT∧(TT∧(TT∧(((1 < 14)∧True)∧(TT∧(TT∧((True∧(((p0.state:Int) != 2)=false))∧(TT∧(TT∧(TT∧(((8 < 14)∧True)∧(TT∧(TT∧((True∧((!p0.ready)=false))∧(TT∧(TT∧(TT∧((((0:Int)≤0∧0 < ((2:Nat):Int))∧True)∧(((9 < 14)∧True)∧(TT∧((True∧(p0.e0=true))∧(TT∧(TT∧(TT∧(TT∧(TT∧(TT∧True))))))))))))))))))))))))))))))
       ([(34,.sc (.b true)),(0,.sc (.p 0 0)),(1,.sc (.ro .u8 p1))],[(0,chC 1 2 3 p0),(1,.ints .u8 p0.wait.length p0.wait),(2,.ints .u8 p0.got.length p0.got),(3,.vec .row p0.out)])
       512 (by kernel_rfl) rfl (by kernel_rfl) (⟨tt,⟨tt,⟨tt,⟨tt,⟨tt,⟨tt,⟨⟨(by first | omega | (dsimp only; omega) | decide | (simp only [FcSendv0,len_say]; omega)),trivial⟩,⟨tt,⟨tt,⟨⟨trivial,(h1)⟩,⟨tt,⟨tt,⟨tt,⟨⟨(by first | omega | (dsimp only; omega) | decide | (simp only [FcSendv0,len_say]; omega)),trivial⟩,⟨tt,⟨tt,⟨⟨trivial,(h2)⟩,⟨tt,⟨tt,⟨tt,⟨⟨(by first | omega | (dsimp only; omega) | decide | (simp only [FcSendv0,len_say]; omega)),trivial⟩,⟨⟨(by first | omega | (dsimp only; omega) | decide | (simp only [FcSendv0,len_say]; omega)),trivial⟩,⟨tt,⟨⟨trivial,(h3)⟩,⟨tt,⟨tt,⟨tt,⟨tt,⟨tt,⟨tt,trivial⟩⟩⟩⟩⟩⟩⟩⟩⟩⟩⟩⟩⟩⟩⟩⟩⟩⟩⟩⟩⟩⟩⟩⟩⟩⟩⟩⟩⟩⟩) ?_
     refine Tri.cond_true (by kernel_rfl) ?_
     refine Tri.seq_region [] none [4] [0,1,2,3] (TT∧True)
       ([(4,.sc (.i .i64 8))],[(0,chC 1 2 3 p0),(1,.ints .u8 p0.wait.length p0.wait),(2,.ints .u8 p0.got.length p0.got),(3,.vec .row p0.out)])
       528 (by kernel_rfl) rfl (by kernel_rfl) (⟨tt,trivial⟩) ?_
     refine Tri.ret ?_
     repeat (first | refine thenP_ret ?_ | refine blkP_ret ?_ | refine countP_ret ?_ | refine joinP_ret ?_ | refine iterP_ret ?_)
     refine subP_done ?_
     refine endP.conv (r':=⟨.sc (.i .i64 8),[some (chC 4 5 6 p0),none,none,none,some (.ints .u8 p0.wait.length p0.wait),some (.ints .u8 p0.got.length p0.got),some (.vec .row p0.out)]⟩) (by simp only [chC,FcSend,FcSend_1,h1,h2,h3,sel_true,sel_false]) ?_
     exact endP.ret [(0,0),(1,4),(2,5),(3,6)] TT (by kernel_rfl) (by kernel_rfl) tt
    ·
     refine Tri.seq_region [(14,qb false),(21,qb false),(28,qb false)] none [34,0,1] [0,1,2,3] (TT∧(TT∧(TT∧(TT∧(TT∧(TT∧(((1 < 14)∧True)∧(TT∧(TT∧((True∧(((p0.state:Int) != 2)=false))∧(TT∧(TT∧(TT∧(((8 < 14)∧True)∧(TT∧(TT∧((True∧((!p0.ready)=false))∧(TT∧(TT∧(TT∧((((0:Int)≤0∧0 < ((2:Nat):Int))∧True)∧(((9 < 14)∧True)∧(TT∧((True∧(p0.e0=false))∧(TT∧(TT∧(TT∧((((0:Int)≤0∧0 < ((2:Nat):Int))∧True)∧(((11 < 14)∧True)∧(TT∧True))))))))))))))))))))))))))))))
       ([(34,.sc (.b p0.c0)),(0,.sc (.p 0 0)),(1,.sc (.ro .u8 p1))],[(0,chC 1 2 3 p0),(1,.ints .u8 p0.wait.length p0.wait),(2,.ints .u8 p0.got.length p0.got),(3,.vec .row p0.out)])
       512 (by kernel_rfl) rfl (by kernel_rfl) (⟨tt,⟨tt,⟨tt,⟨tt,⟨tt,⟨tt,⟨⟨(by first | omega | (dsimp only; omega) | decide | (simp only [FcSendv0,len_say]; omega)),trivial⟩,⟨tt,⟨tt,⟨⟨trivial,(h1)⟩,⟨tt,⟨tt,⟨tt,⟨⟨(by first | omega | (dsimp only; omega) | decide | (simp only [FcSendv0,len_say]; omega)),trivial⟩,⟨tt,⟨tt,⟨⟨trivial,(h2)⟩,⟨tt,⟨tt,⟨tt,⟨⟨(by first | omega | (dsimp only; omega) | decide | (simp only [FcSendv0,len_say]; omega)),trivial⟩,⟨⟨(by first | omega | (dsimp only; omega) | decide | (simp only [FcSendv0,len_say]; omega)),trivial⟩,⟨tt,⟨⟨trivial,(h3)⟩,⟨tt,⟨tt,⟨tt,⟨⟨(by first | omega | (dsimp only; omega) | decide | (simp only [FcSendv0,len_say]; omega)),trivial⟩,⟨⟨(by first | omega | (dsimp only; omega) | decide | (simp only [FcSendv0,len_say]; omega)),trivial⟩,⟨tt,trivial⟩⟩⟩⟩⟩⟩⟩⟩⟩⟩⟩⟩⟩⟩⟩⟩⟩⟩⟩⟩⟩⟩⟩⟩⟩⟩⟩⟩⟩⟩) ?_
     refine Tri.cond (x:=p0.c0) (by kernel_rfl) (fun h4 => ?_) (fun h4 => ?_)
     ·
      refine Tri.seq_region [] none [4] [0,1,2,3] (TT∧True)
        ([(4,.sc (.i .i64 8))],[(0,chC 1 2 3 p0),(1,.ints .u8 p0.wait.length p0.wait),(2,.ints .u8 p0.got.length p0.got),(3,.vec .row p0.out)])
        528 (by kernel_rfl) rfl (by kernel_rfl) (⟨tt,trivial⟩) ?_
      refine Tri.ret ?_
      repeat (first | refine thenP_ret ?_ | refine blkP_ret ?_ | refine countP_ret ?_ | refine joinP_ret ?_ | refine iterP_ret ?_)
      refine subP_done ?_
      refine endP.conv (r':=⟨.sc (.i .i64 8),[some (chC 4 5 6 p0),none,none,none,some (.ints .u8 p0.wait.length p0.wait),some (.ints .u8 p0.got.length p0.got),some (.vec .row p0.out)]⟩) (by simp only [chC,FcSend,FcSend_1,h1,h2,h3,h4,sel_true,sel_false]) ?_
      exact endP.ret [(0,0),(1,4),(2,5),(3,6)] TT (by kernel_rfl) (by kernel_rfl) tt
     ·
      refine Tri.skip ?_
      change Tri _ _ _ _ _ _
      refine Tri.seq_region [] none [0] [0,608,2,3] (TT∧(TT∧(TT∧(TT∧(((6 < 14)∧True)∧(TT∧((((((True∧(1=1))∧((0 < 1)∧(((p0.wait.length + p1.length) * 1≤140737488355328)∧(p0.wait.length + p1.length≤140737488355328))))∧(p1.length=p1.length * 1))∧((1=1)∧(0 + p0.wait.length * 1=p0.wait.length)))∧True)∧(TT∧(TT∧((((6 < 14)∧(1=1))∧True)∧True))))))))))
        ([(0,.sc (.p 0 0))],[(0,.cells [.b p0.server,.i .i64 p0.state,.i .u32 p0.peer,.i .i64 p0.window,.i .i64 p0.most,.i .i64 p0.room,.sl 608 0 (p0.wait.length + p1.length) 1 none,.sl 2 0 p0.got.length 1 none,.b p0.ready,.b p0.e0,.b p0.e1,.b p0.c0,.b p0.c1,.sl 3 0 p0.out.length 1 none]),(608,.ints .u8 (p0.wait.length + p1.length) (p0.wait ++ p1)),(2,.ints .u8 p0.got.length p0.got),(3,.vec .row p0.out)])
        672 (by kernel_rfl) rfl (by kernel_rfl) (⟨tt,⟨tt,⟨tt,⟨tt,⟨⟨(by first | omega | (dsimp only; omega) | decide | (simp only [FcSendv0,len_say]; omega)),trivial⟩,⟨tt,⟨⟨⟨⟨⟨⟨trivial,(rfl)⟩,⟨(by first | omega | (dsimp only; omega) | decide | (simp only [FcSendv0,len_say]; omega)),⟨(by first | omega | (dsimp only; omega) | decide | (simp only [FcSendv0,len_say]; omega)),(by first | omega | (dsimp only; omega) | decide | (simp only [FcSendv0,len_say]; omega))⟩⟩⟩,(by first | omega | (dsimp only; omega) | decide | (simp only [FcSendv0,len_say]; omega))⟩,⟨(rfl),(by first | omega | (dsimp only; omega) | decide | (simp only [FcSendv0,len_say]; omega))⟩⟩,trivial⟩,⟨tt,⟨tt,⟨⟨⟨(by first | omega | (dsimp only; omega) | decide | (simp only [FcSendv0,len_say]; omega)),(rfl)⟩,trivial⟩,trivial⟩⟩⟩⟩⟩⟩⟩⟩⟩⟩) ?_
      refine Tri.sub (Sub.of_eq (congrArg (fun (qq:Nat) => (([(0,.sc (.p 0 0))],[(0,.cells [.b p0.server,.i .i64 p0.state,.i .u32 p0.peer,.i .i64 p0.window,.i .i64 p0.most,.i .i64 p0.room,.sl 608 0 qq 1 none,.sl 2 0 p0.got.length 1 none,.b p0.ready,.b p0.e0,.b p0.e1,.b p0.c0,.b p0.c1,.sl 3 0 p0.out.length 1 none]),(608,.ints .u8 qq (p0.wait ++ p1)),(2,.ints .u8 p0.got.length p0.got),(3,.vec .row p0.out)]):St)) (show p0.wait.length + p1.length=(p0.wait ++ p1).length from by simp only [List.length_append,List.length_drop,List.length_cons,List.length_nil,Nat.zero_add,Nat.sub_zero,Nat.reduceAdd,bytesI_length]))) ?_
      show Tri _ _ _ _ ([(0,.sc (.p 0 0))],[(0,.cells [.b p0.server,.i .i64 p0.state,.i .u32 p0.peer,.i .i64 p0.window,.i .i64 p0.most,.i .i64 p0.room,.sl 608 0 ((p0.wait ++ p1).length) 1 none,.sl 2 0 p0.got.length 1 none,.b p0.ready,.b p0.e0,.b p0.e1,.b p0.c0,.b p0.c1,.sl 3 0 p0.out.length 1 none]),(608,.ints .u8 ((p0.wait ++ p1).length) (p0.wait ++ p1)),(2,.ints .u8 p0.got.length p0.got),(3,.vec .row p0.out)]) _
      refine Tri.seq_region [] none [] [690,689,688,0] (TT∧(((True∧((chLens (({p0 with wait:=p0.wait ++ p1}:Ch).wait.length) (({p0 with wait:=p0.wait ++ p1}:Ch).got.length) (({p0 with wait:=p0.wait ++ p1}:Ch).out.length) (({p0 with wait:=p0.wait ++ p1}:Ch).wait.length) (({p0 with wait:=p0.wait ++ p1}:Ch).got.length) ({p0 with wait:=p0.wait ++ p1}:Ch))∧(chFlow ({p0 with wait:=p0.wait ++ p1}:Ch))))∧True)∧True))
        ([],[(690,.vec .row ((FcSendv0 p0 p1).out)),(689,.ints .u8 ((FcSendv0 p0 p1).got.length) ((FcSendv0 p0 p1).got)),(688,.ints .u8 ((FcSendv0 p0 p1).wait.length) ((FcSendv0 p0 p1).wait)),(0,chC 688 689 690 (FcSendv0 p0 p1))])
        704 (by kernel_rfl) rfl (by kernel_rfl) (⟨tt,⟨⟨⟨trivial,⟨(chLens_self _),(⟨hC.1.1,hC.1.2.1,hC.1.2.2.1,by show p0.out.length + (p0.wait ++ p1).length≤_; rw [List.length_append]; omega⟩)⟩⟩,trivial⟩,trivial⟩⟩) ?_
      refine Tri.seq_region [] none [4] [690,689,688,0] (TT∧True)
        ([(4,.sc (.i .i64 0))],[(690,.vec .row ((FcSendv0 p0 p1).out)),(689,.ints .u8 ((FcSendv0 p0 p1).got.length) ((FcSendv0 p0 p1).got)),(688,.ints .u8 ((FcSendv0 p0 p1).wait.length) ((FcSendv0 p0 p1).wait)),(0,chC 688 689 690 (FcSendv0 p0 p1))])
        720 (by kernel_rfl) rfl (by kernel_rfl) (⟨tt,trivial⟩) ?_
      refine Tri.ret ?_
      repeat (first | refine thenP_ret ?_ | refine blkP_ret ?_ | refine countP_ret ?_ | refine joinP_ret ?_ | refine iterP_ret ?_)
      refine subP_done ?_
      refine endP.conv (r':=⟨.sc (.i .i64 0),[some (chC 4 5 6 (FcSendv0 p0 p1)),none,none,none,some (.ints .u8 ((FcSendv0 p0 p1).wait.length) ((FcSendv0 p0 p1).wait)),some (.ints .u8 ((FcSendv0 p0 p1).got.length) ((FcSendv0 p0 p1).got)),some (.vec .row ((FcSendv0 p0 p1).out))]⟩) (by simp only [chC,FcSend,FcSend_1,h1,h2,h3,h4,sel_true,sel_false]) ?_
      exact endP.ret [(0,0),(688,4),(689,5),(690,6)] TT (by kernel_rfl) (by kernel_rfl) tt
end Go.Vm
set_option linter.unusedVariables false
set_option linter.unusedSimpArgs false
set_option maxRecDepth 4000
namespace Go.Vm
open Go
noncomputable def Fcbyev0 (p0:Ch):Ch :=
 (Fcsay ({p0 with wait:=([]:List Int),c0:=true}:Ch) (Fctoz ({p0 with wait:=([]:List Int),c0:=true}:Ch) 96))
noncomputable def Fcbyev1 (p0:Ch):Ch :=
 (Fcsay (Fcbyev0 p0) (Fctoz (Fcbyev0 p0) 97))
noncomputable def Fcbyev2 (p0:Ch):Ch :=
 (sel ((Fcbyev1 p0).c1) ({(Fcbyev1 p0) with state:=3}:Ch) (Fcbyev1 p0))
noncomputable def Fcbye (p0:Ch):Ch :=
 (Fcbyev2 p0)
noncomputable def Scbyec (p0:Ch) (y0_n1:Nat) (y0_n2:Nat) (y0_n3:Nat) (y0_m1:Nat) (y0_m2:Nat) :Option (Prop × Ret) :=
 some ((chLens y0_n1 y0_n2 y0_n3 y0_m1 y0_m2 p0∧(p0.out.length≤900000000)),⟨.tup [],[some (chC 4 5 6 (Fcbye p0)),none,none,none,some (.ints .u8 ((Fcbye p0).wait.length) ((Fcbye p0).wait)),some (.ints .u8 ((Fcbye p0).got.length) ((Fcbye p0).got)),some (.vec .row ((Fcbye p0).out))]⟩)
noncomputable def Scbye:List AV→List Blk→Option (Prop × Ret)
 | [.sc (.p 0 0)],[.cells [.b y0_server,.i .i64 y0_state,.i .u32 y0_peer,.i .i64 y0_window,.i .i64 y0_most,.i .i64 y0_room,.sl 1 0 y0_n1 1 none,.sl 2 0 y0_n2 1 none,.b y0_ready,.b y0_e0,.b y0_e1,.b y0_c0,.b y0_c1,.sl 3 0 y0_n3 1 none],.ints .u8 y0_m1 y0_wait,.ints .u8 y0_m2 y0_got,.vec .row y0_out] => Scbyec ⟨y0_server,y0_state,y0_peer,y0_window,y0_most,y0_room,y0_wait,y0_got,y0_ready,y0_e0,y0_e1,y0_c0,y0_c1,y0_out⟩ y0_n1 y0_n2 y0_n3 y0_m1 y0_m2
 | _,_ => none
noncomputable def Bcbye:Bs:={ P:=Go.Proofs.Try.prog,G:=noG,tab:=tabOf [⟨28,224,[.io,.ro .u8],[],[0,160,2,3],⟨4,3,Scsay⟩,false⟩,⟨28,288,[.io,.ro .u8],[],[0,224,225,226],⟨4,3,Scsay⟩,false⟩,⟨40,208,[.io,.val],[],[0,160,2,3],⟨4,0,Sctoz⟩,true⟩,⟨40,272,[.io,.val],[],[0,224,225,226],⟨4,0,Sctoz⟩,true⟩],n:=25 }
theorem Bcbye.ok:Bcbye.Ok:=⟨tabOk (P:=Go.Proofs.Try.prog) (G:=noG) (l:=[⟨28,224,[.io,.ro .u8],[],[0,160,2,3],⟨4,3,Scsay⟩,false⟩,⟨28,288,[.io,.ro .u8],[],[0,224,225,226],⟨4,3,Scsay⟩,false⟩,⟨40,208,[.io,.val],[],[0,160,2,3],⟨4,0,Sctoz⟩,true⟩,⟨40,272,[.io,.val],[],[0,224,225,226],⟨4,0,Sctoz⟩,true⟩]) (And.intro Kcsay (And.intro Kcsay (And.intro Kctoz (And.intro Kctoz True.intro)))),mixed⟩
theorem Kcbye:Known Go.Proofs.Try.prog noG 41 ⟨4,3,Scbye⟩:=by
 refine Known.walk (B:=Bcbye) (fn:=Go.Proofs.Try.f41) Bcbye.ok (by kernel_rfl) rfl (by kernel_rfl) (by kernel_rfl) (by decide) (by decide) ?_
 ·intro E args ks C r h hC hlen
  simp only at h
  unfold Scbye at h
  split at h
  rotate_left
  ·cases h
  rename_i y0_server y0_state y0_peer y0_window y0_most y0_room y0_n1 y0_n2 y0_ready y0_e0 y0_e1 y0_c0 y0_c1 y0_n3 y0_m1 y0_wait y0_m2 y0_got y0_out
  generalize hp0:(⟨y0_server,y0_state,y0_peer,y0_window,y0_most,y0_room,y0_wait,y0_got,y0_ready,y0_e0,y0_e1,y0_c0,y0_c1,y0_out⟩:Ch)=p0 at h
  obtain rfl:y0_server=p0.server:=by rw [← hp0]
  obtain rfl:y0_state=p0.state:=by rw [← hp0]
  obtain rfl:y0_peer=p0.peer:=by rw [← hp0]
  obtain rfl:y0_window=p0.window:=by rw [← hp0]
  obtain rfl:y0_most=p0.most:=by rw [← hp0]
  obtain rfl:y0_room=p0.room:=by rw [← hp0]
  obtain rfl:y0_wait=p0.wait:=by rw [← hp0]
  obtain rfl:y0_got=p0.got:=by rw [← hp0]
  obtain rfl:y0_ready=p0.ready:=by rw [← hp0]
  obtain rfl:y0_e0=p0.e0:=by rw [← hp0]
  obtain rfl:y0_e1=p0.e1:=by rw [← hp0]
  obtain rfl:y0_c0=p0.c0:=by rw [← hp0]
  obtain rfl:y0_c1=p0.c1:=by rw [← hp0]
  obtain rfl:y0_out=p0.out:=by rw [← hp0]
  clear hp0
  unfold Scbyec at h
  cases h
  obtain ⟨⟨rfl,rfl,rfl,rfl,rfl⟩,hC⟩:=hC
  simp only [lens] at hlen
  refine ⟨show 1≤25 from by decide,?_⟩
  refine Tri.sub (Sub.of_eq (show _=([(0,.sc (.p 0 0))],[(0,chC 1 2 3 p0),(1,.ints .u8 p0.wait.length p0.wait),(2,.ints .u8 p0.got.length p0.got),(3,.vec .row p0.out)]) from rfl)) ?_
  refine Tri.subP ?_
  refine Tri.seq_region [] none [0] [0,1,2,3] (TT∧(TT∧(TT∧(TT∧((((0:Int)≤0∧0 < ((2:Nat):Int))∧True)∧((((11 < 14)∧(1=1))∧True)∧(TT∧(TT∧((((6 < 14)∧(1=1))∧True)∧True)))))))))
    ([(0,.sc (.p 0 0))],[(0,.cells [.b p0.server,.i .i64 p0.state,.i .u32 p0.peer,.i .i64 p0.window,.i .i64 p0.most,.i .i64 p0.room,.nils,.sl 2 0 p0.got.length 1 none,.b p0.ready,.b p0.e0,.b p0.e1,.b true,.b p0.c1,.sl 3 0 p0.out.length 1 none]),(1,.ints .u8 p0.wait.length p0.wait),(2,.ints .u8 p0.got.length p0.got),(3,.vec .row p0.out)])
    160 (by kernel_rfl) rfl (by kernel_rfl) (⟨tt,⟨tt,⟨tt,⟨tt,⟨⟨(by first | omega | (dsimp only; omega) | decide | (simp only [Fcbyev0,Fcbyev1,Fcbyev2,len_say]; omega)),trivial⟩,⟨⟨⟨(by first | omega | (dsimp only; omega) | decide | (simp only [Fcbyev0,Fcbyev1,Fcbyev2,len_say]; omega)),(rfl)⟩,trivial⟩,⟨tt,⟨tt,⟨⟨⟨(by first | omega | (dsimp only; omega) | decide | (simp only [Fcbyev0,Fcbyev1,Fcbyev2,len_say]; omega)),(rfl)⟩,trivial⟩,trivial⟩⟩⟩⟩⟩⟩⟩⟩⟩) ?_
  refine Tri.sub (Sub.openC (U:=160) (U':=176) 0 6 160 1 (.ints .u8 0 ([]:List Int)) (l:=[.b p0.server,.i .i64 p0.state,.i .u32 p0.peer,.i .i64 p0.window,.i .i64 p0.most,.i .i64 p0.room,.nils,.sl 2 0 p0.got.length 1 none,.b p0.ready,.b p0.e0,.b p0.e1,.b true,.b p0.c1,.sl 3 0 p0.out.length 1 none]) ⟨rfl,rfl⟩ (by decide) (by kernel_rfl) (by kernel_rfl)) ?_
  refine Tri.sub (Sub.of_eq (congrArg (fun (qq:Nat) => (([(0,.sc (.p 0 0))],[(160,.ints .u8 qq ([]:List Int)),(0,.cells [.b p0.server,.i .i64 p0.state,.i .u32 p0.peer,.i .i64 p0.window,.i .i64 p0.most,.i .i64 p0.room,.sl 160 0 qq 1 none,.sl 2 0 p0.got.length 1 none,.b p0.ready,.b p0.e0,.b p0.e1,.b true,.b p0.c1,.sl 3 0 p0.out.length 1 none]),(1,.ints .u8 p0.wait.length p0.wait),(2,.ints .u8 p0.got.length p0.got),(3,.vec .row p0.out)]):St)) (show 0=([]:List Int).length from by simp only [List.length_append,List.length_drop,List.length_cons,List.length_nil,Nat.zero_add,Nat.sub_zero,Nat.reduceAdd,bytesI_length]))) ?_
  show Tri _ _ _ _ ([(0,.sc (.p 0 0))],[(160,.ints .u8 (([]:List Int).length) ([]:List Int)),(0,.cells [.b p0.server,.i .i64 p0.state,.i .u32 p0.peer,.i .i64 p0.window,.i .i64 p0.most,.i .i64 p0.room,.sl 160 0 (([]:List Int).length) 1 none,.sl 2 0 p0.got.length 1 none,.b p0.ready,.b p0.e0,.b p0.e1,.b true,.b p0.c1,.sl 3 0 p0.out.length 1 none]),(1,.ints .u8 p0.wait.length p0.wait),(2,.ints .u8 p0.got.length p0.got),(3,.vec .row p0.out)]) _
  refine Tri.seq_region [] none [0] [226,225,224,0,1] (TT∧(TT∧((((True∧((chLens (({p0 with wait:=([]:List Int),c0:=true}:Ch).wait.length) (({p0 with wait:=([]:List Int),c0:=true}:Ch).got.length) (({p0 with wait:=([]:List Int),c0:=true}:Ch).out.length) (({p0 with wait:=([]:List Int),c0:=true}:Ch).wait.length) (({p0 with wait:=([]:List Int),c0:=true}:Ch).got.length) ({p0 with wait:=([]:List Int),c0:=true}:Ch))∧True))∧(([some (.cells [.b p0.server,.i .i64 p0.state,.i .u32 p0.peer,.i .i64 p0.window,.i .i64 p0.most,.i .i64 p0.room,.sl 160 0 (([]:List Int).length) 1 none,.sl 2 0 p0.got.length 1 none,.b p0.ready,.b p0.e0,.b p0.e1,.b true,.b p0.c1,.sl 3 0 p0.out.length 1 none]),some (.ints .u8 (([]:List Int).length) ([]:List Int)),some (.ints .u8 p0.got.length p0.got),some (.vec .row p0.out)]:List (Option Blk))=[some (.cells [.b p0.server,.i .i64 p0.state,.i .u32 p0.peer,.i .i64 p0.window,.i .i64 p0.most,.i .i64 p0.room,.sl 160 0 (([]:List Int).length) 1 none,.sl 2 0 p0.got.length 1 none,.b p0.ready,.b p0.e0,.b p0.e1,.b true,.b p0.c1,.sl 3 0 p0.out.length 1 none]),some (.ints .u8 (([]:List Int).length) ([]:List Int)),some (.ints .u8 p0.got.length p0.got),some (.vec .row p0.out)]))∧True)∧(((TT∧((chLens (({p0 with wait:=([]:List Int),c0:=true}:Ch).wait.length) (({p0 with wait:=([]:List Int),c0:=true}:Ch).got.length) (({p0 with wait:=([]:List Int),c0:=true}:Ch).out.length) (({p0 with wait:=([]:List Int),c0:=true}:Ch).wait.length) (({p0 with wait:=([]:List Int),c0:=true}:Ch).got.length) ({p0 with wait:=([]:List Int),c0:=true}:Ch))∧(({p0 with wait:=([]:List Int),c0:=true}:Ch).out.length≤1000000000)))∧True)∧True))))
    ([(0,.sc (.p 0 0))],[(226,.vec .row ((Fcbyev0 p0).out)),(225,.ints .u8 ((Fcbyev0 p0).got.length) ((Fcbyev0 p0).got)),(224,.ints .u8 ((Fcbyev0 p0).wait.length) ((Fcbyev0 p0).wait)),(0,chC 224 225 226 (Fcbyev0 p0)),(1,.ints .u8 p0.wait.length p0.wait)])
    240 (by kernel_rfl) rfl (by kernel_rfl) (⟨tt,⟨tt,⟨⟨⟨⟨trivial,⟨(chLens_self _),trivial⟩⟩,(rfl)⟩,trivial⟩,⟨⟨⟨tt,⟨(chLens_self _),(by first | omega | (dsimp only; omega) | decide | (simp only [Fcbyev0,Fcbyev1,Fcbyev2,len_say]; omega))⟩⟩,trivial⟩,trivial⟩⟩⟩⟩) ?_
  refine Tri.seq_region [] none [0] [290,289,288,0,1] (TT∧(TT∧((((True∧((chLens ((Fcbyev0 p0).wait.length) ((Fcbyev0 p0).got.length) ((Fcbyev0 p0).out.length) ((Fcbyev0 p0).wait.length) ((Fcbyev0 p0).got.length) (Fcbyev0 p0))∧True))∧(([some (chC 224 225 226 (Fcbyev0 p0)),some (.ints .u8 ((Fcbyev0 p0).wait.length) ((Fcbyev0 p0).wait)),some (.ints .u8 ((Fcbyev0 p0).got.length) ((Fcbyev0 p0).got)),some (.vec .row ((Fcbyev0 p0).out))]:List (Option Blk))=[some (chC 224 225 226 (Fcbyev0 p0)),some (.ints .u8 ((Fcbyev0 p0).wait.length) ((Fcbyev0 p0).wait)),some (.ints .u8 ((Fcbyev0 p0).got.length) ((Fcbyev0 p0).got)),some (.vec .row ((Fcbyev0 p0).out))]))∧True)∧(((TT∧((chLens ((Fcbyev0 p0).wait.length) ((Fcbyev0 p0).got.length) ((Fcbyev0 p0).out.length) ((Fcbyev0 p0).wait.length) ((Fcbyev0 p0).got.length) (Fcbyev0 p0))∧((Fcbyev0 p0).out.length≤1000000000)))∧True)∧True))))
    ([(0,.sc (.p 0 0))],[(290,.vec .row ((Fcbyev1 p0).out)),(289,.ints .u8 ((Fcbyev1 p0).got.length) ((Fcbyev1 p0).got)),(288,.ints .u8 ((Fcbyev1 p0).wait.length) ((Fcbyev1 p0).wait)),(0,chC 288 289 290 (Fcbyev1 p0)),(1,.ints .u8 p0.wait.length p0.wait)])
    304 (by kernel_rfl) rfl (by kernel_rfl) (⟨tt,⟨tt,⟨⟨⟨⟨trivial,⟨(chLens_self _),trivial⟩⟩,(rfl)⟩,trivial⟩,⟨⟨⟨tt,⟨(chLens_self _),(by first | omega | (dsimp only; omega) | decide | (simp only [Fcbyev0,Fcbyev1,Fcbyev2,len_say]; omega))⟩⟩,trivial⟩,trivial⟩⟩⟩⟩) ?_
  refine Tri.seq_region [] none [21,0] [290,289,288,0,1] (TT∧(TT∧(TT∧((((0:Int)≤1∧1 < ((2:Nat):Int))∧True)∧(((12 < 14)∧True)∧True)))))
    ([(21,.sc (.b ((Fcbyev1 p0).c1))),(0,.sc (.p 0 0))],[(290,.vec .row ((Fcbyev1 p0).out)),(289,.ints .u8 ((Fcbyev1 p0).got.length) ((Fcbyev1 p0).got)),(288,.ints .u8 ((Fcbyev1 p0).wait.length) ((Fcbyev1 p0).wait)),(0,chC 288 289 290 (Fcbyev1 p0)),(1,.ints .u8 p0.wait.length p0.wait)])
    384 (by kernel_rfl) rfl (by kernel_rfl) (⟨tt,⟨tt,⟨tt,⟨⟨(by first | omega | (dsimp only; omega) | decide | (simp only [Fcbyev0,Fcbyev1,Fcbyev2,len_say]; omega)),trivial⟩,⟨⟨(by first | omega | (dsimp only; omega) | decide | (simp only [Fcbyev0,Fcbyev1,Fcbyev2,len_say]; omega)),trivial⟩,trivial⟩⟩⟩⟩⟩) ?_
  refine Tri.join (x:=(Fcbyev1 p0).c1) (fun bb => ([],[(0,chC 288 289 290 (sel bb ({(Fcbyev1 p0) with state:=3}:Ch) (Fcbyev1 p0))),(290,.vec .row ((sel bb ({(Fcbyev1 p0) with state:=3}:Ch) (Fcbyev1 p0)).out)),(289,.ints .u8 ((sel bb ({(Fcbyev1 p0) with state:=3}:Ch) (Fcbyev1 p0)).got.length) ((sel bb ({(Fcbyev1 p0) with state:=3}:Ch) (Fcbyev1 p0)).got)),(288,.ints .u8 ((sel bb ({(Fcbyev1 p0) with state:=3}:Ch) (Fcbyev1 p0)).wait.length) ((sel bb ({(Fcbyev1 p0) with state:=3}:Ch) (Fcbyev1 p0)).wait)),(1,.ints .u8 p0.wait.length p0.wait)])) 448 (by kernel_rfl) (fun h1 => ?_) (fun h1 => ?_) ?_
  ·
   refine Tri.region' [] none [] [0,290,289,288,1] (TT∧(TT∧(TT∧((((1 < 14)∧(1=1))∧True)∧True))))
     ([],[(0,.cells [.b ((Fcbyev1 p0).server),.i .i64 3,.i .u32 ((Fcbyev1 p0).peer),.i .i64 ((Fcbyev1 p0).window),.i .i64 ((Fcbyev1 p0).most),.i .i64 ((Fcbyev1 p0).room),.sl 288 0 ((Fcbyev1 p0).wait.length) 1 none,.sl 289 0 ((Fcbyev1 p0).got.length) 1 none,.b ((Fcbyev1 p0).ready),.b ((Fcbyev1 p0).e0),.b ((Fcbyev1 p0).e1),.b ((Fcbyev1 p0).c0),.b ((Fcbyev1 p0).c1),.sl 290 0 ((Fcbyev1 p0).out.length) 1 none]),(290,.vec .row ((Fcbyev1 p0).out)),(289,.ints .u8 ((Fcbyev1 p0).got.length) ((Fcbyev1 p0).got)),(288,.ints .u8 ((Fcbyev1 p0).wait.length) ((Fcbyev1 p0).wait)),(1,.ints .u8 p0.wait.length p0.wait)])
     448 (by kernel_rfl) rfl (by kernel_rfl) (⟨tt,⟨tt,⟨tt,⟨⟨⟨(by first | omega | (dsimp only; omega) | decide | (simp only [Fcbyev0,Fcbyev1,Fcbyev2,len_say]; omega)),(rfl)⟩,trivial⟩,trivial⟩⟩⟩⟩) ?_
   exact (Sub.ren (ns:=[(0,0),(290,290),(289,289),(288,288),(1,1)]) (kf:=[]) (s':=([],[(0,.cells [.b ((Fcbyev1 p0).server),.i .i64 3,.i .u32 ((Fcbyev1 p0).peer),.i .i64 ((Fcbyev1 p0).window),.i .i64 ((Fcbyev1 p0).most),.i .i64 ((Fcbyev1 p0).room),.sl 288 0 ((Fcbyev1 p0).wait.length) 1 none,.sl 289 0 ((Fcbyev1 p0).got.length) 1 none,.b ((Fcbyev1 p0).ready),.b ((Fcbyev1 p0).e0),.b ((Fcbyev1 p0).e1),.b ((Fcbyev1 p0).c0),.b ((Fcbyev1 p0).c1),.sl 290 0 ((Fcbyev1 p0).out.length) 1 none]),(290,.vec .row ((Fcbyev1 p0).out)),(289,.ints .u8 ((Fcbyev1 p0).got.length) ((Fcbyev1 p0).got)),(288,.ints .u8 ((Fcbyev1 p0).wait.length) ((Fcbyev1 p0).wait)),(1,.ints .u8 p0.wait.length p0.wait)])) (by kernel_rfl) (by kernel_rfl)).trans (Sub.of_eq (by simp only [chC,sel_true,sel_false]))
  ·
   refine Tri.skip ?_
   exact (Sub.ren (ns:=[(0,0),(290,290),(289,289),(288,288),(1,1)]) (kf:=[]) (s':=([],[(0,chC 288 289 290 (Fcbyev1 p0)),(290,.vec .row ((Fcbyev1 p0).out)),(289,.ints .u8 ((Fcbyev1 p0).got.length) ((Fcbyev1 p0).got)),(288,.ints .u8 ((Fcbyev1 p0).wait.length) ((Fcbyev1 p0).wait)),(1,.ints .u8 p0.wait.length p0.wait)])) (by kernel_rfl) (by kernel_rfl)).trans (Sub.of_eq (by simp only [chC,sel_true,sel_false]))
  ·
   show subP _ _ _ _
   repeat (first | refine thenP_ret ?_ | refine blkP_ret ?_ | refine countP_ret ?_ | refine joinP_ret ?_ | refine iterP_ret ?_)
   refine subP_done ?_
   exact endP.nret [(0,0),(288,4),(289,5),(290,6)] True (by kernel_rfl) (by kernel_rfl) trivial
noncomputable def FcClose (p0:Ch):Int :=
 (sel ((p0.state:Int) != 2) 8 (sel p0.c0 8 0))
noncomputable def FcClose_1 (p0:Ch):Ch :=
 (sel ((p0.state:Int) != 2) p0 (sel p0.c0 p0 (Fcbye p0)))
noncomputable def ScClosec (p0:Ch) (y0_n1:Nat) (y0_n2:Nat) (y0_n3:Nat) (y0_m1:Nat) (y0_m2:Nat) :Option (Prop × Ret) :=
 some ((chLens y0_n1 y0_n2 y0_n3 y0_m1 y0_m2 p0∧(p0.out.length≤900000000)),⟨.sc (.i .i64 (FcClose p0)),[some (chC 4 5 6 (FcClose_1 p0)),none,none,none,some (.ints .u8 ((FcClose_1 p0).wait.length) ((FcClose_1 p0).wait)),some (.ints .u8 ((FcClose_1 p0).got.length) ((FcClose_1 p0).got)),some (.vec .row ((FcClose_1 p0).out))]⟩)
noncomputable def ScClose:List AV→List Blk→Option (Prop × Ret)
 | [.sc (.p 0 0)],[.cells [.b y0_server,.i .i64 y0_state,.i .u32 y0_peer,.i .i64 y0_window,.i .i64 y0_most,.i .i64 y0_room,.sl 1 0 y0_n1 1 none,.sl 2 0 y0_n2 1 none,.b y0_ready,.b y0_e0,.b y0_e1,.b y0_c0,.b y0_c1,.sl 3 0 y0_n3 1 none],.ints .u8 y0_m1 y0_wait,.ints .u8 y0_m2 y0_got,.vec .row y0_out] => ScClosec ⟨y0_server,y0_state,y0_peer,y0_window,y0_most,y0_room,y0_wait,y0_got,y0_ready,y0_e0,y0_e1,y0_c0,y0_c1,y0_out⟩ y0_n1 y0_n2 y0_n3 y0_m1 y0_m2
 | _,_ => none
noncomputable def BcClose:Bs:={ P:=Go.Proofs.Try.prog,G:=noG,tab:=tabOf [⟨41,304,[.io],[],[0,1,2,3],⟨4,3,Scbye⟩,false⟩],n:=21 }
theorem BcClose.ok:BcClose.Ok:=⟨tabOk (P:=Go.Proofs.Try.prog) (G:=noG) (l:=[⟨41,304,[.io],[],[0,1,2,3],⟨4,3,Scbye⟩,false⟩]) (And.intro Kcbye True.intro),mixed⟩
theorem KcClose:Known Go.Proofs.Try.prog noG 27 ⟨4,3,ScClose⟩:=by
 refine Known.walk (B:=BcClose) (fn:=Go.Proofs.Try.f27) BcClose.ok (by kernel_rfl) rfl (by kernel_rfl) (by kernel_rfl) (by decide) (by decide) ?_
 ·intro E args ks C r h hC hlen
  simp only at h
  unfold ScClose at h
  split at h
  rotate_left
  ·cases h
  rename_i y0_server y0_state y0_peer y0_window y0_most y0_room y0_n1 y0_n2 y0_ready y0_e0 y0_e1 y0_c0 y0_c1 y0_n3 y0_m1 y0_wait y0_m2 y0_got y0_out
  generalize hp0:(⟨y0_server,y0_state,y0_peer,y0_window,y0_most,y0_room,y0_wait,y0_got,y0_ready,y0_e0,y0_e1,y0_c0,y0_c1,y0_out⟩:Ch)=p0 at h
  obtain rfl:y0_server=p0.server:=by rw [← hp0]
  obtain rfl:y0_state=p0.state:=by rw [← hp0]
  obtain rfl:y0_peer=p0.peer:=by rw [← hp0]
  obtain rfl:y0_window=p0.window:=by rw [← hp0]
  obtain rfl:y0_most=p0.most:=by rw [← hp0]
  obtain rfl:y0_room=p0.room:=by rw [← hp0]
  obtain rfl:y0_wait=p0.wait:=by rw [← hp0]
  obtain rfl:y0_got=p0.got:=by rw [← hp0]
  obtain rfl:y0_ready=p0.ready:=by rw [← hp0]
  obtain rfl:y0_e0=p0.e0:=by rw [← hp0]
  obtain rfl:y0_e1=p0.e1:=by rw [← hp0]
  obtain rfl:y0_c0=p0.c0:=by rw [← hp0]
  obtain rfl:y0_c1=p0.c1:=by rw [← hp0]
  obtain rfl:y0_out=p0.out:=by rw [← hp0]
  clear hp0
  unfold ScClosec at h
  cases h
  obtain ⟨⟨rfl,rfl,rfl,rfl,rfl⟩,hC⟩:=hC
  simp only [lens] at hlen
  refine ⟨show 1≤21 from by decide,?_⟩
  refine Tri.sub (Sub.of_eq (show _=([(0,.sc (.p 0 0))],[(0,chC 1 2 3 p0),(1,.ints .u8 p0.wait.length p0.wait),(2,.ints .u8 p0.got.length p0.got),(3,.vec .row p0.out)]) from rfl)) ?_
  refine Tri.subP ?_
  refine Tri.seq_region [] none [0] [0,1,2,3] (TT∧True)
    ([(0,.sc (.p 0 0))],[(0,chC 1 2 3 p0),(1,.ints .u8 p0.wait.length p0.wait),(2,.ints .u8 p0.got.length p0.got),(3,.vec .row p0.out)])
    32 (by kernel_rfl) rfl (by kernel_rfl) (⟨tt,trivial⟩) ?_
  refine Tri.seq ?_
  refine Tri.split ((p0.state:Int) != 2) (fun h1 => ?_) (fun h1 => ?_)
  ·
   have h1':=ne_true_i h1
   refine Tri.seq_region [(12,qb true)] none [18,0] [0,1,2,3] (TT∧(TT∧(TT∧(TT∧(TT∧(TT∧(((1 < 14)∧True)∧(TT∧(TT∧((True∧(((p0.state:Int) != 2)=true))∧(TT∧(TT∧(TT∧(TT∧(TT∧(TT∧True))))))))))))))))
     ([(18,.sc (.b true)),(0,.sc (.p 0 0))],[(0,chC 1 2 3 p0),(1,.ints .u8 p0.wait.length p0.wait),(2,.ints .u8 p0.got.length p0.got),(3,.vec .row p0.out)])
     288 (by kernel_rfl) rfl (by kernel_rfl) (⟨tt,⟨tt,⟨tt,⟨tt,⟨tt,⟨tt,⟨⟨(by first | omega | (dsimp only; omega) | decide | (simp only [len_say]; omega)),trivial⟩,⟨tt,⟨tt,⟨⟨trivial,(h1)⟩,⟨tt,⟨tt,⟨tt,⟨tt,⟨tt,⟨tt,trivial⟩⟩⟩⟩⟩⟩⟩⟩⟩⟩⟩⟩⟩⟩⟩⟩) ?_
   refine Tri.cond_true (by kernel_rfl) ?_
   refine Tri.seq_region [] none [2] [0,1,2,3] (TT∧True)
     ([(2,.sc (.i .i64 8))],[(0,chC 1 2 3 p0),(1,.ints .u8 p0.wait.length p0.wait),(2,.ints .u8 p0.got.length p0.got),(3,.vec .row p0.out)])
     304 (by kernel_rfl) rfl (by kernel_rfl) (⟨tt,trivial⟩) ?_
   refine Tri.ret ?_
   repeat (first | refine thenP_ret ?_ | refine blkP_ret ?_ | refine countP_ret ?_ | refine joinP_ret ?_ | refine iterP_ret ?_)
   refine subP_done ?_
   refine endP.conv (r':=⟨.sc (.i .i64 8),[some (chC 4 5 6 p0),none,none,none,some (.ints .u8 p0.wait.length p0.wait),some (.ints .u8 p0.got.length p0.got),some (.vec .row p0.out)]⟩) (by simp only [chC,FcClose,FcClose_1,h1,sel_true,sel_false]) ?_
   exact endP.ret [(0,0),(1,4),(2,5),(3,6)] TT (by kernel_rfl) (by kernel_rfl) tt
  ·
   have h1':=ne_false_i h1
   refine Tri.seq_region [(12,qb false)] none [18,0] [0,1,2,3] (TT∧(TT∧(TT∧(TT∧(TT∧(TT∧(((1 < 14)∧True)∧(TT∧(TT∧((True∧(((p0.state:Int) != 2)=false))∧(TT∧(TT∧(TT∧((((0:Int)≤0∧0 < ((2:Nat):Int))∧True)∧(((11 < 14)∧True)∧(TT∧True))))))))))))))))
     ([(18,.sc (.b p0.c0)),(0,.sc (.p 0 0))],[(0,chC 1 2 3 p0),(1,.ints .u8 p0.wait.length p0.wait),(2,.ints .u8 p0.got.length p0.got),(3,.vec .row p0.out)])
     288 (by kernel_rfl) rfl (by kernel_rfl) (⟨tt,⟨tt,⟨tt,⟨tt,⟨tt,⟨tt,⟨⟨(by first | omega | (dsimp only; omega) | decide | (simp only [len_say]; omega)),trivial⟩,⟨tt,⟨tt,⟨⟨trivial,(h1)⟩,⟨tt,⟨tt,⟨tt,⟨⟨(by first | omega | (dsimp only; omega) | decide | (simp only [len_say]; omega)),trivial⟩,⟨⟨(by first | omega | (dsimp only; omega) | decide | (simp only [len_say]; omega)),trivial⟩,⟨tt,trivial⟩⟩⟩⟩⟩⟩⟩⟩⟩⟩⟩⟩⟩⟩⟩⟩) ?_
   refine Tri.cond (x:=p0.c0) (by kernel_rfl) (fun h2 => ?_) (fun h2 => ?_)
   ·
    refine Tri.seq_region [] none [2] [0,1,2,3] (TT∧True)
      ([(2,.sc (.i .i64 8))],[(0,chC 1 2 3 p0),(1,.ints .u8 p0.wait.length p0.wait),(2,.ints .u8 p0.got.length p0.got),(3,.vec .row p0.out)])
      304 (by kernel_rfl) rfl (by kernel_rfl) (⟨tt,trivial⟩) ?_
    refine Tri.ret ?_
    repeat (first | refine thenP_ret ?_ | refine blkP_ret ?_ | refine countP_ret ?_ | refine joinP_ret ?_ | refine iterP_ret ?_)
    refine subP_done ?_
    refine endP.conv (r':=⟨.sc (.i .i64 8),[some (chC 4 5 6 p0),none,none,none,some (.ints .u8 p0.wait.length p0.wait),some (.ints .u8 p0.got.length p0.got),some (.vec .row p0.out)]⟩) (by simp only [chC,FcClose,FcClose_1,h1,h2,sel_true,sel_false]) ?_
    exact endP.ret [(0,0),(1,4),(2,5),(3,6)] TT (by kernel_rfl) (by kernel_rfl) tt
   ·
    refine Tri.skip ?_
    change Tri _ _ _ _ _ _
    refine Tri.seq_region [] none [] [306,305,304,0] (TT∧(((True∧((chLens p0.wait.length p0.got.length p0.out.length p0.wait.length p0.got.length p0)∧(p0.out.length≤900000000)))∧True)∧True))
      ([],[(306,.vec .row ((Fcbye p0).out)),(305,.ints .u8 ((Fcbye p0).got.length) ((Fcbye p0).got)),(304,.ints .u8 ((Fcbye p0).wait.length) ((Fcbye p0).wait)),(0,chC 304 305 306 (Fcbye p0))])
      320 (by kernel_rfl) rfl (by kernel_rfl) (⟨tt,⟨⟨⟨trivial,⟨(chLens_self _),(by first | omega | (dsimp only; omega) | decide | (simp only [len_say]; omega))⟩⟩,trivial⟩,trivial⟩⟩) ?_
    refine Tri.seq_region [] none [2] [306,305,304,0] (TT∧True)
      ([(2,.sc (.i .i64 0))],[(306,.vec .row ((Fcbye p0).out)),(305,.ints .u8 ((Fcbye p0).got.length) ((Fcbye p0).got)),(304,.ints .u8 ((Fcbye p0).wait.length) ((Fcbye p0).wait)),(0,chC 304 305 306 (Fcbye p0))])
      336 (by kernel_rfl) rfl (by kernel_rfl) (⟨tt,trivial⟩) ?_
    refine Tri.ret ?_
    repeat (first | refine thenP_ret ?_ | refine blkP_ret ?_ | refine countP_ret ?_ | refine joinP_ret ?_ | refine iterP_ret ?_)
    refine subP_done ?_
    refine endP.conv (r':=⟨.sc (.i .i64 0),[some (chC 4 5 6 (Fcbye p0)),none,none,none,some (.ints .u8 ((Fcbye p0).wait.length) ((Fcbye p0).wait)),some (.ints .u8 ((Fcbye p0).got.length) ((Fcbye p0).got)),some (.vec .row ((Fcbye p0).out))]⟩) (by simp only [chC,FcClose,FcClose_1,h1,h2,sel_true,sel_false]) ?_
    exact endP.ret [(0,0),(304,4),(305,5),(306,6)] TT (by kernel_rfl) (by kernel_rfl) tt
noncomputable def FcRecvv0 (p0:Ch):Ch :=
 (Fcsay ({p0 with room:=(iAdd .i64 p0.room ((p0.got.length:Nat):Int)),got:=([]:List Int)}:Ch) (FwwU32z (1 + 4) (Fcto ({p0 with room:=(iAdd .i64 p0.room ((p0.got.length:Nat):Int)),got:=([]:List Int)}:Ch) 93) (IntKind.wrap .u32 ((p0.got.length:Nat):Int))))
noncomputable def FcRecv (p0:Ch):Ch :=
 (sel (decide ((((p0.got.length:Nat):Int):Int) > 0)) (sel ((p0.state:Int) == 2) (sel (!p0.c0) (FcRecvv0 p0) ({p0 with got:=([]:List Int)}:Ch)) ({p0 with got:=([]:List Int)}:Ch)) ({p0 with got:=([]:List Int)}:Ch))
noncomputable def FcRecv_1 (p0:Ch):List Int :=
 p0.got
noncomputable def ScRecvc (p0:Ch) (y0_n1:Nat) (y0_n2:Nat) (y0_n3:Nat) (y0_m1:Nat) (y0_m2:Nat) :Option (Prop × Ret) :=
 some ((chLens y0_n1 y0_n2 y0_n3 y0_m1 y0_m2 p0∧(p0.out.length≤900000000)),⟨.sc (.sl 7 0 p0.got.length 1 none),[some (chC 4 5 6 (FcRecv p0)),none,none,none,some (.ints .u8 ((FcRecv p0).wait.length) ((FcRecv p0).wait)),some (.ints .u8 ((FcRecv p0).got.length) ((FcRecv p0).got)),some (.vec .row ((FcRecv p0).out)),some (.ints .u8 p0.got.length (FcRecv_1 p0))]⟩)
noncomputable def ScRecv:List AV→List Blk→Option (Prop × Ret)
 | [.sc (.p 0 0)],[.cells [.b y0_server,.i .i64 y0_state,.i .u32 y0_peer,.i .i64 y0_window,.i .i64 y0_most,.i .i64 y0_room,.sl 1 0 y0_n1 1 none,.sl 2 0 y0_n2 1 none,.b y0_ready,.b y0_e0,.b y0_e1,.b y0_c0,.b y0_c1,.sl 3 0 y0_n3 1 none],.ints .u8 y0_m1 y0_wait,.ints .u8 y0_m2 y0_got,.vec .row y0_out] => ScRecvc ⟨y0_server,y0_state,y0_peer,y0_window,y0_most,y0_room,y0_wait,y0_got,y0_ready,y0_e0,y0_e1,y0_c0,y0_c1,y0_out⟩ y0_n1 y0_n2 y0_n3 y0_m1 y0_m2
 | _,_ => none
noncomputable def BcRecv:Bs:={ P:=Go.Proofs.Try.prog,G:=noG,tab:=tabOf [⟨28,784,[.io,.ro .u8],[],[0,1,208,3],⟨4,3,Scsay⟩,false⟩,⟨29,768,[.io,.val],[],[720],⟨1,0,SwwU32z⟩,false⟩,⟨40,720,[.io,.val],[],[0,1,208,3],⟨4,1,Scto⟩,true⟩],n:=49 }
theorem BcRecv.ok:BcRecv.Ok:=⟨tabOk (P:=Go.Proofs.Try.prog) (G:=noG) (l:=[⟨28,784,[.io,.ro .u8],[],[0,1,208,3],⟨4,3,Scsay⟩,false⟩,⟨29,768,[.io,.val],[],[720],⟨1,0,SwwU32z⟩,false⟩,⟨40,720,[.io,.val],[],[0,1,208,3],⟨4,1,Scto⟩,true⟩]) (And.intro Kcsay (And.intro KwwU32z (And.intro Kcto True.intro))),mixed⟩
theorem KcRecv:Known Go.Proofs.Try.prog noG 26 ⟨4,4,ScRecv⟩:=by
 refine Known.walk (B:=BcRecv) (fn:=Go.Proofs.Try.f26) BcRecv.ok (by kernel_rfl) rfl (by kernel_rfl) (by kernel_rfl) (by decide) (by decide) ?_
 ·intro E args ks C r h hC hlen
  simp only at h
  unfold ScRecv at h
  split at h
  rotate_left
  ·cases h
  rename_i y0_server y0_state y0_peer y0_window y0_most y0_room y0_n1 y0_n2 y0_ready y0_e0 y0_e1 y0_c0 y0_c1 y0_n3 y0_m1 y0_wait y0_m2 y0_got y0_out
  generalize hp0:(⟨y0_server,y0_state,y0_peer,y0_window,y0_most,y0_room,y0_wait,y0_got,y0_ready,y0_e0,y0_e1,y0_c0,y0_c1,y0_out⟩:Ch)=p0 at h
  obtain rfl:y0_server=p0.server:=by rw [← hp0]
  obtain rfl:y0_state=p0.state:=by rw [← hp0]
  obtain rfl:y0_peer=p0.peer:=by rw [← hp0]
  obtain rfl:y0_window=p0.window:=by rw [← hp0]
  obtain rfl:y0_most=p0.most:=by rw [← hp0]
  obtain rfl:y0_room=p0.room:=by rw [← hp0]
  obtain rfl:y0_wait=p0.wait:=by rw [← hp0]
  obtain rfl:y0_got=p0.got:=by rw [← hp0]
  obtain rfl:y0_ready=p0.ready:=by rw [← hp0]
  obtain rfl:y0_e0=p0.e0:=by rw [← hp0]
  obtain rfl:y0_e1=p0.e1:=by rw [← hp0]
  obtain rfl:y0_c0=p0.c0:=by rw [← hp0]
  obtain rfl:y0_c1=p0.c1:=by rw [← hp0]
  obtain rfl:y0_out=p0.out:=by rw [← hp0]
  clear hp0
  unfold ScRecvc at h
  cases h
  obtain ⟨⟨rfl,rfl,rfl,rfl,rfl⟩,hC⟩:=hC
  simp only [lens] at hlen
  refine ⟨show 1≤49 from by decide,?_⟩
  refine Tri.sub (Sub.of_eq (show _=([(0,.sc (.p 0 0))],[(0,chC 1 2 3 p0),(1,.ints .u8 p0.wait.length p0.wait),(2,.ints .u8 p0.got.length p0.got),(3,.vec .row p0.out)]) from rfl)) ?_
  refine Tri.subP ?_
  refine Tri.seq_region [] none [0] [0,1,2,3] (TT∧True)
    ([(0,.sc (.p 0 0))],[(0,chC 1 2 3 p0),(1,.ints .u8 p0.wait.length p0.wait),(2,.ints .u8 p0.got.length p0.got),(3,.vec .row p0.out)])
    32 (by kernel_rfl) rfl (by kernel_rfl) (⟨tt,trivial⟩) ?_
  refine Tri.seq ?_
  refine Tri.seq_region [] none [6,0] [0,1,2,3] (TT∧(TT∧True))
    ([(6,.sc (.b false)),(0,.sc (.p 0 0))],[(0,chC 1 2 3 p0),(1,.ints .u8 p0.wait.length p0.wait),(2,.ints .u8 p0.got.length p0.got),(3,.vec .row p0.out)])
    64 (by kernel_rfl) rfl (by kernel_rfl) (⟨tt,⟨tt,trivial⟩⟩) ?_
  refine Tri.cond_false (by kernel_rfl) ?_
  refine Tri.skip ?_
  change Tri _ _ _ _ _ _
  refine Tri.seq_region [] none [3,0] [0,1,2,3] (TT∧(TT∧(TT∧(((7 < 14)∧True)∧(TT∧True)))))
    ([(3,.sc (.sl 2 0 p0.got.length 1 none)),(0,.sc (.p 0 0))],[(0,chC 1 2 3 p0),(1,.ints .u8 p0.wait.length p0.wait),(2,.ints .u8 p0.got.length p0.got),(3,.vec .row p0.out)])
    144 (by kernel_rfl) rfl (by kernel_rfl) (⟨tt,⟨tt,⟨tt,⟨⟨(by first | omega | (dsimp only; omega) | decide | (simp only [FcRecvv0,len_say]; omega)),trivial⟩,⟨tt,trivial⟩⟩⟩⟩⟩) ?_
  refine Tri.seq_region [] none [3,0] [0,1,2,3] (TT∧(TT∧(TT∧((((7 < 14)∧(1=1))∧True)∧True))))
    ([(3,.sc (.sl 2 0 p0.got.length 1 none)),(0,.sc (.p 0 0))],[(0,.cells [.b p0.server,.i .i64 p0.state,.i .u32 p0.peer,.i .i64 p0.window,.i .i64 p0.most,.i .i64 p0.room,.sl 1 0 p0.wait.length 1 none,.nils,.b p0.ready,.b p0.e0,.b p0.e1,.b p0.c0,.b p0.c1,.sl 3 0 p0.out.length 1 none]),(1,.ints .u8 p0.wait.length p0.wait),(2,.ints .u8 p0.got.length p0.got),(3,.vec .row p0.out)])
    208 (by kernel_rfl) rfl (by kernel_rfl) (⟨tt,⟨tt,⟨tt,⟨⟨⟨(by first | omega | (dsimp only; omega) | decide | (simp only [FcRecvv0,len_say]; omega)),(rfl)⟩,trivial⟩,trivial⟩⟩⟩⟩) ?_
  refine Tri.seq ?_
  refine Tri.sub (Sub.openC (U:=208) (U':=224) 0 7 208 1 (.ints .u8 0 ([]:List Int)) (l:=[.b p0.server,.i .i64 p0.state,.i .u32 p0.peer,.i .i64 p0.window,.i .i64 p0.most,.i .i64 p0.room,.sl 1 0 p0.wait.length 1 none,.nils,.b p0.ready,.b p0.e0,.b p0.e1,.b p0.c0,.b p0.c1,.sl 3 0 p0.out.length 1 none]) ⟨rfl,rfl⟩ (by decide) (by kernel_rfl) (by kernel_rfl)) ?_
  refine Tri.sub (Sub.of_eq (congrArg (fun (qq:Nat) => (([(3,.sc (.sl 2 0 p0.got.length 1 none)),(0,.sc (.p 0 0))],[(208,.ints .u8 qq ([]:List Int)),(0,.cells [.b p0.server,.i .i64 p0.state,.i .u32 p0.peer,.i .i64 p0.window,.i .i64 p0.most,.i .i64 p0.room,.sl 1 0 p0.wait.length 1 none,.sl 208 0 qq 1 none,.b p0.ready,.b p0.e0,.b p0.e1,.b p0.c0,.b p0.c1,.sl 3 0 p0.out.length 1 none]),(1,.ints .u8 p0.wait.length p0.wait),(2,.ints .u8 p0.got.length p0.got),(3,.vec .row p0.out)]):St)) (show 0=([]:List Int).length from by simp only [List.length_append,List.length_drop,List.length_cons,List.length_nil,Nat.zero_add,Nat.sub_zero,Nat.reduceAdd,bytesI_length]))) ?_
  show Tri _ _ _ _ ([(3,.sc (.sl 2 0 p0.got.length 1 none)),(0,.sc (.p 0 0))],[(208,.ints .u8 (([]:List Int).length) ([]:List Int)),(0,.cells [.b p0.server,.i .i64 p0.state,.i .u32 p0.peer,.i .i64 p0.window,.i .i64 p0.most,.i .i64 p0.room,.sl 1 0 p0.wait.length 1 none,.sl 208 0 (([]:List Int).length) 1 none,.b p0.ready,.b p0.e0,.b p0.e1,.b p0.c0,.b p0.c1,.sl 3 0 p0.out.length 1 none]),(1,.ints .u8 p0.wait.length p0.wait),(2,.ints .u8 p0.got.length p0.got),(3,.vec .row p0.out)]) _
  refine Tri.seq_region [] none [4,3,0] [208,0,1,2,3] (TT∧(TT∧(TT∧True)))
    ([(4,.sc (.i .i64 ((p0.got.length:Nat):Int))),(3,.sc (.sl 2 0 p0.got.length 1 none)),(0,.sc (.p 0 0))],[(208,.ints .u8 (([]:List Int).length) ([]:List Int)),(0,.cells [.b p0.server,.i .i64 p0.state,.i .u32 p0.peer,.i .i64 p0.window,.i .i64 p0.most,.i .i64 p0.room,.sl 1 0 p0.wait.length 1 none,.sl 208 0 (([]:List Int).length) 1 none,.b p0.ready,.b p0.e0,.b p0.e1,.b p0.c0,.b p0.c1,.sl 3 0 p0.out.length 1 none]),(1,.ints .u8 p0.wait.length p0.wait),(2,.ints .u8 p0.got.length p0.got),(3,.vec .row p0.out)])
    272 (by kernel_rfl) rfl (by kernel_rfl) (⟨tt,⟨tt,⟨tt,trivial⟩⟩⟩) ?_
  refine Tri.split (decide ((((p0.got.length:Nat):Int):Int) > 0)) (fun h1 => ?_) (fun h1 => ?_)
  ·
   have h1':=of_decide_eq_true h1
   refine Tri.split ((p0.state:Int) == 2) (fun h2 => ?_) (fun h2 => ?_)
   ·
    have h2':=eq_true_i h2
    refine Tri.seq_region [(18,qb true),(25,qb true)] none [32,4,3,0] [208,0,1,2,3] (TT∧(TT∧((True∧((decide ((((p0.got.length:Nat):Int):Int) > 0))=true))∧(TT∧(TT∧(TT∧(((1 < 14)∧True)∧(TT∧(TT∧((True∧(((p0.state:Int) == 2)=true))∧(TT∧(TT∧(TT∧((((0:Int)≤0∧0 < ((2:Nat):Int))∧True)∧(((11 < 14)∧True)∧(TT∧(TT∧True)))))))))))))))))
      ([(32,.sc (.b (!p0.c0))),(4,.sc (.i .i64 ((p0.got.length:Nat):Int))),(3,.sc (.sl 2 0 p0.got.length 1 none)),(0,.sc (.p 0 0))],[(208,.ints .u8 (([]:List Int).length) ([]:List Int)),(0,.cells [.b p0.server,.i .i64 p0.state,.i .u32 p0.peer,.i .i64 p0.window,.i .i64 p0.most,.i .i64 p0.room,.sl 1 0 p0.wait.length 1 none,.sl 208 0 (([]:List Int).length) 1 none,.b p0.ready,.b p0.e0,.b p0.e1,.b p0.c0,.b p0.c1,.sl 3 0 p0.out.length 1 none]),(1,.ints .u8 p0.wait.length p0.wait),(2,.ints .u8 p0.got.length p0.got),(3,.vec .row p0.out)])
      544 (by kernel_rfl) rfl (by kernel_rfl) (⟨tt,⟨tt,⟨⟨trivial,(h1)⟩,⟨tt,⟨tt,⟨tt,⟨⟨(by first | omega | (dsimp only; omega) | decide | (simp only [FcRecvv0,len_say]; omega)),trivial⟩,⟨tt,⟨tt,⟨⟨trivial,(h2)⟩,⟨tt,⟨tt,⟨tt,⟨⟨(by first | omega | (dsimp only; omega) | decide | (simp only [FcRecvv0,len_say]; omega)),trivial⟩,⟨⟨(by first | omega | (dsimp only; omega) | decide | (simp only [FcRecvv0,len_say]; omega)),trivial⟩,⟨tt,⟨tt,trivial⟩⟩⟩⟩⟩⟩⟩⟩⟩⟩⟩⟩⟩⟩⟩⟩⟩) ?_
    refine Tri.cond (x:=(!p0.c0)) (by kernel_rfl) (fun h3 => ?_) (fun h3 => ?_)
    ·
     refine Tri.seq_region [] none [4,3,0] [0,208,1,2,3] (TT∧(TT∧(TT∧(((5 < 14)∧True)∧(TT∧(TT∧(TT∧(TT∧((((5 < 14)∧(1=1))∧True)∧True)))))))))
       ([(4,.sc (.i .i64 ((p0.got.length:Nat):Int))),(3,.sc (.sl 2 0 p0.got.length 1 none)),(0,.sc (.p 0 0))],[(0,.cells [.b p0.server,.i .i64 p0.state,.i .u32 p0.peer,.i .i64 p0.window,.i .i64 p0.most,.i .i64 (iAdd .i64 p0.room ((p0.got.length:Nat):Int)),.sl 1 0 p0.wait.length 1 none,.sl 208 0 (([]:List Int).length) 1 none,.b p0.ready,.b p0.e0,.b p0.e1,.b p0.c0,.b p0.c1,.sl 3 0 p0.out.length 1 none]),(208,.ints .u8 (([]:List Int).length) ([]:List Int)),(1,.ints .u8 p0.wait.length p0.wait),(2,.ints .u8 p0.got.length p0.got),(3,.vec .row p0.out)])
       688 (by kernel_rfl) rfl (by kernel_rfl) (⟨tt,⟨tt,⟨tt,⟨⟨(by first | omega | (dsimp only; omega) | decide | (simp only [FcRecvv0,len_say]; omega)),trivial⟩,⟨tt,⟨tt,⟨tt,⟨tt,⟨⟨⟨(by first | omega | (dsimp only; omega) | decide | (simp only [FcRecvv0,len_say]; omega)),(rfl)⟩,trivial⟩,trivial⟩⟩⟩⟩⟩⟩⟩⟩⟩) ?_
     refine Tri.region' [] none [3] [786,785,784,0,2] (TT∧(TT∧((((True∧((chLens (({p0 with room:=(iAdd .i64 p0.room ((p0.got.length:Nat):Int)),got:=([]:List Int)}:Ch).wait.length) (({p0 with room:=(iAdd .i64 p0.room ((p0.got.length:Nat):Int)),got:=([]:List Int)}:Ch).got.length) (({p0 with room:=(iAdd .i64 p0.room ((p0.got.length:Nat):Int)),got:=([]:List Int)}:Ch).out.length) (({p0 with room:=(iAdd .i64 p0.room ((p0.got.length:Nat):Int)),got:=([]:List Int)}:Ch).wait.length) (({p0 with room:=(iAdd .i64 p0.room ((p0.got.length:Nat):Int)),got:=([]:List Int)}:Ch).got.length) ({p0 with room:=(iAdd .i64 p0.room ((p0.got.length:Nat):Int)),got:=([]:List Int)}:Ch))∧True))∧(([some (.cells [.b p0.server,.i .i64 p0.state,.i .u32 p0.peer,.i .i64 p0.window,.i .i64 p0.most,.i .i64 (iAdd .i64 p0.room ((p0.got.length:Nat):Int)),.sl 1 0 p0.wait.length 1 none,.sl 208 0 (([]:List Int).length) 1 none,.b p0.ready,.b p0.e0,.b p0.e1,.b p0.c0,.b p0.c1,.sl 3 0 p0.out.length 1 none]),some (.ints .u8 p0.wait.length p0.wait),some (.ints .u8 (([]:List Int).length) ([]:List Int)),some (.vec .row p0.out)]:List (Option Blk))=[some (.cells [.b p0.server,.i .i64 p0.state,.i .u32 p0.peer,.i .i64 p0.window,.i .i64 p0.most,.i .i64 (iAdd .i64 p0.room ((p0.got.length:Nat):Int)),.sl 1 0 p0.wait.length 1 none,.sl 208 0 (([]:List Int).length) 1 none,.b p0.ready,.b p0.e0,.b p0.e1,.b p0.c0,.b p0.c1,.sl 3 0 p0.out.length 1 none]),some (.ints .u8 p0.wait.length p0.wait),some (.ints .u8 (([]:List Int).length) ([]:List Int)),some (.vec .row p0.out)]))∧True)∧(TT∧(TT∧(((True∧(((1 + 4)=(1 + 4))∧((1 + 4)≤1000000000)))∧True)∧(((TT∧((chLens (({p0 with room:=(iAdd .i64 p0.room ((p0.got.length:Nat):Int)),got:=([]:List Int)}:Ch).wait.length) (({p0 with room:=(iAdd .i64 p0.room ((p0.got.length:Nat):Int)),got:=([]:List Int)}:Ch).got.length) (({p0 with room:=(iAdd .i64 p0.room ((p0.got.length:Nat):Int)),got:=([]:List Int)}:Ch).out.length) (({p0 with room:=(iAdd .i64 p0.room ((p0.got.length:Nat):Int)),got:=([]:List Int)}:Ch).wait.length) (({p0 with room:=(iAdd .i64 p0.room ((p0.got.length:Nat):Int)),got:=([]:List Int)}:Ch).got.length) ({p0 with room:=(iAdd .i64 p0.room ((p0.got.length:Nat):Int)),got:=([]:List Int)}:Ch))∧(({p0 with room:=(iAdd .i64 p0.room ((p0.got.length:Nat):Int)),got:=([]:List Int)}:Ch).out.length≤1000000000)))∧True)∧True)))))))
       ([(3,.sc (.sl 2 0 p0.got.length 1 none))],[(786,.vec .row ((FcRecvv0 p0).out)),(785,.ints .u8 ((FcRecvv0 p0).got.length) ((FcRecvv0 p0).got)),(784,.ints .u8 ((FcRecvv0 p0).wait.length) ((FcRecvv0 p0).wait)),(0,chC 784 785 786 (FcRecvv0 p0)),(2,.ints .u8 p0.got.length p0.got)])
       800 (by kernel_rfl) rfl (by kernel_rfl) (⟨tt,⟨tt,⟨⟨⟨⟨trivial,⟨(chLens_self _),trivial⟩⟩,(rfl)⟩,trivial⟩,⟨tt,⟨tt,⟨⟨⟨trivial,⟨(rfl),(by first | omega | (dsimp only; omega) | decide | (simp only [FcRecvv0,len_say]; omega))⟩⟩,trivial⟩,⟨⟨⟨tt,⟨(chLens_self _),(by first | omega | (dsimp only; omega) | decide | (simp only [FcRecvv0,len_say]; omega))⟩⟩,trivial⟩,trivial⟩⟩⟩⟩⟩⟩⟩) ?_
     change Tri _ _ _ _ _ _
     refine Tri.seq_region [] none [2] [786,785,784,0,2] (TT∧(TT∧True))
       ([(2,.sc (.sl 2 0 p0.got.length 1 none))],[(786,.vec .row ((FcRecvv0 p0).out)),(785,.ints .u8 ((FcRecvv0 p0).got.length) ((FcRecvv0 p0).got)),(784,.ints .u8 ((FcRecvv0 p0).wait.length) ((FcRecvv0 p0).wait)),(0,chC 784 785 786 (FcRecvv0 p0)),(2,.ints .u8 p0.got.length p0.got)])
       832 (by kernel_rfl) rfl (by kernel_rfl) (⟨tt,⟨tt,trivial⟩⟩) ?_
     refine Tri.ret ?_
     repeat (first | refine thenP_ret ?_ | refine blkP_ret ?_ | refine countP_ret ?_ | refine joinP_ret ?_ | refine iterP_ret ?_)
     refine subP_done ?_
     refine endP.conv (r':=⟨.sc (.sl 7 0 p0.got.length 1 none),[some (chC 4 5 6 (FcRecvv0 p0)),none,none,none,some (.ints .u8 ((FcRecvv0 p0).wait.length) ((FcRecvv0 p0).wait)),some (.ints .u8 ((FcRecvv0 p0).got.length) ((FcRecvv0 p0).got)),some (.vec .row ((FcRecvv0 p0).out)),some (.ints .u8 p0.got.length p0.got)]⟩) (by simp only [chC,FcRecv,FcRecv_1,h1,h2,h3,sel_true,sel_false]) ?_
     exact endP.ret [(0,0),(784,4),(785,5),(786,6),(2,7)] TT (by kernel_rfl) (by kernel_rfl) tt
    ·
     refine Tri.skip ?_
     change Tri _ _ _ _ _ _
     refine Tri.seq_region [] none [2] [208,0,1,2,3] (TT∧(TT∧True))
       ([(2,.sc (.sl 2 0 p0.got.length 1 none))],[(208,.ints .u8 (([]:List Int).length) ([]:List Int)),(0,.cells [.b p0.server,.i .i64 p0.state,.i .u32 p0.peer,.i .i64 p0.window,.i .i64 p0.most,.i .i64 p0.room,.sl 1 0 p0.wait.length 1 none,.sl 208 0 (([]:List Int).length) 1 none,.b p0.ready,.b p0.e0,.b p0.e1,.b p0.c0,.b p0.c1,.sl 3 0 p0.out.length 1 none]),(1,.ints .u8 p0.wait.length p0.wait),(2,.ints .u8 p0.got.length p0.got),(3,.vec .row p0.out)])
       576 (by kernel_rfl) rfl (by kernel_rfl) (⟨tt,⟨tt,trivial⟩⟩) ?_
     refine Tri.ret ?_
     repeat (first | refine thenP_ret ?_ | refine blkP_ret ?_ | refine countP_ret ?_ | refine joinP_ret ?_ | refine iterP_ret ?_)
     refine subP_done ?_
     refine endP.conv (r':=⟨.sc (.sl 7 0 p0.got.length 1 none),[some (.cells [.b p0.server,.i .i64 p0.state,.i .u32 p0.peer,.i .i64 p0.window,.i .i64 p0.most,.i .i64 p0.room,.sl 4 0 p0.wait.length 1 none,.sl 5 0 (([]:List Int).length) 1 none,.b p0.ready,.b p0.e0,.b p0.e1,.b p0.c0,.b p0.c1,.sl 6 0 p0.out.length 1 none]),none,none,none,some (.ints .u8 p0.wait.length p0.wait),some (.ints .u8 (([]:List Int).length) ([]:List Int)),some (.vec .row p0.out),some (.ints .u8 p0.got.length p0.got)]⟩) (by simp only [chC,FcRecv,FcRecv_1,h1,h2,h3,sel_true,sel_false]) ?_
     exact endP.ret [(0,0),(1,4),(208,5),(3,6),(2,7)] TT (by kernel_rfl) (by kernel_rfl) tt
   ·
    have h2':=eq_false_i h2
    refine Tri.seq_region [(18,qb true),(25,qb false)] none [32,4,3,0] [208,0,1,2,3] (TT∧(TT∧((True∧((decide ((((p0.got.length:Nat):Int):Int) > 0))=true))∧(TT∧(TT∧(TT∧(((1 < 14)∧True)∧(TT∧(TT∧((True∧(((p0.state:Int) == 2)=false))∧(TT∧(TT∧(TT∧(TT∧(TT∧(TT∧(TT∧True)))))))))))))))))
      ([(32,.sc (.b false)),(4,.sc (.i .i64 ((p0.got.length:Nat):Int))),(3,.sc (.sl 2 0 p0.got.length 1 none)),(0,.sc (.p 0 0))],[(208,.ints .u8 (([]:List Int).length) ([]:List Int)),(0,.cells [.b p0.server,.i .i64 p0.state,.i .u32 p0.peer,.i .i64 p0.window,.i .i64 p0.most,.i .i64 p0.room,.sl 1 0 p0.wait.length 1 none,.sl 208 0 (([]:List Int).length) 1 none,.b p0.ready,.b p0.e0,.b p0.e1,.b p0.c0,.b p0.c1,.sl 3 0 p0.out.length 1 none]),(1,.ints .u8 p0.wait.length p0.wait),(2,.ints .u8 p0.got.length p0.got),(3,.vec .row p0.out)])
      544 (by kernel_rfl) rfl (by kernel_rfl) (⟨tt,⟨tt,⟨⟨trivial,(h1)⟩,⟨tt,⟨tt,⟨tt,⟨⟨(by first | omega | (dsimp only; omega) | decide | (simp only [FcRecvv0,len_say]; omega)),trivial⟩,⟨tt,⟨tt,⟨⟨trivial,(h2)⟩,⟨tt,⟨tt,⟨tt,⟨tt,⟨tt,⟨tt,⟨tt,trivial⟩⟩⟩⟩⟩⟩⟩⟩⟩⟩⟩⟩⟩⟩⟩⟩⟩) ?_
    refine Tri.cond_false (by kernel_rfl) ?_
    refine Tri.skip ?_
    change Tri _ _ _ _ _ _
    refine Tri.seq_region [] none [2] [208,0,1,2,3] (TT∧(TT∧True))
      ([(2,.sc (.sl 2 0 p0.got.length 1 none))],[(208,.ints .u8 (([]:List Int).length) ([]:List Int)),(0,.cells [.b p0.server,.i .i64 p0.state,.i .u32 p0.peer,.i .i64 p0.window,.i .i64 p0.most,.i .i64 p0.room,.sl 1 0 p0.wait.length 1 none,.sl 208 0 (([]:List Int).length) 1 none,.b p0.ready,.b p0.e0,.b p0.e1,.b p0.c0,.b p0.c1,.sl 3 0 p0.out.length 1 none]),(1,.ints .u8 p0.wait.length p0.wait),(2,.ints .u8 p0.got.length p0.got),(3,.vec .row p0.out)])
      576 (by kernel_rfl) rfl (by kernel_rfl) (⟨tt,⟨tt,trivial⟩⟩) ?_
    refine Tri.ret ?_
    repeat (first | refine thenP_ret ?_ | refine blkP_ret ?_ | refine countP_ret ?_ | refine joinP_ret ?_ | refine iterP_ret ?_)
    refine subP_done ?_
    refine endP.conv (r':=⟨.sc (.sl 7 0 p0.got.length 1 none),[some (.cells [.b p0.server,.i .i64 p0.state,.i .u32 p0.peer,.i .i64 p0.window,.i .i64 p0.most,.i .i64 p0.room,.sl 4 0 p0.wait.length 1 none,.sl 5 0 (([]:List Int).length) 1 none,.b p0.ready,.b p0.e0,.b p0.e1,.b p0.c0,.b p0.c1,.sl 6 0 p0.out.length 1 none]),none,none,none,some (.ints .u8 p0.wait.length p0.wait),some (.ints .u8 (([]:List Int).length) ([]:List Int)),some (.vec .row p0.out),some (.ints .u8 p0.got.length p0.got)]⟩) (by simp only [chC,FcRecv,FcRecv_1,h1,h2,sel_true,sel_false]) ?_
    exact endP.ret [(0,0),(1,4),(208,5),(3,6),(2,7)] TT (by kernel_rfl) (by kernel_rfl) tt
  ·
   have h1':=of_decide_eq_false h1
   refine Tri.seq_region [(18,qb false)] none [32,4,3,0] [208,0,1,2,3] (TT∧(TT∧((True∧((decide ((((p0.got.length:Nat):Int):Int) > 0))=false))∧(TT∧(TT∧(TT∧(TT∧(TT∧(TT∧(TT∧(TT∧(TT∧(TT∧(TT∧(TT∧(TT∧(TT∧True)))))))))))))))))
     ([(32,.sc (.b false)),(4,.sc (.i .i64 ((p0.got.length:Nat):Int))),(3,.sc (.sl 2 0 p0.got.length 1 none)),(0,.sc (.p 0 0))],[(208,.ints .u8 (([]:List Int).length) ([]:List Int)),(0,.cells [.b p0.server,.i .i64 p0.state,.i .u32 p0.peer,.i .i64 p0.window,.i .i64 p0.most,.i .i64 p0.room,.sl 1 0 p0.wait.length 1 none,.sl 208 0 (([]:List Int).length) 1 none,.b p0.ready,.b p0.e0,.b p0.e1,.b p0.c0,.b p0.c1,.sl 3 0 p0.out.length 1 none]),(1,.ints .u8 p0.wait.length p0.wait),(2,.ints .u8 p0.got.length p0.got),(3,.vec .row p0.out)])
     544 (by kernel_rfl) rfl (by kernel_rfl) (⟨tt,⟨tt,⟨⟨trivial,(h1)⟩,⟨tt,⟨tt,⟨tt,⟨tt,⟨tt,⟨tt,⟨tt,⟨tt,⟨tt,⟨tt,⟨tt,⟨tt,⟨tt,⟨tt,trivial⟩⟩⟩⟩⟩⟩⟩⟩⟩⟩⟩⟩⟩⟩⟩⟩⟩) ?_
   refine Tri.cond_false (by kernel_rfl) ?_
   refine Tri.skip ?_
   change Tri _ _ _ _ _ _
   refine Tri.seq_region [] none [2] [208,0,1,2,3] (TT∧(TT∧True))
     ([(2,.sc (.sl 2 0 p0.got.length 1 none))],[(208,.ints .u8 (([]:List Int).length) ([]:List Int)),(0,.cells [.b p0.server,.i .i64 p0.state,.i .u32 p0.peer,.i .i64 p0.window,.i .i64 p0.most,.i .i64 p0.room,.sl 1 0 p0.wait.length 1 none,.sl 208 0 (([]:List Int).length) 1 none,.b p0.ready,.b p0.e0,.b p0.e1,.b p0.c0,.b p0.c1,.sl 3 0 p0.out.length 1 none]),(1,.ints .u8 p0.wait.length p0.wait),(2,.ints .u8 p0.got.length p0.got),(3,.vec .row p0.out)])
     576 (by kernel_rfl) rfl (by kernel_rfl) (⟨tt,⟨tt,trivial⟩⟩) ?_
   refine Tri.ret ?_
   repeat (first | refine thenP_ret ?_ | refine blkP_ret ?_ | refine countP_ret ?_ | refine joinP_ret ?_ | refine iterP_ret ?_)
   refine subP_done ?_
   refine endP.conv (r':=⟨.sc (.sl 7 0 p0.got.length 1 none),[some (.cells [.b p0.server,.i .i64 p0.state,.i .u32 p0.peer,.i .i64 p0.window,.i .i64 p0.most,.i .i64 p0.room,.sl 4 0 p0.wait.length 1 none,.sl 5 0 (([]:List Int).length) 1 none,.b p0.ready,.b p0.e0,.b p0.e1,.b p0.c0,.b p0.c1,.sl 6 0 p0.out.length 1 none]),none,none,none,some (.ints .u8 p0.wait.length p0.wait),some (.ints .u8 (([]:List Int).length) ([]:List Int)),some (.vec .row p0.out),some (.ints .u8 p0.got.length p0.got)]⟩) (by simp only [chC,FcRecv,FcRecv_1,h1,sel_true,sel_false]) ?_
   exact endP.ret [(0,0),(1,4),(208,5),(3,6),(2,7)] TT (by kernel_rfl) (by kernel_rfl) tt
noncomputable def Fcopenv0 (p0:Ch) (p2:List Int) (p3:Bool):Ch :=
 (Fcsay p0 (FwwTextz ((((1 + 4) + 4) + 4) + (⟨#[]⟩:ByteArray).size) (FwwText ((1 + 4) + 4) (FwwU32 (1 + 4) (FwwU32 1 [92] (FwU32 (FwText_1 p2 p3) (FwText_2 p2 p3))) 3) (⟨#[]⟩:ByteArray)) (⟨#[]⟩:ByteArray)))
noncomputable def Fcopenv1 (p0:Ch) (p2:List Int) (p3:Bool):Ch :=
 (Fcsay ({p0 with state:=2,peer:=(FwU32 (FwText_1 p2 p3) (FwText_2 p2 p3)),window:=(IntKind.wrap .i64 (minI (FwU32 (FwU32_1 (FwText_1 p2 p3) (FwText_2 p2 p3)) (FwU32_2 (FwText_1 p2 p3) (FwText_2 p2 p3))) 1073741824)),most:=(IntKind.wrap .i64 (minI (FwU32 (FwU32_1 (FwU32_1 (FwText_1 p2 p3) (FwText_2 p2 p3)) (FwU32_2 (FwText_1 p2 p3) (FwText_2 p2 p3))) (FwU32_2 (FwU32_1 (FwText_1 p2 p3) (FwText_2 p2 p3)) (FwU32_2 (FwText_1 p2 p3) (FwText_2 p2 p3)))) 512)),room:=4096}:Ch) (FwwU32z (((1 + 4) + 4) + 4) (FwwU32 ((1 + 4) + 4) (FwwU32 (1 + 4) (Fcto ({p0 with state:=2,peer:=(FwU32 (FwText_1 p2 p3) (FwText_2 p2 p3)),window:=(IntKind.wrap .i64 (minI (FwU32 (FwU32_1 (FwText_1 p2 p3) (FwText_2 p2 p3)) (FwU32_2 (FwText_1 p2 p3) (FwText_2 p2 p3))) 1073741824)),most:=(IntKind.wrap .i64 (minI (FwU32 (FwU32_1 (FwU32_1 (FwText_1 p2 p3) (FwText_2 p2 p3)) (FwU32_2 (FwText_1 p2 p3) (FwText_2 p2 p3))) (FwU32_2 (FwU32_1 (FwText_1 p2 p3) (FwText_2 p2 p3)) (FwU32_2 (FwText_1 p2 p3) (FwText_2 p2 p3)))) 512)),room:=4096}:Ch) 91) 0) 4096) 512))
noncomputable def Fcopen (p0:Ch) (p2:List Int) (p3:Bool):Int :=
 (sel (!(FwEnd (FwU32_1 (FwU32_1 (FwU32_1 (FwText_1 p2 p3) (FwText_2 p2 p3)) (FwU32_2 (FwText_1 p2 p3) (FwText_2 p2 p3))) (FwU32_2 (FwU32_1 (FwText_1 p2 p3) (FwText_2 p2 p3)) (FwU32_2 (FwText_1 p2 p3) (FwText_2 p2 p3)))) (FwU32_2 (FwU32_1 (FwU32_1 (FwText_1 p2 p3) (FwText_2 p2 p3)) (FwU32_2 (FwText_1 p2 p3) (FwText_2 p2 p3))) (FwU32_2 (FwU32_1 (FwText_1 p2 p3) (FwText_2 p2 p3)) (FwU32_2 (FwText_1 p2 p3) (FwText_2 p2 p3)))))) 3 (sel (!p0.server) 3 0))
noncomputable def Fcopen_1 (p0:Ch) (p2:List Int) (p3:Bool):Ch :=
 (sel (!(FwEnd (FwU32_1 (FwU32_1 (FwU32_1 (FwText_1 p2 p3) (FwText_2 p2 p3)) (FwU32_2 (FwText_1 p2 p3) (FwText_2 p2 p3))) (FwU32_2 (FwU32_1 (FwText_1 p2 p3) (FwText_2 p2 p3)) (FwU32_2 (FwText_1 p2 p3) (FwText_2 p2 p3)))) (FwU32_2 (FwU32_1 (FwU32_1 (FwText_1 p2 p3) (FwText_2 p2 p3)) (FwU32_2 (FwText_1 p2 p3) (FwText_2 p2 p3))) (FwU32_2 (FwU32_1 (FwText_1 p2 p3) (FwText_2 p2 p3)) (FwU32_2 (FwText_1 p2 p3) (FwText_2 p2 p3)))))) p0 (sel (!p0.server) p0 (sel ((p0.state:Int) != 0) (Fcopenv0 p0 p2 p3) (sel (!(strEq (FwText p2 p3) (⟨#[115,101,115,115,105,111,110]⟩:ByteArray))) (Fcopenv0 p0 p2 p3) (sel (((FwU32 (FwU32_1 (FwU32_1 (FwText_1 p2 p3) (FwText_2 p2 p3)) (FwU32_2 (FwText_1 p2 p3) (FwText_2 p2 p3))) (FwU32_2 (FwU32_1 (FwText_1 p2 p3) (FwText_2 p2 p3)) (FwU32_2 (FwText_1 p2 p3) (FwText_2 p2 p3)))):Int) == 0) (Fcopenv0 p0 p2 p3) (Fcopenv1 p0 p2 p3))))))
noncomputable def Fcopen_2 (p0:Ch) (p2:List Int) (p3:Bool):List Int :=
 (FwU32_1 (FwU32_1 (FwU32_1 (FwText_1 p2 p3) (FwText_2 p2 p3)) (FwU32_2 (FwText_1 p2 p3) (FwText_2 p2 p3))) (FwU32_2 (FwU32_1 (FwText_1 p2 p3) (FwText_2 p2 p3)) (FwU32_2 (FwText_1 p2 p3) (FwText_2 p2 p3))))
noncomputable def Fcopen_3 (p0:Ch) (p2:List Int) (p3:Bool):Bool :=
 (FwU32_2 (FwU32_1 (FwU32_1 (FwText_1 p2 p3) (FwText_2 p2 p3)) (FwU32_2 (FwText_1 p2 p3) (FwText_2 p2 p3))) (FwU32_2 (FwU32_1 (FwText_1 p2 p3) (FwText_2 p2 p3)) (FwU32_2 (FwText_1 p2 p3) (FwText_2 p2 p3))))
noncomputable def Scopenc (p0:Ch) (y0_n1:Nat) (y0_n2:Nat) (y0_n3:Nat) (y0_m1:Nat) (y0_m2:Nat) (p2:List Int) (p3:Bool):Option (Prop × Ret) :=
 some ((chLens y0_n1 y0_n2 y0_n3 y0_m1 y0_m2 p0∧(p0.out.length≤900000000)),⟨.sc (.i .i64 (Fcopen p0 p2 p3)),[some (chC 5 6 7 (Fcopen_1 p0 p2 p3)),none,none,none,some (.cells [.ro .u8 (Fcopen_2 p0 p2 p3),.b (Fcopen_3 p0 p2 p3)]),some (.ints .u8 ((Fcopen_1 p0 p2 p3).wait.length) ((Fcopen_1 p0 p2 p3).wait)),some (.ints .u8 ((Fcopen_1 p0 p2 p3).got.length) ((Fcopen_1 p0 p2 p3).got)),some (.vec .row ((Fcopen_1 p0 p2 p3).out))]⟩)
noncomputable def Scopen:List AV→List Blk→Option (Prop × Ret)
 | [.sc (.p 0 0),.sc (.p 4 0)],[.cells [.b y0_server,.i .i64 y0_state,.i .u32 y0_peer,.i .i64 y0_window,.i .i64 y0_most,.i .i64 y0_room,.sl 1 0 y0_n1 1 none,.sl 2 0 y0_n2 1 none,.b y0_ready,.b y0_e0,.b y0_e1,.b y0_c0,.b y0_c1,.sl 3 0 y0_n3 1 none],.ints .u8 y0_m1 y0_wait,.ints .u8 y0_m2 y0_got,.vec .row y0_out,.cells [.ro .u8 p2,.b p3]] => Scopenc ⟨y0_server,y0_state,y0_peer,y0_window,y0_most,y0_room,y0_wait,y0_got,y0_ready,y0_e0,y0_e1,y0_c0,y0_c1,y0_out⟩ y0_n1 y0_n2 y0_n3 y0_m1 y0_m2 p2 p3
 | _,_ => none
noncomputable def Bcopen:Bs:={ P:=Go.Proofs.Try.prog,G:=noG,tab:=tabOf [⟨28,736,[.io,.ro .u8],[],[0,1,2,3],⟨4,3,Scsay⟩,false⟩,⟨28,1120,[.io,.ro .u8],[],[0,1,2,3],⟨4,3,Scsay⟩,false⟩,⟨29,624,[.io,.val],[],[592],⟨1,1,SwwU32⟩,false⟩,⟨29,640,[.io,.val],[],[624],⟨1,1,SwwU32⟩,false⟩,⟨29,1072,[.io,.val],[],[1056],⟨1,1,SwwU32⟩,false⟩,⟨29,1088,[.io,.val],[],[1072],⟨1,1,SwwU32⟩,false⟩,⟨29,1104,[.io,.val],[],[1088],⟨1,0,SwwU32z⟩,false⟩,⟨30,704,[.io,.val],[],[640],⟨1,1,SwwText⟩,false⟩,⟨30,720,[.io,.val],[],[704],⟨1,0,SwwTextz⟩,false⟩,⟨35,80,[.io],[],[4],⟨1,0,SwU32⟩,false⟩,⟨35,112,[.io],[],[4],⟨1,0,SwU32⟩,false⟩,⟨35,144,[.io],[],[4],⟨1,0,SwU32⟩,false⟩,⟨40,1056,[.io,.val],[],[0,1,2,3],⟨4,1,Scto⟩,true⟩,⟨43,48,[.io],[],[4],⟨1,0,SwText⟩,false⟩,⟨44,240,[.io],[],[4],⟨1,0,SwEnd⟩,false⟩],n:=79 }
theorem Bcopen.ok:Bcopen.Ok:=⟨tabOk (P:=Go.Proofs.Try.prog) (G:=noG) (l:=[⟨28,736,[.io,.ro .u8],[],[0,1,2,3],⟨4,3,Scsay⟩,false⟩,⟨28,1120,[.io,.ro .u8],[],[0,1,2,3],⟨4,3,Scsay⟩,false⟩,⟨29,624,[.io,.val],[],[592],⟨1,1,SwwU32⟩,false⟩,⟨29,640,[.io,.val],[],[624],⟨1,1,SwwU32⟩,false⟩,⟨29,1072,[.io,.val],[],[1056],⟨1,1,SwwU32⟩,false⟩,⟨29,1088,[.io,.val],[],[1072],⟨1,1,SwwU32⟩,false⟩,⟨29,1104,[.io,.val],[],[1088],⟨1,0,SwwU32z⟩,false⟩,⟨30,704,[.io,.val],[],[640],⟨1,1,SwwText⟩,false⟩,⟨30,720,[.io,.val],[],[704],⟨1,0,SwwTextz⟩,false⟩,⟨35,80,[.io],[],[4],⟨1,0,SwU32⟩,false⟩,⟨35,112,[.io],[],[4],⟨1,0,SwU32⟩,false⟩,⟨35,144,[.io],[],[4],⟨1,0,SwU32⟩,false⟩,⟨40,1056,[.io,.val],[],[0,1,2,3],⟨4,1,Scto⟩,true⟩,⟨43,48,[.io],[],[4],⟨1,0,SwText⟩,false⟩,⟨44,240,[.io],[],[4],⟨1,0,SwEnd⟩,false⟩]) (And.intro Kcsay (And.intro Kcsay (And.intro KwwU32 (And.intro KwwU32 (And.intro KwwU32 (And.intro KwwU32 (And.intro KwwU32z (And.intro KwwText (And.intro KwwTextz (And.intro KwU32 (And.intro KwU32 (And.intro KwU32 (And.intro Kcto (And.intro KwText (And.intro KwEnd True.intro))))))))))))))),mixed⟩
theorem Kcopen:Known Go.Proofs.Try.prog noG 33 ⟨5,3,Scopen⟩:=by
 refine Known.walk (B:=Bcopen) (fn:=Go.Proofs.Try.f33) Bcopen.ok (by kernel_rfl) rfl (by kernel_rfl) (by kernel_rfl) (by decide) (by decide) ?_
 ·intro E args ks C r h hC hlen
  simp only at h
  unfold Scopen at h
  split at h
  rotate_left
  ·cases h
  rename_i y0_server y0_state y0_peer y0_window y0_most y0_room y0_n1 y0_n2 y0_ready y0_e0 y0_e1 y0_c0 y0_c1 y0_n3 y0_m1 y0_wait y0_m2 y0_got y0_out p2 p3
  generalize hp0:(⟨y0_server,y0_state,y0_peer,y0_window,y0_most,y0_room,y0_wait,y0_got,y0_ready,y0_e0,y0_e1,y0_c0,y0_c1,y0_out⟩:Ch)=p0 at h
  obtain rfl:y0_server=p0.server:=by rw [← hp0]
  obtain rfl:y0_state=p0.state:=by rw [← hp0]
  obtain rfl:y0_peer=p0.peer:=by rw [← hp0]
  obtain rfl:y0_window=p0.window:=by rw [← hp0]
  obtain rfl:y0_most=p0.most:=by rw [← hp0]
  obtain rfl:y0_room=p0.room:=by rw [← hp0]
  obtain rfl:y0_wait=p0.wait:=by rw [← hp0]
  obtain rfl:y0_got=p0.got:=by rw [← hp0]
  obtain rfl:y0_ready=p0.ready:=by rw [← hp0]
  obtain rfl:y0_e0=p0.e0:=by rw [← hp0]
  obtain rfl:y0_e1=p0.e1:=by rw [← hp0]
  obtain rfl:y0_c0=p0.c0:=by rw [← hp0]
  obtain rfl:y0_c1=p0.c1:=by rw [← hp0]
  obtain rfl:y0_out=p0.out:=by rw [← hp0]
  clear hp0
  unfold Scopenc at h
  cases h
  obtain ⟨⟨rfl,rfl,rfl,rfl,rfl⟩,hC⟩:=hC
  simp only [lens] at hlen
  refine ⟨show 2≤79 from by decide,?_⟩
  refine Tri.sub (Sub.of_eq (show _=([(0,.sc (.p 0 0)),(1,.sc (.p 4 0))],[(0,chC 1 2 3 p0),(1,.ints .u8 p0.wait.length p0.wait),(2,.ints .u8 p0.got.length p0.got),(3,.vec .row p0.out),(4,.cells [.ro .u8 p2,.b p3])]) from rfl)) ?_
  refine Tri.subP ?_
  refine Tri.seq_region [] none [0,1] [0,1,2,3,4] (TT∧True)
    ([(0,.sc (.p 0 0)),(1,.sc (.p 4 0))],[(0,chC 1 2 3 p0),(1,.ints .u8 p0.wait.length p0.wait),(2,.ints .u8 p0.got.length p0.got),(3,.vec .row p0.out),(4,.cells [.ro .u8 p2,.b p3])])
    32 (by kernel_rfl) rfl (by kernel_rfl) (⟨tt,trivial⟩) ?_
  refine Tri.seq_region [] none [8,7,6,5,0,1] [4,0,1,2,3] (TT∧((TT∧True)∧(TT∧((TT∧True)∧(TT∧((TT∧True)∧(TT∧((TT∧True)∧(TT∧(TT∧(TT∧(TT∧True))))))))))))
    ([(8,.sc (.i .u32 (FwU32 (FwU32_1 (FwU32_1 (FwText_1 p2 p3) (FwText_2 p2 p3)) (FwU32_2 (FwText_1 p2 p3) (FwText_2 p2 p3))) (FwU32_2 (FwU32_1 (FwText_1 p2 p3) (FwText_2 p2 p3)) (FwU32_2 (FwText_1 p2 p3) (FwText_2 p2 p3)))))),(7,.sc (.i .u32 (FwU32 (FwU32_1 (FwText_1 p2 p3) (FwText_2 p2 p3)) (FwU32_2 (FwText_1 p2 p3) (FwText_2 p2 p3))))),(6,.sc (.i .u32 (FwU32 (FwText_1 p2 p3) (FwText_2 p2 p3)))),(5,.sc (.s (FwText p2 p3))),(0,.sc (.p 0 0)),(1,.sc (.p 4 0))],[(4,.cells [.ro .u8 (FwU32_1 (FwU32_1 (FwU32_1 (FwText_1 p2 p3) (FwText_2 p2 p3)) (FwU32_2 (FwText_1 p2 p3) (FwText_2 p2 p3))) (FwU32_2 (FwU32_1 (FwText_1 p2 p3) (FwText_2 p2 p3)) (FwU32_2 (FwText_1 p2 p3) (FwText_2 p2 p3)))),.b (FwU32_2 (FwU32_1 (FwU32_1 (FwText_1 p2 p3) (FwText_2 p2 p3)) (FwU32_2 (FwText_1 p2 p3) (FwText_2 p2 p3))) (FwU32_2 (FwU32_1 (FwText_1 p2 p3) (FwText_2 p2 p3)) (FwU32_2 (FwText_1 p2 p3) (FwText_2 p2 p3))))]),(0,chC 1 2 3 p0),(1,.ints .u8 p0.wait.length p0.wait),(2,.ints .u8 p0.got.length p0.got),(3,.vec .row p0.out)])
    224 (by kernel_rfl) rfl (by kernel_rfl) (⟨tt,⟨⟨tt,trivial⟩,⟨tt,⟨⟨tt,trivial⟩,⟨tt,⟨⟨tt,trivial⟩,⟨tt,⟨⟨tt,trivial⟩,⟨tt,⟨tt,⟨tt,⟨tt,trivial⟩⟩⟩⟩⟩⟩⟩⟩⟩⟩⟩⟩) ?_
  refine Tri.seq ?_
  refine Tri.split (!(FwEnd (FwU32_1 (FwU32_1 (FwU32_1 (FwText_1 p2 p3) (FwText_2 p2 p3)) (FwU32_2 (FwText_1 p2 p3) (FwText_2 p2 p3))) (FwU32_2 (FwU32_1 (FwText_1 p2 p3) (FwText_2 p2 p3)) (FwU32_2 (FwText_1 p2 p3) (FwText_2 p2 p3)))) (FwU32_2 (FwU32_1 (FwU32_1 (FwText_1 p2 p3) (FwText_2 p2 p3)) (FwU32_2 (FwText_1 p2 p3) (FwText_2 p2 p3))) (FwU32_2 (FwU32_1 (FwText_1 p2 p3) (FwText_2 p2 p3)) (FwU32_2 (FwText_1 p2 p3) (FwText_2 p2 p3)))))) (fun h1 => ?_) (fun h1 => ?_)
  ·
   refine Tri.seq_region [(21,qb true)] none [27,8,7,6,5,0] [4,0,1,2,3] (TT∧((TT∧True)∧(TT∧((True∧((!(FwEnd (FwU32_1 (FwU32_1 (FwU32_1 (FwText_1 p2 p3) (FwText_2 p2 p3)) (FwU32_2 (FwText_1 p2 p3) (FwText_2 p2 p3))) (FwU32_2 (FwU32_1 (FwText_1 p2 p3) (FwText_2 p2 p3)) (FwU32_2 (FwText_1 p2 p3) (FwText_2 p2 p3)))) (FwU32_2 (FwU32_1 (FwU32_1 (FwText_1 p2 p3) (FwText_2 p2 p3)) (FwU32_2 (FwText_1 p2 p3) (FwText_2 p2 p3))) (FwU32_2 (FwU32_1 (FwText_1 p2 p3) (FwText_2 p2 p3)) (FwU32_2 (FwText_1 p2 p3) (FwText_2 p2 p3))))))=true))∧(TT∧(TT∧(TT∧(TT∧(TT∧(TT∧True))))))))))
     ([(27,.sc (.b true)),(8,.sc (.i .u32 (FwU32 (FwU32_1 (FwU32_1 (FwText_1 p2 p3) (FwText_2 p2 p3)) (FwU32_2 (FwText_1 p2 p3) (FwText_2 p2 p3))) (FwU32_2 (FwU32_1 (FwText_1 p2 p3) (FwText_2 p2 p3)) (FwU32_2 (FwText_1 p2 p3) (FwText_2 p2 p3)))))),(7,.sc (.i .u32 (FwU32 (FwU32_1 (FwText_1 p2 p3) (FwText_2 p2 p3)) (FwU32_2 (FwText_1 p2 p3) (FwText_2 p2 p3))))),(6,.sc (.i .u32 (FwU32 (FwText_1 p2 p3) (FwText_2 p2 p3)))),(5,.sc (.s (FwText p2 p3))),(0,.sc (.p 0 0))],[(4,.cells [.ro .u8 (FwU32_1 (FwU32_1 (FwU32_1 (FwText_1 p2 p3) (FwText_2 p2 p3)) (FwU32_2 (FwText_1 p2 p3) (FwText_2 p2 p3))) (FwU32_2 (FwU32_1 (FwText_1 p2 p3) (FwText_2 p2 p3)) (FwU32_2 (FwText_1 p2 p3) (FwText_2 p2 p3)))),.b (FwU32_2 (FwU32_1 (FwU32_1 (FwText_1 p2 p3) (FwText_2 p2 p3)) (FwU32_2 (FwText_1 p2 p3) (FwText_2 p2 p3))) (FwU32_2 (FwU32_1 (FwText_1 p2 p3) (FwText_2 p2 p3)) (FwU32_2 (FwText_1 p2 p3) (FwText_2 p2 p3))))]),(0,chC 1 2 3 p0),(1,.ints .u8 p0.wait.length p0.wait),(2,.ints .u8 p0.got.length p0.got),(3,.vec .row p0.out)])
     384 (by kernel_rfl) rfl (by kernel_rfl) (⟨tt,⟨⟨tt,trivial⟩,⟨tt,⟨⟨trivial,(h1)⟩,⟨tt,⟨tt,⟨tt,⟨tt,⟨tt,⟨tt,trivial⟩⟩⟩⟩⟩⟩⟩⟩⟩⟩) ?_
   refine Tri.cond_true (by kernel_rfl) ?_
   refine Tri.seq_region [] none [4] [4,0,1,2,3] (TT∧True)
     ([(4,.sc (.i .i64 3))],[(4,.cells [.ro .u8 (FwU32_1 (FwU32_1 (FwU32_1 (FwText_1 p2 p3) (FwText_2 p2 p3)) (FwU32_2 (FwText_1 p2 p3) (FwText_2 p2 p3))) (FwU32_2 (FwU32_1 (FwText_1 p2 p3) (FwText_2 p2 p3)) (FwU32_2 (FwText_1 p2 p3) (FwText_2 p2 p3)))),.b (FwU32_2 (FwU32_1 (FwU32_1 (FwText_1 p2 p3) (FwText_2 p2 p3)) (FwU32_2 (FwText_1 p2 p3) (FwText_2 p2 p3))) (FwU32_2 (FwU32_1 (FwText_1 p2 p3) (FwText_2 p2 p3)) (FwU32_2 (FwText_1 p2 p3) (FwText_2 p2 p3))))]),(0,chC 1 2 3 p0),(1,.ints .u8 p0.wait.length p0.wait),(2,.ints .u8 p0.got.length p0.got),(3,.vec .row p0.out)])
     400 (by kernel_rfl) rfl (by kernel_rfl) (⟨tt,trivial⟩) ?_
   refine Tri.ret ?_
   repeat (first | refine thenP_ret ?_ | refine blkP_ret ?_ | refine countP_ret ?_ | refine joinP_ret ?_ | refine iterP_ret ?_)
   refine subP_done ?_
   refine endP.conv (r':=⟨.sc (.i .i64 3),[some (chC 5 6 7 p0),none,none,none,some (.cells [.ro .u8 (FwU32_1 (FwU32_1 (FwU32_1 (FwText_1 p2 p3) (FwText_2 p2 p3)) (FwU32_2 (FwText_1 p2 p3) (FwText_2 p2 p3))) (FwU32_2 (FwU32_1 (FwText_1 p2 p3) (FwText_2 p2 p3)) (FwU32_2 (FwText_1 p2 p3) (FwText_2 p2 p3)))),.b (FwU32_2 (FwU32_1 (FwU32_1 (FwText_1 p2 p3) (FwText_2 p2 p3)) (FwU32_2 (FwText_1 p2 p3) (FwText_2 p2 p3))) (FwU32_2 (FwU32_1 (FwText_1 p2 p3) (FwText_2 p2 p3)) (FwU32_2 (FwText_1 p2 p3) (FwText_2 p2 p3))))]),some (.ints .u8 p0.wait.length p0.wait),some (.ints .u8 p0.got.length p0.got),some (.vec .row p0.out)]⟩) (by simp only [chC,Fcopen,Fcopen_1,Fcopen_2,Fcopen_3,h1,sel_true,sel_false]) ?_
   exact endP.ret [(0,0),(4,4),(1,5),(2,6),(3,7)] TT (by kernel_rfl) (by kernel_rfl) tt
  ·
   refine Tri.seq_region [(21,qb false)] none [27,8,7,6,5,0] [4,0,1,2,3] (TT∧((TT∧True)∧(TT∧((True∧((!(FwEnd (FwU32_1 (FwU32_1 (FwU32_1 (FwText_1 p2 p3) (FwText_2 p2 p3)) (FwU32_2 (FwText_1 p2 p3) (FwText_2 p2 p3))) (FwU32_2 (FwU32_1 (FwText_1 p2 p3) (FwText_2 p2 p3)) (FwU32_2 (FwText_1 p2 p3) (FwText_2 p2 p3)))) (FwU32_2 (FwU32_1 (FwU32_1 (FwText_1 p2 p3) (FwText_2 p2 p3)) (FwU32_2 (FwText_1 p2 p3) (FwText_2 p2 p3))) (FwU32_2 (FwU32_1 (FwText_1 p2 p3) (FwText_2 p2 p3)) (FwU32_2 (FwText_1 p2 p3) (FwText_2 p2 p3))))))=false))∧(TT∧(TT∧(TT∧(((0 < 14)∧True)∧(TT∧(TT∧True))))))))))
     ([(27,.sc (.b (!p0.server))),(8,.sc (.i .u32 (FwU32 (FwU32_1 (FwU32_1 (FwText_1 p2 p3) (FwText_2 p2 p3)) (FwU32_2 (FwText_1 p2 p3) (FwText_2 p2 p3))) (FwU32_2 (FwU32_1 (FwText_1 p2 p3) (FwText_2 p2 p3)) (FwU32_2 (FwText_1 p2 p3) (FwText_2 p2 p3)))))),(7,.sc (.i .u32 (FwU32 (FwU32_1 (FwText_1 p2 p3) (FwText_2 p2 p3)) (FwU32_2 (FwText_1 p2 p3) (FwText_2 p2 p3))))),(6,.sc (.i .u32 (FwU32 (FwText_1 p2 p3) (FwText_2 p2 p3)))),(5,.sc (.s (FwText p2 p3))),(0,.sc (.p 0 0))],[(4,.cells [.ro .u8 (FwU32_1 (FwU32_1 (FwU32_1 (FwText_1 p2 p3) (FwText_2 p2 p3)) (FwU32_2 (FwText_1 p2 p3) (FwText_2 p2 p3))) (FwU32_2 (FwU32_1 (FwText_1 p2 p3) (FwText_2 p2 p3)) (FwU32_2 (FwText_1 p2 p3) (FwText_2 p2 p3)))),.b (FwU32_2 (FwU32_1 (FwU32_1 (FwText_1 p2 p3) (FwText_2 p2 p3)) (FwU32_2 (FwText_1 p2 p3) (FwText_2 p2 p3))) (FwU32_2 (FwU32_1 (FwText_1 p2 p3) (FwText_2 p2 p3)) (FwU32_2 (FwText_1 p2 p3) (FwText_2 p2 p3))))]),(0,chC 1 2 3 p0),(1,.ints .u8 p0.wait.length p0.wait),(2,.ints .u8 p0.got.length p0.got),(3,.vec .row p0.out)])
     384 (by kernel_rfl) rfl (by kernel_rfl) (⟨tt,⟨⟨tt,trivial⟩,⟨tt,⟨⟨trivial,(h1)⟩,⟨tt,⟨tt,⟨tt,⟨⟨(by first | omega | (dsimp only; omega) | decide | (simp only [Fcopenv0,Fcopenv1,len_say]; omega)),trivial⟩,⟨tt,⟨tt,trivial⟩⟩⟩⟩⟩⟩⟩⟩⟩⟩) ?_
   refine Tri.cond (x:=(!p0.server)) (by kernel_rfl) (fun h2 => ?_) (fun h2 => ?_)
   ·
    refine Tri.seq_region [] none [4] [4,0,1,2,3] (TT∧True)
      ([(4,.sc (.i .i64 3))],[(4,.cells [.ro .u8 (FwU32_1 (FwU32_1 (FwU32_1 (FwText_1 p2 p3) (FwText_2 p2 p3)) (FwU32_2 (FwText_1 p2 p3) (FwText_2 p2 p3))) (FwU32_2 (FwU32_1 (FwText_1 p2 p3) (FwText_2 p2 p3)) (FwU32_2 (FwText_1 p2 p3) (FwText_2 p2 p3)))),.b (FwU32_2 (FwU32_1 (FwU32_1 (FwText_1 p2 p3) (FwText_2 p2 p3)) (FwU32_2 (FwText_1 p2 p3) (FwText_2 p2 p3))) (FwU32_2 (FwU32_1 (FwText_1 p2 p3) (FwText_2 p2 p3)) (FwU32_2 (FwText_1 p2 p3) (FwText_2 p2 p3))))]),(0,chC 1 2 3 p0),(1,.ints .u8 p0.wait.length p0.wait),(2,.ints .u8 p0.got.length p0.got),(3,.vec .row p0.out)])
      400 (by kernel_rfl) rfl (by kernel_rfl) (⟨tt,trivial⟩) ?_
    refine Tri.ret ?_
    repeat (first | refine thenP_ret ?_ | refine blkP_ret ?_ | refine countP_ret ?_ | refine joinP_ret ?_ | refine iterP_ret ?_)
    refine subP_done ?_
    refine endP.conv (r':=⟨.sc (.i .i64 3),[some (chC 5 6 7 p0),none,none,none,some (.cells [.ro .u8 (FwU32_1 (FwU32_1 (FwU32_1 (FwText_1 p2 p3) (FwText_2 p2 p3)) (FwU32_2 (FwText_1 p2 p3) (FwText_2 p2 p3))) (FwU32_2 (FwU32_1 (FwText_1 p2 p3) (FwText_2 p2 p3)) (FwU32_2 (FwText_1 p2 p3) (FwText_2 p2 p3)))),.b (FwU32_2 (FwU32_1 (FwU32_1 (FwText_1 p2 p3) (FwText_2 p2 p3)) (FwU32_2 (FwText_1 p2 p3) (FwText_2 p2 p3))) (FwU32_2 (FwU32_1 (FwText_1 p2 p3) (FwText_2 p2 p3)) (FwU32_2 (FwText_1 p2 p3) (FwText_2 p2 p3))))]),some (.ints .u8 p0.wait.length p0.wait),some (.ints .u8 p0.got.length p0.got),some (.vec .row p0.out)]⟩) (by simp only [chC,Fcopen,Fcopen_1,Fcopen_2,Fcopen_3,h1,h2,sel_true,sel_false]) ?_
    exact endP.ret [(0,0),(4,4),(1,5),(2,6),(3,7)] TT (by kernel_rfl) (by kernel_rfl) tt
   ·
    refine Tri.skip ?_
    change Tri _ _ _ _ _ _
    refine Tri.seq ?_
    refine Tri.split ((p0.state:Int) != 0) (fun h3 => ?_) (fun h3 => ?_)
    ·
     have h3':=ne_true_i h3
     refine Tri.seq_region [(33,qb true)] none [40,8,7,6,0] [4,0,1,2,3] (TT∧(TT∧(TT∧(((1 < 14)∧True)∧(TT∧((True∧(((p0.state:Int) != 0)=true))∧(TT∧(TT∧(TT∧(TT∧(TT∧(TT∧(TT∧True)))))))))))))
       ([(40,.sc (.b true)),(8,.sc (.i .u32 (FwU32 (FwU32_1 (FwU32_1 (FwText_1 p2 p3) (FwText_2 p2 p3)) (FwU32_2 (FwText_1 p2 p3) (FwText_2 p2 p3))) (FwU32_2 (FwU32_1 (FwText_1 p2 p3) (FwText_2 p2 p3)) (FwU32_2 (FwText_1 p2 p3) (FwText_2 p2 p3)))))),(7,.sc (.i .u32 (FwU32 (FwU32_1 (FwText_1 p2 p3) (FwText_2 p2 p3)) (FwU32_2 (FwText_1 p2 p3) (FwText_2 p2 p3))))),(6,.sc (.i .u32 (FwU32 (FwText_1 p2 p3) (FwText_2 p2 p3)))),(0,.sc (.p 0 0))],[(4,.cells [.ro .u8 (FwU32_1 (FwU32_1 (FwU32_1 (FwText_1 p2 p3) (FwText_2 p2 p3)) (FwU32_2 (FwText_1 p2 p3) (FwText_2 p2 p3))) (FwU32_2 (FwU32_1 (FwText_1 p2 p3) (FwText_2 p2 p3)) (FwU32_2 (FwText_1 p2 p3) (FwText_2 p2 p3)))),.b (FwU32_2 (FwU32_1 (FwU32_1 (FwText_1 p2 p3) (FwText_2 p2 p3)) (FwU32_2 (FwText_1 p2 p3) (FwText_2 p2 p3))) (FwU32_2 (FwU32_1 (FwText_1 p2 p3) (FwText_2 p2 p3)) (FwU32_2 (FwText_1 p2 p3) (FwText_2 p2 p3))))]),(0,chC 1 2 3 p0),(1,.ints .u8 p0.wait.length p0.wait),(2,.ints .u8 p0.got.length p0.got),(3,.vec .row p0.out)])
       592 (by kernel_rfl) rfl (by kernel_rfl) (⟨tt,⟨tt,⟨tt,⟨⟨(by first | omega | (dsimp only; omega) | decide | (simp only [Fcopenv0,Fcopenv1,len_say]; omega)),trivial⟩,⟨tt,⟨⟨trivial,(h3)⟩,⟨tt,⟨tt,⟨tt,⟨tt,⟨tt,⟨tt,⟨tt,trivial⟩⟩⟩⟩⟩⟩⟩⟩⟩⟩⟩⟩⟩) ?_
     refine Tri.cond_true (by kernel_rfl) ?_
     refine Tri.seq_region [] none [9,0] [640,4,0,1,2,3] ((((((0 < 1)∧(1=1))∧True)∧((1 * 1≤16777216)∧(1=1)))∧True)∧(TT∧(((True∧((1=1)∧(1≤1000000000)))∧True)∧(((True∧(((1 + 4)=(1 + 4))∧((1 + 4)≤1000000000)))∧True)∧(TT∧True)))))
       ([(9,.sc (.sl 640 0 ((1 + 4) + 4) 1 none)),(0,.sc (.p 0 0))],[(640,.ints .u8 ((1 + 4) + 4) (FwwU32 (1 + 4) (FwwU32 1 [92] (FwU32 (FwText_1 p2 p3) (FwText_2 p2 p3))) 3)),(4,.cells [.ro .u8 (FwU32_1 (FwU32_1 (FwU32_1 (FwText_1 p2 p3) (FwText_2 p2 p3)) (FwU32_2 (FwText_1 p2 p3) (FwText_2 p2 p3))) (FwU32_2 (FwU32_1 (FwText_1 p2 p3) (FwText_2 p2 p3)) (FwU32_2 (FwText_1 p2 p3) (FwText_2 p2 p3)))),.b (FwU32_2 (FwU32_1 (FwU32_1 (FwText_1 p2 p3) (FwText_2 p2 p3)) (FwU32_2 (FwText_1 p2 p3) (FwText_2 p2 p3))) (FwU32_2 (FwU32_1 (FwText_1 p2 p3) (FwText_2 p2 p3)) (FwU32_2 (FwText_1 p2 p3) (FwText_2 p2 p3))))]),(0,chC 1 2 3 p0),(1,.ints .u8 p0.wait.length p0.wait),(2,.ints .u8 p0.got.length p0.got),(3,.vec .row p0.out)])
       672 (by kernel_rfl) rfl (by kernel_rfl) (⟨⟨⟨⟨⟨(by first | omega | (dsimp only; omega) | decide | (simp only [Fcopenv0,Fcopenv1,len_say]; omega)),(rfl)⟩,trivial⟩,⟨(by first | omega | (dsimp only; omega) | decide | (simp only [Fcopenv0,Fcopenv1,len_say]; omega)),(rfl)⟩⟩,trivial⟩,⟨tt,⟨⟨⟨trivial,⟨(rfl),(by first | omega | (dsimp only; omega) | decide | (simp only [Fcopenv0,Fcopenv1,len_say]; omega))⟩⟩,trivial⟩,⟨⟨⟨trivial,⟨(rfl),(by first | omega | (dsimp only; omega) | decide | (simp only [Fcopenv0,Fcopenv1,len_say]; omega))⟩⟩,trivial⟩,⟨tt,trivial⟩⟩⟩⟩⟩) ?_
     refine Tri.seq_region [] none [] [738,737,736,0,4] (TT∧(TT∧(((True∧((((1 + 4) + 4)=((1 + 4) + 4))∧(((1 + 4) + 4)≤1000000000∧(⟨#[]⟩:ByteArray).size≤1000000000)))∧True)∧(((True∧((((((1 + 4) + 4) + 4) + (⟨#[]⟩:ByteArray).size)=((((1 + 4) + 4) + 4) + (⟨#[]⟩:ByteArray).size))∧(((((1 + 4) + 4) + 4) + (⟨#[]⟩:ByteArray).size)≤1000000000∧(⟨#[]⟩:ByteArray).size≤1000000000)))∧True)∧(((TT∧((chLens p0.wait.length p0.got.length p0.out.length p0.wait.length p0.got.length p0)∧(p0.out.length≤1000000000)))∧True)∧True)))))
       ([],[(738,.vec .row ((Fcopenv0 p0 p2 p3).out)),(737,.ints .u8 ((Fcopenv0 p0 p2 p3).got.length) ((Fcopenv0 p0 p2 p3).got)),(736,.ints .u8 ((Fcopenv0 p0 p2 p3).wait.length) ((Fcopenv0 p0 p2 p3).wait)),(0,chC 736 737 738 (Fcopenv0 p0 p2 p3)),(4,.cells [.ro .u8 (FwU32_1 (FwU32_1 (FwU32_1 (FwText_1 p2 p3) (FwText_2 p2 p3)) (FwU32_2 (FwText_1 p2 p3) (FwText_2 p2 p3))) (FwU32_2 (FwU32_1 (FwText_1 p2 p3) (FwText_2 p2 p3)) (FwU32_2 (FwText_1 p2 p3) (FwText_2 p2 p3)))),.b (FwU32_2 (FwU32_1 (FwU32_1 (FwText_1 p2 p3) (FwText_2 p2 p3)) (FwU32_2 (FwText_1 p2 p3) (FwText_2 p2 p3))) (FwU32_2 (FwU32_1 (FwText_1 p2 p3) (FwText_2 p2 p3)) (FwU32_2 (FwText_1 p2 p3) (FwText_2 p2 p3))))])])
       752 (by kernel_rfl) rfl (by kernel_rfl) (⟨tt,⟨tt,⟨⟨⟨trivial,⟨(rfl),(by first | omega | (dsimp only; omega) | decide | (simp only [Fcopenv0,Fcopenv1,len_say]; omega))⟩⟩,trivial⟩,⟨⟨⟨trivial,⟨(rfl),(by first | omega | (dsimp only; omega) | decide | (simp only [Fcopenv0,Fcopenv1,len_say]; omega))⟩⟩,trivial⟩,⟨⟨⟨tt,⟨(chLens_self _),(by first | omega | (dsimp only; omega) | decide | (simp only [Fcopenv0,Fcopenv1,len_say]; omega))⟩⟩,trivial⟩,trivial⟩⟩⟩⟩⟩) ?_
     refine Tri.seq_region [] none [4] [738,737,736,0,4] (TT∧True)
       ([(4,.sc (.i .i64 0))],[(738,.vec .row ((Fcopenv0 p0 p2 p3).out)),(737,.ints .u8 ((Fcopenv0 p0 p2 p3).got.length) ((Fcopenv0 p0 p2 p3).got)),(736,.ints .u8 ((Fcopenv0 p0 p2 p3).wait.length) ((Fcopenv0 p0 p2 p3).wait)),(0,chC 736 737 738 (Fcopenv0 p0 p2 p3)),(4,.cells [.ro .u8 (FwU32_1 (FwU32_1 (FwU32_1 (FwText_1 p2 p3) (FwText_2 p2 p3)) (FwU32_2 (FwText_1 p2 p3) (FwText_2 p2 p3))) (FwU32_2 (FwU32_1 (FwText_1 p2 p3) (FwText_2 p2 p3)) (FwU32_2 (FwText_1 p2 p3) (FwText_2 p2 p3)))),.b (FwU32_2 (FwU32_1 (FwU32_1 (FwText_1 p2 p3) (FwText_2 p2 p3)) (FwU32_2 (FwText_1 p2 p3) (FwText_2 p2 p3))) (FwU32_2 (FwU32_1 (FwText_1 p2 p3) (FwText_2 p2 p3)) (FwU32_2 (FwText_1 p2 p3) (FwText_2 p2 p3))))])])
       768 (by kernel_rfl) rfl (by kernel_rfl) (⟨tt,trivial⟩) ?_
     refine Tri.ret ?_
     repeat (first | refine thenP_ret ?_ | refine blkP_ret ?_ | refine countP_ret ?_ | refine joinP_ret ?_ | refine iterP_ret ?_)
     refine subP_done ?_
     refine endP.conv (r':=⟨.sc (.i .i64 0),[some (chC 5 6 7 (Fcopenv0 p0 p2 p3)),none,none,none,some (.cells [.ro .u8 (FwU32_1 (FwU32_1 (FwU32_1 (FwText_1 p2 p3) (FwText_2 p2 p3)) (FwU32_2 (FwText_1 p2 p3) (FwText_2 p2 p3))) (FwU32_2 (FwU32_1 (FwText_1 p2 p3) (FwText_2 p2 p3)) (FwU32_2 (FwText_1 p2 p3) (FwText_2 p2 p3)))),.b (FwU32_2 (FwU32_1 (FwU32_1 (FwText_1 p2 p3) (FwText_2 p2 p3)) (FwU32_2 (FwText_1 p2 p3) (FwText_2 p2 p3))) (FwU32_2 (FwU32_1 (FwText_1 p2 p3) (FwText_2 p2 p3)) (FwU32_2 (FwText_1 p2 p3) (FwText_2 p2 p3))))]),some (.ints .u8 ((Fcopenv0 p0 p2 p3).wait.length) ((Fcopenv0 p0 p2 p3).wait)),some (.ints .u8 ((Fcopenv0 p0 p2 p3).got.length) ((Fcopenv0 p0 p2 p3).got)),some (.vec .row ((Fcopenv0 p0 p2 p3).out))]⟩) (by simp only [chC,Fcopen,Fcopen_1,Fcopen_2,Fcopen_3,h1,h2,h3,sel_true,sel_false]) ?_
     exact endP.ret [(0,0),(4,4),(736,5),(737,6),(738,7)] TT (by kernel_rfl) (by kernel_rfl) tt
    ·
     have h3':=ne_false_i h3
     refine Tri.split (!(strEq (FwText p2 p3) (⟨#[115,101,115,115,105,111,110]⟩:ByteArray))) (fun h4 => ?_) (fun h4 => ?_)
     ·
      refine Tri.seq_region [(33,qb false),(37,qb true)] none [40,8,7,6,0] [4,0,1,2,3] (TT∧(TT∧(TT∧(((1 < 14)∧True)∧(TT∧((True∧(((p0.state:Int) != 0)=false))∧(TT∧(TT∧(TT∧((True∧((!(strEq (FwText p2 p3) (⟨#[115,101,115,115,105,111,110]⟩:ByteArray)))=true))∧(TT∧(TT∧(TT∧True)))))))))))))
        ([(40,.sc (.b true)),(8,.sc (.i .u32 (FwU32 (FwU32_1 (FwU32_1 (FwText_1 p2 p3) (FwText_2 p2 p3)) (FwU32_2 (FwText_1 p2 p3) (FwText_2 p2 p3))) (FwU32_2 (FwU32_1 (FwText_1 p2 p3) (FwText_2 p2 p3)) (FwU32_2 (FwText_1 p2 p3) (FwText_2 p2 p3)))))),(7,.sc (.i .u32 (FwU32 (FwU32_1 (FwText_1 p2 p3) (FwText_2 p2 p3)) (FwU32_2 (FwText_1 p2 p3) (FwText_2 p2 p3))))),(6,.sc (.i .u32 (FwU32 (FwText_1 p2 p3) (FwText_2 p2 p3)))),(0,.sc (.p 0 0))],[(4,.cells [.ro .u8 (FwU32_1 (FwU32_1 (FwU32_1 (FwText_1 p2 p3) (FwText_2 p2 p3)) (FwU32_2 (FwText_1 p2 p3) (FwText_2 p2 p3))) (FwU32_2 (FwU32_1 (FwText_1 p2 p3) (FwText_2 p2 p3)) (FwU32_2 (FwText_1 p2 p3) (FwText_2 p2 p3)))),.b (FwU32_2 (FwU32_1 (FwU32_1 (FwText_1 p2 p3) (FwText_2 p2 p3)) (FwU32_2 (FwText_1 p2 p3) (FwText_2 p2 p3))) (FwU32_2 (FwU32_1 (FwText_1 p2 p3) (FwText_2 p2 p3)) (FwU32_2 (FwText_1 p2 p3) (FwText_2 p2 p3))))]),(0,chC 1 2 3 p0),(1,.ints .u8 p0.wait.length p0.wait),(2,.ints .u8 p0.got.length p0.got),(3,.vec .row p0.out)])
        592 (by kernel_rfl) rfl (by kernel_rfl) (⟨tt,⟨tt,⟨tt,⟨⟨(by first | omega | (dsimp only; omega) | decide | (simp only [Fcopenv0,Fcopenv1,len_say]; omega)),trivial⟩,⟨tt,⟨⟨trivial,(h3)⟩,⟨tt,⟨tt,⟨tt,⟨⟨trivial,(h4)⟩,⟨tt,⟨tt,⟨tt,trivial⟩⟩⟩⟩⟩⟩⟩⟩⟩⟩⟩⟩⟩) ?_
      refine Tri.cond_true (by kernel_rfl) ?_
      refine Tri.seq_region [] none [9,0] [640,4,0,1,2,3] ((((((0 < 1)∧(1=1))∧True)∧((1 * 1≤16777216)∧(1=1)))∧True)∧(TT∧(((True∧((1=1)∧(1≤1000000000)))∧True)∧(((True∧(((1 + 4)=(1 + 4))∧((1 + 4)≤1000000000)))∧True)∧(TT∧True)))))
        ([(9,.sc (.sl 640 0 ((1 + 4) + 4) 1 none)),(0,.sc (.p 0 0))],[(640,.ints .u8 ((1 + 4) + 4) (FwwU32 (1 + 4) (FwwU32 1 [92] (FwU32 (FwText_1 p2 p3) (FwText_2 p2 p3))) 3)),(4,.cells [.ro .u8 (FwU32_1 (FwU32_1 (FwU32_1 (FwText_1 p2 p3) (FwText_2 p2 p3)) (FwU32_2 (FwText_1 p2 p3) (FwText_2 p2 p3))) (FwU32_2 (FwU32_1 (FwText_1 p2 p3) (FwText_2 p2 p3)) (FwU32_2 (FwText_1 p2 p3) (FwText_2 p2 p3)))),.b (FwU32_2 (FwU32_1 (FwU32_1 (FwText_1 p2 p3) (FwText_2 p2 p3)) (FwU32_2 (FwText_1 p2 p3) (FwText_2 p2 p3))) (FwU32_2 (FwU32_1 (FwText_1 p2 p3) (FwText_2 p2 p3)) (FwU32_2 (FwText_1 p2 p3) (FwText_2 p2 p3))))]),(0,chC 1 2 3 p0),(1,.ints .u8 p0.wait.length p0.wait),(2,.ints .u8 p0.got.length p0.got),(3,.vec .row p0.out)])
        672 (by kernel_rfl) rfl (by kernel_rfl) (⟨⟨⟨⟨⟨(by first | omega | (dsimp only; omega) | decide | (simp only [Fcopenv0,Fcopenv1,len_say]; omega)),(rfl)⟩,trivial⟩,⟨(by first | omega | (dsimp only; omega) | decide | (simp only [Fcopenv0,Fcopenv1,len_say]; omega)),(rfl)⟩⟩,trivial⟩,⟨tt,⟨⟨⟨trivial,⟨(rfl),(by first | omega | (dsimp only; omega) | decide | (simp only [Fcopenv0,Fcopenv1,len_say]; omega))⟩⟩,trivial⟩,⟨⟨⟨trivial,⟨(rfl),(by first | omega | (dsimp only; omega) | decide | (simp only [Fcopenv0,Fcopenv1,len_say]; omega))⟩⟩,trivial⟩,⟨tt,trivial⟩⟩⟩⟩⟩) ?_
      refine Tri.seq_region [] none [] [738,737,736,0,4] (TT∧(TT∧(((True∧((((1 + 4) + 4)=((1 + 4) + 4))∧(((1 + 4) + 4)≤1000000000∧(⟨#[]⟩:ByteArray).size≤1000000000)))∧True)∧(((True∧((((((1 + 4) + 4) + 4) + (⟨#[]⟩:ByteArray).size)=((((1 + 4) + 4) + 4) + (⟨#[]⟩:ByteArray).size))∧(((((1 + 4) + 4) + 4) + (⟨#[]⟩:ByteArray).size)≤1000000000∧(⟨#[]⟩:ByteArray).size≤1000000000)))∧True)∧(((TT∧((chLens p0.wait.length p0.got.length p0.out.length p0.wait.length p0.got.length p0)∧(p0.out.length≤1000000000)))∧True)∧True)))))
        ([],[(738,.vec .row ((Fcopenv0 p0 p2 p3).out)),(737,.ints .u8 ((Fcopenv0 p0 p2 p3).got.length) ((Fcopenv0 p0 p2 p3).got)),(736,.ints .u8 ((Fcopenv0 p0 p2 p3).wait.length) ((Fcopenv0 p0 p2 p3).wait)),(0,chC 736 737 738 (Fcopenv0 p0 p2 p3)),(4,.cells [.ro .u8 (FwU32_1 (FwU32_1 (FwU32_1 (FwText_1 p2 p3) (FwText_2 p2 p3)) (FwU32_2 (FwText_1 p2 p3) (FwText_2 p2 p3))) (FwU32_2 (FwU32_1 (FwText_1 p2 p3) (FwText_2 p2 p3)) (FwU32_2 (FwText_1 p2 p3) (FwText_2 p2 p3)))),.b (FwU32_2 (FwU32_1 (FwU32_1 (FwText_1 p2 p3) (FwText_2 p2 p3)) (FwU32_2 (FwText_1 p2 p3) (FwText_2 p2 p3))) (FwU32_2 (FwU32_1 (FwText_1 p2 p3) (FwText_2 p2 p3)) (FwU32_2 (FwText_1 p2 p3) (FwText_2 p2 p3))))])])
        752 (by kernel_rfl) rfl (by kernel_rfl) (⟨tt,⟨tt,⟨⟨⟨trivial,⟨(rfl),(by first | omega | (dsimp only; omega) | decide | (simp only [Fcopenv0,Fcopenv1,len_say]; omega))⟩⟩,trivial⟩,⟨⟨⟨trivial,⟨(rfl),(by first | omega | (dsimp only; omega) | decide | (simp only [Fcopenv0,Fcopenv1,len_say]; omega))⟩⟩,trivial⟩,⟨⟨⟨tt,⟨(chLens_self _),(by first | omega | (dsimp only; omega) | decide | (simp only [Fcopenv0,Fcopenv1,len_say]; omega))⟩⟩,trivial⟩,trivial⟩⟩⟩⟩⟩) ?_
      refine Tri.seq_region [] none [4] [738,737,736,0,4] (TT∧True)
        ([(4,.sc (.i .i64 0))],[(738,.vec .row ((Fcopenv0 p0 p2 p3).out)),(737,.ints .u8 ((Fcopenv0 p0 p2 p3).got.length) ((Fcopenv0 p0 p2 p3).got)),(736,.ints .u8 ((Fcopenv0 p0 p2 p3).wait.length) ((Fcopenv0 p0 p2 p3).wait)),(0,chC 736 737 738 (Fcopenv0 p0 p2 p3)),(4,.cells [.ro .u8 (FwU32_1 (FwU32_1 (FwU32_1 (FwText_1 p2 p3) (FwText_2 p2 p3)) (FwU32_2 (FwText_1 p2 p3) (FwText_2 p2 p3))) (FwU32_2 (FwU32_1 (FwText_1 p2 p3) (FwText_2 p2 p3)) (FwU32_2 (FwText_1 p2 p3) (FwText_2 p2 p3)))),.b (FwU32_2 (FwU32_1 (FwU32_1 (FwText_1 p2 p3) (FwText_2 p2 p3)) (FwU32_2 (FwText_1 p2 p3) (FwText_2 p2 p3))) (FwU32_2 (FwU32_1 (FwText_1 p2 p3) (FwText_2 p2 p3)) (FwU32_2 (FwText_1 p2 p3) (FwText_2 p2 p3))))])])
        768 (by kernel_rfl) rfl (by kernel_rfl) (⟨tt,trivial⟩) ?_
      refine Tri.ret ?_
      repeat (first | refine thenP_ret ?_ | refine blkP_ret ?_ | refine countP_ret ?_ | refine joinP_ret ?_ | refine iterP_ret ?_)
      refine subP_done ?_
      refine endP.conv (r':=⟨.sc (.i .i64 0),[some (chC 5 6 7 (Fcopenv0 p0 p2 p3)),none,none,none,some (.cells [.ro .u8 (FwU32_1 (FwU32_1 (FwU32_1 (FwText_1 p2 p3) (FwText_2 p2 p3)) (FwU32_2 (FwText_1 p2 p3) (FwText_2 p2 p3))) (FwU32_2 (FwU32_1 (FwText_1 p2 p3) (FwText_2 p2 p3)) (FwU32_2 (FwText_1 p2 p3) (FwText_2 p2 p3)))),.b (FwU32_2 (FwU32_1 (FwU32_1 (FwText_1 p2 p3) (FwText_2 p2 p3)) (FwU32_2 (FwText_1 p2 p3) (FwText_2 p2 p3))) (FwU32_2 (FwU32_1 (FwText_1 p2 p3) (FwText_2 p2 p3)) (FwU32_2 (FwText_1 p2 p3) (FwText_2 p2 p3))))]),some (.ints .u8 ((Fcopenv0 p0 p2 p3).wait.length) ((Fcopenv0 p0 p2 p3).wait)),some (.ints .u8 ((Fcopenv0 p0 p2 p3).got.length) ((Fcopenv0 p0 p2 p3).got)),some (.vec .row ((Fcopenv0 p0 p2 p3).out))]⟩) (by simp only [chC,Fcopen,Fcopen_1,Fcopen_2,Fcopen_3,h1,h2,h3,h4,sel_true,sel_false]) ?_
      exact endP.ret [(0,0),(4,4),(736,5),(737,6),(738,7)] TT (by kernel_rfl) (by kernel_rfl) tt
     ·
      refine Tri.seq_region [(33,qb false),(37,qb false)] none [40,8,7,6,0] [4,0,1,2,3] (TT∧(TT∧(TT∧(((1 < 14)∧True)∧(TT∧((True∧(((p0.state:Int) != 0)=false))∧(TT∧(TT∧(TT∧((True∧((!(strEq (FwText p2 p3) (⟨#[115,101,115,115,105,111,110]⟩:ByteArray)))=false))∧(TT∧(TT∧(TT∧True)))))))))))))
        ([(40,.sc (.b (((FwU32 (FwU32_1 (FwU32_1 (FwText_1 p2 p3) (FwText_2 p2 p3)) (FwU32_2 (FwText_1 p2 p3) (FwText_2 p2 p3))) (FwU32_2 (FwU32_1 (FwText_1 p2 p3) (FwText_2 p2 p3)) (FwU32_2 (FwText_1 p2 p3) (FwText_2 p2 p3)))):Int) == 0))),(8,.sc (.i .u32 (FwU32 (FwU32_1 (FwU32_1 (FwText_1 p2 p3) (FwText_2 p2 p3)) (FwU32_2 (FwText_1 p2 p3) (FwText_2 p2 p3))) (FwU32_2 (FwU32_1 (FwText_1 p2 p3) (FwText_2 p2 p3)) (FwU32_2 (FwText_1 p2 p3) (FwText_2 p2 p3)))))),(7,.sc (.i .u32 (FwU32 (FwU32_1 (FwText_1 p2 p3) (FwText_2 p2 p3)) (FwU32_2 (FwText_1 p2 p3) (FwText_2 p2 p3))))),(6,.sc (.i .u32 (FwU32 (FwText_1 p2 p3) (FwText_2 p2 p3)))),(0,.sc (.p 0 0))],[(4,.cells [.ro .u8 (FwU32_1 (FwU32_1 (FwU32_1 (FwText_1 p2 p3) (FwText_2 p2 p3)) (FwU32_2 (FwText_1 p2 p3) (FwText_2 p2 p3))) (FwU32_2 (FwU32_1 (FwText_1 p2 p3) (FwText_2 p2 p3)) (FwU32_2 (FwText_1 p2 p3) (FwText_2 p2 p3)))),.b (FwU32_2 (FwU32_1 (FwU32_1 (FwText_1 p2 p3) (FwText_2 p2 p3)) (FwU32_2 (FwText_1 p2 p3) (FwText_2 p2 p3))) (FwU32_2 (FwU32_1 (FwText_1 p2 p3) (FwText_2 p2 p3)) (FwU32_2 (FwText_1 p2 p3) (FwText_2 p2 p3))))]),(0,chC 1 2 3 p0),(1,.ints .u8 p0.wait.length p0.wait),(2,.ints .u8 p0.got.length p0.got),(3,.vec .row p0.out)])
        592 (by kernel_rfl) rfl (by kernel_rfl) (⟨tt,⟨tt,⟨tt,⟨⟨(by first | omega | (dsimp only; omega) | decide | (simp only [Fcopenv0,Fcopenv1,len_say]; omega)),trivial⟩,⟨tt,⟨⟨trivial,(h3)⟩,⟨tt,⟨tt,⟨tt,⟨⟨trivial,(h4)⟩,⟨tt,⟨tt,⟨tt,trivial⟩⟩⟩⟩⟩⟩⟩⟩⟩⟩⟩⟩⟩) ?_
      refine Tri.cond (x:=(((FwU32 (FwU32_1 (FwU32_1 (FwText_1 p2 p3) (FwText_2 p2 p3)) (FwU32_2 (FwText_1 p2 p3) (FwText_2 p2 p3))) (FwU32_2 (FwU32_1 (FwText_1 p2 p3) (FwText_2 p2 p3)) (FwU32_2 (FwText_1 p2 p3) (FwText_2 p2 p3)))):Int) == 0)) (by kernel_rfl) (fun h5 => ?_) (fun h5 => ?_)
      ·
       have h5':=eq_true_i h5
       refine Tri.seq_region [] none [9,0] [640,4,0,1,2,3] ((((((0 < 1)∧(1=1))∧True)∧((1 * 1≤16777216)∧(1=1)))∧True)∧(TT∧(((True∧((1=1)∧(1≤1000000000)))∧True)∧(((True∧(((1 + 4)=(1 + 4))∧((1 + 4)≤1000000000)))∧True)∧(TT∧True)))))
         ([(9,.sc (.sl 640 0 ((1 + 4) + 4) 1 none)),(0,.sc (.p 0 0))],[(640,.ints .u8 ((1 + 4) + 4) (FwwU32 (1 + 4) (FwwU32 1 [92] (FwU32 (FwText_1 p2 p3) (FwText_2 p2 p3))) 3)),(4,.cells [.ro .u8 (FwU32_1 (FwU32_1 (FwU32_1 (FwText_1 p2 p3) (FwText_2 p2 p3)) (FwU32_2 (FwText_1 p2 p3) (FwText_2 p2 p3))) (FwU32_2 (FwU32_1 (FwText_1 p2 p3) (FwText_2 p2 p3)) (FwU32_2 (FwText_1 p2 p3) (FwText_2 p2 p3)))),.b (FwU32_2 (FwU32_1 (FwU32_1 (FwText_1 p2 p3) (FwText_2 p2 p3)) (FwU32_2 (FwText_1 p2 p3) (FwText_2 p2 p3))) (FwU32_2 (FwU32_1 (FwText_1 p2 p3) (FwText_2 p2 p3)) (FwU32_2 (FwText_1 p2 p3) (FwText_2 p2 p3))))]),(0,chC 1 2 3 p0),(1,.ints .u8 p0.wait.length p0.wait),(2,.ints .u8 p0.got.length p0.got),(3,.vec .row p0.out)])
         672 (by kernel_rfl) rfl (by kernel_rfl) (⟨⟨⟨⟨⟨(by first | omega | (dsimp only; omega) | decide | (simp only [Fcopenv0,Fcopenv1,len_say]; omega)),(rfl)⟩,trivial⟩,⟨(by first | omega | (dsimp only; omega) | decide | (simp only [Fcopenv0,Fcopenv1,len_say]; omega)),(rfl)⟩⟩,trivial⟩,⟨tt,⟨⟨⟨trivial,⟨(rfl),(by first | omega | (dsimp only; omega) | decide | (simp only [Fcopenv0,Fcopenv1,len_say]; omega))⟩⟩,trivial⟩,⟨⟨⟨trivial,⟨(rfl),(by first | omega | (dsimp only; omega) | decide | (simp only [Fcopenv0,Fcopenv1,len_say]; omega))⟩⟩,trivial⟩,⟨tt,trivial⟩⟩⟩⟩⟩) ?_
       refine Tri.seq_region [] none [] [738,737,736,0,4] (TT∧(TT∧(((True∧((((1 + 4) + 4)=((1 + 4) + 4))∧(((1 + 4) + 4)≤1000000000∧(⟨#[]⟩:ByteArray).size≤1000000000)))∧True)∧(((True∧((((((1 + 4) + 4) + 4) + (⟨#[]⟩:ByteArray).size)=((((1 + 4) + 4) + 4) + (⟨#[]⟩:ByteArray).size))∧(((((1 + 4) + 4) + 4) + (⟨#[]⟩:ByteArray).size)≤1000000000∧(⟨#[]⟩:ByteArray).size≤1000000000)))∧True)∧(((TT∧((chLens p0.wait.length p0.got.length p0.out.length p0.wait.length p0.got.length p0)∧(p0.out.length≤1000000000)))∧True)∧True)))))
         ([],[(738,.vec .row ((Fcopenv0 p0 p2 p3).out)),(737,.ints .u8 ((Fcopenv0 p0 p2 p3).got.length) ((Fcopenv0 p0 p2 p3).got)),(736,.ints .u8 ((Fcopenv0 p0 p2 p3).wait.length) ((Fcopenv0 p0 p2 p3).wait)),(0,chC 736 737 738 (Fcopenv0 p0 p2 p3)),(4,.cells [.ro .u8 (FwU32_1 (FwU32_1 (FwU32_1 (FwText_1 p2 p3) (FwText_2 p2 p3)) (FwU32_2 (FwText_1 p2 p3) (FwText_2 p2 p3))) (FwU32_2 (FwU32_1 (FwText_1 p2 p3) (FwText_2 p2 p3)) (FwU32_2 (FwText_1 p2 p3) (FwText_2 p2 p3)))),.b (FwU32_2 (FwU32_1 (FwU32_1 (FwText_1 p2 p3) (FwText_2 p2 p3)) (FwU32_2 (FwText_1 p2 p3) (FwText_2 p2 p3))) (FwU32_2 (FwU32_1 (FwText_1 p2 p3) (FwText_2 p2 p3)) (FwU32_2 (FwText_1 p2 p3) (FwText_2 p2 p3))))])])
         752 (by kernel_rfl) rfl (by kernel_rfl) (⟨tt,⟨tt,⟨⟨⟨trivial,⟨(rfl),(by first | omega | (dsimp only; omega) | decide | (simp only [Fcopenv0,Fcopenv1,len_say]; omega))⟩⟩,trivial⟩,⟨⟨⟨trivial,⟨(rfl),(by first | omega | (dsimp only; omega) | decide | (simp only [Fcopenv0,Fcopenv1,len_say]; omega))⟩⟩,trivial⟩,⟨⟨⟨tt,⟨(chLens_self _),(by first | omega | (dsimp only; omega) | decide | (simp only [Fcopenv0,Fcopenv1,len_say]; omega))⟩⟩,trivial⟩,trivial⟩⟩⟩⟩⟩) ?_
       refine Tri.seq_region [] none [4] [738,737,736,0,4] (TT∧True)
         ([(4,.sc (.i .i64 0))],[(738,.vec .row ((Fcopenv0 p0 p2 p3).out)),(737,.ints .u8 ((Fcopenv0 p0 p2 p3).got.length) ((Fcopenv0 p0 p2 p3).got)),(736,.ints .u8 ((Fcopenv0 p0 p2 p3).wait.length) ((Fcopenv0 p0 p2 p3).wait)),(0,chC 736 737 738 (Fcopenv0 p0 p2 p3)),(4,.cells [.ro .u8 (FwU32_1 (FwU32_1 (FwU32_1 (FwText_1 p2 p3) (FwText_2 p2 p3)) (FwU32_2 (FwText_1 p2 p3) (FwText_2 p2 p3))) (FwU32_2 (FwU32_1 (FwText_1 p2 p3) (FwText_2 p2 p3)) (FwU32_2 (FwText_1 p2 p3) (FwText_2 p2 p3)))),.b (FwU32_2 (FwU32_1 (FwU32_1 (FwText_1 p2 p3) (FwText_2 p2 p3)) (FwU32_2 (FwText_1 p2 p3) (FwText_2 p2 p3))) (FwU32_2 (FwU32_1 (FwText_1 p2 p3) (FwText_2 p2 p3)) (FwU32_2 (FwText_1 p2 p3) (FwText_2 p2 p3))))])])
         768 (by kernel_rfl) rfl (by kernel_rfl) (⟨tt,trivial⟩) ?_
       refine Tri.ret ?_
       repeat (first | refine thenP_ret ?_ | refine blkP_ret ?_ | refine countP_ret ?_ | refine joinP_ret ?_ | refine iterP_ret ?_)
       refine subP_done ?_
       refine endP.conv (r':=⟨.sc (.i .i64 0),[some (chC 5 6 7 (Fcopenv0 p0 p2 p3)),none,none,none,some (.cells [.ro .u8 (FwU32_1 (FwU32_1 (FwU32_1 (FwText_1 p2 p3) (FwText_2 p2 p3)) (FwU32_2 (FwText_1 p2 p3) (FwText_2 p2 p3))) (FwU32_2 (FwU32_1 (FwText_1 p2 p3) (FwText_2 p2 p3)) (FwU32_2 (FwText_1 p2 p3) (FwText_2 p2 p3)))),.b (FwU32_2 (FwU32_1 (FwU32_1 (FwText_1 p2 p3) (FwText_2 p2 p3)) (FwU32_2 (FwText_1 p2 p3) (FwText_2 p2 p3))) (FwU32_2 (FwU32_1 (FwText_1 p2 p3) (FwText_2 p2 p3)) (FwU32_2 (FwText_1 p2 p3) (FwText_2 p2 p3))))]),some (.ints .u8 ((Fcopenv0 p0 p2 p3).wait.length) ((Fcopenv0 p0 p2 p3).wait)),some (.ints .u8 ((Fcopenv0 p0 p2 p3).got.length) ((Fcopenv0 p0 p2 p3).got)),some (.vec .row ((Fcopenv0 p0 p2 p3).out))]⟩) (by simp only [chC,Fcopen,Fcopen_1,Fcopen_2,Fcopen_3,h1,h2,h3,h4,h5,sel_true,sel_false]) ?_
       exact endP.ret [(0,0),(4,4),(736,5),(737,6),(738,7)] TT (by kernel_rfl) (by kernel_rfl) tt
      ·
       have h5':=eq_false_i h5
       refine Tri.skip ?_
       change Tri _ _ _ _ _ _
       refine Tri.seq_region [] none [8,7,0] [0,4,1,2,3] (TT∧(TT∧(TT∧(TT∧(TT∧(TT∧((((1 < 14)∧(1=1))∧True)∧(TT∧(TT∧((((2 < 14)∧(1=1))∧True)∧(TT∧(TT∧((((5 < 14)∧(1=1))∧True)∧True)))))))))))))
         ([(8,.sc (.i .u32 (FwU32 (FwU32_1 (FwU32_1 (FwText_1 p2 p3) (FwText_2 p2 p3)) (FwU32_2 (FwText_1 p2 p3) (FwText_2 p2 p3))) (FwU32_2 (FwU32_1 (FwText_1 p2 p3) (FwText_2 p2 p3)) (FwU32_2 (FwText_1 p2 p3) (FwText_2 p2 p3)))))),(7,.sc (.i .u32 (FwU32 (FwU32_1 (FwText_1 p2 p3) (FwText_2 p2 p3)) (FwU32_2 (FwText_1 p2 p3) (FwText_2 p2 p3))))),(0,.sc (.p 0 0))],[(0,.cells [.b p0.server,.i .i64 2,.i .u32 (FwU32 (FwText_1 p2 p3) (FwText_2 p2 p3)),.i .i64 p0.window,.i .i64 p0.most,.i .i64 4096,.sl 1 0 p0.wait.length 1 none,.sl 2 0 p0.got.length 1 none,.b p0.ready,.b p0.e0,.b p0.e1,.b p0.c0,.b p0.c1,.sl 3 0 p0.out.length 1 none]),(4,.cells [.ro .u8 (FwU32_1 (FwU32_1 (FwU32_1 (FwText_1 p2 p3) (FwText_2 p2 p3)) (FwU32_2 (FwText_1 p2 p3) (FwText_2 p2 p3))) (FwU32_2 (FwU32_1 (FwText_1 p2 p3) (FwText_2 p2 p3)) (FwU32_2 (FwText_1 p2 p3) (FwText_2 p2 p3)))),.b (FwU32_2 (FwU32_1 (FwU32_1 (FwText_1 p2 p3) (FwText_2 p2 p3)) (FwU32_2 (FwText_1 p2 p3) (FwText_2 p2 p3))) (FwU32_2 (FwU32_1 (FwText_1 p2 p3) (FwText_2 p2 p3)) (FwU32_2 (FwText_1 p2 p3) (FwText_2 p2 p3))))]),(1,.ints .u8 p0.wait.length p0.wait),(2,.ints .u8 p0.got.length p0.got),(3,.vec .row p0.out)])
         800 (by kernel_rfl) rfl (by kernel_rfl) (⟨tt,⟨tt,⟨tt,⟨tt,⟨tt,⟨tt,⟨⟨⟨(by first | omega | (dsimp only; omega) | decide | (simp only [Fcopenv0,Fcopenv1,len_say]; omega)),(rfl)⟩,trivial⟩,⟨tt,⟨tt,⟨⟨⟨(by first | omega | (dsimp only; omega) | decide | (simp only [Fcopenv0,Fcopenv1,len_say]; omega)),(rfl)⟩,trivial⟩,⟨tt,⟨tt,⟨⟨⟨(by first | omega | (dsimp only; omega) | decide | (simp only [Fcopenv0,Fcopenv1,len_say]; omega)),(rfl)⟩,trivial⟩,trivial⟩⟩⟩⟩⟩⟩⟩⟩⟩⟩⟩⟩⟩) ?_
       refine Tri.seq_region [] none [0] [0,4,1,2,3] (TT∧(TT∧(TT∧(TT∧(TT∧(TT∧(TT∧(TT∧(TT∧(TT∧((((3 < 14)∧(1=1))∧True)∧(TT∧(TT∧((((4 < 14)∧(1=1))∧True)∧True))))))))))))))
         ([(0,.sc (.p 0 0))],[(0,.cells [.b p0.server,.i .i64 2,.i .u32 (FwU32 (FwText_1 p2 p3) (FwText_2 p2 p3)),.i .i64 (IntKind.wrap .i64 (minI (FwU32 (FwU32_1 (FwText_1 p2 p3) (FwText_2 p2 p3)) (FwU32_2 (FwText_1 p2 p3) (FwText_2 p2 p3))) 1073741824)),.i .i64 (IntKind.wrap .i64 (minI (FwU32 (FwU32_1 (FwU32_1 (FwText_1 p2 p3) (FwText_2 p2 p3)) (FwU32_2 (FwText_1 p2 p3) (FwText_2 p2 p3))) (FwU32_2 (FwU32_1 (FwText_1 p2 p3) (FwText_2 p2 p3)) (FwU32_2 (FwText_1 p2 p3) (FwText_2 p2 p3)))) 512)),.i .i64 4096,.sl 1 0 p0.wait.length 1 none,.sl 2 0 p0.got.length 1 none,.b p0.ready,.b p0.e0,.b p0.e1,.b p0.c0,.b p0.c1,.sl 3 0 p0.out.length 1 none]),(4,.cells [.ro .u8 (FwU32_1 (FwU32_1 (FwU32_1 (FwText_1 p2 p3) (FwText_2 p2 p3)) (FwU32_2 (FwText_1 p2 p3) (FwText_2 p2 p3))) (FwU32_2 (FwU32_1 (FwText_1 p2 p3) (FwText_2 p2 p3)) (FwU32_2 (FwText_1 p2 p3) (FwText_2 p2 p3)))),.b (FwU32_2 (FwU32_1 (FwU32_1 (FwText_1 p2 p3) (FwText_2 p2 p3)) (FwU32_2 (FwText_1 p2 p3) (FwText_2 p2 p3))) (FwU32_2 (FwU32_1 (FwText_1 p2 p3) (FwText_2 p2 p3)) (FwU32_2 (FwText_1 p2 p3) (FwText_2 p2 p3))))]),(1,.ints .u8 p0.wait.length p0.wait),(2,.ints .u8 p0.got.length p0.got),(3,.vec .row p0.out)])
         1024 (by kernel_rfl) rfl (by kernel_rfl) (⟨tt,⟨tt,⟨tt,⟨tt,⟨tt,⟨tt,⟨tt,⟨tt,⟨tt,⟨tt,⟨⟨⟨(by first | omega | (dsimp only; omega) | decide | (simp only [Fcopenv0,Fcopenv1,len_say]; omega)),(rfl)⟩,trivial⟩,⟨tt,⟨tt,⟨⟨⟨(by first | omega | (dsimp only; omega) | decide | (simp only [Fcopenv0,Fcopenv1,len_say]; omega)),(rfl)⟩,trivial⟩,trivial⟩⟩⟩⟩⟩⟩⟩⟩⟩⟩⟩⟩⟩⟩) ?_
       refine Tri.seq_region [] none [] [1122,1121,1120,0,4] (TT∧(TT∧((((True∧((chLens (({p0 with state:=2,peer:=(FwU32 (FwText_1 p2 p3) (FwText_2 p2 p3)),window:=(IntKind.wrap .i64 (minI (FwU32 (FwU32_1 (FwText_1 p2 p3) (FwText_2 p2 p3)) (FwU32_2 (FwText_1 p2 p3) (FwText_2 p2 p3))) 1073741824)),most:=(IntKind.wrap .i64 (minI (FwU32 (FwU32_1 (FwU32_1 (FwText_1 p2 p3) (FwText_2 p2 p3)) (FwU32_2 (FwText_1 p2 p3) (FwText_2 p2 p3))) (FwU32_2 (FwU32_1 (FwText_1 p2 p3) (FwText_2 p2 p3)) (FwU32_2 (FwText_1 p2 p3) (FwText_2 p2 p3)))) 512)),room:=4096}:Ch).wait.length) (({p0 with state:=2,peer:=(FwU32 (FwText_1 p2 p3) (FwText_2 p2 p3)),window:=(IntKind.wrap .i64 (minI (FwU32 (FwU32_1 (FwText_1 p2 p3) (FwText_2 p2 p3)) (FwU32_2 (FwText_1 p2 p3) (FwText_2 p2 p3))) 1073741824)),most:=(IntKind.wrap .i64 (minI (FwU32 (FwU32_1 (FwU32_1 (FwText_1 p2 p3) (FwText_2 p2 p3)) (FwU32_2 (FwText_1 p2 p3) (FwText_2 p2 p3))) (FwU32_2 (FwU32_1 (FwText_1 p2 p3) (FwText_2 p2 p3)) (FwU32_2 (FwText_1 p2 p3) (FwText_2 p2 p3)))) 512)),room:=4096}:Ch).got.length) (({p0 with state:=2,peer:=(FwU32 (FwText_1 p2 p3) (FwText_2 p2 p3)),window:=(IntKind.wrap .i64 (minI (FwU32 (FwU32_1 (FwText_1 p2 p3) (FwText_2 p2 p3)) (FwU32_2 (FwText_1 p2 p3) (FwText_2 p2 p3))) 1073741824)),most:=(IntKind.wrap .i64 (minI (FwU32 (FwU32_1 (FwU32_1 (FwText_1 p2 p3) (FwText_2 p2 p3)) (FwU32_2 (FwText_1 p2 p3) (FwText_2 p2 p3))) (FwU32_2 (FwU32_1 (FwText_1 p2 p3) (FwText_2 p2 p3)) (FwU32_2 (FwText_1 p2 p3) (FwText_2 p2 p3)))) 512)),room:=4096}:Ch).out.length) (({p0 with state:=2,peer:=(FwU32 (FwText_1 p2 p3) (FwText_2 p2 p3)),window:=(IntKind.wrap .i64 (minI (FwU32 (FwU32_1 (FwText_1 p2 p3) (FwText_2 p2 p3)) (FwU32_2 (FwText_1 p2 p3) (FwText_2 p2 p3))) 1073741824)),most:=(IntKind.wrap .i64 (minI (FwU32 (FwU32_1 (FwU32_1 (FwText_1 p2 p3) (FwText_2 p2 p3)) (FwU32_2 (FwText_1 p2 p3) (FwText_2 p2 p3))) (FwU32_2 (FwU32_1 (FwText_1 p2 p3) (FwText_2 p2 p3)) (FwU32_2 (FwText_1 p2 p3) (FwText_2 p2 p3)))) 512)),room:=4096}:Ch).wait.length) (({p0 with state:=2,peer:=(FwU32 (FwText_1 p2 p3) (FwText_2 p2 p3)),window:=(IntKind.wrap .i64 (minI (FwU32 (FwU32_1 (FwText_1 p2 p3) (FwText_2 p2 p3)) (FwU32_2 (FwText_1 p2 p3) (FwText_2 p2 p3))) 1073741824)),most:=(IntKind.wrap .i64 (minI (FwU32 (FwU32_1 (FwU32_1 (FwText_1 p2 p3) (FwText_2 p2 p3)) (FwU32_2 (FwText_1 p2 p3) (FwText_2 p2 p3))) (FwU32_2 (FwU32_1 (FwText_1 p2 p3) (FwText_2 p2 p3)) (FwU32_2 (FwText_1 p2 p3) (FwText_2 p2 p3)))) 512)),room:=4096}:Ch).got.length) ({p0 with state:=2,peer:=(FwU32 (FwText_1 p2 p3) (FwText_2 p2 p3)),window:=(IntKind.wrap .i64 (minI (FwU32 (FwU32_1 (FwText_1 p2 p3) (FwText_2 p2 p3)) (FwU32_2 (FwText_1 p2 p3) (FwText_2 p2 p3))) 1073741824)),most:=(IntKind.wrap .i64 (minI (FwU32 (FwU32_1 (FwU32_1 (FwText_1 p2 p3) (FwText_2 p2 p3)) (FwU32_2 (FwText_1 p2 p3) (FwText_2 p2 p3))) (FwU32_2 (FwU32_1 (FwText_1 p2 p3) (FwText_2 p2 p3)) (FwU32_2 (FwText_1 p2 p3) (FwText_2 p2 p3)))) 512)),room:=4096}:Ch))∧True))∧(([some (.cells [.b p0.server,.i .i64 2,.i .u32 (FwU32 (FwText_1 p2 p3) (FwText_2 p2 p3)),.i .i64 (IntKind.wrap .i64 (minI (FwU32 (FwU32_1 (FwText_1 p2 p3) (FwText_2 p2 p3)) (FwU32_2 (FwText_1 p2 p3) (FwText_2 p2 p3))) 1073741824)),.i .i64 (IntKind.wrap .i64 (minI (FwU32 (FwU32_1 (FwU32_1 (FwText_1 p2 p3) (FwText_2 p2 p3)) (FwU32_2 (FwText_1 p2 p3) (FwText_2 p2 p3))) (FwU32_2 (FwU32_1 (FwText_1 p2 p3) (FwText_2 p2 p3)) (FwU32_2 (FwText_1 p2 p3) (FwText_2 p2 p3)))) 512)),.i .i64 4096,.sl 1 0 p0.wait.length 1 none,.sl 2 0 p0.got.length 1 none,.b p0.ready,.b p0.e0,.b p0.e1,.b p0.c0,.b p0.c1,.sl 3 0 p0.out.length 1 none]),some (.ints .u8 p0.wait.length p0.wait),some (.ints .u8 p0.got.length p0.got),some (.vec .row p0.out)]:List (Option Blk))=[some (.cells [.b p0.server,.i .i64 2,.i .u32 (FwU32 (FwText_1 p2 p3) (FwText_2 p2 p3)),.i .i64 (IntKind.wrap .i64 (minI (FwU32 (FwU32_1 (FwText_1 p2 p3) (FwText_2 p2 p3)) (FwU32_2 (FwText_1 p2 p3) (FwText_2 p2 p3))) 1073741824)),.i .i64 (IntKind.wrap .i64 (minI (FwU32 (FwU32_1 (FwU32_1 (FwText_1 p2 p3) (FwText_2 p2 p3)) (FwU32_2 (FwText_1 p2 p3) (FwText_2 p2 p3))) (FwU32_2 (FwU32_1 (FwText_1 p2 p3) (FwText_2 p2 p3)) (FwU32_2 (FwText_1 p2 p3) (FwText_2 p2 p3)))) 512)),.i .i64 4096,.sl 1 0 p0.wait.length 1 none,.sl 2 0 p0.got.length 1 none,.b p0.ready,.b p0.e0,.b p0.e1,.b p0.c0,.b p0.c1,.sl 3 0 p0.out.length 1 none]),some (.ints .u8 p0.wait.length p0.wait),some (.ints .u8 p0.got.length p0.got),some (.vec .row p0.out)]))∧True)∧(((True∧(((1 + 4)=(1 + 4))∧((1 + 4)≤1000000000)))∧True)∧(((True∧((((1 + 4) + 4)=((1 + 4) + 4))∧(((1 + 4) + 4)≤1000000000)))∧True)∧(((True∧(((((1 + 4) + 4) + 4)=(((1 + 4) + 4) + 4))∧((((1 + 4) + 4) + 4)≤1000000000)))∧True)∧(((TT∧((chLens (({p0 with state:=2,peer:=(FwU32 (FwText_1 p2 p3) (FwText_2 p2 p3)),window:=(IntKind.wrap .i64 (minI (FwU32 (FwU32_1 (FwText_1 p2 p3) (FwText_2 p2 p3)) (FwU32_2 (FwText_1 p2 p3) (FwText_2 p2 p3))) 1073741824)),most:=(IntKind.wrap .i64 (minI (FwU32 (FwU32_1 (FwU32_1 (FwText_1 p2 p3) (FwText_2 p2 p3)) (FwU32_2 (FwText_1 p2 p3) (FwText_2 p2 p3))) (FwU32_2 (FwU32_1 (FwText_1 p2 p3) (FwText_2 p2 p3)) (FwU32_2 (FwText_1 p2 p3) (FwText_2 p2 p3)))) 512)),room:=4096}:Ch).wait.length) (({p0 with state:=2,peer:=(FwU32 (FwText_1 p2 p3) (FwText_2 p2 p3)),window:=(IntKind.wrap .i64 (minI (FwU32 (FwU32_1 (FwText_1 p2 p3) (FwText_2 p2 p3)) (FwU32_2 (FwText_1 p2 p3) (FwText_2 p2 p3))) 1073741824)),most:=(IntKind.wrap .i64 (minI (FwU32 (FwU32_1 (FwU32_1 (FwText_1 p2 p3) (FwText_2 p2 p3)) (FwU32_2 (FwText_1 p2 p3) (FwText_2 p2 p3))) (FwU32_2 (FwU32_1 (FwText_1 p2 p3) (FwText_2 p2 p3)) (FwU32_2 (FwText_1 p2 p3) (FwText_2 p2 p3)))) 512)),room:=4096}:Ch).got.length) (({p0 with state:=2,peer:=(FwU32 (FwText_1 p2 p3) (FwText_2 p2 p3)),window:=(IntKind.wrap .i64 (minI (FwU32 (FwU32_1 (FwText_1 p2 p3) (FwText_2 p2 p3)) (FwU32_2 (FwText_1 p2 p3) (FwText_2 p2 p3))) 1073741824)),most:=(IntKind.wrap .i64 (minI (FwU32 (FwU32_1 (FwU32_1 (FwText_1 p2 p3) (FwText_2 p2 p3)) (FwU32_2 (FwText_1 p2 p3) (FwText_2 p2 p3))) (FwU32_2 (FwU32_1 (FwText_1 p2 p3) (FwText_2 p2 p3)) (FwU32_2 (FwText_1 p2 p3) (FwText_2 p2 p3)))) 512)),room:=4096}:Ch).out.length) (({p0 with state:=2,peer:=(FwU32 (FwText_1 p2 p3) (FwText_2 p2 p3)),window:=(IntKind.wrap .i64 (minI (FwU32 (FwU32_1 (FwText_1 p2 p3) (FwText_2 p2 p3)) (FwU32_2 (FwText_1 p2 p3) (FwText_2 p2 p3))) 1073741824)),most:=(IntKind.wrap .i64 (minI (FwU32 (FwU32_1 (FwU32_1 (FwText_1 p2 p3) (FwText_2 p2 p3)) (FwU32_2 (FwText_1 p2 p3) (FwText_2 p2 p3))) (FwU32_2 (FwU32_1 (FwText_1 p2 p3) (FwText_2 p2 p3)) (FwU32_2 (FwText_1 p2 p3) (FwText_2 p2 p3)))) 512)),room:=4096}:Ch).wait.length) (({p0 with state:=2,peer:=(FwU32 (FwText_1 p2 p3) (FwText_2 p2 p3)),window:=(IntKind.wrap .i64 (minI (FwU32 (FwU32_1 (FwText_1 p2 p3) (FwText_2 p2 p3)) (FwU32_2 (FwText_1 p2 p3) (FwText_2 p2 p3))) 1073741824)),most:=(IntKind.wrap .i64 (minI (FwU32 (FwU32_1 (FwU32_1 (FwText_1 p2 p3) (FwText_2 p2 p3)) (FwU32_2 (FwText_1 p2 p3) (FwText_2 p2 p3))) (FwU32_2 (FwU32_1 (FwText_1 p2 p3) (FwText_2 p2 p3)) (FwU32_2 (FwText_1 p2 p3) (FwText_2 p2 p3)))) 512)),room:=4096}:Ch).got.length) ({p0 with state:=2,peer:=(FwU32 (FwText_1 p2 p3) (FwText_2 p2 p3)),window:=(IntKind.wrap .i64 (minI (FwU32 (FwU32_1 (FwText_1 p2 p3) (FwText_2 p2 p3)) (FwU32_2 (FwText_1 p2 p3) (FwText_2 p2 p3))) 1073741824)),most:=(IntKind.wrap .i64 (minI (FwU32 (FwU32_1 (FwU32_1 (FwText_1 p2 p3) (FwText_2 p2 p3)) (FwU32_2 (FwText_1 p2 p3) (FwText_2 p2 p3))) (FwU32_2 (FwU32_1 (FwText_1 p2 p3) (FwText_2 p2 p3)) (FwU32_2 (FwText_1 p2 p3) (FwText_2 p2 p3)))) 512)),room:=4096}:Ch))∧(({p0 with state:=2,peer:=(FwU32 (FwText_1 p2 p3) (FwText_2 p2 p3)),window:=(IntKind.wrap .i64 (minI (FwU32 (FwU32_1 (FwText_1 p2 p3) (FwText_2 p2 p3)) (FwU32_2 (FwText_1 p2 p3) (FwText_2 p2 p3))) 1073741824)),most:=(IntKind.wrap .i64 (minI (FwU32 (FwU32_1 (FwU32_1 (FwText_1 p2 p3) (FwText_2 p2 p3)) (FwU32_2 (FwText_1 p2 p3) (FwText_2 p2 p3))) (FwU32_2 (FwU32_1 (FwText_1 p2 p3) (FwText_2 p2 p3)) (FwU32_2 (FwText_1 p2 p3) (FwText_2 p2 p3)))) 512)),room:=4096}:Ch).out.length≤1000000000)))∧True)∧True)))))))
         ([],[(1122,.vec .row ((Fcopenv1 p0 p2 p3).out)),(1121,.ints .u8 ((Fcopenv1 p0 p2 p3).got.length) ((Fcopenv1 p0 p2 p3).got)),(1120,.ints .u8 ((Fcopenv1 p0 p2 p3).wait.length) ((Fcopenv1 p0 p2 p3).wait)),(0,chC 1120 1121 1122 (Fcopenv1 p0 p2 p3)),(4,.cells [.ro .u8 (FwU32_1 (FwU32_1 (FwU32_1 (FwText_1 p2 p3) (FwText_2 p2 p3)) (FwU32_2 (FwText_1 p2 p3) (FwText_2 p2 p3))) (FwU32_2 (FwU32_1 (FwText_1 p2 p3) (FwText_2 p2 p3)) (FwU32_2 (FwText_1 p2 p3) (FwText_2 p2 p3)))),.b (FwU32_2 (FwU32_1 (FwU32_1 (FwText_1 p2 p3) (FwText_2 p2 p3)) (FwU32_2 (FwText_1 p2 p3) (FwText_2 p2 p3))) (FwU32_2 (FwU32_1 (FwText_1 p2 p3) (FwText_2 p2 p3)) (FwU32_2 (FwText_1 p2 p3) (FwText_2 p2 p3))))])])
         1136 (by kernel_rfl) rfl (by kernel_rfl) (⟨tt,⟨tt,⟨⟨⟨⟨trivial,⟨(chLens_self _),trivial⟩⟩,(rfl)⟩,trivial⟩,⟨⟨⟨trivial,⟨(rfl),(by first | omega | (dsimp only; omega) | decide | (simp only [Fcopenv0,Fcopenv1,len_say]; omega))⟩⟩,trivial⟩,⟨⟨⟨trivial,⟨(rfl),(by first | omega | (dsimp only; omega) | decide | (simp only [Fcopenv0,Fcopenv1,len_say]; omega))⟩⟩,trivial⟩,⟨⟨⟨trivial,⟨(rfl),(by first | omega | (dsimp only; omega) | decide | (simp only [Fcopenv0,Fcopenv1,len_say]; omega))⟩⟩,trivial⟩,⟨⟨⟨tt,⟨(chLens_self _),(by first | omega | (dsimp only; omega) | decide | (simp only [Fcopenv0,Fcopenv1,len_say]; omega))⟩⟩,trivial⟩,trivial⟩⟩⟩⟩⟩⟩⟩) ?_
       refine Tri.seq_region [] none [4] [1122,1121,1120,0,4] (TT∧True)
         ([(4,.sc (.i .i64 0))],[(1122,.vec .row ((Fcopenv1 p0 p2 p3).out)),(1121,.ints .u8 ((Fcopenv1 p0 p2 p3).got.length) ((Fcopenv1 p0 p2 p3).got)),(1120,.ints .u8 ((Fcopenv1 p0 p2 p3).wait.length) ((Fcopenv1 p0 p2 p3).wait)),(0,chC 1120 1121 1122 (Fcopenv1 p0 p2 p3)),(4,.cells [.ro .u8 (FwU32_1 (FwU32_1 (FwU32_1 (FwText_1 p2 p3) (FwText_2 p2 p3)) (FwU32_2 (FwText_1 p2 p3) (FwText_2 p2 p3))) (FwU32_2 (FwU32_1 (FwText_1 p2 p3) (FwText_2 p2 p3)) (FwU32_2 (FwText_1 p2 p3) (FwText_2 p2 p3)))),.b (FwU32_2 (FwU32_1 (FwU32_1 (FwText_1 p2 p3) (FwText_2 p2 p3)) (FwU32_2 (FwText_1 p2 p3) (FwText_2 p2 p3))) (FwU32_2 (FwU32_1 (FwText_1 p2 p3) (FwText_2 p2 p3)) (FwU32_2 (FwText_1 p2 p3) (FwText_2 p2 p3))))])])
         1152 (by kernel_rfl) rfl (by kernel_rfl) (⟨tt,trivial⟩) ?_
       refine Tri.ret ?_
       repeat (first | refine thenP_ret ?_ | refine blkP_ret ?_ | refine countP_ret ?_ | refine joinP_ret ?_ | refine iterP_ret ?_)
       refine subP_done ?_
       refine endP.conv (r':=⟨.sc (.i .i64 0),[some (chC 5 6 7 (Fcopenv1 p0 p2 p3)),none,none,none,some (.cells [.ro .u8 (FwU32_1 (FwU32_1 (FwU32_1 (FwText_1 p2 p3) (FwText_2 p2 p3)) (FwU32_2 (FwText_1 p2 p3) (FwText_2 p2 p3))) (FwU32_2 (FwU32_1 (FwText_1 p2 p3) (FwText_2 p2 p3)) (FwU32_2 (FwText_1 p2 p3) (FwText_2 p2 p3)))),.b (FwU32_2 (FwU32_1 (FwU32_1 (FwText_1 p2 p3) (FwText_2 p2 p3)) (FwU32_2 (FwText_1 p2 p3) (FwText_2 p2 p3))) (FwU32_2 (FwU32_1 (FwText_1 p2 p3) (FwText_2 p2 p3)) (FwU32_2 (FwText_1 p2 p3) (FwText_2 p2 p3))))]),some (.ints .u8 ((Fcopenv1 p0 p2 p3).wait.length) ((Fcopenv1 p0 p2 p3).wait)),some (.ints .u8 ((Fcopenv1 p0 p2 p3).got.length) ((Fcopenv1 p0 p2 p3).got)),some (.vec .row ((Fcopenv1 p0 p2 p3).out))]⟩) (by simp only [chC,Fcopen,Fcopen_1,Fcopen_2,Fcopen_3,h1,h2,h3,h4,h5,sel_true,sel_false]) ?_
       exact endP.ret [(0,0),(4,4),(1120,5),(1121,6),(1122,7)] TT (by kernel_rfl) (by kernel_rfl) tt
noncomputable def Fcconfirmv0 (p0:Ch) (p2:List Int) (p3:Bool):Ch :=
 (Fcsay ({p0 with state:=2,peer:=(FwU32 (FwU32_1 p2 p3) (FwU32_2 p2 p3)),window:=(IntKind.wrap .i64 (minI (FwU32 (FwU32_1 (FwU32_1 p2 p3) (FwU32_2 p2 p3)) (FwU32_2 (FwU32_1 p2 p3) (FwU32_2 p2 p3))) 1073741824)),most:=(IntKind.wrap .i64 (minI (FwU32 (FwU32_1 (FwU32_1 (FwU32_1 p2 p3) (FwU32_2 p2 p3)) (FwU32_2 (FwU32_1 p2 p3) (FwU32_2 p2 p3))) (FwU32_2 (FwU32_1 (FwU32_1 p2 p3) (FwU32_2 p2 p3)) (FwU32_2 (FwU32_1 p2 p3) (FwU32_2 p2 p3)))) 512))}:Ch) (FwwTextz ((((1 + 4) + 4) + (⟨#[115,117,98,115,121,115,116,101,109]⟩:ByteArray).size) + 1) (FwwFlag (((1 + 4) + 4) + (⟨#[115,117,98,115,121,115,116,101,109]⟩:ByteArray).size) (FwwText (1 + 4) (Fcto ({p0 with state:=2,peer:=(FwU32 (FwU32_1 p2 p3) (FwU32_2 p2 p3)),window:=(IntKind.wrap .i64 (minI (FwU32 (FwU32_1 (FwU32_1 p2 p3) (FwU32_2 p2 p3)) (FwU32_2 (FwU32_1 p2 p3) (FwU32_2 p2 p3))) 1073741824)),most:=(IntKind.wrap .i64 (minI (FwU32 (FwU32_1 (FwU32_1 (FwU32_1 p2 p3) (FwU32_2 p2 p3)) (FwU32_2 (FwU32_1 p2 p3) (FwU32_2 p2 p3))) (FwU32_2 (FwU32_1 (FwU32_1 p2 p3) (FwU32_2 p2 p3)) (FwU32_2 (FwU32_1 p2 p3) (FwU32_2 p2 p3)))) 512))}:Ch) 98) (⟨#[115,117,98,115,121,115,116,101,109]⟩:ByteArray)) true) (⟨#[110,101,116,99,111,110,102]⟩:ByteArray)))
noncomputable def Fcconfirm (p0:Ch) (p2:List Int) (p3:Bool):Int :=
 (sel (!(FwEnd (FwU32_1 (FwU32_1 (FwU32_1 (FwU32_1 p2 p3) (FwU32_2 p2 p3)) (FwU32_2 (FwU32_1 p2 p3) (FwU32_2 p2 p3))) (FwU32_2 (FwU32_1 (FwU32_1 p2 p3) (FwU32_2 p2 p3)) (FwU32_2 (FwU32_1 p2 p3) (FwU32_2 p2 p3)))) (FwU32_2 (FwU32_1 (FwU32_1 (FwU32_1 p2 p3) (FwU32_2 p2 p3)) (FwU32_2 (FwU32_1 p2 p3) (FwU32_2 p2 p3))) (FwU32_2 (FwU32_1 (FwU32_1 p2 p3) (FwU32_2 p2 p3)) (FwU32_2 (FwU32_1 p2 p3) (FwU32_2 p2 p3)))))) 3 (sel ((p0.state:Int) != 1) 3 (sel (((FwU32 p2 p3):Int) != 0) 3 (sel (((FwU32 (FwU32_1 (FwU32_1 (FwU32_1 p2 p3) (FwU32_2 p2 p3)) (FwU32_2 (FwU32_1 p2 p3) (FwU32_2 p2 p3))) (FwU32_2 (FwU32_1 (FwU32_1 p2 p3) (FwU32_2 p2 p3)) (FwU32_2 (FwU32_1 p2 p3) (FwU32_2 p2 p3)))):Int) == 0) 3 0))))
noncomputable def Fcconfirm_1 (p0:Ch) (p2:List Int) (p3:Bool):Ch :=
 (sel (!(FwEnd (FwU32_1 (FwU32_1 (FwU32_1 (FwU32_1 p2 p3) (FwU32_2 p2 p3)) (FwU32_2 (FwU32_1 p2 p3) (FwU32_2 p2 p3))) (FwU32_2 (FwU32_1 (FwU32_1 p2 p3) (FwU32_2 p2 p3)) (FwU32_2 (FwU32_1 p2 p3) (FwU32_2 p2 p3)))) (FwU32_2 (FwU32_1 (FwU32_1 (FwU32_1 p2 p3) (FwU32_2 p2 p3)) (FwU32_2 (FwU32_1 p2 p3) (FwU32_2 p2 p3))) (FwU32_2 (FwU32_1 (FwU32_1 p2 p3) (FwU32_2 p2 p3)) (FwU32_2 (FwU32_1 p2 p3) (FwU32_2 p2 p3)))))) p0 (sel ((p0.state:Int) != 1) p0 (sel (((FwU32 p2 p3):Int) != 0) p0 (sel (((FwU32 (FwU32_1 (FwU32_1 (FwU32_1 p2 p3) (FwU32_2 p2 p3)) (FwU32_2 (FwU32_1 p2 p3) (FwU32_2 p2 p3))) (FwU32_2 (FwU32_1 (FwU32_1 p2 p3) (FwU32_2 p2 p3)) (FwU32_2 (FwU32_1 p2 p3) (FwU32_2 p2 p3)))):Int) == 0) p0 (Fcconfirmv0 p0 p2 p3)))))
noncomputable def Fcconfirm_2 (p0:Ch) (p2:List Int) (p3:Bool):List Int :=
 (FwU32_1 (FwU32_1 (FwU32_1 (FwU32_1 p2 p3) (FwU32_2 p2 p3)) (FwU32_2 (FwU32_1 p2 p3) (FwU32_2 p2 p3))) (FwU32_2 (FwU32_1 (FwU32_1 p2 p3) (FwU32_2 p2 p3)) (FwU32_2 (FwU32_1 p2 p3) (FwU32_2 p2 p3))))
noncomputable def Fcconfirm_3 (p0:Ch) (p2:List Int) (p3:Bool):Bool :=
 (FwU32_2 (FwU32_1 (FwU32_1 (FwU32_1 p2 p3) (FwU32_2 p2 p3)) (FwU32_2 (FwU32_1 p2 p3) (FwU32_2 p2 p3))) (FwU32_2 (FwU32_1 (FwU32_1 p2 p3) (FwU32_2 p2 p3)) (FwU32_2 (FwU32_1 p2 p3) (FwU32_2 p2 p3))))
noncomputable def Scconfirmc (p0:Ch) (y0_n1:Nat) (y0_n2:Nat) (y0_n3:Nat) (y0_m1:Nat) (y0_m2:Nat) (p2:List Int) (p3:Bool):Option (Prop × Ret) :=
 some ((chLens y0_n1 y0_n2 y0_n3 y0_m1 y0_m2 p0∧(p0.out.length≤900000000)),⟨.sc (.i .i64 (Fcconfirm p0 p2 p3)),[some (chC 5 6 7 (Fcconfirm_1 p0 p2 p3)),none,none,none,some (.cells [.ro .u8 (Fcconfirm_2 p0 p2 p3),.b (Fcconfirm_3 p0 p2 p3)]),some (.ints .u8 ((Fcconfirm_1 p0 p2 p3).wait.length) ((Fcconfirm_1 p0 p2 p3).wait)),some (.ints .u8 ((Fcconfirm_1 p0 p2 p3).got.length) ((Fcconfirm_1 p0 p2 p3).got)),some (.vec .row ((Fcconfirm_1 p0 p2 p3).out))]⟩)
noncomputable def Scconfirm:List AV→List Blk→Option (Prop × Ret)
 | [.sc (.p 0 0),.sc (.p 4 0)],[.cells [.b y0_server,.i .i64 y0_state,.i .u32 y0_peer,.i .i64 y0_window,.i .i64 y0_most,.i .i64 y0_room,.sl 1 0 y0_n1 1 none,.sl 2 0 y0_n2 1 none,.b y0_ready,.b y0_e0,.b y0_e1,.b y0_c0,.b y0_c1,.sl 3 0 y0_n3 1 none],.ints .u8 y0_m1 y0_wait,.ints .u8 y0_m2 y0_got,.vec .row y0_out,.cells [.ro .u8 p2,.b p3]] => Scconfirmc ⟨y0_server,y0_state,y0_peer,y0_window,y0_most,y0_room,y0_wait,y0_got,y0_ready,y0_e0,y0_e1,y0_c0,y0_c1,y0_out⟩ y0_n1 y0_n2 y0_n3 y0_m1 y0_m2 p2 p3
 | _,_ => none
noncomputable def Bcconfirm:Bs:={ P:=Go.Proofs.Try.prog,G:=noG,tab:=tabOf [⟨28,976,[.io,.ro .u8],[],[0,1,2,3],⟨4,3,Scsay⟩,false⟩,⟨30,928,[.io,.val],[],[912],⟨1,1,SwwText⟩,false⟩,⟨30,960,[.io,.val],[],[944],⟨1,0,SwwTextz⟩,false⟩,⟨35,48,[.io],[],[4],⟨1,0,SwU32⟩,false⟩,⟨35,80,[.io],[],[4],⟨1,0,SwU32⟩,false⟩,⟨35,112,[.io],[],[4],⟨1,0,SwU32⟩,false⟩,⟨35,144,[.io],[],[4],⟨1,0,SwU32⟩,false⟩,⟨40,912,[.io,.val],[],[0,1,2,3],⟨4,1,Scto⟩,true⟩,⟨44,240,[.io],[],[4],⟨1,0,SwEnd⟩,false⟩,⟨45,944,[.io,.val],[],[928],⟨1,1,SwwFlag⟩,false⟩],n:=61 }
theorem Bcconfirm.ok:Bcconfirm.Ok:=⟨tabOk (P:=Go.Proofs.Try.prog) (G:=noG) (l:=[⟨28,976,[.io,.ro .u8],[],[0,1,2,3],⟨4,3,Scsay⟩,false⟩,⟨30,928,[.io,.val],[],[912],⟨1,1,SwwText⟩,false⟩,⟨30,960,[.io,.val],[],[944],⟨1,0,SwwTextz⟩,false⟩,⟨35,48,[.io],[],[4],⟨1,0,SwU32⟩,false⟩,⟨35,80,[.io],[],[4],⟨1,0,SwU32⟩,false⟩,⟨35,112,[.io],[],[4],⟨1,0,SwU32⟩,false⟩,⟨35,144,[.io],[],[4],⟨1,0,SwU32⟩,false⟩,⟨40,912,[.io,.val],[],[0,1,2,3],⟨4,1,Scto⟩,true⟩,⟨44,240,[.io],[],[4],⟨1,0,SwEnd⟩,false⟩,⟨45,944,[.io,.val],[],[928],⟨1,1,SwwFlag⟩,false⟩]) (And.intro Kcsay (And.intro KwwText (And.intro KwwTextz (And.intro KwU32 (And.intro KwU32 (And.intro KwU32 (And.intro KwU32 (And.intro Kcto (And.intro KwEnd (And.intro KwwFlag True.intro)))))))))),mixed⟩
theorem Kcconfirm:Known Go.Proofs.Try.prog noG 34 ⟨5,3,Scconfirm⟩:=by
 refine Known.walk (B:=Bcconfirm) (fn:=Go.Proofs.Try.f34) Bcconfirm.ok (by kernel_rfl) rfl (by kernel_rfl) (by kernel_rfl) (by decide) (by decide) ?_
 ·intro E args ks C r h hC hlen
  simp only at h
  unfold Scconfirm at h
  split at h
  rotate_left
  ·cases h
  rename_i y0_server y0_state y0_peer y0_window y0_most y0_room y0_n1 y0_n2 y0_ready y0_e0 y0_e1 y0_c0 y0_c1 y0_n3 y0_m1 y0_wait y0_m2 y0_got y0_out p2 p3
  generalize hp0:(⟨y0_server,y0_state,y0_peer,y0_window,y0_most,y0_room,y0_wait,y0_got,y0_ready,y0_e0,y0_e1,y0_c0,y0_c1,y0_out⟩:Ch)=p0 at h
  obtain rfl:y0_server=p0.server:=by rw [← hp0]
  obtain rfl:y0_state=p0.state:=by rw [← hp0]
  obtain rfl:y0_peer=p0.peer:=by rw [← hp0]
  obtain rfl:y0_window=p0.window:=by rw [← hp0]
  obtain rfl:y0_most=p0.most:=by rw [← hp0]
  obtain rfl:y0_room=p0.room:=by rw [← hp0]
  obtain rfl:y0_wait=p0.wait:=by rw [← hp0]
  obtain rfl:y0_got=p0.got:=by rw [← hp0]
  obtain rfl:y0_ready=p0.ready:=by rw [← hp0]
  obtain rfl:y0_e0=p0.e0:=by rw [← hp0]
  obtain rfl:y0_e1=p0.e1:=by rw [← hp0]
  obtain rfl:y0_c0=p0.c0:=by rw [← hp0]
  obtain rfl:y0_c1=p0.c1:=by rw [← hp0]
  obtain rfl:y0_out=p0.out:=by rw [← hp0]
  clear hp0
  unfold Scconfirmc at h
  cases h
  obtain ⟨⟨rfl,rfl,rfl,rfl,rfl⟩,hC⟩:=hC
  simp only [lens] at hlen
  refine ⟨show 2≤61 from by decide,?_⟩
  refine Tri.sub (Sub.of_eq (show _=([(0,.sc (.p 0 0)),(1,.sc (.p 4 0))],[(0,chC 1 2 3 p0),(1,.ints .u8 p0.wait.length p0.wait),(2,.ints .u8 p0.got.length p0.got),(3,.vec .row p0.out),(4,.cells [.ro .u8 p2,.b p3])]) from rfl)) ?_
  refine Tri.subP ?_
  refine Tri.seq_region [] none [0,1] [0,1,2,3,4] (TT∧True)
    ([(0,.sc (.p 0 0)),(1,.sc (.p 4 0))],[(0,chC 1 2 3 p0),(1,.ints .u8 p0.wait.length p0.wait),(2,.ints .u8 p0.got.length p0.got),(3,.vec .row p0.out),(4,.cells [.ro .u8 p2,.b p3])])
    32 (by kernel_rfl) rfl (by kernel_rfl) (⟨tt,trivial⟩) ?_
  refine Tri.seq_region [] none [8,7,6,5,0,1] [4,0,1,2,3] (TT∧((TT∧True)∧(TT∧((TT∧True)∧(TT∧((TT∧True)∧(TT∧((TT∧True)∧(TT∧(TT∧(TT∧(TT∧True))))))))))))
    ([(8,.sc (.i .u32 (FwU32 (FwU32_1 (FwU32_1 (FwU32_1 p2 p3) (FwU32_2 p2 p3)) (FwU32_2 (FwU32_1 p2 p3) (FwU32_2 p2 p3))) (FwU32_2 (FwU32_1 (FwU32_1 p2 p3) (FwU32_2 p2 p3)) (FwU32_2 (FwU32_1 p2 p3) (FwU32_2 p2 p3)))))),(7,.sc (.i .u32 (FwU32 (FwU32_1 (FwU32_1 p2 p3) (FwU32_2 p2 p3)) (FwU32_2 (FwU32_1 p2 p3) (FwU32_2 p2 p3))))),(6,.sc (.i .u32 (FwU32 (FwU32_1 p2 p3) (FwU32_2 p2 p3)))),(5,.sc (.i .u32 (FwU32 p2 p3))),(0,.sc (.p 0 0)),(1,.sc (.p 4 0))],[(4,.cells [.ro .u8 (FwU32_1 (FwU32_1 (FwU32_1 (FwU32_1 p2 p3) (FwU32_2 p2 p3)) (FwU32_2 (FwU32_1 p2 p3) (FwU32_2 p2 p3))) (FwU32_2 (FwU32_1 (FwU32_1 p2 p3) (FwU32_2 p2 p3)) (FwU32_2 (FwU32_1 p2 p3) (FwU32_2 p2 p3)))),.b (FwU32_2 (FwU32_1 (FwU32_1 (FwU32_1 p2 p3) (FwU32_2 p2 p3)) (FwU32_2 (FwU32_1 p2 p3) (FwU32_2 p2 p3))) (FwU32_2 (FwU32_1 (FwU32_1 p2 p3) (FwU32_2 p2 p3)) (FwU32_2 (FwU32_1 p2 p3) (FwU32_2 p2 p3))))]),(0,chC 1 2 3 p0),(1,.ints .u8 p0.wait.length p0.wait),(2,.ints .u8 p0.got.length p0.got),(3,.vec .row p0.out)])
    224 (by kernel_rfl) rfl (by kernel_rfl) (⟨tt,⟨⟨tt,trivial⟩,⟨tt,⟨⟨tt,trivial⟩,⟨tt,⟨⟨tt,trivial⟩,⟨tt,⟨⟨tt,trivial⟩,⟨tt,⟨tt,⟨tt,⟨tt,trivial⟩⟩⟩⟩⟩⟩⟩⟩⟩⟩⟩⟩) ?_
  refine Tri.seq ?_
  refine Tri.split (!(FwEnd (FwU32_1 (FwU32_1 (FwU32_1 (FwU32_1 p2 p3) (FwU32_2 p2 p3)) (FwU32_2 (FwU32_1 p2 p3) (FwU32_2 p2 p3))) (FwU32_2 (FwU32_1 (FwU32_1 p2 p3) (FwU32_2 p2 p3)) (FwU32_2 (FwU32_1 p2 p3) (FwU32_2 p2 p3)))) (FwU32_2 (FwU32_1 (FwU32_1 (FwU32_1 p2 p3) (FwU32_2 p2 p3)) (FwU32_2 (FwU32_1 p2 p3) (FwU32_2 p2 p3))) (FwU32_2 (FwU32_1 (FwU32_1 p2 p3) (FwU32_2 p2 p3)) (FwU32_2 (FwU32_1 p2 p3) (FwU32_2 p2 p3)))))) (fun h1 => ?_) (fun h1 => ?_)
  ·
   refine Tri.seq_region [(20,qb true)] none [34,8,7,6,0] [4,0,1,2,3] (TT∧((TT∧True)∧(TT∧((True∧((!(FwEnd (FwU32_1 (FwU32_1 (FwU32_1 (FwU32_1 p2 p3) (FwU32_2 p2 p3)) (FwU32_2 (FwU32_1 p2 p3) (FwU32_2 p2 p3))) (FwU32_2 (FwU32_1 (FwU32_1 p2 p3) (FwU32_2 p2 p3)) (FwU32_2 (FwU32_1 p2 p3) (FwU32_2 p2 p3)))) (FwU32_2 (FwU32_1 (FwU32_1 (FwU32_1 p2 p3) (FwU32_2 p2 p3)) (FwU32_2 (FwU32_1 p2 p3) (FwU32_2 p2 p3))) (FwU32_2 (FwU32_1 (FwU32_1 p2 p3) (FwU32_2 p2 p3)) (FwU32_2 (FwU32_1 p2 p3) (FwU32_2 p2 p3))))))=true))∧(TT∧(TT∧(TT∧(TT∧(TT∧(TT∧(TT∧(TT∧(TT∧(TT∧(TT∧(TT∧(TT∧(TT∧True))))))))))))))))))
     ([(34,.sc (.b true)),(8,.sc (.i .u32 (FwU32 (FwU32_1 (FwU32_1 (FwU32_1 p2 p3) (FwU32_2 p2 p3)) (FwU32_2 (FwU32_1 p2 p3) (FwU32_2 p2 p3))) (FwU32_2 (FwU32_1 (FwU32_1 p2 p3) (FwU32_2 p2 p3)) (FwU32_2 (FwU32_1 p2 p3) (FwU32_2 p2 p3)))))),(7,.sc (.i .u32 (FwU32 (FwU32_1 (FwU32_1 p2 p3) (FwU32_2 p2 p3)) (FwU32_2 (FwU32_1 p2 p3) (FwU32_2 p2 p3))))),(6,.sc (.i .u32 (FwU32 (FwU32_1 p2 p3) (FwU32_2 p2 p3)))),(0,.sc (.p 0 0))],[(4,.cells [.ro .u8 (FwU32_1 (FwU32_1 (FwU32_1 (FwU32_1 p2 p3) (FwU32_2 p2 p3)) (FwU32_2 (FwU32_1 p2 p3) (FwU32_2 p2 p3))) (FwU32_2 (FwU32_1 (FwU32_1 p2 p3) (FwU32_2 p2 p3)) (FwU32_2 (FwU32_1 p2 p3) (FwU32_2 p2 p3)))),.b (FwU32_2 (FwU32_1 (FwU32_1 (FwU32_1 p2 p3) (FwU32_2 p2 p3)) (FwU32_2 (FwU32_1 p2 p3) (FwU32_2 p2 p3))) (FwU32_2 (FwU32_1 (FwU32_1 p2 p3) (FwU32_2 p2 p3)) (FwU32_2 (FwU32_1 p2 p3) (FwU32_2 p2 p3))))]),(0,chC 1 2 3 p0),(1,.ints .u8 p0.wait.length p0.wait),(2,.ints .u8 p0.got.length p0.got),(3,.vec .row p0.out)])
     512 (by kernel_rfl) rfl (by kernel_rfl) (⟨tt,⟨⟨tt,trivial⟩,⟨tt,⟨⟨trivial,(h1)⟩,⟨tt,⟨tt,⟨tt,⟨tt,⟨tt,⟨tt,⟨tt,⟨tt,⟨tt,⟨tt,⟨tt,⟨tt,⟨tt,⟨tt,trivial⟩⟩⟩⟩⟩⟩⟩⟩⟩⟩⟩⟩⟩⟩⟩⟩⟩⟩) ?_
   refine Tri.cond_true (by kernel_rfl) ?_
   refine Tri.seq_region [] none [4] [4,0,1,2,3] (TT∧True)
     ([(4,.sc (.i .i64 3))],[(4,.cells [.ro .u8 (FwU32_1 (FwU32_1 (FwU32_1 (FwU32_1 p2 p3) (FwU32_2 p2 p3)) (FwU32_2 (FwU32_1 p2 p3) (FwU32_2 p2 p3))) (FwU32_2 (FwU32_1 (FwU32_1 p2 p3) (FwU32_2 p2 p3)) (FwU32_2 (FwU32_1 p2 p3) (FwU32_2 p2 p3)))),.b (FwU32_2 (FwU32_1 (FwU32_1 (FwU32_1 p2 p3) (FwU32_2 p2 p3)) (FwU32_2 (FwU32_1 p2 p3) (FwU32_2 p2 p3))) (FwU32_2 (FwU32_1 (FwU32_1 p2 p3) (FwU32_2 p2 p3)) (FwU32_2 (FwU32_1 p2 p3) (FwU32_2 p2 p3))))]),(0,chC 1 2 3 p0),(1,.ints .u8 p0.wait.length p0.wait),(2,.ints .u8 p0.got.length p0.got),(3,.vec .row p0.out)])
     528 (by kernel_rfl) rfl (by kernel_rfl) (⟨tt,trivial⟩) ?_
   refine Tri.ret ?_
   repeat (first | refine thenP_ret ?_ | refine blkP_ret ?_ | refine countP_ret ?_ | refine joinP_ret ?_ | refine iterP_ret ?_)
   refine subP_done ?_
   refine endP.conv (r':=⟨.sc (.i .i64 3),[some (chC 5 6 7 p0),none,none,none,some (.cells [.ro .u8 (FwU32_1 (FwU32_1 (FwU32_1 (FwU32_1 p2 p3) (FwU32_2 p2 p3)) (FwU32_2 (FwU32_1 p2 p3) (FwU32_2 p2 p3))) (FwU32_2 (FwU32_1 (FwU32_1 p2 p3) (FwU32_2 p2 p3)) (FwU32_2 (FwU32_1 p2 p3) (FwU32_2 p2 p3)))),.b (FwU32_2 (FwU32_1 (FwU32_1 (FwU32_1 p2 p3) (FwU32_2 p2 p3)) (FwU32_2 (FwU32_1 p2 p3) (FwU32_2 p2 p3))) (FwU32_2 (FwU32_1 (FwU32_1 p2 p3) (FwU32_2 p2 p3)) (FwU32_2 (FwU32_1 p2 p3) (FwU32_2 p2 p3))))]),some (.ints .u8 p0.wait.length p0.wait),some (.ints .u8 p0.got.length p0.got),some (.vec .row p0.out)]⟩) (by simp only [chC,Fcconfirm,Fcconfirm_1,Fcconfirm_2,Fcconfirm_3,h1,sel_true,sel_false]) ?_
   exact endP.ret [(0,0),(4,4),(1,5),(2,6),(3,7)] TT (by kernel_rfl) (by kernel_rfl) tt
  ·
   refine Tri.split ((p0.state:Int) != 1) (fun h2 => ?_) (fun h2 => ?_)
   ·
    have h2':=ne_true_i h2
    refine Tri.seq_region [(20,qb false),(27,qb true)] none [34,8,7,6,0] [4,0,1,2,3] (TT∧((TT∧True)∧(TT∧((True∧((!(FwEnd (FwU32_1 (FwU32_1 (FwU32_1 (FwU32_1 p2 p3) (FwU32_2 p2 p3)) (FwU32_2 (FwU32_1 p2 p3) (FwU32_2 p2 p3))) (FwU32_2 (FwU32_1 (FwU32_1 p2 p3) (FwU32_2 p2 p3)) (FwU32_2 (FwU32_1 p2 p3) (FwU32_2 p2 p3)))) (FwU32_2 (FwU32_1 (FwU32_1 (FwU32_1 p2 p3) (FwU32_2 p2 p3)) (FwU32_2 (FwU32_1 p2 p3) (FwU32_2 p2 p3))) (FwU32_2 (FwU32_1 (FwU32_1 p2 p3) (FwU32_2 p2 p3)) (FwU32_2 (FwU32_1 p2 p3) (FwU32_2 p2 p3))))))=false))∧(TT∧(TT∧(TT∧(((1 < 14)∧True)∧(TT∧(TT∧((True∧(((p0.state:Int) != 1)=true))∧(TT∧(TT∧(TT∧(TT∧(TT∧(TT∧(TT∧True))))))))))))))))))
      ([(34,.sc (.b true)),(8,.sc (.i .u32 (FwU32 (FwU32_1 (FwU32_1 (FwU32_1 p2 p3) (FwU32_2 p2 p3)) (FwU32_2 (FwU32_1 p2 p3) (FwU32_2 p2 p3))) (FwU32_2 (FwU32_1 (FwU32_1 p2 p3) (FwU32_2 p2 p3)) (FwU32_2 (FwU32_1 p2 p3) (FwU32_2 p2 p3)))))),(7,.sc (.i .u32 (FwU32 (FwU32_1 (FwU32_1 p2 p3) (FwU32_2 p2 p3)) (FwU32_2 (FwU32_1 p2 p3) (FwU32_2 p2 p3))))),(6,.sc (.i .u32 (FwU32 (FwU32_1 p2 p3) (FwU32_2 p2 p3)))),(0,.sc (.p 0 0))],[(4,.cells [.ro .u8 (FwU32_1 (FwU32_1 (FwU32_1 (FwU32_1 p2 p3) (FwU32_2 p2 p3)) (FwU32_2 (FwU32_1 p2 p3) (FwU32_2 p2 p3))) (FwU32_2 (FwU32_1 (FwU32_1 p2 p3) (FwU32_2 p2 p3)) (FwU32_2 (FwU32_1 p2 p3) (FwU32_2 p2 p3)))),.b (FwU32_2 (FwU32_1 (FwU32_1 (FwU32_1 p2 p3) (FwU32_2 p2 p3)) (FwU32_2 (FwU32_1 p2 p3) (FwU32_2 p2 p3))) (FwU32_2 (FwU32_1 (FwU32_1 p2 p3) (FwU32_2 p2 p3)) (FwU32_2 (FwU32_1 p2 p3) (FwU32_2 p2 p3))))]),(0,chC 1 2 3 p0),(1,.ints .u8 p0.wait.length p0.wait),(2,.ints .u8 p0.got.length p0.got),(3,.vec .row p0.out)])
      512 (by kernel_rfl) rfl (by kernel_rfl) (⟨tt,⟨⟨tt,trivial⟩,⟨tt,⟨⟨trivial,(h1)⟩,⟨tt,⟨tt,⟨tt,⟨⟨(by first | omega | (dsimp only; omega) | decide | (simp only [Fcconfirmv0,len_say]; omega)),trivial⟩,⟨tt,⟨tt,⟨⟨trivial,(h2)⟩,⟨tt,⟨tt,⟨tt,⟨tt,⟨tt,⟨tt,⟨tt,trivial⟩⟩⟩⟩⟩⟩⟩⟩⟩⟩⟩⟩⟩⟩⟩⟩⟩⟩) ?_
    refine Tri.cond_true (by kernel_rfl) ?_
    refine Tri.seq_region [] none [4] [4,0,1,2,3] (TT∧True)
      ([(4,.sc (.i .i64 3))],[(4,.cells [.ro .u8 (FwU32_1 (FwU32_1 (FwU32_1 (FwU32_1 p2 p3) (FwU32_2 p2 p3)) (FwU32_2 (FwU32_1 p2 p3) (FwU32_2 p2 p3))) (FwU32_2 (FwU32_1 (FwU32_1 p2 p3) (FwU32_2 p2 p3)) (FwU32_2 (FwU32_1 p2 p3) (FwU32_2 p2 p3)))),.b (FwU32_2 (FwU32_1 (FwU32_1 (FwU32_1 p2 p3) (FwU32_2 p2 p3)) (FwU32_2 (FwU32_1 p2 p3) (FwU32_2 p2 p3))) (FwU32_2 (FwU32_1 (FwU32_1 p2 p3) (FwU32_2 p2 p3)) (FwU32_2 (FwU32_1 p2 p3) (FwU32_2 p2 p3))))]),(0,chC 1 2 3 p0),(1,.ints .u8 p0.wait.length p0.wait),(2,.ints .u8 p0.got.length p0.got),(3,.vec .row p0.out)])
      528 (by kernel_rfl) rfl (by kernel_rfl) (⟨tt,trivial⟩) ?_
    refine Tri.ret ?_
    repeat (first | refine thenP_ret ?_ | refine blkP_ret ?_ | refine countP_ret ?_ | refine joinP_ret ?_ | refine iterP_ret ?_)
    refine subP_done ?_
    refine endP.conv (r':=⟨.sc (.i .i64 3),[some (chC 5 6 7 p0),none,none,none,some (.cells [.ro .u8 (FwU32_1 (FwU32_1 (FwU32_1 (FwU32_1 p2 p3) (FwU32_2 p2 p3)) (FwU32_2 (FwU32_1 p2 p3) (FwU32_2 p2 p3))) (FwU32_2 (FwU32_1 (FwU32_1 p2 p3) (FwU32_2 p2 p3)) (FwU32_2 (FwU32_1 p2 p3) (FwU32_2 p2 p3)))),.b (FwU32_2 (FwU32_1 (FwU32_1 (FwU32_1 p2 p3) (FwU32_2 p2 p3)) (FwU32_2 (FwU32_1 p2 p3) (FwU32_2 p2 p3))) (FwU32_2 (FwU32_1 (FwU32_1 p2 p3) (FwU32_2 p2 p3)) (FwU32_2 (FwU32_1 p2 p3) (FwU32_2 p2 p3))))]),some (.ints .u8 p0.wait.length p0.wait),some (.ints .u8 p0.got.length p0.got),some (.vec .row p0.out)]⟩) (by simp only [chC,Fcconfirm,Fcconfirm_1,Fcconfirm_2,Fcconfirm_3,h1,h2,sel_true,sel_false]) ?_
    exact endP.ret [(0,0),(4,4),(1,5),(2,6),(3,7)] TT (by kernel_rfl) (by kernel_rfl) tt
   ·
    have h2':=ne_false_i h2
    refine Tri.split (((FwU32 p2 p3):Int) != 0) (fun h3 => ?_) (fun h3 => ?_)
    ·
     have h3':=ne_true_i h3
     refine Tri.seq_region [(20,qb false),(27,qb false),(31,qb true)] none [34,8,7,6,0] [4,0,1,2,3] (TT∧((TT∧True)∧(TT∧((True∧((!(FwEnd (FwU32_1 (FwU32_1 (FwU32_1 (FwU32_1 p2 p3) (FwU32_2 p2 p3)) (FwU32_2 (FwU32_1 p2 p3) (FwU32_2 p2 p3))) (FwU32_2 (FwU32_1 (FwU32_1 p2 p3) (FwU32_2 p2 p3)) (FwU32_2 (FwU32_1 p2 p3) (FwU32_2 p2 p3)))) (FwU32_2 (FwU32_1 (FwU32_1 (FwU32_1 p2 p3) (FwU32_2 p2 p3)) (FwU32_2 (FwU32_1 p2 p3) (FwU32_2 p2 p3))) (FwU32_2 (FwU32_1 (FwU32_1 p2 p3) (FwU32_2 p2 p3)) (FwU32_2 (FwU32_1 p2 p3) (FwU32_2 p2 p3))))))=false))∧(TT∧(TT∧(TT∧(((1 < 14)∧True)∧(TT∧(TT∧((True∧(((p0.state:Int) != 1)=false))∧(TT∧(TT∧(TT∧((True∧((((FwU32 p2 p3):Int) != 0)=true))∧(TT∧(TT∧(TT∧True))))))))))))))))))
       ([(34,.sc (.b true)),(8,.sc (.i .u32 (FwU32 (FwU32_1 (FwU32_1 (FwU32_1 p2 p3) (FwU32_2 p2 p3)) (FwU32_2 (FwU32_1 p2 p3) (FwU32_2 p2 p3))) (FwU32_2 (FwU32_1 (FwU32_1 p2 p3) (FwU32_2 p2 p3)) (FwU32_2 (FwU32_1 p2 p3) (FwU32_2 p2 p3)))))),(7,.sc (.i .u32 (FwU32 (FwU32_1 (FwU32_1 p2 p3) (FwU32_2 p2 p3)) (FwU32_2 (FwU32_1 p2 p3) (FwU32_2 p2 p3))))),(6,.sc (.i .u32 (FwU32 (FwU32_1 p2 p3) (FwU32_2 p2 p3)))),(0,.sc (.p 0 0))],[(4,.cells [.ro .u8 (FwU32_1 (FwU32_1 (FwU32_1 (FwU32_1 p2 p3) (FwU32_2 p2 p3)) (FwU32_2 (FwU32_1 p2 p3) (FwU32_2 p2 p3))) (FwU32_2 (FwU32_1 (FwU32_1 p2 p3) (FwU32_2 p2 p3)) (FwU32_2 (FwU32_1 p2 p3) (FwU32_2 p2 p3)))),.b (FwU32_2 (FwU32_1 (FwU32_1 (FwU32_1 p2 p3) (FwU32_2 p2 p3)) (FwU32_2 (FwU32_1 p2 p3) (FwU32_2 p2 p3))) (FwU32_2 (FwU32_1 (FwU32_1 p2 p3) (FwU32_2 p2 p3)) (FwU32_2 (FwU32_1 p2 p3) (FwU32_2 p2 p3))))]),(0,chC 1 2 3 p0),(1,.ints .u8 p0.wait.length p0.wait),(2,.ints .u8 p0.got.length p0.got),(3,.vec .row p0.out)])
       512 (by kernel_rfl) rfl (by kernel_rfl) (⟨tt,⟨⟨tt,trivial⟩,⟨tt,⟨⟨trivial,(h1)⟩,⟨tt,⟨tt,⟨tt,⟨⟨(by first | omega | (dsimp only; omega) | decide | (simp only [Fcconfirmv0,len_say]; omega)),trivial⟩,⟨tt,⟨tt,⟨⟨trivial,(h2)⟩,⟨tt,⟨tt,⟨tt,⟨⟨trivial,(h3)⟩,⟨tt,⟨tt,⟨tt,trivial⟩⟩⟩⟩⟩⟩⟩⟩⟩⟩⟩⟩⟩⟩⟩⟩⟩⟩) ?_
     refine Tri.cond_true (by kernel_rfl) ?_
     refine Tri.seq_region [] none [4] [4,0,1,2,3] (TT∧True)
       ([(4,.sc (.i .i64 3))],[(4,.cells [.ro .u8 (FwU32_1 (FwU32_1 (FwU32_1 (FwU32_1 p2 p3) (FwU32_2 p2 p3)) (FwU32_2 (FwU32_1 p2 p3) (FwU32_2 p2 p3))) (FwU32_2 (FwU32_1 (FwU32_1 p2 p3) (FwU32_2 p2 p3)) (FwU32_2 (FwU32_1 p2 p3) (FwU32_2 p2 p3)))),.b (FwU32_2 (FwU32_1 (FwU32_1 (FwU32_1 p2 p3) (FwU32_2 p2 p3)) (FwU32_2 (FwU32_1 p2 p3) (FwU32_2 p2 p3))) (FwU32_2 (FwU32_1 (FwU32_1 p2 p3) (FwU32_2 p2 p3)) (FwU32_2 (FwU32_1 p2 p3) (FwU32_2 p2 p3))))]),(0,chC 1 2 3 p0),(1,.ints .u8 p0.wait.length p0.wait),(2,.ints .u8 p0.got.length p0.got),(3,.vec .row p0.out)])
       528 (by kernel_rfl) rfl (by kernel_rfl) (⟨tt,trivial⟩) ?_
     refine Tri.ret ?_
     repeat (first | refine thenP_ret ?_ | refine blkP_ret ?_ | refine countP_ret ?_ | refine joinP_ret ?_ | refine iterP_ret ?_)
     refine subP_done ?_
     refine endP.conv (r':=⟨.sc (.i .i64 3),[some (chC 5 6 7 p0),none,none,none,some (.cells [.ro .u8 (FwU32_1 (FwU32_1 (FwU32_1 (FwU32_1 p2 p3) (FwU32_2 p2 p3)) (FwU32_2 (FwU32_1 p2 p3) (FwU32_2 p2 p3))) (FwU32_2 (FwU32_1 (FwU32_1 p2 p3) (FwU32_2 p2 p3)) (FwU32_2 (FwU32_1 p2 p3) (FwU32_2 p2 p3)))),.b (FwU32_2 (FwU32_1 (FwU32_1 (FwU32_1 p2 p3) (FwU32_2 p2 p3)) (FwU32_2 (FwU32_1 p2 p3) (FwU32_2 p2 p3))) (FwU32_2 (FwU32_1 (FwU32_1 p2 p3) (FwU32_2 p2 p3)) (FwU32_2 (FwU32_1 p2 p3) (FwU32_2 p2 p3))))]),some (.ints .u8 p0.wait.length p0.wait),some (.ints .u8 p0.got.length p0.got),some (.vec .row p0.out)]⟩) (by simp only [chC,Fcconfirm,Fcconfirm_1,Fcconfirm_2,Fcconfirm_3,h1,h2,h3,sel_true,sel_false]) ?_
     exact endP.ret [(0,0),(4,4),(1,5),(2,6),(3,7)] TT (by kernel_rfl) (by kernel_rfl) tt
    ·
     have h3':=ne_false_i h3
     refine Tri.seq_region [(20,qb false),(27,qb false),(31,qb false)] none [34,8,7,6,0] [4,0,1,2,3] (TT∧((TT∧True)∧(TT∧((True∧((!(FwEnd (FwU32_1 (FwU32_1 (FwU32_1 (FwU32_1 p2 p3) (FwU32_2 p2 p3)) (FwU32_2 (FwU32_1 p2 p3) (FwU32_2 p2 p3))) (FwU32_2 (FwU32_1 (FwU32_1 p2 p3) (FwU32_2 p2 p3)) (FwU32_2 (FwU32_1 p2 p3) (FwU32_2 p2 p3)))) (FwU32_2 (FwU32_1 (FwU32_1 (FwU32_1 p2 p3) (FwU32_2 p2 p3)) (FwU32_2 (FwU32_1 p2 p3) (FwU32_2 p2 p3))) (FwU32_2 (FwU32_1 (FwU32_1 p2 p3) (FwU32_2 p2 p3)) (FwU32_2 (FwU32_1 p2 p3) (FwU32_2 p2 p3))))))=false))∧(TT∧(TT∧(TT∧(((1 < 14)∧True)∧(TT∧(TT∧((True∧(((p0.state:Int) != 1)=false))∧(TT∧(TT∧(TT∧((True∧((((FwU32 p2 p3):Int) != 0)=false))∧(TT∧(TT∧(TT∧True))))))))))))))))))
       ([(34,.sc (.b (((FwU32 (FwU32_1 (FwU32_1 (FwU32_1 p2 p3) (FwU32_2 p2 p3)) (FwU32_2 (FwU32_1 p2 p3) (FwU32_2 p2 p3))) (FwU32_2 (FwU32_1 (FwU32_1 p2 p3) (FwU32_2 p2 p3)) (FwU32_2 (FwU32_1 p2 p3) (FwU32_2 p2 p3)))):Int) == 0))),(8,.sc (.i .u32 (FwU32 (FwU32_1 (FwU32_1 (FwU32_1 p2 p3) (FwU32_2 p2 p3)) (FwU32_2 (FwU32_1 p2 p3) (FwU32_2 p2 p3))) (FwU32_2 (FwU32_1 (FwU32_1 p2 p3) (FwU32_2 p2 p3)) (FwU32_2 (FwU32_1 p2 p3) (FwU32_2 p2 p3)))))),(7,.sc (.i .u32 (FwU32 (FwU32_1 (FwU32_1 p2 p3) (FwU32_2 p2 p3)) (FwU32_2 (FwU32_1 p2 p3) (FwU32_2 p2 p3))))),(6,.sc (.i .u32 (FwU32 (FwU32_1 p2 p3) (FwU32_2 p2 p3)))),(0,.sc (.p 0 0))],[(4,.cells [.ro .u8 (FwU32_1 (FwU32_1 (FwU32_1 (FwU32_1 p2 p3) (FwU32_2 p2 p3)) (FwU32_2 (FwU32_1 p2 p3) (FwU32_2 p2 p3))) (FwU32_2 (FwU32_1 (FwU32_1 p2 p3) (FwU32_2 p2 p3)) (FwU32_2 (FwU32_1 p2 p3) (FwU32_2 p2 p3)))),.b (FwU32_2 (FwU32_1 (FwU32_1 (FwU32_1 p2 p3) (FwU32_2 p2 p3)) (FwU32_2 (FwU32_1 p2 p3) (FwU32_2 p2 p3))) (FwU32_2 (FwU32_1 (FwU32_1 p2 p3) (FwU32_2 p2 p3)) (FwU32_2 (FwU32_1 p2 p3) (FwU32_2 p2 p3))))]),(0,chC 1 2 3 p0),(1,.ints .u8 p0.wait.length p0.wait),(2,.ints .u8 p0.got.length p0.got),(3,.vec .row p0.out)])
       512 (by kernel_rfl) rfl (by kernel_rfl) (⟨tt,⟨⟨tt,trivial⟩,⟨tt,⟨⟨trivial,(h1)⟩,⟨tt,⟨tt,⟨tt,⟨⟨(by first | omega | (dsimp only; omega) | decide | (simp only [Fcconfirmv0,len_say]; omega)),trivial⟩,⟨tt,⟨tt,⟨⟨trivial,(h2)⟩,⟨tt,⟨tt,⟨tt,⟨⟨trivial,(h3)⟩,⟨tt,⟨tt,⟨tt,trivial⟩⟩⟩⟩⟩⟩⟩⟩⟩⟩⟩⟩⟩⟩⟩⟩⟩⟩) ?_
     refine Tri.cond (x:=(((FwU32 (FwU32_1 (FwU32_1 (FwU32_1 p2 p3) (FwU32_2 p2 p3)) (FwU32_2 (FwU32_1 p2 p3) (FwU32_2 p2 p3))) (FwU32_2 (FwU32_1 (FwU32_1 p2 p3) (FwU32_2 p2 p3)) (FwU32_2 (FwU32_1 p2 p3) (FwU32_2 p2 p3)))):Int) == 0)) (by kernel_rfl) (fun h4 => ?_) (fun h4 => ?_)
     ·
      have h4':=eq_true_i h4
      refine Tri.seq_region [] none [4] [4,0,1,2,3] (TT∧True)
        ([(4,.sc (.i .i64 3))],[(4,.cells [.ro .u8 (FwU32_1 (FwU32_1 (FwU32_1 (FwU32_1 p2 p3) (FwU32_2 p2 p3)) (FwU32_2 (FwU32_1 p2 p3) (FwU32_2 p2 p3))) (FwU32_2 (FwU32_1 (FwU32_1 p2 p3) (FwU32_2 p2 p3)) (FwU32_2 (FwU32_1 p2 p3) (FwU32_2 p2 p3)))),.b (FwU32_2 (FwU32_1 (FwU32_1 (FwU32_1 p2 p3) (FwU32_2 p2 p3)) (FwU32_2 (FwU32_1 p2 p3) (FwU32_2 p2 p3))) (FwU32_2 (FwU32_1 (FwU32_1 p2 p3) (FwU32_2 p2 p3)) (FwU32_2 (FwU32_1 p2 p3) (FwU32_2 p2 p3))))]),(0,chC 1 2 3 p0),(1,.ints .u8 p0.wait.length p0.wait),(2,.ints .u8 p0.got.length p0.got),(3,.vec .row p0.out)])
        528 (by kernel_rfl) rfl (by kernel_rfl) (⟨tt,trivial⟩) ?_
      refine Tri.ret ?_
      repeat (first | refine thenP_ret ?_ | refine blkP_ret ?_ | refine countP_ret ?_ | refine joinP_ret ?_ | refine iterP_ret ?_)
      refine subP_done ?_
      refine endP.conv (r':=⟨.sc (.i .i64 3),[some (chC 5 6 7 p0),none,none,none,some (.cells [.ro .u8 (FwU32_1 (FwU32_1 (FwU32_1 (FwU32_1 p2 p3) (FwU32_2 p2 p3)) (FwU32_2 (FwU32_1 p2 p3) (FwU32_2 p2 p3))) (FwU32_2 (FwU32_1 (FwU32_1 p2 p3) (FwU32_2 p2 p3)) (FwU32_2 (FwU32_1 p2 p3) (FwU32_2 p2 p3)))),.b (FwU32_2 (FwU32_1 (FwU32_1 (FwU32_1 p2 p3) (FwU32_2 p2 p3)) (FwU32_2 (FwU32_1 p2 p3) (FwU32_2 p2 p3))) (FwU32_2 (FwU32_1 (FwU32_1 p2 p3) (FwU32_2 p2 p3)) (FwU32_2 (FwU32_1 p2 p3) (FwU32_2 p2 p3))))]),some (.ints .u8 p0.wait.length p0.wait),some (.ints .u8 p0.got.length p0.got),some (.vec .row p0.out)]⟩) (by simp only [chC,Fcconfirm,Fcconfirm_1,Fcconfirm_2,Fcconfirm_3,h1,h2,h3,h4,sel_true,sel_false]) ?_
      exact endP.ret [(0,0),(4,4),(1,5),(2,6),(3,7)] TT (by kernel_rfl) (by kernel_rfl) tt
     ·
      have h4':=eq_false_i h4
      refine Tri.skip ?_
      change Tri _ _ _ _ _ _
      refine Tri.seq_region [] none [8,7,0] [0,4,1,2,3] (TT∧(TT∧(TT∧(TT∧(TT∧((((1 < 14)∧(1=1))∧True)∧(TT∧(TT∧((((2 < 14)∧(1=1))∧True)∧True)))))))))
        ([(8,.sc (.i .u32 (FwU32 (FwU32_1 (FwU32_1 (FwU32_1 p2 p3) (FwU32_2 p2 p3)) (FwU32_2 (FwU32_1 p2 p3) (FwU32_2 p2 p3))) (FwU32_2 (FwU32_1 (FwU32_1 p2 p3) (FwU32_2 p2 p3)) (FwU32_2 (FwU32_1 p2 p3) (FwU32_2 p2 p3)))))),(7,.sc (.i .u32 (FwU32 (FwU32_1 (FwU32_1 p2 p3) (FwU32_2 p2 p3)) (FwU32_2 (FwU32_1 p2 p3) (FwU32_2 p2 p3))))),(0,.sc (.p 0 0))],[(0,.cells [.b p0.server,.i .i64 2,.i .u32 (FwU32 (FwU32_1 p2 p3) (FwU32_2 p2 p3)),.i .i64 p0.window,.i .i64 p0.most,.i .i64 p0.room,.sl 1 0 p0.wait.length 1 none,.sl 2 0 p0.got.length 1 none,.b p0.ready,.b p0.e0,.b p0.e1,.b p0.c0,.b p0.c1,.sl 3 0 p0.out.length 1 none]),(4,.cells [.ro .u8 (FwU32_1 (FwU32_1 (FwU32_1 (FwU32_1 p2 p3) (FwU32_2 p2 p3)) (FwU32_2 (FwU32_1 p2 p3) (FwU32_2 p2 p3))) (FwU32_2 (FwU32_1 (FwU32_1 p2 p3) (FwU32_2 p2 p3)) (FwU32_2 (FwU32_1 p2 p3) (FwU32_2 p2 p3)))),.b (FwU32_2 (FwU32_1 (FwU32_1 (FwU32_1 p2 p3) (FwU32_2 p2 p3)) (FwU32_2 (FwU32_1 p2 p3) (FwU32_2 p2 p3))) (FwU32_2 (FwU32_1 (FwU32_1 p2 p3) (FwU32_2 p2 p3)) (FwU32_2 (FwU32_1 p2 p3) (FwU32_2 p2 p3))))]),(1,.ints .u8 p0.wait.length p0.wait),(2,.ints .u8 p0.got.length p0.got),(3,.vec .row p0.out)])
        656 (by kernel_rfl) rfl (by kernel_rfl) (⟨tt,⟨tt,⟨tt,⟨tt,⟨tt,⟨⟨⟨(by first | omega | (dsimp only; omega) | decide | (simp only [Fcconfirmv0,len_say]; omega)),(rfl)⟩,trivial⟩,⟨tt,⟨tt,⟨⟨⟨(by first | omega | (dsimp only; omega) | decide | (simp only [Fcconfirmv0,len_say]; omega)),(rfl)⟩,trivial⟩,trivial⟩⟩⟩⟩⟩⟩⟩⟩⟩) ?_
      refine Tri.seq_region [] none [0] [0,4,1,2,3] (TT∧(TT∧(TT∧(TT∧(TT∧(TT∧(TT∧(TT∧(TT∧(TT∧((((3 < 14)∧(1=1))∧True)∧(TT∧(TT∧((((4 < 14)∧(1=1))∧True)∧True))))))))))))))
        ([(0,.sc (.p 0 0))],[(0,.cells [.b p0.server,.i .i64 2,.i .u32 (FwU32 (FwU32_1 p2 p3) (FwU32_2 p2 p3)),.i .i64 (IntKind.wrap .i64 (minI (FwU32 (FwU32_1 (FwU32_1 p2 p3) (FwU32_2 p2 p3)) (FwU32_2 (FwU32_1 p2 p3) (FwU32_2 p2 p3))) 1073741824)),.i .i64 (IntKind.wrap .i64 (minI (FwU32 (FwU32_1 (FwU32_1 (FwU32_1 p2 p3) (FwU32_2 p2 p3)) (FwU32_2 (FwU32_1 p2 p3) (FwU32_2 p2 p3))) (FwU32_2 (FwU32_1 (FwU32_1 p2 p3) (FwU32_2 p2 p3)) (FwU32_2 (FwU32_1 p2 p3) (FwU32_2 p2 p3)))) 512)),.i .i64 p0.room,.sl 1 0 p0.wait.length 1 none,.sl 2 0 p0.got.length 1 none,.b p0.ready,.b p0.e0,.b p0.e1,.b p0.c0,.b p0.c1,.sl 3 0 p0.out.length 1 none]),(4,.cells [.ro .u8 (FwU32_1 (FwU32_1 (FwU32_1 (FwU32_1 p2 p3) (FwU32_2 p2 p3)) (FwU32_2 (FwU32_1 p2 p3) (FwU32_2 p2 p3))) (FwU32_2 (FwU32_1 (FwU32_1 p2 p3) (FwU32_2 p2 p3)) (FwU32_2 (FwU32_1 p2 p3) (FwU32_2 p2 p3)))),.b (FwU32_2 (FwU32_1 (FwU32_1 (FwU32_1 p2 p3) (FwU32_2 p2 p3)) (FwU32_2 (FwU32_1 p2 p3) (FwU32_2 p2 p3))) (FwU32_2 (FwU32_1 (FwU32_1 p2 p3) (FwU32_2 p2 p3)) (FwU32_2 (FwU32_1 p2 p3) (FwU32_2 p2 p3))))]),(1,.ints .u8 p0.wait.length p0.wait),(2,.ints .u8 p0.got.length p0.got),(3,.vec .row p0.out)])
        880 (by kernel_rfl) rfl (by kernel_rfl) (⟨tt,⟨tt,⟨tt,⟨tt,⟨tt,⟨tt,⟨tt,⟨tt,⟨tt,⟨tt,⟨⟨⟨(by first | omega | (dsimp only; omega) | decide | (simp only [Fcconfirmv0,len_say]; omega)),(rfl)⟩,trivial⟩,⟨tt,⟨tt,⟨⟨⟨(by first | omega | (dsimp only; omega) | decide | (simp only [Fcconfirmv0,len_say]; omega)),(rfl)⟩,trivial⟩,trivial⟩⟩⟩⟩⟩⟩⟩⟩⟩⟩⟩⟩⟩⟩) ?_
      refine Tri.seq_region [] none [] [978,977,976,0,4] (TT∧(TT∧((((True∧((chLens (({p0 with state:=2,peer:=(FwU32 (FwU32_1 p2 p3) (FwU32_2 p2 p3)),window:=(IntKind.wrap .i64 (minI (FwU32 (FwU32_1 (FwU32_1 p2 p3) (FwU32_2 p2 p3)) (FwU32_2 (FwU32_1 p2 p3) (FwU32_2 p2 p3))) 1073741824)),most:=(IntKind.wrap .i64 (minI (FwU32 (FwU32_1 (FwU32_1 (FwU32_1 p2 p3) (FwU32_2 p2 p3)) (FwU32_2 (FwU32_1 p2 p3) (FwU32_2 p2 p3))) (FwU32_2 (FwU32_1 (FwU32_1 p2 p3) (FwU32_2 p2 p3)) (FwU32_2 (FwU32_1 p2 p3) (FwU32_2 p2 p3)))) 512))}:Ch).wait.length) (({p0 with state:=2,peer:=(FwU32 (FwU32_1 p2 p3) (FwU32_2 p2 p3)),window:=(IntKind.wrap .i64 (minI (FwU32 (FwU32_1 (FwU32_1 p2 p3) (FwU32_2 p2 p3)) (FwU32_2 (FwU32_1 p2 p3) (FwU32_2 p2 p3))) 1073741824)),most:=(IntKind.wrap .i64 (minI (FwU32 (FwU32_1 (FwU32_1 (FwU32_1 p2 p3) (FwU32_2 p2 p3)) (FwU32_2 (FwU32_1 p2 p3) (FwU32_2 p2 p3))) (FwU32_2 (FwU32_1 (FwU32_1 p2 p3) (FwU32_2 p2 p3)) (FwU32_2 (FwU32_1 p2 p3) (FwU32_2 p2 p3)))) 512))}:Ch).got.length) (({p0 with state:=2,peer:=(FwU32 (FwU32_1 p2 p3) (FwU32_2 p2 p3)),window:=(IntKind.wrap .i64 (minI (FwU32 (FwU32_1 (FwU32_1 p2 p3) (FwU32_2 p2 p3)) (FwU32_2 (FwU32_1 p2 p3) (FwU32_2 p2 p3))) 1073741824)),most:=(IntKind.wrap .i64 (minI (FwU32 (FwU32_1 (FwU32_1 (FwU32_1 p2 p3) (FwU32_2 p2 p3)) (FwU32_2 (FwU32_1 p2 p3) (FwU32_2 p2 p3))) (FwU32_2 (FwU32_1 (FwU32_1 p2 p3) (FwU32_2 p2 p3)) (FwU32_2 (FwU32_1 p2 p3) (FwU32_2 p2 p3)))) 512))}:Ch).out.length) (({p0 with state:=2,peer:=(FwU32 (FwU32_1 p2 p3) (FwU32_2 p2 p3)),window:=(IntKind.wrap .i64 (minI (FwU32 (FwU32_1 (FwU32_1 p2 p3) (FwU32_2 p2 p3)) (FwU32_2 (FwU32_1 p2 p3) (FwU32_2 p2 p3))) 1073741824)),most:=(IntKind.wrap .i64 (minI (FwU32 (FwU32_1 (FwU32_1 (FwU32_1 p2 p3) (FwU32_2 p2 p3)) (FwU32_2 (FwU32_1 p2 p3) (FwU32_2 p2 p3))) (FwU32_2 (FwU32_1 (FwU32_1 p2 p3) (FwU32_2 p2 p3)) (FwU32_2 (FwU32_1 p2 p3) (FwU32_2 p2 p3)))) 512))}:Ch).wait.length) (({p0 with state:=2,peer:=(FwU32 (FwU32_1 p2 p3) (FwU32_2 p2 p3)),window:=(IntKind.wrap .i64 (minI (FwU32 (FwU32_1 (FwU32_1 p2 p3) (FwU32_2 p2 p3)) (FwU32_2 (FwU32_1 p2 p3) (FwU32_2 p2 p3))) 1073741824)),most:=(IntKind.wrap .i64 (minI (FwU32 (FwU32_1 (FwU32_1 (FwU32_1 p2 p3) (FwU32_2 p2 p3)) (FwU32_2 (FwU32_1 p2 p3) (FwU32_2 p2 p3))) (FwU32_2 (FwU32_1 (FwU32_1 p2 p3) (FwU32_2 p2 p3)) (FwU32_2 (FwU32_1 p2 p3) (FwU32_2 p2 p3)))) 512))}:Ch).got.length) ({p0 with state:=2,peer:=(FwU32 (FwU32_1 p2 p3) (FwU32_2 p2 p3)),window:=(IntKind.wrap .i64 (minI (FwU32 (FwU32_1 (FwU32_1 p2 p3) (FwU32_2 p2 p3)) (FwU32_2 (FwU32_1 p2 p3) (FwU32_2 p2 p3))) 1073741824)),most:=(IntKind.wrap .i64 (minI (FwU32 (FwU32_1 (FwU32_1 (FwU32_1 p2 p3) (FwU32_2 p2 p3)) (FwU32_2 (FwU32_1 p2 p3) (FwU32_2 p2 p3))) (FwU32_2 (FwU32_1 (FwU32_1 p2 p3) (FwU32_2 p2 p3)) (FwU32_2 (FwU32_1 p2 p3) (FwU32_2 p2 p3)))) 512))}:Ch))∧True))∧(([some (.cells [.b p0.server,.i .i64 2,.i .u32 (FwU32 (FwU32_1 p2 p3) (FwU32_2 p2 p3)),.i .i64 (IntKind.wrap .i64 (minI (FwU32 (FwU32_1 (FwU32_1 p2 p3) (FwU32_2 p2 p3)) (FwU32_2 (FwU32_1 p2 p3) (FwU32_2 p2 p3))) 1073741824)),.i .i64 (IntKind.wrap .i64 (minI (FwU32 (FwU32_1 (FwU32_1 (FwU32_1 p2 p3) (FwU32_2 p2 p3)) (FwU32_2 (FwU32_1 p2 p3) (FwU32_2 p2 p3))) (FwU32_2 (FwU32_1 (FwU32_1 p2 p3) (FwU32_2 p2 p3)) (FwU32_2 (FwU32_1 p2 p3) (FwU32_2 p2 p3)))) 512)),.i .i64 p0.room,.sl 1 0 p0.wait.length 1 none,.sl 2 0 p0.got.length 1 none,.b p0.ready,.b p0.e0,.b p0.e1,.b p0.c0,.b p0.c1,.sl 3 0 p0.out.length 1 none]),some (.ints .u8 p0.wait.length p0.wait),some (.ints .u8 p0.got.length p0.got),some (.vec .row p0.out)]:List (Option Blk))=[some (.cells [.b p0.server,.i .i64 2,.i .u32 (FwU32 (FwU32_1 p2 p3) (FwU32_2 p2 p3)),.i .i64 (IntKind.wrap .i64 (minI (FwU32 (FwU32_1 (FwU32_1 p2 p3) (FwU32_2 p2 p3)) (FwU32_2 (FwU32_1 p2 p3) (FwU32_2 p2 p3))) 1073741824)),.i .i64 (IntKind.wrap .i64 (minI (FwU32 (FwU32_1 (FwU32_1 (FwU32_1 p2 p3) (FwU32_2 p2 p3)) (FwU32_2 (FwU32_1 p2 p3) (FwU32_2 p2 p3))) (FwU32_2 (FwU32_1 (FwU32_1 p2 p3) (FwU32_2 p2 p3)) (FwU32_2 (FwU32_1 p2 p3) (FwU32_2 p2 p3)))) 512)),.i .i64 p0.room,.sl 1 0 p0.wait.length 1 none,.sl 2 0 p0.got.length 1 none,.b p0.ready,.b p0.e0,.b p0.e1,.b p0.c0,.b p0.c1,.sl 3 0 p0.out.length 1 none]),some (.ints .u8 p0.wait.length p0.wait),some (.ints .u8 p0.got.length p0.got),some (.vec .row p0.out)]))∧True)∧(((True∧(((1 + 4)=(1 + 4))∧((1 + 4)≤1000000000∧(⟨#[115,117,98,115,121,115,116,101,109]⟩:ByteArray).size≤1000000000)))∧True)∧(((True∧(((((1 + 4) + 4) + (⟨#[115,117,98,115,121,115,116,101,109]⟩:ByteArray).size)=(((1 + 4) + 4) + (⟨#[115,117,98,115,121,115,116,101,109]⟩:ByteArray).size))∧((((1 + 4) + 4) + (⟨#[115,117,98,115,121,115,116,101,109]⟩:ByteArray).size)≤1000000000)))∧True)∧(((True∧((((((1 + 4) + 4) + (⟨#[115,117,98,115,121,115,116,101,109]⟩:ByteArray).size) + 1)=((((1 + 4) + 4) + (⟨#[115,117,98,115,121,115,116,101,109]⟩:ByteArray).size) + 1))∧(((((1 + 4) + 4) + (⟨#[115,117,98,115,121,115,116,101,109]⟩:ByteArray).size) + 1)≤1000000000∧(⟨#[110,101,116,99,111,110,102]⟩:ByteArray).size≤1000000000)))∧True)∧(((TT∧((chLens (({p0 with state:=2,peer:=(FwU32 (FwU32_1 p2 p3) (FwU32_2 p2 p3)),window:=(IntKind.wrap .i64 (minI (FwU32 (FwU32_1 (FwU32_1 p2 p3) (FwU32_2 p2 p3)) (FwU32_2 (FwU32_1 p2 p3) (FwU32_2 p2 p3))) 1073741824)),most:=(IntKind.wrap .i64 (minI (FwU32 (FwU32_1 (FwU32_1 (FwU32_1 p2 p3) (FwU32_2 p2 p3)) (FwU32_2 (FwU32_1 p2 p3) (FwU32_2 p2 p3))) (FwU32_2 (FwU32_1 (FwU32_1 p2 p3) (FwU32_2 p2 p3)) (FwU32_2 (FwU32_1 p2 p3) (FwU32_2 p2 p3)))) 512))}:Ch).wait.length) (({p0 with state:=2,peer:=(FwU32 (FwU32_1 p2 p3) (FwU32_2 p2 p3)),window:=(IntKind.wrap .i64 (minI (FwU32 (FwU32_1 (FwU32_1 p2 p3) (FwU32_2 p2 p3)) (FwU32_2 (FwU32_1 p2 p3) (FwU32_2 p2 p3))) 1073741824)),most:=(IntKind.wrap .i64 (minI (FwU32 (FwU32_1 (FwU32_1 (FwU32_1 p2 p3) (FwU32_2 p2 p3)) (FwU32_2 (FwU32_1 p2 p3) (FwU32_2 p2 p3))) (FwU32_2 (FwU32_1 (FwU32_1 p2 p3) (FwU32_2 p2 p3)) (FwU32_2 (FwU32_1 p2 p3) (FwU32_2 p2 p3)))) 512))}:Ch).got.length) (({p0 with state:=2,peer:=(FwU32 (FwU32_1 p2 p3) (FwU32_2 p2 p3)),window:=(IntKind.wrap .i64 (minI (FwU32 (FwU32_1 (FwU32_1 p2 p3) (FwU32_2 p2 p3)) (FwU32_2 (FwU32_1 p2 p3) (FwU32_2 p2 p3))) 1073741824)),most:=(IntKind.wrap .i64 (minI (FwU32 (FwU32_1 (FwU32_1 (FwU32_1 p2 p3) (FwU32_2 p2 p3)) (FwU32_2 (FwU32_1 p2 p3) (FwU32_2 p2 p3))) (FwU32_2 (FwU32_1 (FwU32_1 p2 p3) (FwU32_2 p2 p3)) (FwU32_2 (FwU32_1 p2 p3) (FwU32_2 p2 p3)))) 512))}:Ch).out.length) (({p0 with state:=2,peer:=(FwU32 (FwU32_1 p2 p3) (FwU32_2 p2 p3)),window:=(IntKind.wrap .i64 (minI (FwU32 (FwU32_1 (FwU32_1 p2 p3) (FwU32_2 p2 p3)) (FwU32_2 (FwU32_1 p2 p3) (FwU32_2 p2 p3))) 1073741824)),most:=(IntKind.wrap .i64 (minI (FwU32 (FwU32_1 (FwU32_1 (FwU32_1 p2 p3) (FwU32_2 p2 p3)) (FwU32_2 (FwU32_1 p2 p3) (FwU32_2 p2 p3))) (FwU32_2 (FwU32_1 (FwU32_1 p2 p3) (FwU32_2 p2 p3)) (FwU32_2 (FwU32_1 p2 p3) (FwU32_2 p2 p3)))) 512))}:Ch).wait.length) (({p0 with state:=2,peer:=(FwU32 (FwU32_1 p2 p3) (FwU32_2 p2 p3)),window:=(IntKind.wrap .i64 (minI (FwU32 (FwU32_1 (FwU32_1 p2 p3) (FwU32_2 p2 p3)) (FwU32_2 (FwU32_1 p2 p3) (FwU32_2 p2 p3))) 1073741824)),most:=(IntKind.wrap .i64 (minI (FwU32 (FwU32_1 (FwU32_1 (FwU32_1 p2 p3) (FwU32_2 p2 p3)) (FwU32_2 (FwU32_1 p2 p3) (FwU32_2 p2 p3))) (FwU32_2 (FwU32_1 (FwU32_1 p2 p3) (FwU32_2 p2 p3)) (FwU32_2 (FwU32_1 p2 p3) (FwU32_2 p2 p3)))) 512))}:Ch).got.length) ({p0 with state:=2,peer:=(FwU32 (FwU32_1 p2 p3) (FwU32_2 p2 p3)),window:=(IntKind.wrap .i64 (minI (FwU32 (FwU32_1 (FwU32_1 p2 p3) (FwU32_2 p2 p3)) (FwU32_2 (FwU32_1 p2 p3) (FwU32_2 p2 p3))) 1073741824)),most:=(IntKind.wrap .i64 (minI (FwU32 (FwU32_1 (FwU32_1 (FwU32_1 p2 p3) (FwU32_2 p2 p3)) (FwU32_2 (FwU32_1 p2 p3) (FwU32_2 p2 p3))) (FwU32_2 (FwU32_1 (FwU32_1 p2 p3) (FwU32_2 p2 p3)) (FwU32_2 (FwU32_1 p2 p3) (FwU32_2 p2 p3)))) 512))}:Ch))∧(({p0 with state:=2,peer:=(FwU32 (FwU32_1 p2 p3) (FwU32_2 p2 p3)),window:=(IntKind.wrap .i64 (minI (FwU32 (FwU32_1 (FwU32_1 p2 p3) (FwU32_2 p2 p3)) (FwU32_2 (FwU32_1 p2 p3) (FwU32_2 p2 p3))) 1073741824)),most:=(IntKind.wrap .i64 (minI (FwU32 (FwU32_1 (FwU32_1 (FwU32_1 p2 p3) (FwU32_2 p2 p3)) (FwU32_2 (FwU32_1 p2 p3) (FwU32_2 p2 p3))) (FwU32_2 (FwU32_1 (FwU32_1 p2 p3) (FwU32_2 p2 p3)) (FwU32_2 (FwU32_1 p2 p3) (FwU32_2 p2 p3)))) 512))}:Ch).out.length≤1000000000)))∧True)∧True)))))))
        ([],[(978,.vec .row ((Fcconfirmv0 p0 p2 p3).out)),(977,.ints .u8 ((Fcconfirmv0 p0 p2 p3).got.length) ((Fcconfirmv0 p0 p2 p3).got)),(976,.ints .u8 ((Fcconfirmv0 p0 p2 p3).wait.length) ((Fcconfirmv0 p0 p2 p3).wait)),(0,chC 976 977 978 (Fcconfirmv0 p0 p2 p3)),(4,.cells [.ro .u8 (FwU32_1 (FwU32_1 (FwU32_1 (FwU32_1 p2 p3) (FwU32_2 p2 p3)) (FwU32_2 (FwU32_1 p2 p3) (FwU32_2 p2 p3))) (FwU32_2 (FwU32_1 (FwU32_1 p2 p3) (FwU32_2 p2 p3)) (FwU32_2 (FwU32_1 p2 p3) (FwU32_2 p2 p3)))),.b (FwU32_2 (FwU32_1 (FwU32_1 (FwU32_1 p2 p3) (FwU32_2 p2 p3)) (FwU32_2 (FwU32_1 p2 p3) (FwU32_2 p2 p3))) (FwU32_2 (FwU32_1 (FwU32_1 p2 p3) (FwU32_2 p2 p3)) (FwU32_2 (FwU32_1 p2 p3) (FwU32_2 p2 p3))))])])
        992 (by kernel_rfl) rfl (by kernel_rfl) (⟨tt,⟨tt,⟨⟨⟨⟨trivial,⟨(chLens_self _),trivial⟩⟩,(rfl)⟩,trivial⟩,⟨⟨⟨trivial,⟨(rfl),(by first | omega | (dsimp only; omega) | decide | (simp only [Fcconfirmv0,len_say]; omega))⟩⟩,trivial⟩,⟨⟨⟨trivial,⟨(rfl),(by first | omega | (dsimp only; omega) | decide | (simp only [Fcconfirmv0,len_say]; omega))⟩⟩,trivial⟩,⟨⟨⟨trivial,⟨(rfl),(by first | omega | (dsimp only; omega) | decide | (simp only [Fcconfirmv0,len_say]; omega))⟩⟩,trivial⟩,⟨⟨⟨tt,⟨(chLens_self _),(by first | omega | (dsimp only; omega) | decide | (simp only [Fcconfirmv0,len_say]; omega))⟩⟩,trivial⟩,trivial⟩⟩⟩⟩⟩⟩⟩) ?_
      refine Tri.seq_region [] none [4] [978,977,976,0,4] (TT∧True)
        ([(4,.sc (.i .i64 0))],[(978,.vec .row ((Fcconfirmv0 p0 p2 p3).out)),(977,.ints .u8 ((Fcconfirmv0 p0 p2 p3).got.length) ((Fcconfirmv0 p0 p2 p3).got)),(976,.ints .u8 ((Fcconfirmv0 p0 p2 p3).wait.length) ((Fcconfirmv0 p0 p2 p3).wait)),(0,chC 976 977 978 (Fcconfirmv0 p0 p2 p3)),(4,.cells [.ro .u8 (FwU32_1 (FwU32_1 (FwU32_1 (FwU32_1 p2 p3) (FwU32_2 p2 p3)) (FwU32_2 (FwU32_1 p2 p3) (FwU32_2 p2 p3))) (FwU32_2 (FwU32_1 (FwU32_1 p2 p3) (FwU32_2 p2 p3)) (FwU32_2 (FwU32_1 p2 p3) (FwU32_2 p2 p3)))),.b (FwU32_2 (FwU32_1 (FwU32_1 (FwU32_1 p2 p3) (FwU32_2 p2 p3)) (FwU32_2 (FwU32_1 p2 p3) (FwU32_2 p2 p3))) (FwU32_2 (FwU32_1 (FwU32_1 p2 p3) (FwU32_2 p2 p3)) (FwU32_2 (FwU32_1 p2 p3) (FwU32_2 p2 p3))))])])
        1008 (by kernel_rfl) rfl (by kernel_rfl) (⟨tt,trivial⟩) ?_
      refine Tri.ret ?_
      repeat (first | refine thenP_ret ?_ | refine blkP_ret ?_ | refine countP_ret ?_ | refine joinP_ret ?_ | refine iterP_ret ?_)
      refine subP_done ?_
      refine endP.conv (r':=⟨.sc (.i .i64 0),[some (chC 5 6 7 (Fcconfirmv0 p0 p2 p3)),none,none,none,some (.cells [.ro .u8 (FwU32_1 (FwU32_1 (FwU32_1 (FwU32_1 p2 p3) (FwU32_2 p2 p3)) (FwU32_2 (FwU32_1 p2 p3) (FwU32_2 p2 p3))) (FwU32_2 (FwU32_1 (FwU32_1 p2 p3) (FwU32_2 p2 p3)) (FwU32_2 (FwU32_1 p2 p3) (FwU32_2 p2 p3)))),.b (FwU32_2 (FwU32_1 (FwU32_1 (FwU32_1 p2 p3) (FwU32_2 p2 p3)) (FwU32_2 (FwU32_1 p2 p3) (FwU32_2 p2 p3))) (FwU32_2 (FwU32_1 (FwU32_1 p2 p3) (FwU32_2 p2 p3)) (FwU32_2 (FwU32_1 p2 p3) (FwU32_2 p2 p3))))]),some (.ints .u8 ((Fcconfirmv0 p0 p2 p3).wait.length) ((Fcconfirmv0 p0 p2 p3).wait)),some (.ints .u8 ((Fcconfirmv0 p0 p2 p3).got.length) ((Fcconfirmv0 p0 p2 p3).got)),some (.vec .row ((Fcconfirmv0 p0 p2 p3).out))]⟩) (by simp only [chC,Fcconfirm,Fcconfirm_1,Fcconfirm_2,Fcconfirm_3,h1,h2,h3,h4,sel_true,sel_false]) ?_
      exact endP.ret [(0,0),(4,4),(976,5),(977,6),(978,7)] TT (by kernel_rfl) (by kernel_rfl) tt
end Go.Vm
