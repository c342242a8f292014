/- What the functions compute, and that they do: walked by a printed text. -/
import Derived.Test.YtnbpdjjcilhjoaaDoorPf
set_option linter.unusedVariables false
set_option linter.unusedSimpArgs false
set_option maxRecDepth 4000
namespace Go.Vm
open Go
theorem own7 (p2:Int):(0≤iRem (iAdd .i64 (iRem p2 64) 64) 64∧iRem (iAdd .i64 (iRem p2 64) 64) 64≤63)∧0≤iQuo .i64 (iRem (iAdd .i64 (iRem p2 64) 64) 64) 2∧iQuo .i64 (iRem (iAdd .i64 (iRem p2 64) 64) 64) 2≤31:=by
 have h1:iRem p2 64 < 64:=Int.tmod_lt_of_pos p2 (by decide)
 have h2:-64 < iRem p2 64:=Int.lt_tmod_of_pos p2 (by decide)
 have e1:iAdd .i64 (iRem p2 64) 64=iRem p2 64 + 64:=iAdd_i64 (by omega) (by omega)
 rw [e1]
 have h3:iRem (iRem p2 64 + 64) 64 < 64:=Int.tmod_lt_of_pos _ (by decide)
 have h4:0≤iRem (iRem p2 64 + 64) 64:=Int.tmod_nonneg _ (by omega)
 generalize iRem (iRem p2 64 + 64) 64=n at *
 have e2:iQuo .i64 n 2=n / 2:=by
  unfold iQuo
  rw [Int.tdiv_eq_ediv_of_nonneg h4,wrap_small (by omega) (by omega)]
 rw [e2]
 omega
noncomputable def FT7 (p0:List Int) (p1:List Int) (p2:Int):Bool :=
 (sel (!(FT8)) false (sel (((p0.length:Int):Int) != 32) true (sel (decide (((p1.length:Int):Int) > 300)) true (sel (!(strEq (bytesOf ((p0.drop 0).take p0.length)) (bytesOf p0))) false (sel (!(strEq (bytesOf ((p1.drop 0).take p1.length)) (bytesOf p1))) false (sel (FT13 (part1 (FT9_1 (part1 p0 p0.length 0 p0.length)) 32 0 32) (part1 p1 p1.length 0 p1.length) (part1 (FT10_1 (part1 p0 p0.length 0 p0.length) (part1 p1 p1.length 0 p1.length)) 64 0 64)) (sel (!(FT13 (part1 (FT9_1 (part1 p0 p0.length 0 p0.length)) 32 0 32) (part1 p1 p1.length 0 p1.length) (part1 (FT10_1 (part1 p0 p0.length 0 p0.length) (part1 p1 p1.length 0 p1.length)) 64 0 ((((iRem (iAdd .i64 (iRem p2 64) 64) 64)).toNat) - 0)))) (sel (!(FT13 (part1 (FT9_1 (part1 p0 p0.length 0 p0.length)) 32 0 ((((iQuo .i64 (iRem (iAdd .i64 (iRem p2 64) 64) 64) 2)).toNat) - 0)) (part1 p1 p1.length 0 p1.length) (part1 (FT10_1 (part1 p0 p0.length 0 p0.length) (part1 p1 p1.length 0 p1.length)) 64 0 64))) (strEq (bytesOf (((FT9_1 (part1 p0 p0.length 0 p0.length)).drop 0).take 32)) (bytesOf (((FT11 p0).drop 0).take 32))) false) false) false))))))
noncomputable def ST7:List AV→Option (Prop × Ret)
 | [.sc (.ro .u8 p0),.sc (.ro .u8 p1),.sc (.i .i64 p2)] => some (True,⟨.sc (.b (FT7 p0 p1 p2)),[]⟩)
 | _ => none
noncomputable def BT7:Bs:={ P:=Go.Proofs.Tryd.prog,G:=gD,tab:=tabOf [(8,⟨[],0,ST8⟩),(9,⟨[.ro .u8],1,VT9⟩),(10,⟨[.ro .u8,.ro .u8],1,VT10⟩),(11,⟨[.ro .u8],1,ST11⟩),(13,⟨[.ro .u8,.ro .u8,.ro .u8],0,ST13⟩)],n:=99 }
theorem BT7.ok:BT7.Ok:=⟨tabOk (P:=Go.Proofs.Tryd.prog) (G:=gD) (l:=[(8,⟨[],0,ST8⟩),(9,⟨[.ro .u8],1,VT9⟩),(10,⟨[.ro .u8,.ro .u8],1,VT10⟩),(11,⟨[.ro .u8],1,ST11⟩),(13,⟨[.ro .u8,.ro .u8,.ro .u8],0,ST13⟩)]) (And.intro KT8 (And.intro KV9 (And.intro KV10 (And.intro KT11 (And.intro KT13 True.intro))))),mixed⟩
theorem KT7:Known Go.Proofs.Tryd.prog gD 7 ⟨[.ro .u8,.ro .u8,.val],0,ST7⟩:=by
 refine Known.walk (B:=BT7) (fn:=Go.Proofs.Tryd.f7) BT7.ok (by kernel_rfl) rfl (by kernel_rfl) (by kernel_rfl) (by decide) ?_ ?_
 ·intro vs C r h
  simp only at h
  unfold ST7 at h
  split at h
  ·cases h; rfl
  ·cases h
 ·intro E args C r h hC hlen
  simp only at h
  unfold ST7 at h
  split at h
  rotate_left
  ·cases h
  rename_i p0 p1 p2
  cases h
  simp only [lens] at hlen
  have hO1:=(own7 p2).1.1
  have hO2:=(own7 p2).1.2
  have hO3:=(own7 p2).2.1
  have hO4:=(own7 p2).2.2
  refine ⟨show 3≤99 from by decide,?_⟩
  refine Tri.sub (Sub.of_eq (show _=([(0,qr p0),(1,qr p1),(2,qi p2)],[]) from rfl)) ?_
  refine sr [] none [0,1,2] [] (TT∧True)
    ([(0,qr p0),(1,qr p1),(2,qi p2)],[])
    16 (⟨tt,trivial⟩) ?_
  refine Tri.seq ?_
  refine sr [] none [14,0,1,2] [] ((TT∧True)∧(TT∧True))
    ([(14,.sc (.b (!(FT8)))),(0,qr p0),(1,qr p1),(2,qi p2)],[])
    48 (⟨⟨tt,trivial⟩,⟨tt,trivial⟩⟩) ?_
  refine Tri.cond (x:=(!(FT8))) (by kernel_rfl) (fun h1 => ?_) (fun h1 => ?_)
  ·
   refine sr [] none [6] [] (TT∧True)
     ([(6,.sc (.b false))],[])
     64 (⟨tt,trivial⟩) ?_
   refine Tri.ret ?_
   repeat (first | refine thenP_ret ?_ | refine blkP_ret ?_ | refine countP_ret ?_ | refine joinP_ret ?_)
   refine endP.conv (r':=⟨.sc (.b false),[]⟩) (by simp only [FT7,h1,sel_true,sel_false]) ?_
   exact endP.ret [] TT (by kernel_rfl) (by kernel_rfl) (by kernel_rfl) tt
  ·
   refine Tri.skip ?_
   change Tri _ _ _ _ _ _
   refine Tri.seq ?_
   refine Tri.split (((p0.length:Int):Int) != 32) (fun h2 => ?_) (fun h2 => ?_)
   ·
    have h2':=ne_true_i h2
    refine sr [(18,.b true)] none [22,0,1,2] [] (TT∧(TT∧(TT∧((True∧((((p0.length:Int):Int) != 32)=true))∧(TT∧(TT∧(TT∧(TT∧True))))))))
      ([(22,.sc (.b true)),(0,qr p0),(1,qr p1),(2,qi p2)],[])
      176 (⟨tt,⟨tt,⟨tt,⟨⟨trivial,(h2)⟩,⟨tt,⟨tt,⟨tt,⟨tt,trivial⟩⟩⟩⟩⟩⟩⟩⟩) ?_
    refine Tri.cond_true (by kernel_rfl) ?_
    refine sr [] none [6] [] (TT∧True)
      ([(6,.sc (.b true))],[])
      192 (⟨tt,trivial⟩) ?_
    refine Tri.ret ?_
    repeat (first | refine thenP_ret ?_ | refine blkP_ret ?_ | refine countP_ret ?_ | refine joinP_ret ?_)
    refine endP.conv (r':=⟨.sc (.b true),[]⟩) (by simp only [FT7,h1,h2,sel_true,sel_false]) ?_
    exact endP.ret [] TT (by kernel_rfl) (by kernel_rfl) (by kernel_rfl) tt
   ·
    have h2':=ne_false_i h2
    refine sr [(18,.b false)] none [22,0,1,2] [] (TT∧(TT∧(TT∧((True∧((((p0.length:Int):Int) != 32)=false))∧(TT∧(TT∧(TT∧(TT∧True))))))))
      ([(22,.sc (.b (decide (((p1.length:Int):Int) > 300)))),(0,qr p0),(1,qr p1),(2,qi p2)],[])
      176 (⟨tt,⟨tt,⟨tt,⟨⟨trivial,(h2)⟩,⟨tt,⟨tt,⟨tt,⟨tt,trivial⟩⟩⟩⟩⟩⟩⟩⟩) ?_
    refine Tri.cond (x:=(decide (((p1.length:Int):Int) > 300))) (by kernel_rfl) (fun h3 => ?_) (fun h3 => ?_)
    ·
     have h3':=of_decide_eq_true h3
     refine sr [] none [6] [] (TT∧True)
       ([(6,.sc (.b true))],[])
       192 (⟨tt,trivial⟩) ?_
     refine Tri.ret ?_
     repeat (first | refine thenP_ret ?_ | refine blkP_ret ?_ | refine countP_ret ?_ | refine joinP_ret ?_)
     refine endP.conv (r':=⟨.sc (.b true),[]⟩) (by simp only [FT7,h1,h2,h3,sel_true,sel_false]) ?_
     exact endP.ret [] TT (by kernel_rfl) (by kernel_rfl) (by kernel_rfl) tt
    ·
     have h3':=of_decide_eq_false h3
     refine Tri.skip ?_
     change Tri _ _ _ _ _ _
     refine sr [] none [8,7,0,1,2] [224,192] (TT∧(((((True∧(1=1))∧((0 < 1)∧((p0.length * 1≤140737488355328)∧(p0.length≤140737488355328))))∧(p0.length=p0.length * 1))∧True)∧(TT∧(((((True∧(1=1))∧((0 < 1)∧((p1.length * 1≤140737488355328)∧(p1.length≤140737488355328))))∧(p1.length=p1.length * 1))∧True)∧(TT∧(TT∧True))))))
       ([(8,.sc (.sl 224 0 p1.length 1 none)),(7,.sc (.sl 192 0 p0.length 1 none)),(0,qr p0),(1,qr p1),(2,qi p2)],[(224,.ints .u8 p1.length p1),(192,.ints .u8 p0.length p0)])
       272 (⟨tt,⟨⟨⟨⟨⟨trivial,(rfl)⟩,⟨(by omega),⟨(by omega),(by omega)⟩⟩⟩,(by omega)⟩,trivial⟩,⟨tt,⟨⟨⟨⟨⟨trivial,(rfl)⟩,⟨(by omega),⟨(by omega),(by omega)⟩⟩⟩,(by omega)⟩,trivial⟩,⟨tt,⟨tt,trivial⟩⟩⟩⟩⟩⟩) ?_
     refine Tri.len 224 rfl (fun hl4 => ?_)
     refine Tri.len 192 rfl (fun hl5 => ?_)
     refine sr [] none [9,8,7,0,1,2] [288,224,192] (TT∧(((((0 + p0.length≤p0.length)∧True)∧((part1 p0 p0.length 0 p0.length).length=32))∧True)∧(TT∧(TT∧(TT∧(TT∧(TT∧True)))))))
       ([(9,.sc (.sl 288 0 32 1 (some 32))),(8,.sc (.sl 224 0 p1.length 1 none)),(7,.sc (.sl 192 0 p0.length 1 none)),(0,qr p0),(1,qr p1),(2,qi p2)],[(288,.ints .u8 32 (FT9_1 (part1 p0 p0.length 0 p0.length))),(224,.ints .u8 p1.length p1),(192,.ints .u8 p0.length p0)])
       384 (⟨tt,⟨⟨⟨⟨(by omega),trivial⟩,(by exact (by first | omega | (rw [part1_all rfl]; omega) | (rw [part1_all (n:=32) rfl]; rfl) | exact part1_le (by omega) (by omega) | exact part1_le (by decide) (by decide)))⟩,trivial⟩,⟨tt,⟨tt,⟨tt,⟨tt,⟨tt,trivial⟩⟩⟩⟩⟩⟩⟩) ?_
     refine Tri.len 288 rfl (fun hl6 => ?_)
     refine Tri.len 224 rfl (fun hl7 => ?_)
     refine Tri.len 192 rfl (fun hl8 => ?_)
     refine sr [] none [12,11,9,8,7,0,1,2] [416,288,224,192] (TT∧(TT∧(((((0 + p0.length≤p0.length)∧((0 + p1.length≤p1.length)∧True))∧((part1 p0 p0.length 0 p0.length).length=32∧(part1 p1 p1.length 0 p1.length).length≤10000))∧True)∧(TT∧(TT∧(TT∧(TT∧(TT∧True))))))))
       ([(12,qi 0),(11,.sc (.sl 416 0 64 1 none)),(9,.sc (.sl 288 0 32 1 (some 32))),(8,.sc (.sl 224 0 p1.length 1 none)),(7,.sc (.sl 192 0 p0.length 1 none)),(0,qr p0),(1,qr p1),(2,qi p2)],[(416,.ints .u8 64 (FT10_1 (part1 p0 p0.length 0 p0.length) (part1 p1 p1.length 0 p1.length))),(288,.ints .u8 32 (FT9_1 (part1 p0 p0.length 0 p0.length))),(224,.ints .u8 p1.length p1),(192,.ints .u8 p0.length p0)])
       512 (⟨tt,⟨tt,⟨⟨⟨⟨(by omega),⟨(by omega),trivial⟩⟩,(by exact ⟨(by first | omega | (rw [part1_all rfl]; omega) | (rw [part1_all (n:=32) rfl]; rfl) | exact part1_le (by omega) (by omega) | exact part1_le (by decide) (by decide)),(by first | omega | (rw [part1_all rfl]; omega) | (rw [part1_all (n:=32) rfl]; rfl) | exact part1_le (by omega) (by omega) | exact part1_le (by decide) (by decide))⟩)⟩,trivial⟩,⟨tt,⟨tt,⟨tt,⟨tt,⟨tt,trivial⟩⟩⟩⟩⟩⟩⟩⟩) ?_
     refine Tri.seq ?_
     refine Tri.split (!(strEq (bytesOf ((p0.drop 0).take p0.length)) (bytesOf p0))) (fun h9 => ?_) (fun h9 => ?_)
     ·
      refine Tri.len 416 rfl (fun hl10 => ?_)
      refine Tri.len 288 rfl (fun hl11 => ?_)
      refine Tri.len 224 rfl (fun hl12 => ?_)
      refine Tri.len 192 rfl (fun hl13 => ?_)
      refine sr [(47,.b true)] none [63,11,9,8,0,2] [416,288,224] (TT∧(TT∧(TT∧(TT∧(((0 + p0.length≤p0.length)∧True)∧(TT∧(TT∧(TT∧(TT∧((True∧((!(strEq (bytesOf ((p0.drop 0).take p0.length)) (bytesOf p0)))=true))∧(TT∧(TT∧(TT∧(TT∧(TT∧(TT∧(TT∧(TT∧(TT∧(TT∧(TT∧(TT∧(TT∧(TT∧(TT∧(TT∧True))))))))))))))))))))))))))
        ([(63,.sc (.b true)),(11,.sc (.sl 416 0 64 1 none)),(9,.sc (.sl 288 0 32 1 (some 32))),(8,.sc (.sl 224 0 p1.length 1 none)),(0,qr p0),(2,qi p2)],[(416,.ints .u8 64 (FT10_1 (part1 p0 p0.length 0 p0.length) (part1 p1 p1.length 0 p1.length))),(288,.ints .u8 32 (FT9_1 (part1 p0 p0.length 0 p0.length))),(224,.ints .u8 p1.length p1)])
        928 (⟨tt,⟨tt,⟨tt,⟨tt,⟨⟨(by omega),trivial⟩,⟨tt,⟨tt,⟨tt,⟨tt,⟨⟨trivial,(h9)⟩,⟨tt,⟨tt,⟨tt,⟨tt,⟨tt,⟨tt,⟨tt,⟨tt,⟨tt,⟨tt,⟨tt,⟨tt,⟨tt,⟨tt,⟨tt,⟨tt,trivial⟩⟩⟩⟩⟩⟩⟩⟩⟩⟩⟩⟩⟩⟩⟩⟩⟩⟩⟩⟩⟩⟩⟩⟩⟩⟩) ?_
      refine Tri.cond_true (by kernel_rfl) ?_
      refine sr [] none [6] [] (TT∧True)
        ([(6,.sc (.b false))],[])
        944 (⟨tt,trivial⟩) ?_
      refine Tri.ret ?_
      repeat (first | refine thenP_ret ?_ | refine blkP_ret ?_ | refine countP_ret ?_ | refine joinP_ret ?_)
      refine endP.conv (r':=⟨.sc (.b false),[]⟩) (by simp only [FT7,h1,h2,h3,h9,sel_true,sel_false]) ?_
      exact endP.ret [] TT (by kernel_rfl) (by kernel_rfl) (by kernel_rfl) tt
     ·
      refine Tri.split (!(strEq (bytesOf ((p1.drop 0).take p1.length)) (bytesOf p1))) (fun h14 => ?_) (fun h14 => ?_)
      ·
       refine Tri.len 416 rfl (fun hl15 => ?_)
       refine Tri.len 288 rfl (fun hl16 => ?_)
       refine Tri.len 224 rfl (fun hl17 => ?_)
       refine Tri.len 192 rfl (fun hl18 => ?_)
       refine sr [(47,.b false),(54,.b true)] none [63,11,9,8,0,2] [416,288,224] (TT∧(TT∧(TT∧(TT∧(((0 + p0.length≤p0.length)∧True)∧(TT∧(TT∧(TT∧(TT∧((True∧((!(strEq (bytesOf ((p0.drop 0).take p0.length)) (bytesOf p0)))=false))∧(TT∧(((0 + p1.length≤p1.length)∧True)∧(TT∧(TT∧(TT∧(TT∧((True∧((!(strEq (bytesOf ((p1.drop 0).take p1.length)) (bytesOf p1)))=true))∧(TT∧(TT∧(TT∧(TT∧(TT∧(TT∧(TT∧(TT∧(TT∧True))))))))))))))))))))))))))
         ([(63,.sc (.b true)),(11,.sc (.sl 416 0 64 1 none)),(9,.sc (.sl 288 0 32 1 (some 32))),(8,.sc (.sl 224 0 p1.length 1 none)),(0,qr p0),(2,qi p2)],[(416,.ints .u8 64 (FT10_1 (part1 p0 p0.length 0 p0.length) (part1 p1 p1.length 0 p1.length))),(288,.ints .u8 32 (FT9_1 (part1 p0 p0.length 0 p0.length))),(224,.ints .u8 p1.length p1)])
         928 (⟨tt,⟨tt,⟨tt,⟨tt,⟨⟨(by omega),trivial⟩,⟨tt,⟨tt,⟨tt,⟨tt,⟨⟨trivial,(h9)⟩,⟨tt,⟨⟨(by omega),trivial⟩,⟨tt,⟨tt,⟨tt,⟨tt,⟨⟨trivial,(h14)⟩,⟨tt,⟨tt,⟨tt,⟨tt,⟨tt,⟨tt,⟨tt,⟨tt,⟨tt,trivial⟩⟩⟩⟩⟩⟩⟩⟩⟩⟩⟩⟩⟩⟩⟩⟩⟩⟩⟩⟩⟩⟩⟩⟩⟩⟩) ?_
       refine Tri.cond_true (by kernel_rfl) ?_
       refine sr [] none [6] [] (TT∧True)
         ([(6,.sc (.b false))],[])
         944 (⟨tt,trivial⟩) ?_
       refine Tri.ret ?_
       repeat (first | refine thenP_ret ?_ | refine blkP_ret ?_ | refine countP_ret ?_ | refine joinP_ret ?_)
       refine endP.conv (r':=⟨.sc (.b false),[]⟩) (by simp only [FT7,h1,h2,h3,h9,h14,sel_true,sel_false]) ?_
       exact endP.ret [] TT (by kernel_rfl) (by kernel_rfl) (by kernel_rfl) tt
      ·
       refine Tri.len 416 rfl (fun hl19 => ?_)
       refine Tri.len 288 rfl (fun hl20 => ?_)
       refine Tri.len 224 rfl (fun hl21 => ?_)
       refine Tri.len 192 rfl (fun hl22 => ?_)
       refine sr [(47,.b false),(54,.b false)] none [63,11,9,8,0,2] [416,288,224] (TT∧(TT∧(TT∧(TT∧(((0 + p0.length≤p0.length)∧True)∧(TT∧(TT∧(TT∧(TT∧((True∧((!(strEq (bytesOf ((p0.drop 0).take p0.length)) (bytesOf p0)))=false))∧(TT∧(((0 + p1.length≤p1.length)∧True)∧(TT∧(TT∧(TT∧(TT∧((True∧((!(strEq (bytesOf ((p1.drop 0).take p1.length)) (bytesOf p1)))=false))∧(TT∧(TT∧(TT∧(TT∧(TT∧(TT∧(TT∧(TT∧(TT∧True))))))))))))))))))))))))))
         ([(63,.sc (.b false)),(11,.sc (.sl 416 0 64 1 none)),(9,.sc (.sl 288 0 32 1 (some 32))),(8,.sc (.sl 224 0 p1.length 1 none)),(0,qr p0),(2,qi p2)],[(416,.ints .u8 64 (FT10_1 (part1 p0 p0.length 0 p0.length) (part1 p1 p1.length 0 p1.length))),(288,.ints .u8 32 (FT9_1 (part1 p0 p0.length 0 p0.length))),(224,.ints .u8 p1.length p1)])
         928 (⟨tt,⟨tt,⟨tt,⟨tt,⟨⟨(by omega),trivial⟩,⟨tt,⟨tt,⟨tt,⟨tt,⟨⟨trivial,(h9)⟩,⟨tt,⟨⟨(by omega),trivial⟩,⟨tt,⟨tt,⟨tt,⟨tt,⟨⟨trivial,(h14)⟩,⟨tt,⟨tt,⟨tt,⟨tt,⟨tt,⟨tt,⟨tt,⟨tt,⟨tt,trivial⟩⟩⟩⟩⟩⟩⟩⟩⟩⟩⟩⟩⟩⟩⟩⟩⟩⟩⟩⟩⟩⟩⟩⟩⟩⟩) ?_
       refine Tri.cond_false (by kernel_rfl) ?_
       refine Tri.skip ?_
       change Tri _ _ _ _ _ _
       refine Tri.len 416 rfl (fun hl23 => ?_)
       refine Tri.len 288 rfl (fun hl24 => ?_)
       refine Tri.len 224 rfl (fun hl25 => ?_)
       refine sr [] none [2,11,9,8,0] [416,288,224] (TT∧(((64 ≠ (0:Int))∧True)∧(TT∧(((64 ≠ (0:Int))∧True)∧(TT∧True)))))
         ([(2,qi (iRem (iAdd .i64 (iRem p2 64) 64) 64)),(11,.sc (.sl 416 0 64 1 none)),(9,.sc (.sl 288 0 32 1 (some 32))),(8,.sc (.sl 224 0 p1.length 1 none)),(0,qr p0)],[(416,.ints .u8 64 (FT10_1 (part1 p0 p0.length 0 p0.length) (part1 p1 p1.length 0 p1.length))),(288,.ints .u8 32 (FT9_1 (part1 p0 p0.length 0 p0.length))),(224,.ints .u8 p1.length p1)])
         1008 (⟨tt,⟨⟨(by omega),trivial⟩,⟨tt,⟨⟨(by omega),trivial⟩,⟨tt,trivial⟩⟩⟩⟩⟩) ?_
       refine Tri.split (FT13 (part1 (FT9_1 (part1 p0 p0.length 0 p0.length)) 32 0 32) (part1 p1 p1.length 0 p1.length) (part1 (FT10_1 (part1 p0 p0.length 0 p0.length) (part1 p1 p1.length 0 p1.length)) 64 0 64)) (fun h26 => ?_) (fun h26 => ?_)
       ·
        refine Tri.split (!(FT13 (part1 (FT9_1 (part1 p0 p0.length 0 p0.length)) 32 0 32) (part1 p1 p1.length 0 p1.length) (part1 (FT10_1 (part1 p0 p0.length 0 p0.length) (part1 p1 p1.length 0 p1.length)) 64 0 ((((iRem (iAdd .i64 (iRem p2 64) 64) 64)).toNat) - 0)))) (fun h27 => ?_) (fun h27 => ?_)
        ·
         refine Tri.split (!(FT13 (part1 (FT9_1 (part1 p0 p0.length 0 p0.length)) 32 0 ((((iQuo .i64 (iRem (iAdd .i64 (iRem p2 64) 64) 64) 2)).toNat) - 0)) (part1 p1 p1.length 0 p1.length) (part1 (FT10_1 (part1 p0 p0.length 0 p0.length) (part1 p1 p1.length 0 p1.length)) 64 0 64))) (fun h28 => ?_) (fun h28 => ?_)
         ·
          refine Tri.len 416 rfl (fun hl29 => ?_)
          refine Tri.len 288 rfl (fun hl30 => ?_)
          refine Tri.len 224 rfl (fun hl31 => ?_)
          refine sr [(72,.b true),(81,.b true),(91,.b true)] (some [0,0,0,7,15,31,31,31,31,415,1023,2047,4095,8191,16383,16383,49151,131071,16383,16383,1048575,2097151,4194303,8388607,16777215,33554431,16777215,83886079,218103807,536870911,1073741823,2147483647]) [6] [] (TT∧(TT∧(TT∧(((((0 + 32≤32)∧((0 + p1.length≤p1.length)∧((0 + 64≤64)∧True)))∧((part1 p1 p1.length 0 p1.length).length≤10000))∧True)∧((True∧((FT13 (part1 (FT9_1 (part1 p0 p0.length 0 p0.length)) 32 0 32) (part1 p1 p1.length 0 p1.length) (part1 (FT10_1 (part1 p0 p0.length 0 p0.length) (part1 p1 p1.length 0 p1.length)) 64 0 64))=true))∧(TT∧(TT∧(TT∧(TT∧((((0:Int)≤0∧(0:Int)≤(iRem (iAdd .i64 (iRem p2 64) 64) 64)∧(iRem (iAdd .i64 (iRem p2 64) 64) 64)≤((64:Nat):Int))∧True)∧(((((0 + 32≤32)∧((0 + p1.length≤p1.length)∧((0 + ((((iRem (iAdd .i64 (iRem p2 64) 64) 64)).toNat) - 0)≤64)∧True)))∧((part1 p1 p1.length 0 p1.length).length≤10000))∧True)∧(TT∧(TT∧((True∧((!(FT13 (part1 (FT9_1 (part1 p0 p0.length 0 p0.length)) 32 0 32) (part1 p1 p1.length 0 p1.length) (part1 (FT10_1 (part1 p0 p0.length 0 p0.length) (part1 p1 p1.length 0 p1.length)) 64 0 ((((iRem (iAdd .i64 (iRem p2 64) 64) 64)).toNat) - 0))))=true))∧(TT∧(TT∧(((2 ≠ (0:Int))∧True)∧((((0:Int)≤0∧(0:Int)≤(iQuo .i64 (iRem (iAdd .i64 (iRem p2 64) 64) 64) 2)∧(iQuo .i64 (iRem (iAdd .i64 (iRem p2 64) 64) 64) 2)≤((32:Nat):Int))∧True)∧(TT∧(TT∧(((((0 + ((((iQuo .i64 (iRem (iAdd .i64 (iRem p2 64) 64) 64) 2)).toNat) - 0)≤32)∧((0 + p1.length≤p1.length)∧((0 + 64≤64)∧True)))∧((part1 p1 p1.length 0 p1.length).length≤10000))∧True)∧(TT∧(TT∧((True∧((!(FT13 (part1 (FT9_1 (part1 p0 p0.length 0 p0.length)) 32 0 ((((iQuo .i64 (iRem (iAdd .i64 (iRem p2 64) 64) 64) 2)).toNat) - 0)) (part1 p1 p1.length 0 p1.length) (part1 (FT10_1 (part1 p0 p0.length 0 p0.length) (part1 p1 p1.length 0 p1.length)) 64 0 64)))=true))∧(TT∧(((0 + 32≤32)∧True)∧(TT∧(((True∧(p0.length=32))∧True)∧(((0 + 32≤32)∧True)∧(TT∧(TT∧(TT∧True))))))))))))))))))))))))))))))))
            ([(6,.sc (.b (strEq (bytesOf (((FT9_1 (part1 p0 p0.length 0 p0.length)).drop 0).take 32)) (bytesOf (((FT11 p0).drop 0).take 32)))))],[])
            1520 (⟨tt,⟨tt,⟨tt,⟨⟨⟨⟨(by omega),⟨(by omega),⟨(by omega),trivial⟩⟩⟩,(by exact (by first | omega | (rw [part1_all rfl]; omega) | (rw [part1_all (n:=32) rfl]; rfl) | exact part1_le (by omega) (by omega) | exact part1_le (by decide) (by decide)))⟩,trivial⟩,⟨⟨trivial,(h26)⟩,⟨tt,⟨tt,⟨tt,⟨tt,⟨⟨(by omega),trivial⟩,⟨⟨⟨⟨(by omega),⟨(by omega),⟨(by omega),trivial⟩⟩⟩,(by exact (by first | omega | (rw [part1_all rfl]; omega) | (rw [part1_all (n:=32) rfl]; rfl) | exact part1_le (by omega) (by omega) | exact part1_le (by decide) (by decide)))⟩,trivial⟩,⟨tt,⟨tt,⟨⟨trivial,(h27)⟩,⟨tt,⟨tt,⟨⟨(by omega),trivial⟩,⟨⟨(by omega),trivial⟩,⟨tt,⟨tt,⟨⟨⟨⟨(by omega),⟨(by omega),⟨(by omega),trivial⟩⟩⟩,(by exact (by first | omega | (rw [part1_all rfl]; omega) | (rw [part1_all (n:=32) rfl]; rfl) | exact part1_le (by omega) (by omega) | exact part1_le (by decide) (by decide)))⟩,trivial⟩,⟨tt,⟨tt,⟨⟨trivial,(h28)⟩,⟨tt,⟨⟨(by omega),trivial⟩,⟨tt,⟨⟨⟨trivial,(by omega)⟩,trivial⟩,⟨⟨(by omega),trivial⟩,⟨tt,⟨tt,⟨tt,trivial⟩⟩⟩⟩⟩⟩⟩⟩⟩⟩⟩⟩⟩⟩⟩⟩⟩⟩⟩⟩⟩⟩⟩⟩⟩⟩⟩⟩⟩⟩⟩⟩) ?_
          refine Tri.ret ?_
          repeat (first | refine thenP_ret ?_ | refine blkP_ret ?_ | refine countP_ret ?_ | refine joinP_ret ?_)
          refine endP.conv (r':=⟨.sc (.b (strEq (bytesOf (((FT9_1 (part1 p0 p0.length 0 p0.length)).drop 0).take 32)) (bytesOf (((FT11 p0).drop 0).take 32)))),[]⟩) (by simp only [FT7,h1,h2,h3,h9,h14,h26,h27,h28,sel_true,sel_false]) ?_
          exact endP.ret [] TT (by kernel_rfl) (by kernel_rfl) (by kernel_rfl) tt
         ·
          refine Tri.len 416 rfl (fun hl32 => ?_)
          refine Tri.len 288 rfl (fun hl33 => ?_)
          refine Tri.len 224 rfl (fun hl34 => ?_)
          refine sr [(72,.b true),(81,.b true),(91,.b false)] (some [0,0,0,7,15,31,31,31,31,415,1023,2047,4095,8191,16383,16383,49151,131071,16383,16383,1048575,2097151,4194303,8388607,16777215,33554431,16777215,83886079,218103807,536870911,1073741823,2147483647]) [6] [] (TT∧(TT∧(TT∧(((((0 + 32≤32)∧((0 + p1.length≤p1.length)∧((0 + 64≤64)∧True)))∧((part1 p1 p1.length 0 p1.length).length≤10000))∧True)∧((True∧((FT13 (part1 (FT9_1 (part1 p0 p0.length 0 p0.length)) 32 0 32) (part1 p1 p1.length 0 p1.length) (part1 (FT10_1 (part1 p0 p0.length 0 p0.length) (part1 p1 p1.length 0 p1.length)) 64 0 64))=true))∧(TT∧(TT∧(TT∧(TT∧((((0:Int)≤0∧(0:Int)≤(iRem (iAdd .i64 (iRem p2 64) 64) 64)∧(iRem (iAdd .i64 (iRem p2 64) 64) 64)≤((64:Nat):Int))∧True)∧(((((0 + 32≤32)∧((0 + p1.length≤p1.length)∧((0 + ((((iRem (iAdd .i64 (iRem p2 64) 64) 64)).toNat) - 0)≤64)∧True)))∧((part1 p1 p1.length 0 p1.length).length≤10000))∧True)∧(TT∧(TT∧((True∧((!(FT13 (part1 (FT9_1 (part1 p0 p0.length 0 p0.length)) 32 0 32) (part1 p1 p1.length 0 p1.length) (part1 (FT10_1 (part1 p0 p0.length 0 p0.length) (part1 p1 p1.length 0 p1.length)) 64 0 ((((iRem (iAdd .i64 (iRem p2 64) 64) 64)).toNat) - 0))))=true))∧(TT∧(TT∧(((2 ≠ (0:Int))∧True)∧((((0:Int)≤0∧(0:Int)≤(iQuo .i64 (iRem (iAdd .i64 (iRem p2 64) 64) 64) 2)∧(iQuo .i64 (iRem (iAdd .i64 (iRem p2 64) 64) 64) 2)≤((32:Nat):Int))∧True)∧(TT∧(TT∧(((((0 + ((((iQuo .i64 (iRem (iAdd .i64 (iRem p2 64) 64) 64) 2)).toNat) - 0)≤32)∧((0 + p1.length≤p1.length)∧((0 + 64≤64)∧True)))∧((part1 p1 p1.length 0 p1.length).length≤10000))∧True)∧(TT∧(TT∧((True∧((!(FT13 (part1 (FT9_1 (part1 p0 p0.length 0 p0.length)) 32 0 ((((iQuo .i64 (iRem (iAdd .i64 (iRem p2 64) 64) 64) 2)).toNat) - 0)) (part1 p1 p1.length 0 p1.length) (part1 (FT10_1 (part1 p0 p0.length 0 p0.length) (part1 p1 p1.length 0 p1.length)) 64 0 64)))=false))∧(TT∧(TT∧(TT∧(TT∧(TT∧(TT∧(TT∧(TT∧True))))))))))))))))))))))))))))))))
            ([(6,.sc (.b false))],[])
            1520 (⟨tt,⟨tt,⟨tt,⟨⟨⟨⟨(by omega),⟨(by omega),⟨(by omega),trivial⟩⟩⟩,(by exact (by first | omega | (rw [part1_all rfl]; omega) | (rw [part1_all (n:=32) rfl]; rfl) | exact part1_le (by omega) (by omega) | exact part1_le (by decide) (by decide)))⟩,trivial⟩,⟨⟨trivial,(h26)⟩,⟨tt,⟨tt,⟨tt,⟨tt,⟨⟨(by omega),trivial⟩,⟨⟨⟨⟨(by omega),⟨(by omega),⟨(by omega),trivial⟩⟩⟩,(by exact (by first | omega | (rw [part1_all rfl]; omega) | (rw [part1_all (n:=32) rfl]; rfl) | exact part1_le (by omega) (by omega) | exact part1_le (by decide) (by decide)))⟩,trivial⟩,⟨tt,⟨tt,⟨⟨trivial,(h27)⟩,⟨tt,⟨tt,⟨⟨(by omega),trivial⟩,⟨⟨(by omega),trivial⟩,⟨tt,⟨tt,⟨⟨⟨⟨(by omega),⟨(by omega),⟨(by omega),trivial⟩⟩⟩,(by exact (by first | omega | (rw [part1_all rfl]; omega) | (rw [part1_all (n:=32) rfl]; rfl) | exact part1_le (by omega) (by omega) | exact part1_le (by decide) (by decide)))⟩,trivial⟩,⟨tt,⟨tt,⟨⟨trivial,(h28)⟩,⟨tt,⟨tt,⟨tt,⟨tt,⟨tt,⟨tt,⟨tt,⟨tt,trivial⟩⟩⟩⟩⟩⟩⟩⟩⟩⟩⟩⟩⟩⟩⟩⟩⟩⟩⟩⟩⟩⟩⟩⟩⟩⟩⟩⟩⟩⟩⟩⟩) ?_
          refine Tri.ret ?_
          repeat (first | refine thenP_ret ?_ | refine blkP_ret ?_ | refine countP_ret ?_ | refine joinP_ret ?_)
          refine endP.conv (r':=⟨.sc (.b false),[]⟩) (by simp only [FT7,h1,h2,h3,h9,h14,h26,h27,h28,sel_true,sel_false]) ?_
          exact endP.ret [] TT (by kernel_rfl) (by kernel_rfl) (by kernel_rfl) tt
        ·
         refine Tri.len 416 rfl (fun hl35 => ?_)
         refine Tri.len 288 rfl (fun hl36 => ?_)
         refine Tri.len 224 rfl (fun hl37 => ?_)
         refine sr [(72,.b true),(81,.b false)] (some [0,0,0,7,15,31,31,31,31,415,1023,2047,4095,8191,16383,16383,49151,131071,16383,16383,1048575,2097151,4194303,8388607,16777215,33554431,16777215,83886079,218103807,536870911,1073741823,2147483647]) [6] [] (TT∧(TT∧(TT∧(((((0 + 32≤32)∧((0 + p1.length≤p1.length)∧((0 + 64≤64)∧True)))∧((part1 p1 p1.length 0 p1.length).length≤10000))∧True)∧((True∧((FT13 (part1 (FT9_1 (part1 p0 p0.length 0 p0.length)) 32 0 32) (part1 p1 p1.length 0 p1.length) (part1 (FT10_1 (part1 p0 p0.length 0 p0.length) (part1 p1 p1.length 0 p1.length)) 64 0 64))=true))∧(TT∧(TT∧(TT∧(TT∧((((0:Int)≤0∧(0:Int)≤(iRem (iAdd .i64 (iRem p2 64) 64) 64)∧(iRem (iAdd .i64 (iRem p2 64) 64) 64)≤((64:Nat):Int))∧True)∧(((((0 + 32≤32)∧((0 + p1.length≤p1.length)∧((0 + ((((iRem (iAdd .i64 (iRem p2 64) 64) 64)).toNat) - 0)≤64)∧True)))∧((part1 p1 p1.length 0 p1.length).length≤10000))∧True)∧(TT∧(TT∧((True∧((!(FT13 (part1 (FT9_1 (part1 p0 p0.length 0 p0.length)) 32 0 32) (part1 p1 p1.length 0 p1.length) (part1 (FT10_1 (part1 p0 p0.length 0 p0.length) (part1 p1 p1.length 0 p1.length)) 64 0 ((((iRem (iAdd .i64 (iRem p2 64) 64) 64)).toNat) - 0))))=false))∧(TT∧(TT∧(TT∧(TT∧(TT∧(TT∧(TT∧(TT∧(TT∧(TT∧(TT∧(TT∧(TT∧(TT∧(TT∧(TT∧(TT∧(TT∧True))))))))))))))))))))))))))))))))
           ([(6,.sc (.b false))],[])
           1520 (⟨tt,⟨tt,⟨tt,⟨⟨⟨⟨(by omega),⟨(by omega),⟨(by omega),trivial⟩⟩⟩,(by exact (by first | omega | (rw [part1_all rfl]; omega) | (rw [part1_all (n:=32) rfl]; rfl) | exact part1_le (by omega) (by omega) | exact part1_le (by decide) (by decide)))⟩,trivial⟩,⟨⟨trivial,(h26)⟩,⟨tt,⟨tt,⟨tt,⟨tt,⟨⟨(by omega),trivial⟩,⟨⟨⟨⟨(by omega),⟨(by omega),⟨(by omega),trivial⟩⟩⟩,(by exact (by first | omega | (rw [part1_all rfl]; omega) | (rw [part1_all (n:=32) rfl]; rfl) | exact part1_le (by omega) (by omega) | exact part1_le (by decide) (by decide)))⟩,trivial⟩,⟨tt,⟨tt,⟨⟨trivial,(h27)⟩,⟨tt,⟨tt,⟨tt,⟨tt,⟨tt,⟨tt,⟨tt,⟨tt,⟨tt,⟨tt,⟨tt,⟨tt,⟨tt,⟨tt,⟨tt,⟨tt,⟨tt,⟨tt,trivial⟩⟩⟩⟩⟩⟩⟩⟩⟩⟩⟩⟩⟩⟩⟩⟩⟩⟩⟩⟩⟩⟩⟩⟩⟩⟩⟩⟩⟩⟩⟩⟩) ?_
         refine Tri.ret ?_
         repeat (first | refine thenP_ret ?_ | refine blkP_ret ?_ | refine countP_ret ?_ | refine joinP_ret ?_)
         refine endP.conv (r':=⟨.sc (.b false),[]⟩) (by simp only [FT7,h1,h2,h3,h9,h14,h26,h27,sel_true,sel_false]) ?_
         exact endP.ret [] TT (by kernel_rfl) (by kernel_rfl) (by kernel_rfl) tt
       ·
        refine Tri.len 416 rfl (fun hl38 => ?_)
        refine Tri.len 288 rfl (fun hl39 => ?_)
        refine Tri.len 224 rfl (fun hl40 => ?_)
        refine sr [(72,.b false)] (some [0,0,0,7,15,31,31,31,31,415,1023,2047,4095,8191,16383,16383,49151,131071,16383,16383,1048575,2097151,4194303,8388607,16777215,33554431,16777215,83886079,218103807,536870911,1073741823,2147483647]) [6] [] (TT∧(TT∧(TT∧(((((0 + 32≤32)∧((0 + p1.length≤p1.length)∧((0 + 64≤64)∧True)))∧((part1 p1 p1.length 0 p1.length).length≤10000))∧True)∧((True∧((FT13 (part1 (FT9_1 (part1 p0 p0.length 0 p0.length)) 32 0 32) (part1 p1 p1.length 0 p1.length) (part1 (FT10_1 (part1 p0 p0.length 0 p0.length) (part1 p1 p1.length 0 p1.length)) 64 0 64))=false))∧(TT∧(TT∧(TT∧(TT∧(TT∧(TT∧(TT∧(TT∧(TT∧(TT∧(TT∧(TT∧(TT∧(TT∧(TT∧(TT∧(TT∧(TT∧(TT∧(TT∧(TT∧(TT∧(TT∧(TT∧(TT∧(TT∧(TT∧True))))))))))))))))))))))))))))))))
          ([(6,.sc (.b false))],[])
          1520 (⟨tt,⟨tt,⟨tt,⟨⟨⟨⟨(by omega),⟨(by omega),⟨(by omega),trivial⟩⟩⟩,(by exact (by first | omega | (rw [part1_all rfl]; omega) | (rw [part1_all (n:=32) rfl]; rfl) | exact part1_le (by omega) (by omega) | exact part1_le (by decide) (by decide)))⟩,trivial⟩,⟨⟨trivial,(h26)⟩,⟨tt,⟨tt,⟨tt,⟨tt,⟨tt,⟨tt,⟨tt,⟨tt,⟨tt,⟨tt,⟨tt,⟨tt,⟨tt,⟨tt,⟨tt,⟨tt,⟨tt,⟨tt,⟨tt,⟨tt,⟨tt,⟨tt,⟨tt,⟨tt,⟨tt,⟨tt,⟨tt,trivial⟩⟩⟩⟩⟩⟩⟩⟩⟩⟩⟩⟩⟩⟩⟩⟩⟩⟩⟩⟩⟩⟩⟩⟩⟩⟩⟩⟩⟩⟩⟩⟩) ?_
        refine Tri.ret ?_
        repeat (first | refine thenP_ret ?_ | refine blkP_ret ?_ | refine countP_ret ?_ | refine joinP_ret ?_)
        refine endP.conv (r':=⟨.sc (.b false),[]⟩) (by simp only [FT7,h1,h2,h3,h9,h14,h26,sel_true,sel_false]) ?_
        exact endP.ret [] TT (by kernel_rfl) (by kernel_rfl) (by kernel_rfl) tt
end Go.Vm
