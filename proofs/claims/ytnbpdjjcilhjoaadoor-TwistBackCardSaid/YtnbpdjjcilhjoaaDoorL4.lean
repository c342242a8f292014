/- What the functions compute, and that they do: walked by a printed text. -/
import Derived.Test.YtnbpdjjcilhjoaaDoorPf
set_option linter.unusedVariables false
set_option linter.unusedSimpArgs false
set_option maxRecDepth 4000
namespace Go.Vm
open Go
noncomputable def FT4 (p0:List Int) (p1:List Int):Bool :=
 (sel (!(FT8)) false (sel (((p0.length:Int):Int) != 32) true (sel (decide (((p1.length:Int):Int) > 300)) true (sel (FT13 (part1 (FT9_1 p0) 32 0 32) p1 (part1 (FT10_1 p0 p1) 64 0 64)) (strEq (bytesOf (((FT10_1 (part1 p0 p0.length 0 p0.length) (part1 p1 p1.length 0 p1.length)).drop 0).take 64)) (bytesOf (((FT10_1 p0 p1).drop 0).take 64))) false))))
noncomputable def ST4:List AV→Option (Prop × Ret)
 | [.sc (.ro .u8 p0),.sc (.ro .u8 p1)] => some (True,⟨.sc (.b (FT4 p0 p1)),[]⟩)
 | _ => none
noncomputable def BT4:Bs:={ P:=Go.Proofs.Tryd.prog,G:=gD,tab:=tabOf [(8,⟨[],0,ST8⟩),(9,⟨[.ro .u8],1,VT9⟩),(10,⟨[.ro .u8,.ro .u8],1,VT10⟩),(13,⟨[.ro .u8,.ro .u8,.ro .u8],0,ST13⟩)],n:=51 }
theorem BT4.ok:BT4.Ok:=⟨tabOk (P:=Go.Proofs.Tryd.prog) (G:=gD) (l:=[(8,⟨[],0,ST8⟩),(9,⟨[.ro .u8],1,VT9⟩),(10,⟨[.ro .u8,.ro .u8],1,VT10⟩),(13,⟨[.ro .u8,.ro .u8,.ro .u8],0,ST13⟩)]) (And.intro KT8 (And.intro KV9 (And.intro KV10 (And.intro KT13 True.intro)))),mixed⟩
theorem KT4:Known Go.Proofs.Tryd.prog gD 4 ⟨[.ro .u8,.ro .u8],0,ST4⟩:=by
 refine Known.walk (B:=BT4) (fn:=Go.Proofs.Tryd.f4) BT4.ok (by kernel_rfl) rfl (by kernel_rfl) (by kernel_rfl) (by decide) ?_ ?_
 ·intro vs C r h
  simp only at h
  unfold ST4 at h
  split at h
  ·cases h; rfl
  ·cases h
 ·intro E args C r h hC hlen
  simp only at h
  unfold ST4 at h
  split at h
  rotate_left
  ·cases h
  rename_i p0 p1
  cases h
  simp only [lens] at hlen
  refine ⟨show 2≤51 from by decide,?_⟩
  refine Tri.sub (Sub.of_eq (show _=([(0,qr p0),(1,qr p1)],[]) from rfl)) ?_
  refine sr [] none [0,1] [] (TT∧True)
    ([(0,qr p0),(1,qr p1)],[])
    16 (⟨tt,trivial⟩) ?_
  refine Tri.seq ?_
  refine sr [] none [12,0,1] [] ((TT∧True)∧(TT∧True))
    ([(12,.sc (.b (!(FT8)))),(0,qr p0),(1,qr p1)],[])
    48 (⟨⟨tt,trivial⟩,⟨tt,trivial⟩⟩) ?_
  refine Tri.cond (x:=(!(FT8))) (by kernel_rfl) (fun h1 => ?_) (fun h1 => ?_)
  ·
   refine sr [] none [4] [] (TT∧True)
     ([(4,.sc (.b false))],[])
     64 (⟨tt,trivial⟩) ?_
   refine Tri.ret ?_
   repeat (first | refine thenP_ret ?_ | refine blkP_ret ?_ | refine countP_ret ?_ | refine joinP_ret ?_)
   refine endP.conv (r':=⟨.sc (.b false),[]⟩) (by simp only [FT4,h1,sel_true,sel_false]) ?_
   exact endP.ret [] TT (by kernel_rfl) (by kernel_rfl) (by kernel_rfl) tt
  ·
   refine Tri.skip ?_
   change Tri _ _ _ _ _ _
   refine Tri.seq ?_
   refine Tri.split (((p0.length:Int):Int) != 32) (fun h2 => ?_) (fun h2 => ?_)
   ·
    have h2':=ne_true_i h2
    refine sr [(16,.b true)] none [20,0,1] [] (TT∧(TT∧(TT∧((True∧((((p0.length:Int):Int) != 32)=true))∧(TT∧(TT∧(TT∧(TT∧True))))))))
      ([(20,.sc (.b true)),(0,qr p0),(1,qr p1)],[])
      176 (⟨tt,⟨tt,⟨tt,⟨⟨trivial,(h2)⟩,⟨tt,⟨tt,⟨tt,⟨tt,trivial⟩⟩⟩⟩⟩⟩⟩⟩) ?_
    refine Tri.cond_true (by kernel_rfl) ?_
    refine sr [] none [4] [] (TT∧True)
      ([(4,.sc (.b true))],[])
      192 (⟨tt,trivial⟩) ?_
    refine Tri.ret ?_
    repeat (first | refine thenP_ret ?_ | refine blkP_ret ?_ | refine countP_ret ?_ | refine joinP_ret ?_)
    refine endP.conv (r':=⟨.sc (.b true),[]⟩) (by simp only [FT4,h1,h2,sel_true,sel_false]) ?_
    exact endP.ret [] TT (by kernel_rfl) (by kernel_rfl) (by kernel_rfl) tt
   ·
    have h2':=ne_false_i h2
    refine sr [(16,.b false)] none [20,0,1] [] (TT∧(TT∧(TT∧((True∧((((p0.length:Int):Int) != 32)=false))∧(TT∧(TT∧(TT∧(TT∧True))))))))
      ([(20,.sc (.b (decide (((p1.length:Int):Int) > 300)))),(0,qr p0),(1,qr p1)],[])
      176 (⟨tt,⟨tt,⟨tt,⟨⟨trivial,(h2)⟩,⟨tt,⟨tt,⟨tt,⟨tt,trivial⟩⟩⟩⟩⟩⟩⟩⟩) ?_
    refine Tri.cond (x:=(decide (((p1.length:Int):Int) > 300))) (by kernel_rfl) (fun h3 => ?_) (fun h3 => ?_)
    ·
     have h3':=of_decide_eq_true h3
     refine sr [] none [4] [] (TT∧True)
       ([(4,.sc (.b true))],[])
       192 (⟨tt,trivial⟩) ?_
     refine Tri.ret ?_
     repeat (first | refine thenP_ret ?_ | refine blkP_ret ?_ | refine countP_ret ?_ | refine joinP_ret ?_)
     refine endP.conv (r':=⟨.sc (.b true),[]⟩) (by simp only [FT4,h1,h2,h3,sel_true,sel_false]) ?_
     exact endP.ret [] TT (by kernel_rfl) (by kernel_rfl) (by kernel_rfl) tt
    ·
     have h3':=of_decide_eq_false h3
     refine Tri.skip ?_
     change Tri _ _ _ _ _ _
     refine sr [] none [5,0,1] [192] (TT∧(((True∧(p0.length=32))∧True)∧(TT∧(TT∧(TT∧(TT∧(TT∧True)))))))
       ([(5,.sc (.sl 192 0 32 1 (some 32))),(0,qr p0),(1,qr p1)],[(192,.ints .u8 32 (FT9_1 p0))])
       288 (⟨tt,⟨⟨⟨trivial,(by exact (by first | omega | (rw [part1_all rfl]; omega) | (rw [part1_all (n:=32) rfl]; rfl) | exact part1_le (by omega) (by omega) | exact part1_le (by decide) (by decide)))⟩,trivial⟩,⟨tt,⟨tt,⟨tt,⟨tt,⟨tt,trivial⟩⟩⟩⟩⟩⟩⟩) ?_
     refine Tri.len 192 rfl (fun hl4 => ?_)
     refine sr [] none [7,5,0,1] [320,192] (TT∧(TT∧(((True∧(p0.length=32∧p1.length≤10000))∧True)∧(TT∧(TT∧(TT∧(TT∧(TT∧True))))))))
       ([(7,.sc (.sl 320 0 64 1 none)),(5,.sc (.sl 192 0 32 1 (some 32))),(0,qr p0),(1,qr p1)],[(320,.ints .u8 64 (FT10_1 p0 p1)),(192,.ints .u8 32 (FT9_1 p0))])
       416 (⟨tt,⟨tt,⟨⟨⟨trivial,(by exact ⟨(by first | omega | (rw [part1_all rfl]; omega) | (rw [part1_all (n:=32) rfl]; rfl) | exact part1_le (by omega) (by omega) | exact part1_le (by decide) (by decide)),(by first | omega | (rw [part1_all rfl]; omega) | (rw [part1_all (n:=32) rfl]; rfl) | exact part1_le (by omega) (by omega) | exact part1_le (by decide) (by decide))⟩)⟩,trivial⟩,⟨tt,⟨tt,⟨tt,⟨tt,⟨tt,trivial⟩⟩⟩⟩⟩⟩⟩⟩) ?_
     refine Tri.len 320 rfl (fun hl5 => ?_)
     refine Tri.len 192 rfl (fun hl6 => ?_)
     refine sr [] none [9,7,5,1] [480,320,192] (TT∧(((((True∧(1=1))∧((0 < 1)∧((p0.length * 1≤140737488355328)∧(p0.length≤140737488355328))))∧(p0.length=p0.length * 1))∧True)∧(TT∧(((((True∧(1=1))∧((0 < 1)∧((p1.length * 1≤140737488355328)∧(p1.length≤140737488355328))))∧(p1.length=p1.length * 1))∧True)∧(((((0 + p0.length≤p0.length)∧((0 + p1.length≤p1.length)∧True))∧((part1 p0 p0.length 0 p0.length).length=32∧(part1 p1 p1.length 0 p1.length).length≤10000))∧True)∧(TT∧(TT∧(TT∧(TT∧(TT∧True))))))))))
       ([(9,.sc (.sl 480 0 64 1 none)),(7,.sc (.sl 320 0 64 1 none)),(5,.sc (.sl 192 0 32 1 (some 32))),(1,qr p1)],[(480,.ints .u8 64 (FT10_1 (part1 p0 p0.length 0 p0.length) (part1 p1 p1.length 0 p1.length))),(320,.ints .u8 64 (FT10_1 p0 p1)),(192,.ints .u8 32 (FT9_1 p0))])
       576 (⟨tt,⟨⟨⟨⟨⟨trivial,(rfl)⟩,⟨(by omega),⟨(by omega),(by omega)⟩⟩⟩,(by omega)⟩,trivial⟩,⟨tt,⟨⟨⟨⟨⟨trivial,(rfl)⟩,⟨(by omega),⟨(by omega),(by omega)⟩⟩⟩,(by omega)⟩,trivial⟩,⟨⟨⟨⟨(by omega),⟨(by omega),trivial⟩⟩,(by exact ⟨(by first | omega | (rw [part1_all rfl]; omega) | (rw [part1_all (n:=32) rfl]; rfl) | exact part1_le (by omega) (by omega) | exact part1_le (by decide) (by decide)),(by first | omega | (rw [part1_all rfl]; omega) | (rw [part1_all (n:=32) rfl]; rfl) | exact part1_le (by omega) (by omega) | exact part1_le (by decide) (by decide))⟩)⟩,trivial⟩,⟨tt,⟨tt,⟨tt,⟨tt,⟨tt,trivial⟩⟩⟩⟩⟩⟩⟩⟩⟩⟩) ?_
     refine Tri.split (FT13 (part1 (FT9_1 p0) 32 0 32) p1 (part1 (FT10_1 p0 p1) 64 0 64)) (fun h7 => ?_) (fun h7 => ?_)
     ·
      refine Tri.len 480 rfl (fun hl8 => ?_)
      refine Tri.len 320 rfl (fun hl9 => ?_)
      refine Tri.len 192 rfl (fun hl10 => ?_)
      refine sr [(44,.b true)] none [4] [] (TT∧(TT∧(TT∧(((((0 + 32≤32)∧((0 + 64≤64)∧True))∧(p1.length≤10000))∧True)∧((True∧((FT13 (part1 (FT9_1 p0) 32 0 32) p1 (part1 (FT10_1 p0 p1) 64 0 64))=true))∧(TT∧(((0 + 64≤64)∧True)∧(TT∧(((0 + 64≤64)∧True)∧(TT∧(TT∧(TT∧True))))))))))))
        ([(4,.sc (.b (strEq (bytesOf (((FT10_1 (part1 p0 p0.length 0 p0.length) (part1 p1 p1.length 0 p1.length)).drop 0).take 64)) (bytesOf (((FT10_1 p0 p1).drop 0).take 64)))))],[])
        768 (⟨tt,⟨tt,⟨tt,⟨⟨⟨⟨(by omega),⟨(by omega),trivial⟩⟩,(by omega)⟩,trivial⟩,⟨⟨trivial,(h7)⟩,⟨tt,⟨⟨(by omega),trivial⟩,⟨tt,⟨⟨(by omega),trivial⟩,⟨tt,⟨tt,⟨tt,trivial⟩⟩⟩⟩⟩⟩⟩⟩⟩⟩⟩⟩) ?_
      refine Tri.ret ?_
      repeat (first | refine thenP_ret ?_ | refine blkP_ret ?_ | refine countP_ret ?_ | refine joinP_ret ?_)
      refine endP.conv (r':=⟨.sc (.b (strEq (bytesOf (((FT10_1 (part1 p0 p0.length 0 p0.length) (part1 p1 p1.length 0 p1.length)).drop 0).take 64)) (bytesOf (((FT10_1 p0 p1).drop 0).take 64)))),[]⟩) (by simp only [FT4,h1,h2,h3,h7,sel_true,sel_false]) ?_
      exact endP.ret [] TT (by kernel_rfl) (by kernel_rfl) (by kernel_rfl) tt
     ·
      refine Tri.len 480 rfl (fun hl11 => ?_)
      refine Tri.len 320 rfl (fun hl12 => ?_)
      refine Tri.len 192 rfl (fun hl13 => ?_)
      refine sr [(44,.b false)] none [4] [] (TT∧(TT∧(TT∧(((((0 + 32≤32)∧((0 + 64≤64)∧True))∧(p1.length≤10000))∧True)∧((True∧((FT13 (part1 (FT9_1 p0) 32 0 32) p1 (part1 (FT10_1 p0 p1) 64 0 64))=false))∧(TT∧(TT∧(TT∧(TT∧(TT∧(TT∧(TT∧True))))))))))))
        ([(4,.sc (.b false))],[])
        768 (⟨tt,⟨tt,⟨tt,⟨⟨⟨⟨(by omega),⟨(by omega),trivial⟩⟩,(by omega)⟩,trivial⟩,⟨⟨trivial,(h7)⟩,⟨tt,⟨tt,⟨tt,⟨tt,⟨tt,⟨tt,⟨tt,trivial⟩⟩⟩⟩⟩⟩⟩⟩⟩⟩⟩⟩) ?_
      refine Tri.ret ?_
      repeat (first | refine thenP_ret ?_ | refine blkP_ret ?_ | refine countP_ret ?_ | refine joinP_ret ?_)
      refine endP.conv (r':=⟨.sc (.b false),[]⟩) (by simp only [FT4,h1,h2,h3,h7,sel_true,sel_false]) ?_
      exact endP.ret [] TT (by kernel_rfl) (by kernel_rfl) (by kernel_rfl) tt
end Go.Vm
