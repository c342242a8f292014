/- What the functions compute, and that they do: walked by a printed text. -/
import Derived.Test.YtnbpdjjcilhjoaaDoorPf
set_option linter.unusedVariables false
set_option linter.unusedSimpArgs false
set_option maxRecDepth 4000
namespace Go.Vm
open Go
noncomputable def FT3 (p0:List Int) (p1:List Int):Bool :=
 (sel (!(FT8)) false (sel (decide (((p1.length:Int):Int) > 300)) true (sel (((p0.length:Int):Int) != 32) (sel (((FT9 p0):Int) == 2) (sel (((FT10 p0 p1):Int) == 2) (((((FT9n0 p0) + (sel (((FT9 p0):Int) != 0) 0 64):Nat):Int):Int) == 0) false) false) (sel (((iAdd .i64 (FT9 p0) (FT10 p0 p1)):Int) == 0) (sel (strEq (bytesOf (((FT9_1 p0).drop 0).take (FT9n0 p0))) (bytesOf (((FT11 p0).drop 0).take 32))) (strEq (bytesOf (((FT10_1 p0 p1).drop 0).take (sel (((FT9 p0):Int) != 0) 0 64))) (bytesOf (((FT12 p0 p1).drop 0).take 64))) false) false))))
noncomputable def ST3:List AV→Option (Prop × Ret)
 | [.sc (.ro .u8 p0),.sc (.ro .u8 p1)] => some (True,⟨.sc (.b (FT3 p0 p1)),[]⟩)
 | _ => none
noncomputable def BT3:Bs:={ P:=Go.Proofs.Tryd.prog,G:=gD,tab:=tabOf [(8,⟨[],0,ST8⟩),(9,⟨[.ro .u8],1,ST9⟩),(10,⟨[.ro .u8,.ro .u8],1,ST10⟩),(11,⟨[.ro .u8],1,ST11⟩),(12,⟨[.ro .u8,.ro .u8],1,ST12⟩)],n:=63 }
theorem BT3.ok:BT3.Ok:=⟨tabOk (P:=Go.Proofs.Tryd.prog) (G:=gD) (l:=[(8,⟨[],0,ST8⟩),(9,⟨[.ro .u8],1,ST9⟩),(10,⟨[.ro .u8,.ro .u8],1,ST10⟩),(11,⟨[.ro .u8],1,ST11⟩),(12,⟨[.ro .u8,.ro .u8],1,ST12⟩)]) (And.intro KT8 (And.intro KT9 (And.intro KT10 (And.intro KT11 (And.intro KT12 True.intro))))),mixed⟩
theorem KT3:Known Go.Proofs.Tryd.prog gD 3 ⟨[.ro .u8,.ro .u8],0,ST3⟩:=by
 refine Known.walk (B:=BT3) (fn:=Go.Proofs.Tryd.f3) BT3.ok (by kernel_rfl) rfl (by kernel_rfl) (by kernel_rfl) (by decide) ?_ ?_
 ·intro vs C r h
  simp only at h
  unfold ST3 at h
  split at h
  ·cases h; rfl
  ·cases h
 ·intro E args C r h hC hlen
  simp only at h
  unfold ST3 at h
  split at h
  rotate_left
  ·cases h
  rename_i p0 p1
  cases h
  simp only [lens] at hlen
  have hn9:=nT9_le p0
  have hs:=sel64_le (((FT9 p0):Int) != 0)
  refine ⟨show 2≤63 from by decide,?_⟩
  refine Tri.sub (Sub.of_eq (show _=([(0,qr p0),(1,qr p1)],[]) from rfl)) ?_
  refine sr [] none [0,1] [] (TT∧True)
    ([(0,qr p0),(1,qr p1)],[])
    16 (⟨tt,trivial⟩) ?_
  refine Tri.seq ?_
  refine sr [] none [10,0,1] [] ((TT∧True)∧(TT∧True))
    ([(10,.sc (.b (!(FT8)))),(0,qr p0),(1,qr p1)],[])
    48 (⟨⟨tt,trivial⟩,⟨tt,trivial⟩⟩) ?_
  refine Tri.cond (x:=(!(FT8))) (by kernel_rfl) (fun h1 => ?_) (fun h1 => ?_)
  ·
   refine sr [] none [4] [] (TT∧True)
     ([(4,.sc (.b false))],[])
     64 (⟨tt,trivial⟩) ?_
   refine Tri.ret ?_
   repeat (first | refine thenP_ret ?_ | refine blkP_ret ?_ | refine countP_ret ?_ | refine joinP_ret ?_)
   refine endP.conv (r':=⟨.sc (.b false),[]⟩) (by simp only [FT3,h1,sel_true,sel_false]) ?_
   exact endP.ret [] TT (by kernel_rfl) (by kernel_rfl) (by kernel_rfl) tt
  ·
   refine Tri.skip ?_
   change Tri _ _ _ _ _ _
   refine Tri.seq ?_
   refine sr [] none [13,0,1] [] (TT∧(TT∧(TT∧True)))
     ([(13,.sc (.b (decide (((p1.length:Int):Int) > 300)))),(0,qr p0),(1,qr p1)],[])
     96 (⟨tt,⟨tt,⟨tt,trivial⟩⟩⟩) ?_
   refine Tri.cond (x:=(decide (((p1.length:Int):Int) > 300))) (by kernel_rfl) (fun h2 => ?_) (fun h2 => ?_)
   ·
    have h2':=of_decide_eq_true h2
    refine sr [] none [4] [] (TT∧True)
      ([(4,.sc (.b true))],[])
      112 (⟨tt,trivial⟩) ?_
    refine Tri.ret ?_
    repeat (first | refine thenP_ret ?_ | refine blkP_ret ?_ | refine countP_ret ?_ | refine joinP_ret ?_)
    refine endP.conv (r':=⟨.sc (.b true),[]⟩) (by simp only [FT3,h1,h2,sel_true,sel_false]) ?_
    exact endP.ret [] TT (by kernel_rfl) (by kernel_rfl) (by kernel_rfl) tt
   ·
    have h2':=of_decide_eq_false h2
    refine Tri.skip ?_
    change Tri _ _ _ _ _ _
    refine sr [] none [6,5,0,1] [112] (TT∧((TT∧True)∧(TT∧(TT∧(TT∧(TT∧(TT∧True)))))))
      ([(6,qi (FT9 p0)),(5,.sc (.sl 112 0 (FT9n0 p0) 1 (some (FT9n0 p0)))),(0,qr p0),(1,qr p1)],[(112,.ints .u8 (FT9n0 p0) (FT9_1 p0))])
      208 (⟨tt,⟨⟨tt,trivial⟩,⟨tt,⟨tt,⟨tt,⟨tt,⟨tt,trivial⟩⟩⟩⟩⟩⟩⟩) ?_
    refine sr [] none [8,7,6,5,0,1] [240,112] (TT∧(TT∧(((True∧(p1.length≤10000))∧True)∧(TT∧(TT∧(TT∧(TT∧(TT∧True))))))))
      ([(8,qi (FT10 p0 p1)),(7,.sc (.sl 240 0 (sel (((FT9 p0):Int) != 0) 0 64) 1 none)),(6,qi (FT9 p0)),(5,.sc (.sl 112 0 (FT9n0 p0) 1 (some (FT9n0 p0)))),(0,qr p0),(1,qr p1)],[(240,.ints .u8 (sel (((FT9 p0):Int) != 0) 0 64) (FT10_1 p0 p1)),(112,.ints .u8 (FT9n0 p0) (FT9_1 p0))])
      336 (⟨tt,⟨tt,⟨⟨⟨trivial,(by omega)⟩,trivial⟩,⟨tt,⟨tt,⟨tt,⟨tt,⟨tt,trivial⟩⟩⟩⟩⟩⟩⟩⟩) ?_
    refine Tri.seq ?_
    refine sr [] none [27,8,7,6,5,0,1] [240,112] (TT∧(TT∧(TT∧True)))
      ([(27,.sc (.b (((p0.length:Int):Int) != 32))),(8,qi (FT10 p0 p1)),(7,.sc (.sl 240 0 (sel (((FT9 p0):Int) != 0) 0 64) 1 none)),(6,qi (FT9 p0)),(5,.sc (.sl 112 0 (FT9n0 p0) 1 (some (FT9n0 p0)))),(0,qr p0),(1,qr p1)],[(240,.ints .u8 (sel (((FT9 p0):Int) != 0) 0 64) (FT10_1 p0 p1)),(112,.ints .u8 (FT9n0 p0) (FT9_1 p0))])
      384 (⟨tt,⟨tt,⟨tt,trivial⟩⟩⟩) ?_
    refine Tri.cond (x:=(((p0.length:Int):Int) != 32)) (by kernel_rfl) (fun h3 => ?_) (fun h3 => ?_)
    ·
     have h3':=ne_true_i h3
     refine Tri.split (((FT9 p0):Int) == 2) (fun h4 => ?_) (fun h4 => ?_)
     ·
      have h4':=eq_true_i h4
      refine Tri.split (((FT10 p0 p1):Int) == 2) (fun h5 => ?_) (fun h5 => ?_)
      ·
       have h5':=eq_true_i h5
       refine sr [(30,.b true),(34,.b true),(39,.i .i64 (((FT9n0 p0) + (sel (((FT9 p0):Int) != 0) 0 64):Nat):Int))] none [4] [] (TT∧(TT∧((True∧((((FT9 p0):Int) == 2)=true))∧(TT∧(TT∧(TT∧((True∧((((FT10 p0 p1):Int) == 2)=true))∧(TT∧(TT∧(TT∧(TT∧((True∧((iAdd .i64 (((FT9n0 p0):Nat):Int) (((sel (((FT9 p0):Int) != 0) 0 64):Nat):Int))=(((FT9n0 p0) + (sel (((FT9 p0):Int) != 0) 0 64):Nat):Int)))∧(TT∧(TT∧(TT∧True)))))))))))))))
         ([(4,.sc (.b (((((FT9n0 p0) + (sel (((FT9 p0):Int) != 0) 0 64):Nat):Int):Int) == 0)))],[])
         624 (⟨tt,⟨tt,⟨⟨trivial,(h4)⟩,⟨tt,⟨tt,⟨tt,⟨⟨trivial,(h5)⟩,⟨tt,⟨tt,⟨tt,⟨tt,⟨⟨trivial,(iAdd_nat (a:=(FT9n0 p0)) (b:=(sel (((FT9 p0):Int) != 0) 0 64)) (by omega))⟩,⟨tt,⟨tt,⟨tt,trivial⟩⟩⟩⟩⟩⟩⟩⟩⟩⟩⟩⟩⟩⟩⟩) ?_
       refine Tri.ret ?_
       repeat (first | refine thenP_ret ?_ | refine blkP_ret ?_ | refine countP_ret ?_ | refine joinP_ret ?_)
       refine endP.conv (r':=⟨.sc (.b (((((FT9n0 p0) + (sel (((FT9 p0):Int) != 0) 0 64):Nat):Int):Int) == 0)),[]⟩) (by simp only [FT3,h1,h2,h3,h4,h5,sel_true,sel_false]) ?_
       exact endP.ret [] TT (by kernel_rfl) (by kernel_rfl) (by kernel_rfl) tt
      ·
       have h5':=eq_false_i h5
       refine sr [(30,.b true),(34,.b false)] none [4] [] (TT∧(TT∧((True∧((((FT9 p0):Int) == 2)=true))∧(TT∧(TT∧(TT∧((True∧((((FT10 p0 p1):Int) == 2)=false))∧(TT∧(TT∧(TT∧(TT∧(TT∧(TT∧(TT∧(TT∧True)))))))))))))))
         ([(4,.sc (.b false))],[])
         624 (⟨tt,⟨tt,⟨⟨trivial,(h4)⟩,⟨tt,⟨tt,⟨tt,⟨⟨trivial,(h5)⟩,⟨tt,⟨tt,⟨tt,⟨tt,⟨tt,⟨tt,⟨tt,⟨tt,trivial⟩⟩⟩⟩⟩⟩⟩⟩⟩⟩⟩⟩⟩⟩⟩) ?_
       refine Tri.ret ?_
       repeat (first | refine thenP_ret ?_ | refine blkP_ret ?_ | refine countP_ret ?_ | refine joinP_ret ?_)
       refine endP.conv (r':=⟨.sc (.b false),[]⟩) (by simp only [FT3,h1,h2,h3,h4,h5,sel_true,sel_false]) ?_
       exact endP.ret [] TT (by kernel_rfl) (by kernel_rfl) (by kernel_rfl) tt
     ·
      have h4':=eq_false_i h4
      refine sr [(30,.b false)] none [4] [] (TT∧(TT∧((True∧((((FT9 p0):Int) == 2)=false))∧(TT∧(TT∧(TT∧(TT∧(TT∧(TT∧(TT∧(TT∧(TT∧(TT∧(TT∧(TT∧True)))))))))))))))
        ([(4,.sc (.b false))],[])
        624 (⟨tt,⟨tt,⟨⟨trivial,(h4)⟩,⟨tt,⟨tt,⟨tt,⟨tt,⟨tt,⟨tt,⟨tt,⟨tt,⟨tt,⟨tt,⟨tt,⟨tt,trivial⟩⟩⟩⟩⟩⟩⟩⟩⟩⟩⟩⟩⟩⟩⟩) ?_
      refine Tri.ret ?_
      repeat (first | refine thenP_ret ?_ | refine blkP_ret ?_ | refine countP_ret ?_ | refine joinP_ret ?_)
      refine endP.conv (r':=⟨.sc (.b false),[]⟩) (by simp only [FT3,h1,h2,h3,h4,sel_true,sel_false]) ?_
      exact endP.ret [] TT (by kernel_rfl) (by kernel_rfl) (by kernel_rfl) tt
    ·
     have h3':=ne_false_i h3
     refine Tri.skip ?_
     change Tri _ _ _ _ _ _
     refine Tri.split (((iAdd .i64 (FT9 p0) (FT10 p0 p1)):Int) == 0) (fun h6 => ?_) (fun h6 => ?_)
     ·
      have h6':=eq_true_i h6
      refine Tri.split (strEq (bytesOf (((FT9_1 p0).drop 0).take (FT9n0 p0))) (bytesOf (((FT11 p0).drop 0).take 32))) (fun h7 => ?_) (fun h7 => ?_)
      ·
       refine sr [(46,.b true),(54,.b true)] (some [0,0,3,7,15,31,63,31,159,415,1023,2047,4095,8191,16383,8191,8191,106495,237567,524287,1048575,2097151]) [4] [] (TT∧(TT∧(TT∧(TT∧((True∧((((iAdd .i64 (FT9 p0) (FT10 p0 p1)):Int) == 0)=true))∧(TT∧(((0 + (FT9n0 p0)≤(FT9n0 p0))∧True)∧(TT∧(((True∧(p0.length=32))∧True)∧(((0 + 32≤32)∧True)∧(TT∧(TT∧((True∧((strEq (bytesOf (((FT9_1 p0).drop 0).take (FT9n0 p0))) (bytesOf (((FT11 p0).drop 0).take 32)))=true))∧(TT∧(((0 + (sel (((FT9 p0):Int) != 0) 0 64)≤(sel (((FT9 p0):Int) != 0) 0 64))∧True)∧(TT∧(TT∧(((True∧(p0.length=32∧p1.length≤10000))∧True)∧(((0 + 64≤64)∧True)∧(TT∧(TT∧(TT∧True))))))))))))))))))))))
         ([(4,.sc (.b (strEq (bytesOf (((FT10_1 p0 p1).drop 0).take (sel (((FT9 p0):Int) != 0) 0 64))) (bytesOf (((FT12 p0 p1).drop 0).take 64)))))],[])
         736 (⟨tt,⟨tt,⟨tt,⟨tt,⟨⟨trivial,(h6)⟩,⟨tt,⟨⟨(by omega),trivial⟩,⟨tt,⟨⟨⟨trivial,(by omega)⟩,trivial⟩,⟨⟨(by omega),trivial⟩,⟨tt,⟨tt,⟨⟨trivial,(h7)⟩,⟨tt,⟨⟨(by omega),trivial⟩,⟨tt,⟨tt,⟨⟨⟨trivial,(by omega)⟩,trivial⟩,⟨⟨(by omega),trivial⟩,⟨tt,⟨tt,⟨tt,trivial⟩⟩⟩⟩⟩⟩⟩⟩⟩⟩⟩⟩⟩⟩⟩⟩⟩⟩⟩⟩⟩⟩) ?_
       refine Tri.ret ?_
       repeat (first | refine thenP_ret ?_ | refine blkP_ret ?_ | refine countP_ret ?_ | refine joinP_ret ?_)
       refine endP.conv (r':=⟨.sc (.b (strEq (bytesOf (((FT10_1 p0 p1).drop 0).take (sel (((FT9 p0):Int) != 0) 0 64))) (bytesOf (((FT12 p0 p1).drop 0).take 64)))),[]⟩) (by simp only [FT3,h1,h2,h3,h6,h7,sel_true,sel_false]) ?_
       exact endP.ret [] TT (by kernel_rfl) (by kernel_rfl) (by kernel_rfl) tt
      ·
       refine sr [(46,.b true),(54,.b false)] (some [0,0,3,7,15,31,63,31,159,415,1023,2047,4095,8191,16383,8191,8191,106495,237567,524287,1048575,2097151]) [4] [] (TT∧(TT∧(TT∧(TT∧((True∧((((iAdd .i64 (FT9 p0) (FT10 p0 p1)):Int) == 0)=true))∧(TT∧(((0 + (FT9n0 p0)≤(FT9n0 p0))∧True)∧(TT∧(((True∧(p0.length=32))∧True)∧(((0 + 32≤32)∧True)∧(TT∧(TT∧((True∧((strEq (bytesOf (((FT9_1 p0).drop 0).take (FT9n0 p0))) (bytesOf (((FT11 p0).drop 0).take 32)))=false))∧(TT∧(TT∧(TT∧(TT∧(TT∧(TT∧(TT∧(TT∧(TT∧True))))))))))))))))))))))
         ([(4,.sc (.b false))],[])
         736 (⟨tt,⟨tt,⟨tt,⟨tt,⟨⟨trivial,(h6)⟩,⟨tt,⟨⟨(by omega),trivial⟩,⟨tt,⟨⟨⟨trivial,(by omega)⟩,trivial⟩,⟨⟨(by omega),trivial⟩,⟨tt,⟨tt,⟨⟨trivial,(h7)⟩,⟨tt,⟨tt,⟨tt,⟨tt,⟨tt,⟨tt,⟨tt,⟨tt,⟨tt,trivial⟩⟩⟩⟩⟩⟩⟩⟩⟩⟩⟩⟩⟩⟩⟩⟩⟩⟩⟩⟩⟩⟩) ?_
       refine Tri.ret ?_
       repeat (first | refine thenP_ret ?_ | refine blkP_ret ?_ | refine countP_ret ?_ | refine joinP_ret ?_)
       refine endP.conv (r':=⟨.sc (.b false),[]⟩) (by simp only [FT3,h1,h2,h3,h6,h7,sel_true,sel_false]) ?_
       exact endP.ret [] TT (by kernel_rfl) (by kernel_rfl) (by kernel_rfl) tt
     ·
      have h6':=eq_false_i h6
      refine sr [(46,.b false)] (some [0,0,3,7,15,31,63,31,159,415,1023,2047,4095,8191,16383,8191,8191,106495,237567,524287,1048575,2097151]) [4] [] (TT∧(TT∧(TT∧(TT∧((True∧((((iAdd .i64 (FT9 p0) (FT10 p0 p1)):Int) == 0)=false))∧(TT∧(TT∧(TT∧(TT∧(TT∧(TT∧(TT∧(TT∧(TT∧(TT∧(TT∧(TT∧(TT∧(TT∧(TT∧(TT∧(TT∧True))))))))))))))))))))))
        ([(4,.sc (.b false))],[])
        736 (⟨tt,⟨tt,⟨tt,⟨tt,⟨⟨trivial,(h6)⟩,⟨tt,⟨tt,⟨tt,⟨tt,⟨tt,⟨tt,⟨tt,⟨tt,⟨tt,⟨tt,⟨tt,⟨tt,⟨tt,⟨tt,⟨tt,⟨tt,⟨tt,trivial⟩⟩⟩⟩⟩⟩⟩⟩⟩⟩⟩⟩⟩⟩⟩⟩⟩⟩⟩⟩⟩⟩) ?_
      refine Tri.ret ?_
      repeat (first | refine thenP_ret ?_ | refine blkP_ret ?_ | refine countP_ret ?_ | refine joinP_ret ?_)
      refine endP.conv (r':=⟨.sc (.b false),[]⟩) (by simp only [FT3,h1,h2,h3,h6,sel_true,sel_false]) ?_
      exact endP.ret [] TT (by kernel_rfl) (by kernel_rfl) (by kernel_rfl) tt
end Go.Vm
