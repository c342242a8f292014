/- What the functions compute, and that they do: walked by a printed text. -/
import Derived.Test.YtnbpdjjcilhjoaaDoorPf
set_option linter.unusedVariables false
set_option linter.unusedSimpArgs false
set_option maxRecDepth 4000
namespace Go.Vm
open Go
noncomputable def FT5 (p0:List Int) (p1:List Int) (p2:List Int):Bool :=
 (sel (!(FT8)) false (sel (decide (((p1.length:Int):Int) > 300)) true ((FT13 p0 p1 p2) == (FT14 p0 p1 p2))))
noncomputable def ST5:List AV→Option (Prop × Ret)
 | [.sc (.ro .u8 p0),.sc (.ro .u8 p1),.sc (.ro .u8 p2)] => some (True,⟨.sc (.b (FT5 p0 p1 p2)),[]⟩)
 | _ => none
noncomputable def BT5:Bs:={ P:=Go.Proofs.Tryd.prog,G:=gD,tab:=tabOf [(8,⟨[],0,ST8⟩),(13,⟨[.ro .u8,.ro .u8,.ro .u8],0,ST13⟩),(14,⟨[.ro .u8,.ro .u8,.ro .u8],0,ST14⟩)],n:=23 }
theorem BT5.ok:BT5.Ok:=⟨tabOk (P:=Go.Proofs.Tryd.prog) (G:=gD) (l:=[(8,⟨[],0,ST8⟩),(13,⟨[.ro .u8,.ro .u8,.ro .u8],0,ST13⟩),(14,⟨[.ro .u8,.ro .u8,.ro .u8],0,ST14⟩)]) (And.intro KT8 (And.intro KT13 (And.intro KT14 True.intro))),mixed⟩
theorem KT5:Known Go.Proofs.Tryd.prog gD 5 ⟨[.ro .u8,.ro .u8,.ro .u8],0,ST5⟩:=by
 refine Known.walk (B:=BT5) (fn:=Go.Proofs.Tryd.f5) BT5.ok (by kernel_rfl) rfl (by kernel_rfl) (by kernel_rfl) (by decide) ?_ ?_
 ·intro vs C r h
  simp only at h
  unfold ST5 at h
  split at h
  ·cases h; rfl
  ·cases h
 ·intro E args C r h hC hlen
  simp only at h
  unfold ST5 at h
  split at h
  rotate_left
  ·cases h
  rename_i p0 p1 p2
  cases h
  simp only [lens] at hlen
  refine ⟨show 3≤23 from by decide,?_⟩
  refine Tri.sub (Sub.of_eq (show _=([(0,qr p0),(1,qr p1),(2,qr p2)],[]) from rfl)) ?_
  refine sr [] none [0,1,2] [] (TT∧True)
    ([(0,qr p0),(1,qr p1),(2,qr p2)],[])
    16 (⟨tt,trivial⟩) ?_
  refine Tri.seq ?_
  refine sr [] none [8,0,1,2] [] ((TT∧True)∧(TT∧True))
    ([(8,.sc (.b (!(FT8)))),(0,qr p0),(1,qr p1),(2,qr p2)],[])
    48 (⟨⟨tt,trivial⟩,⟨tt,trivial⟩⟩) ?_
  refine Tri.cond (x:=(!(FT8))) (by kernel_rfl) (fun h1 => ?_) (fun h1 => ?_)
  ·
   refine sr [] none [6] [] (TT∧True)
     ([(6,.sc (.b false))],[])
     64 (⟨tt,trivial⟩) ?_
   refine Tri.ret ?_
   repeat (first | refine thenP_ret ?_ | refine blkP_ret ?_ | refine countP_ret ?_ | refine joinP_ret ?_)
   refine endP.conv (r':=⟨.sc (.b false),[]⟩) (by simp only [FT5,h1,sel_true,sel_false]) ?_
   exact endP.ret [] TT (by kernel_rfl) (by kernel_rfl) (by kernel_rfl) tt
  ·
   refine Tri.skip ?_
   change Tri _ _ _ _ _ _
   refine Tri.split (decide (((p1.length:Int):Int) > 300)) (fun h2 => ?_) (fun h2 => ?_)
   ·
    have h2':=of_decide_eq_true h2
    refine sr [(12,.b true)] none [6] [] (TT∧(TT∧(TT∧((True∧((decide (((p1.length:Int):Int) > 300))=true))∧(TT∧(TT∧(TT∧(TT∧(TT∧(TT∧(TT∧(TT∧(TT∧(TT∧(TT∧True)))))))))))))))
      ([(6,.sc (.b true))],[])
      288 (⟨tt,⟨tt,⟨tt,⟨⟨trivial,(h2)⟩,⟨tt,⟨tt,⟨tt,⟨tt,⟨tt,⟨tt,⟨tt,⟨tt,⟨tt,⟨tt,⟨tt,trivial⟩⟩⟩⟩⟩⟩⟩⟩⟩⟩⟩⟩⟩⟩⟩) ?_
    refine Tri.ret ?_
    repeat (first | refine thenP_ret ?_ | refine blkP_ret ?_ | refine countP_ret ?_ | refine joinP_ret ?_)
    refine endP.conv (r':=⟨.sc (.b true),[]⟩) (by simp only [FT5,h1,h2,sel_true,sel_false]) ?_
    exact endP.ret [] TT (by kernel_rfl) (by kernel_rfl) (by kernel_rfl) tt
   ·
    have h2':=of_decide_eq_false h2
    refine sr [(12,.b false)] none [6] [] (TT∧(TT∧(TT∧((True∧((decide (((p1.length:Int):Int) > 300))=false))∧(TT∧(TT∧(TT∧(((True∧(p1.length≤10000))∧True)∧(TT∧(TT∧(TT∧(((True∧(p1.length≤10000))∧True)∧(TT∧(TT∧(TT∧True)))))))))))))))
      ([(6,.sc (.b ((FT13 p0 p1 p2) == (FT14 p0 p1 p2))))],[])
      288 (⟨tt,⟨tt,⟨tt,⟨⟨trivial,(h2)⟩,⟨tt,⟨tt,⟨tt,⟨⟨⟨trivial,(by omega)⟩,trivial⟩,⟨tt,⟨tt,⟨tt,⟨⟨⟨trivial,(by omega)⟩,trivial⟩,⟨tt,⟨tt,⟨tt,trivial⟩⟩⟩⟩⟩⟩⟩⟩⟩⟩⟩⟩⟩⟩⟩) ?_
    refine Tri.ret ?_
    repeat (first | refine thenP_ret ?_ | refine blkP_ret ?_ | refine countP_ret ?_ | refine joinP_ret ?_)
    refine endP.conv (r':=⟨.sc (.b ((FT13 p0 p1 p2) == (FT14 p0 p1 p2))),[]⟩) (by simp only [FT5,h1,h2,sel_true,sel_false]) ?_
    exact endP.ret [] TT (by kernel_rfl) (by kernel_rfl) (by kernel_rfl) tt
end Go.Vm
