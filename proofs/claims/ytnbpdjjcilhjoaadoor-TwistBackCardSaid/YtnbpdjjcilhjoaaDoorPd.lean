/- A part of the proofs of chapter 05: the small machine that walks the program, the walks of its functions, and what they compute in plain. -/
import Derived.Test.YtnbpdjjcilhjoaaDoorPc
set_option linter.unusedVariables false
set_option linter.unusedSimpArgs false
set_option maxRecDepth 4000
namespace Go.Vm
open Go
noncomputable def FT48 (p0:Int) (p1:Int):List Int :=
 (F20 (F30 p0) (F25 (F30 p1)))
noncomputable def ST48:List AV→Option (Prop × Ret)
 | [.sc (.i .u32 p0),.sc (.i .u32 p1)] => some (True,⟨.ints .u64 5 (FT48 p0 p1),[]⟩)
 | _ => none
noncomputable def BT48:Bs:={ P:=Go.Proofs.Tryd.prog,G:=gD,tab:=tabOf [(35,⟨[.val],0,S30⟩),(50,⟨[.val],0,S25⟩),(51,⟨[.val,.val],0,S20⟩)],n:=11 }
theorem BT48.ok:BT48.Ok:=⟨tabOk (P:=Go.Proofs.Tryd.prog) (G:=gD) (l:=[(35,⟨[.val],0,S30⟩),(50,⟨[.val],0,S25⟩),(51,⟨[.val,.val],0,S20⟩)]) (And.intro K30 (And.intro K25 (And.intro K20 True.intro))),mixed⟩
theorem KT48:Known Go.Proofs.Tryd.prog gD 48 ⟨[.val,.val],0,ST48⟩:=by
 refine Known.walk (B:=BT48) (fn:=Go.Proofs.Tryd.f48) BT48.ok (by kernel_rfl) rfl (by kernel_rfl) (by kernel_rfl) (by decide) ?_ ?_
 ·intro vs C r h
  simp only at h
  unfold ST48 at h
  split at h
  ·cases h; rfl
  ·cases h
 ·intro E args C r h hC hlen
  simp only at h
  unfold ST48 at h
  split at h
  rotate_left
  ·cases h
  rename_i p0 p1
  cases h
  simp only [lens] at hlen
  refine ⟨show 2≤11 from by decide,?_⟩
  refine Tri.sub (Sub.of_eq (show _=([(0,.sc (.i .u32 p0)),(1,.sc (.i .u32 p1))],[]) from rfl)) ?_
  refine sr [] none [4,0,1] [0] (TT∧True)
    ([(4,qp 0 0),(0,.sc (.i .u32 p0)),(1,.sc (.i .u32 p1))],[(0,.ints .u64 5 [0,0,0,0,0])])
    16 (⟨tt,trivial⟩) ?_
  refine sr [] none [4] [0] (TT∧((TT∧True)∧(TT∧((TT∧True)∧((TT∧True)∧((TT∧True)∧(((True∧(5=5))∧True)∧True)))))))
    ([(4,qp 0 0)],[(0,.ints .u64 5 (F20 (F30 p0) (F25 (F30 p1))))])
    128 (⟨tt,⟨⟨tt,trivial⟩,⟨tt,⟨⟨tt,trivial⟩,⟨⟨tt,trivial⟩,⟨⟨tt,trivial⟩,⟨⟨⟨trivial,(rfl)⟩,trivial⟩,trivial⟩⟩⟩⟩⟩⟩⟩) ?_
  refine Tri.ret ?_
  exact endP.ret [] TT (by kernel_rfl) (by kernel_rfl) (by kernel_rfl) tt
noncomputable def FT37:List Int :=
 (F18 (F30 0) (FT48 121665 121666))
noncomputable def ST37:List AV→Option (Prop × Ret)
 | [] => some (True,⟨.ints .u64 5 (FT37),[]⟩)
 | _ => none
noncomputable def BT37:Bs:={ P:=Go.Proofs.Tryd.prog,G:=gD,tab:=tabOf [(35,⟨[.val],0,S30⟩),(36,⟨[.val,.val],0,S18⟩),(48,⟨[.val,.val],0,ST48⟩)],n:=4 }
theorem BT37.ok:BT37.Ok:=⟨tabOk (P:=Go.Proofs.Tryd.prog) (G:=gD) (l:=[(35,⟨[.val],0,S30⟩),(36,⟨[.val,.val],0,S18⟩),(48,⟨[.val,.val],0,ST48⟩)]) (And.intro K30 (And.intro K18 (And.intro KT48 True.intro))),mixed⟩
theorem KT37:Known Go.Proofs.Tryd.prog gD 37 ⟨[],0,ST37⟩:=by
 refine Known.walk (B:=BT37) (fn:=Go.Proofs.Tryd.f37) BT37.ok (by kernel_rfl) rfl (by kernel_rfl) (by kernel_rfl) (by decide) ?_ ?_
 ·intro vs C r h
  simp only at h
  unfold ST37 at h
  split at h
  ·cases h; rfl
  ·cases h
 ·intro E args C r h hC hlen
  simp only at h
  unfold ST37 at h
  split at h
  rotate_left
  ·cases h
  skip
  cases h
  simp only [lens] at hlen
  refine ⟨show 0≤4 from by decide,?_⟩
  refine Tri.sub (Sub.of_eq (show _=([],[]) from rfl)) ?_
  refine sr [] none [0] [0] (TT∧True)
    ([(0,qp 0 0)],[(0,.ints .u64 5 [0,0,0,0,0])])
    16 (⟨tt,trivial⟩) ?_
  refine sr [] none [0] [0] ((TT∧True)∧((TT∧True)∧((TT∧True)∧(((True∧(5=5))∧True)∧True))))
    ([(0,qp 0 0)],[(0,.ints .u64 5 (F18 (F30 0) (FT48 121665 121666)))])
    80 (⟨⟨tt,trivial⟩,⟨⟨tt,trivial⟩,⟨⟨tt,trivial⟩,⟨⟨⟨trivial,(rfl)⟩,trivial⟩,trivial⟩⟩⟩⟩) ?_
  refine Tri.ret ?_
  exact endP.ret [] TT (by kernel_rfl) (by kernel_rfl) (by kernel_rfl) tt
noncomputable def FT33 (p0:List Int):List Int :=
 (sel (!(F23_1 p0)) [0,0,0,0,0,0,0,0,0,0,0,0,0,0,0,0,0,0,0,0] (sel (((iOr .u8 ((F33 (F23 p0)).getD 31 0) (iAnd .u8 (p0.getD 31 0) 128)):Int) != p0.getD 31 0) [0,0,0,0,0,0,0,0,0,0,0,0,0,0,0,0,0,0,0,0] (sel (!(strEq (bytesOf (((F33 (F23 p0)).drop 0).take 31)) (bytesOf ((p0.drop 0).take 31)))) [0,0,0,0,0,0,0,0,0,0,0,0,0,0,0,0,0,0,0,0] (sel (!(F34_1 (F20 (F18 (F20 (F23 p0) (F23 p0)) (F30 1)) (F25 (F16 (F20 (F20 (F23 p0) (F23 p0)) (FT37)) (F30 1)))))) [0,0,0,0,0,0,0,0,0,0,0,0,0,0,0,0,0,0,0,0] (sel (F29 (F34 (F20 (F18 (F20 (F23 p0) (F23 p0)) (F30 1)) (F25 (F16 (F20 (F20 (F23 p0) (F23 p0)) (FT37)) (F30 1))))) (F30 0)) (sel (decide ((p0.getD 31 0:Int) ≥ 128)) [0,0,0,0,0,0,0,0,0,0,0,0,0,0,0,0,0,0,0,0] (splice (splice (splice (splice [0,0,0,0,0,0,0,0,0,0,0,0,0,0,0,0,0,0,0,0] 0 (sel (!((F32 (F34 (F20 (F18 (F20 (F23 p0) (F23 p0)) (F30 1)) (F25 (F16 (F20 (F20 (F23 p0) (F23 p0)) (FT37)) (F30 1)))))) == (decide ((p0.getD 31 0:Int) ≥ 128)))) (F18 (F30 0) (F34 (F20 (F18 (F20 (F23 p0) (F23 p0)) (F30 1)) (F25 (F16 (F20 (F20 (F23 p0) (F23 p0)) (FT37)) (F30 1)))))) (F34 (F20 (F18 (F20 (F23 p0) (F23 p0)) (F30 1)) (F25 (F16 (F20 (F20 (F23 p0) (F23 p0)) (FT37)) (F30 1))))))) 5 (F23 p0)) 10 (F30 1)) 15 (F20 (sel (!((F32 (F34 (F20 (F18 (F20 (F23 p0) (F23 p0)) (F30 1)) (F25 (F16 (F20 (F20 (F23 p0) (F23 p0)) (FT37)) (F30 1)))))) == (decide ((p0.getD 31 0:Int) ≥ 128)))) (F18 (F30 0) (F34 (F20 (F18 (F20 (F23 p0) (F23 p0)) (F30 1)) (F25 (F16 (F20 (F20 (F23 p0) (F23 p0)) (FT37)) (F30 1)))))) (F34 (F20 (F18 (F20 (F23 p0) (F23 p0)) (F30 1)) (F25 (F16 (F20 (F20 (F23 p0) (F23 p0)) (FT37)) (F30 1)))))) (F23 p0)))) (splice (splice (splice (splice [0,0,0,0,0,0,0,0,0,0,0,0,0,0,0,0,0,0,0,0] 0 (sel (!((F32 (F34 (F20 (F18 (F20 (F23 p0) (F23 p0)) (F30 1)) (F25 (F16 (F20 (F20 (F23 p0) (F23 p0)) (FT37)) (F30 1)))))) == (decide ((p0.getD 31 0:Int) ≥ 128)))) (F18 (F30 0) (F34 (F20 (F18 (F20 (F23 p0) (F23 p0)) (F30 1)) (F25 (F16 (F20 (F20 (F23 p0) (F23 p0)) (FT37)) (F30 1)))))) (F34 (F20 (F18 (F20 (F23 p0) (F23 p0)) (F30 1)) (F25 (F16 (F20 (F20 (F23 p0) (F23 p0)) (FT37)) (F30 1))))))) 5 (F23 p0)) 10 (F30 1)) 15 (F20 (sel (!((F32 (F34 (F20 (F18 (F20 (F23 p0) (F23 p0)) (F30 1)) (F25 (F16 (F20 (F20 (F23 p0) (F23 p0)) (FT37)) (F30 1)))))) == (decide ((p0.getD 31 0:Int) ≥ 128)))) (F18 (F30 0) (F34 (F20 (F18 (F20 (F23 p0) (F23 p0)) (F30 1)) (F25 (F16 (F20 (F20 (F23 p0) (F23 p0)) (FT37)) (F30 1)))))) (F34 (F20 (F18 (F20 (F23 p0) (F23 p0)) (F30 1)) (F25 (F16 (F20 (F20 (F23 p0) (F23 p0)) (FT37)) (F30 1)))))) (F23 p0))))))))
noncomputable def FT33_1 (p0:List Int):Bool :=
 (sel (!(F23_1 p0)) false (sel (((iOr .u8 ((F33 (F23 p0)).getD 31 0) (iAnd .u8 (p0.getD 31 0) 128)):Int) != p0.getD 31 0) false (sel (!(strEq (bytesOf (((F33 (F23 p0)).drop 0).take 31)) (bytesOf ((p0.drop 0).take 31)))) false (sel (!(F34_1 (F20 (F18 (F20 (F23 p0) (F23 p0)) (F30 1)) (F25 (F16 (F20 (F20 (F23 p0) (F23 p0)) (FT37)) (F30 1)))))) false (sel (F29 (F34 (F20 (F18 (F20 (F23 p0) (F23 p0)) (F30 1)) (F25 (F16 (F20 (F20 (F23 p0) (F23 p0)) (FT37)) (F30 1))))) (F30 0)) (sel (decide ((p0.getD 31 0:Int) ≥ 128)) false true) true)))))
noncomputable def ST33:List AV→Option (Prop × Ret)
 | [.sc (.ro .u8 p0)] => some (True,⟨.tup [.ints .u64 20 (FT33 p0),.sc (.b (FT33_1 p0))],[]⟩)
 | _ => none
noncomputable def BT33:Bs:={ P:=Go.Proofs.Tryd.prog,G:=gD,tab:=tabOf [(35,⟨[.val],0,S30⟩),(36,⟨[.val,.val],0,S18⟩),(37,⟨[],0,ST37⟩),(39,⟨[.val,.val],0,S16⟩),(49,⟨[.val],0,S33⟩),(50,⟨[.val],0,S25⟩),(51,⟨[.val,.val],0,S20⟩),(52,⟨[.val],0,S32⟩),(61,⟨[.ro .u8],0,S23⟩),(62,⟨[.val],0,S34⟩),(63,⟨[.val,.val],0,S29⟩)],n:=87 }
theorem BT33.ok:BT33.Ok:=⟨tabOk (P:=Go.Proofs.Tryd.prog) (G:=gD) (l:=[(35,⟨[.val],0,S30⟩),(36,⟨[.val,.val],0,S18⟩),(37,⟨[],0,ST37⟩),(39,⟨[.val,.val],0,S16⟩),(49,⟨[.val],0,S33⟩),(50,⟨[.val],0,S25⟩),(51,⟨[.val,.val],0,S20⟩),(52,⟨[.val],0,S32⟩),(61,⟨[.ro .u8],0,S23⟩),(62,⟨[.val],0,S34⟩),(63,⟨[.val,.val],0,S29⟩)]) (And.intro K30 (And.intro K18 (And.intro KT37 (And.intro K16 (And.intro K33 (And.intro K25 (And.intro K20 (And.intro K32 (And.intro K23 (And.intro K34 (And.intro K29 True.intro))))))))))),mixed⟩
theorem KT33:Known Go.Proofs.Tryd.prog gD 33 ⟨[.ro .u8],0,ST33⟩:=by
 refine Known.walk (B:=BT33) (fn:=Go.Proofs.Tryd.f33) BT33.ok (by kernel_rfl) rfl (by kernel_rfl) (by kernel_rfl) (by decide) ?_ ?_
 ·intro vs C r h
  simp only at h
  unfold ST33 at h
  split at h
  ·cases h; rfl
  ·cases h
 ·intro E args C r h hC hlen
  simp only at h
  unfold ST33 at h
  split at h
  rotate_left
  ·cases h
  rename_i p0
  cases h
  simp only [lens] at hlen
  refine ⟨show 1≤87 from by decide,?_⟩
  refine Tri.sub (Sub.of_eq (show _=([(0,qr p0)],[]) from rfl)) ?_
  refine sr [] none [2,0] [0] (TT∧(TT∧True))
    ([(2,qp 0 0),(0,qr p0)],[(0,.ints .u64 20 [0,0,0,0,0,0,0,0,0,0,0,0,0,0,0,0,0,0,0,0])])
    32 (⟨tt,⟨tt,trivial⟩⟩) ?_
  refine sr [] none [5,4,2,0] [112,0] (TT∧((TT∧True)∧(TT∧(TT∧(TT∧(TT∧(((True∧(5=5))∧True)∧(TT∧True))))))))
    ([(5,.sc (.b (F23_1 p0))),(4,qp 112 0),(2,qp 0 0),(0,qr p0)],[(112,.ints .u64 5 (F23 p0)),(0,.ints .u64 20 [0,0,0,0,0,0,0,0,0,0,0,0,0,0,0,0,0,0,0,0])])
    160 (⟨tt,⟨⟨tt,trivial⟩,⟨tt,⟨tt,⟨tt,⟨tt,⟨⟨⟨trivial,(rfl)⟩,trivial⟩,⟨tt,trivial⟩⟩⟩⟩⟩⟩⟩⟩) ?_
  refine Tri.seq ?_
  refine sr [] none [17,4,2,0] [112,0] (TT∧(TT∧True))
    ([(17,.sc (.b (!(F23_1 p0)))),(4,qp 112 0),(2,qp 0 0),(0,qr p0)],[(112,.ints .u64 5 (F23 p0)),(0,.ints .u64 20 [0,0,0,0,0,0,0,0,0,0,0,0,0,0,0,0,0,0,0,0])])
    192 (⟨tt,⟨tt,trivial⟩⟩) ?_
  refine Tri.cond (x:=(!(F23_1 p0))) (by kernel_rfl) (fun h1 => ?_) (fun h1 => ?_)
  ·
   refine sr [] none [3,2] [0] (TT∧(((True∧(20=20))∧True)∧(TT∧True)))
     ([(3,.sc (.b false)),(2,qp 0 0)],[(0,.ints .u64 20 [0,0,0,0,0,0,0,0,0,0,0,0,0,0,0,0,0,0,0,0])])
     240 (⟨tt,⟨⟨⟨trivial,(rfl)⟩,trivial⟩,⟨tt,trivial⟩⟩⟩) ?_
   refine Tri.ret ?_
   repeat (first | refine thenP_ret ?_ | refine blkP_ret ?_ | refine countP_ret ?_ | refine joinP_ret ?_)
   refine endP.conv (r':=⟨.tup [.ints .u64 20 [0,0,0,0,0,0,0,0,0,0,0,0,0,0,0,0,0,0,0,0],.sc (.b false)],[]⟩) (by simp only [FT33,FT33_1,h1,sel_true,sel_false]) ?_
   exact endP.ret [] (True∧TT) (by kernel_rfl) (by kernel_rfl) (by kernel_rfl) ⟨trivial,tt⟩
  ·
   refine Tri.skip ?_
   change Tri _ _ _ _ _ _
   refine sr [] none [6,4,2,0] [224,112,0] (TT∧((TT∧True)∧(TT∧(((True∧(32=32))∧True)∧True))))
     ([(6,qp 224 0),(4,qp 112 0),(2,qp 0 0),(0,qr p0)],[(224,.ints .u8 32 (F33 (F23 p0))),(112,.ints .u64 5 (F23 p0)),(0,.ints .u64 20 [0,0,0,0,0,0,0,0,0,0,0,0,0,0,0,0,0,0,0,0])])
     256 (⟨tt,⟨⟨tt,trivial⟩,⟨tt,⟨⟨⟨trivial,(rfl)⟩,trivial⟩,trivial⟩⟩⟩⟩) ?_
   refine Tri.seq ?_
   refine Tri.split (((iOr .u8 ((F33 (F23 p0)).getD 31 0) (iAnd .u8 (p0.getD 31 0) 128)):Int) != p0.getD 31 0) (fun h2 => ?_) (fun h2 => ?_)
   ·
    have h2':=ne_true_i h2
    refine Tri.len 224 rfl (fun hl3 => ?_)
    refine Tri.len 112 rfl (fun hl4 => ?_)
    refine sr [(32,.b true)] (some [0,1,0,4,12,28,63,0,128,384,1023,2047,4095,8191,4095,20479,53247,131071,262143]) [39,4,2,0] [112,0] ((((0:Int)≤31∧31 < ((32:Nat):Int))∧True)∧(((31 < 32)∧True)∧(TT∧((((0:Int)≤31∧31 < (p0.length:Int))∧True)∧(((31 < p0.length)∧True)∧(TT∧(TT∧(TT∧((((0:Int)≤31∧31 < (p0.length:Int))∧True)∧(((31 < p0.length)∧True)∧(TT∧((True∧((((iOr .u8 ((F33 (F23 p0)).getD 31 0) (iAnd .u8 (p0.getD 31 0) 128)):Int) != p0.getD 31 0)=true))∧(TT∧(TT∧(TT∧(TT∧(TT∧(TT∧(TT∧True)))))))))))))))))))
      ([(39,.sc (.b true)),(4,qp 112 0),(2,qp 0 0),(0,qr p0)],[(112,.ints .u64 5 (F23 p0)),(0,.ints .u64 20 [0,0,0,0,0,0,0,0,0,0,0,0,0,0,0,0,0,0,0,0])])
      560 (⟨⟨(by omega),trivial⟩,⟨⟨(by omega),trivial⟩,⟨tt,⟨⟨(by first | omega | (have hl:=len23' (p0:=p0) (by assumption); omega) | (rw [adr_eq]; omega) | exact iAnd_nn _ _ | exact iSub_nn _ _ | exact part1_le (by omega) (by first | omega | (have hl:=len23' (p0:=p0) (by assumption); omega) | (simp only [List.length_append]; omega)) | decide),trivial⟩,⟨⟨(by first | omega | (have hl:=len23' (p0:=p0) (by assumption); omega) | (rw [adr_eq]; omega) | exact iAnd_nn _ _ | exact iSub_nn _ _ | exact part1_le (by omega) (by first | omega | (have hl:=len23' (p0:=p0) (by assumption); omega) | (simp only [List.length_append]; omega)) | decide),trivial⟩,⟨tt,⟨tt,⟨tt,⟨⟨(by first | omega | (have hl:=len23' (p0:=p0) (by assumption); omega) | (rw [adr_eq]; omega) | exact iAnd_nn _ _ | exact iSub_nn _ _ | exact part1_le (by omega) (by first | omega | (have hl:=len23' (p0:=p0) (by assumption); omega) | (simp only [List.length_append]; omega)) | decide),trivial⟩,⟨⟨(by first | omega | (have hl:=len23' (p0:=p0) (by assumption); omega) | (rw [adr_eq]; omega) | exact iAnd_nn _ _ | exact iSub_nn _ _ | exact part1_le (by omega) (by first | omega | (have hl:=len23' (p0:=p0) (by assumption); omega) | (simp only [List.length_append]; omega)) | decide),trivial⟩,⟨tt,⟨⟨trivial,(h2)⟩,⟨tt,⟨tt,⟨tt,⟨tt,⟨tt,⟨tt,⟨tt,trivial⟩⟩⟩⟩⟩⟩⟩⟩⟩⟩⟩⟩⟩⟩⟩⟩⟩⟩⟩) ?_
    refine Tri.cond_true (by kernel_rfl) ?_
    refine sr [] none [3,2] [0] (TT∧(((True∧(20=20))∧True)∧(TT∧True)))
      ([(3,.sc (.b false)),(2,qp 0 0)],[(0,.ints .u64 20 [0,0,0,0,0,0,0,0,0,0,0,0,0,0,0,0,0,0,0,0])])
      608 (⟨tt,⟨⟨⟨trivial,(rfl)⟩,trivial⟩,⟨tt,trivial⟩⟩⟩) ?_
    refine Tri.ret ?_
    repeat (first | refine thenP_ret ?_ | refine blkP_ret ?_ | refine countP_ret ?_ | refine joinP_ret ?_)
    refine endP.conv (r':=⟨.tup [.ints .u64 20 [0,0,0,0,0,0,0,0,0,0,0,0,0,0,0,0,0,0,0,0],.sc (.b false)],[]⟩) (by simp only [FT33,FT33_1,h1,h2,sel_true,sel_false]) ?_
    exact endP.ret [] (True∧TT) (by kernel_rfl) (by kernel_rfl) (by kernel_rfl) ⟨trivial,tt⟩
   ·
    have h2':=ne_false_i h2
    refine Tri.len 224 rfl (fun hl5 => ?_)
    refine Tri.len 112 rfl (fun hl6 => ?_)
    refine sr [(32,.b false)] (some [0,1,0,4,12,28,63,0,128,384,1023,2047,4095,8191,4095,20479,53247,131071,262143]) [39,4,2,0] [112,0] ((((0:Int)≤31∧31 < ((32:Nat):Int))∧True)∧(((31 < 32)∧True)∧(TT∧((((0:Int)≤31∧31 < (p0.length:Int))∧True)∧(((31 < p0.length)∧True)∧(TT∧(TT∧(TT∧((((0:Int)≤31∧31 < (p0.length:Int))∧True)∧(((31 < p0.length)∧True)∧(TT∧((True∧((((iOr .u8 ((F33 (F23 p0)).getD 31 0) (iAnd .u8 (p0.getD 31 0) 128)):Int) != p0.getD 31 0)=false))∧(((((0:Int)≤0∧(0:Int)≤31∧31≤((32:Nat):Int))∧(32≤32))∧True)∧(((0 + 31≤32)∧True)∧(TT∧((((0:Int)≤0∧(0:Int)≤31∧31≤(p0.length:Int))∧True)∧(TT∧(TT∧(TT∧True)))))))))))))))))))
      ([(39,.sc (.b (!(strEq (bytesOf (((F33 (F23 p0)).drop 0).take 31)) (bytesOf ((p0.drop 0).take 31)))))),(4,qp 112 0),(2,qp 0 0),(0,qr p0)],[(112,.ints .u64 5 (F23 p0)),(0,.ints .u64 20 [0,0,0,0,0,0,0,0,0,0,0,0,0,0,0,0,0,0,0,0])])
      560 (⟨⟨(by omega),trivial⟩,⟨⟨(by omega),trivial⟩,⟨tt,⟨⟨(by first | omega | (have hl:=len23' (p0:=p0) (by assumption); omega) | (rw [adr_eq]; omega) | exact iAnd_nn _ _ | exact iSub_nn _ _ | exact part1_le (by omega) (by first | omega | (have hl:=len23' (p0:=p0) (by assumption); omega) | (simp only [List.length_append]; omega)) | decide),trivial⟩,⟨⟨(by first | omega | (have hl:=len23' (p0:=p0) (by assumption); omega) | (rw [adr_eq]; omega) | exact iAnd_nn _ _ | exact iSub_nn _ _ | exact part1_le (by omega) (by first | omega | (have hl:=len23' (p0:=p0) (by assumption); omega) | (simp only [List.length_append]; omega)) | decide),trivial⟩,⟨tt,⟨tt,⟨tt,⟨⟨(by first | omega | (have hl:=len23' (p0:=p0) (by assumption); omega) | (rw [adr_eq]; omega) | exact iAnd_nn _ _ | exact iSub_nn _ _ | exact part1_le (by omega) (by first | omega | (have hl:=len23' (p0:=p0) (by assumption); omega) | (simp only [List.length_append]; omega)) | decide),trivial⟩,⟨⟨(by first | omega | (have hl:=len23' (p0:=p0) (by assumption); omega) | (rw [adr_eq]; omega) | exact iAnd_nn _ _ | exact iSub_nn _ _ | exact part1_le (by omega) (by first | omega | (have hl:=len23' (p0:=p0) (by assumption); omega) | (simp only [List.length_append]; omega)) | decide),trivial⟩,⟨tt,⟨⟨trivial,(h2)⟩,⟨⟨⟨(by omega),(by omega)⟩,trivial⟩,⟨⟨(by omega),trivial⟩,⟨tt,⟨⟨(by first | omega | (have hl:=len23' (p0:=p0) (by assumption); omega) | (rw [adr_eq]; omega) | exact iAnd_nn _ _ | exact iSub_nn _ _ | exact part1_le (by omega) (by first | omega | (have hl:=len23' (p0:=p0) (by assumption); omega) | (simp only [List.length_append]; omega)) | decide),trivial⟩,⟨tt,⟨tt,⟨tt,trivial⟩⟩⟩⟩⟩⟩⟩⟩⟩⟩⟩⟩⟩⟩⟩⟩⟩⟩⟩) ?_
    refine Tri.cond (x:=(!(strEq (bytesOf (((F33 (F23 p0)).drop 0).take 31)) (bytesOf ((p0.drop 0).take 31))))) (by kernel_rfl) (fun h7 => ?_) (fun h7 => ?_)
    ·
     refine sr [] none [3,2] [0] (TT∧(((True∧(20=20))∧True)∧(TT∧True)))
       ([(3,.sc (.b false)),(2,qp 0 0)],[(0,.ints .u64 20 [0,0,0,0,0,0,0,0,0,0,0,0,0,0,0,0,0,0,0,0])])
       608 (⟨tt,⟨⟨⟨trivial,(rfl)⟩,trivial⟩,⟨tt,trivial⟩⟩⟩) ?_
     refine Tri.ret ?_
     repeat (first | refine thenP_ret ?_ | refine blkP_ret ?_ | refine countP_ret ?_ | refine joinP_ret ?_)
     refine endP.conv (r':=⟨.tup [.ints .u64 20 [0,0,0,0,0,0,0,0,0,0,0,0,0,0,0,0,0,0,0,0],.sc (.b false)],[]⟩) (by simp only [FT33,FT33_1,h1,h2,h7,sel_true,sel_false]) ?_
     exact endP.ret [] (True∧TT) (by kernel_rfl) (by kernel_rfl) (by kernel_rfl) ⟨trivial,tt⟩
    ·
     refine Tri.skip ?_
     change Tri _ _ _ _ _ _
     refine sr [] none [7,4,2,0] [608,112,0] (TT∧(TT∧((TT∧True)∧(TT∧(((True∧(5=5))∧True)∧True)))))
       ([(7,qp 608 0),(4,qp 112 0),(2,qp 0 0),(0,qr p0)],[(608,.ints .u64 5 (F20 (F23 p0) (F23 p0))),(112,.ints .u64 5 (F23 p0)),(0,.ints .u64 20 [0,0,0,0,0,0,0,0,0,0,0,0,0,0,0,0,0,0,0,0])])
       640 (⟨tt,⟨tt,⟨⟨tt,trivial⟩,⟨tt,⟨⟨⟨trivial,(rfl)⟩,trivial⟩,trivial⟩⟩⟩⟩⟩) ?_
     refine sr [] (some [0,0,3,0,7,31,63,127,255,511,1023,2047,4095,4095,0,24575,65535]) [9,8,4,2,0] [864,112,0] (TT∧((TT∧True)∧((TT∧True)∧(TT∧((TT∧True)∧((TT∧True)∧((TT∧True)∧((TT∧True)∧((TT∧True)∧((TT∧True)∧((TT∧True)∧(TT∧(TT∧(TT∧(TT∧(((True∧(5=5))∧True)∧(TT∧True)))))))))))))))))
       ([(9,.sc (.b (F34_1 (F20 (F18 (F20 (F23 p0) (F23 p0)) (F30 1)) (F25 (F16 (F20 (F20 (F23 p0) (F23 p0)) (FT37)) (F30 1))))))),(8,qp 864 0),(4,qp 112 0),(2,qp 0 0),(0,qr p0)],[(864,.ints .u64 5 (F34 (F20 (F18 (F20 (F23 p0) (F23 p0)) (F30 1)) (F25 (F16 (F20 (F20 (F23 p0) (F23 p0)) (FT37)) (F30 1)))))),(112,.ints .u64 5 (F23 p0)),(0,.ints .u64 20 [0,0,0,0,0,0,0,0,0,0,0,0,0,0,0,0,0,0,0,0])])
       912 (⟨tt,⟨⟨tt,trivial⟩,⟨⟨tt,trivial⟩,⟨tt,⟨⟨tt,trivial⟩,⟨⟨tt,trivial⟩,⟨⟨tt,trivial⟩,⟨⟨tt,trivial⟩,⟨⟨tt,trivial⟩,⟨⟨tt,trivial⟩,⟨⟨tt,trivial⟩,⟨tt,⟨tt,⟨tt,⟨tt,⟨⟨⟨trivial,(rfl)⟩,trivial⟩,⟨tt,trivial⟩⟩⟩⟩⟩⟩⟩⟩⟩⟩⟩⟩⟩⟩⟩⟩⟩) ?_
     refine Tri.len 864 rfl (fun hl8 => ?_)
     refine Tri.len 112 rfl (fun hl9 => ?_)
     refine sr [] none [10,9,8,4,2] [864,112,0] (TT∧((((0:Int)≤31∧31 < (p0.length:Int))∧True)∧(((31 < p0.length)∧True)∧(TT∧(TT∧True)))))
       ([(10,.sc (.b (decide ((p0.getD 31 0:Int) ≥ 128)))),(9,.sc (.b (F34_1 (F20 (F18 (F20 (F23 p0) (F23 p0)) (F30 1)) (F25 (F16 (F20 (F20 (F23 p0) (F23 p0)) (FT37)) (F30 1))))))),(8,qp 864 0),(4,qp 112 0),(2,qp 0 0)],[(864,.ints .u64 5 (F34 (F20 (F18 (F20 (F23 p0) (F23 p0)) (F30 1)) (F25 (F16 (F20 (F20 (F23 p0) (F23 p0)) (FT37)) (F30 1)))))),(112,.ints .u64 5 (F23 p0)),(0,.ints .u64 20 [0,0,0,0,0,0,0,0,0,0,0,0,0,0,0,0,0,0,0,0])])
       992 (⟨tt,⟨⟨(by first | omega | (have hl:=len23' (p0:=p0) (by assumption); omega) | (rw [adr_eq]; omega) | exact iAnd_nn _ _ | exact iSub_nn _ _ | exact part1_le (by omega) (by first | omega | (have hl:=len23' (p0:=p0) (by assumption); omega) | (simp only [List.length_append]; omega)) | decide),trivial⟩,⟨⟨(by first | omega | (have hl:=len23' (p0:=p0) (by assumption); omega) | (rw [adr_eq]; omega) | exact iAnd_nn _ _ | exact iSub_nn _ _ | exact part1_le (by omega) (by first | omega | (have hl:=len23' (p0:=p0) (by assumption); omega) | (simp only [List.length_append]; omega)) | decide),trivial⟩,⟨tt,⟨tt,trivial⟩⟩⟩⟩⟩) ?_
     refine Tri.seq ?_
     refine Tri.split (!(F34_1 (F20 (F18 (F20 (F23 p0) (F23 p0)) (F30 1)) (F25 (F16 (F20 (F20 (F23 p0) (F23 p0)) (FT37)) (F30 1)))))) (fun h10 => ?_) (fun h10 => ?_)
     ·
      refine sr [(64,.b true)] (some [0,1,3,7,7,31,63,127,255,511]) [71,10,8,4,2] [864,112,0] (TT∧(TT∧((True∧((!(F34_1 (F20 (F18 (F20 (F23 p0) (F23 p0)) (F30 1)) (F25 (F16 (F20 (F20 (F23 p0) (F23 p0)) (FT37)) (F30 1))))))=true))∧(TT∧(TT∧(TT∧(TT∧(TT∧(TT∧(TT∧True))))))))))
        ([(71,.sc (.b true)),(10,.sc (.b (decide ((p0.getD 31 0:Int) ≥ 128)))),(8,qp 864 0),(4,qp 112 0),(2,qp 0 0)],[(864,.ints .u64 5 (F34 (F20 (F18 (F20 (F23 p0) (F23 p0)) (F30 1)) (F25 (F16 (F20 (F20 (F23 p0) (F23 p0)) (FT37)) (F30 1)))))),(112,.ints .u64 5 (F23 p0)),(0,.ints .u64 20 [0,0,0,0,0,0,0,0,0,0,0,0,0,0,0,0,0,0,0,0])])
        1152 (⟨tt,⟨tt,⟨⟨trivial,(h10)⟩,⟨tt,⟨tt,⟨tt,⟨tt,⟨tt,⟨tt,⟨tt,trivial⟩⟩⟩⟩⟩⟩⟩⟩⟩⟩) ?_
      refine Tri.cond_true (by kernel_rfl) ?_
      refine sr [] none [3,2] [0] (TT∧(((True∧(20=20))∧True)∧(TT∧True)))
        ([(3,.sc (.b false)),(2,qp 0 0)],[(0,.ints .u64 20 [0,0,0,0,0,0,0,0,0,0,0,0,0,0,0,0,0,0,0,0])])
        1200 (⟨tt,⟨⟨⟨trivial,(rfl)⟩,trivial⟩,⟨tt,trivial⟩⟩⟩) ?_
      refine Tri.ret ?_
      repeat (first | refine thenP_ret ?_ | refine blkP_ret ?_ | refine countP_ret ?_ | refine joinP_ret ?_)
      refine endP.conv (r':=⟨.tup [.ints .u64 20 [0,0,0,0,0,0,0,0,0,0,0,0,0,0,0,0,0,0,0,0],.sc (.b false)],[]⟩) (by simp only [FT33,FT33_1,h1,h2,h7,h10,sel_true,sel_false]) ?_
      exact endP.ret [] (True∧TT) (by kernel_rfl) (by kernel_rfl) (by kernel_rfl) ⟨trivial,tt⟩
     ·
      refine Tri.split (F29 (F34 (F20 (F18 (F20 (F23 p0) (F23 p0)) (F30 1)) (F25 (F16 (F20 (F20 (F23 p0) (F23 p0)) (FT37)) (F30 1))))) (F30 0)) (fun h11 => ?_) (fun h11 => ?_)
      ·
       refine sr [(64,.b false),(68,.b true)] (some [0,1,3,7,7,31,63,127,255,511]) [71,10,8,4,2] [864,112,0] (TT∧(TT∧((True∧((!(F34_1 (F20 (F18 (F20 (F23 p0) (F23 p0)) (F30 1)) (F25 (F16 (F20 (F20 (F23 p0) (F23 p0)) (FT37)) (F30 1))))))=false))∧(TT∧((TT∧True)∧((TT∧True)∧((True∧((F29 (F34 (F20 (F18 (F20 (F23 p0) (F23 p0)) (F30 1)) (F25 (F16 (F20 (F20 (F23 p0) (F23 p0)) (FT37)) (F30 1))))) (F30 0))=true))∧(TT∧(TT∧(TT∧True))))))))))
         ([(71,.sc (.b (decide ((p0.getD 31 0:Int) ≥ 128)))),(10,.sc (.b (decide ((p0.getD 31 0:Int) ≥ 128)))),(8,qp 864 0),(4,qp 112 0),(2,qp 0 0)],[(864,.ints .u64 5 (F34 (F20 (F18 (F20 (F23 p0) (F23 p0)) (F30 1)) (F25 (F16 (F20 (F20 (F23 p0) (F23 p0)) (FT37)) (F30 1)))))),(112,.ints .u64 5 (F23 p0)),(0,.ints .u64 20 [0,0,0,0,0,0,0,0,0,0,0,0,0,0,0,0,0,0,0,0])])
         1152 (⟨tt,⟨tt,⟨⟨trivial,(h10)⟩,⟨tt,⟨⟨tt,trivial⟩,⟨⟨tt,trivial⟩,⟨⟨trivial,(h11)⟩,⟨tt,⟨tt,⟨tt,trivial⟩⟩⟩⟩⟩⟩⟩⟩⟩⟩) ?_
       refine Tri.cond (x:=(decide ((p0.getD 31 0:Int) ≥ 128))) (by kernel_rfl) (fun h12 => ?_) (fun h12 => ?_)
       ·
        have h12':=of_decide_eq_true h12
        refine sr [] none [3,2] [0] (TT∧(((True∧(20=20))∧True)∧(TT∧True)))
          ([(3,.sc (.b false)),(2,qp 0 0)],[(0,.ints .u64 20 [0,0,0,0,0,0,0,0,0,0,0,0,0,0,0,0,0,0,0,0])])
          1200 (⟨tt,⟨⟨⟨trivial,(rfl)⟩,trivial⟩,⟨tt,trivial⟩⟩⟩) ?_
        refine Tri.ret ?_
        repeat (first | refine thenP_ret ?_ | refine blkP_ret ?_ | refine countP_ret ?_ | refine joinP_ret ?_)
        refine endP.conv (r':=⟨.tup [.ints .u64 20 [0,0,0,0,0,0,0,0,0,0,0,0,0,0,0,0,0,0,0,0],.sc (.b false)],[]⟩) (by simp only [FT33,FT33_1,h1,h2,h7,h10,h11,h12,sel_true,sel_false]) ?_
        exact endP.ret [] (True∧TT) (by kernel_rfl) (by kernel_rfl) (by kernel_rfl) ⟨trivial,tt⟩
       ·
        have h12':=of_decide_eq_false h12
        refine Tri.skip ?_
        change Tri _ _ _ _ _ _
        refine Tri.seq ?_
        refine sr [] none [76,8,4,2] [864,112,0] (TT∧((TT∧True)∧(TT∧(TT∧True))))
          ([(76,.sc (.b (!((F32 (F34 (F20 (F18 (F20 (F23 p0) (F23 p0)) (F30 1)) (F25 (F16 (F20 (F20 (F23 p0) (F23 p0)) (FT37)) (F30 1)))))) == (decide ((p0.getD 31 0:Int) ≥ 128)))))),(8,qp 864 0),(4,qp 112 0),(2,qp 0 0)],[(864,.ints .u64 5 (F34 (F20 (F18 (F20 (F23 p0) (F23 p0)) (F30 1)) (F25 (F16 (F20 (F20 (F23 p0) (F23 p0)) (FT37)) (F30 1)))))),(112,.ints .u64 5 (F23 p0)),(0,.ints .u64 20 [0,0,0,0,0,0,0,0,0,0,0,0,0,0,0,0,0,0,0,0])])
          1216 (⟨tt,⟨⟨tt,trivial⟩,⟨tt,⟨tt,trivial⟩⟩⟩⟩) ?_
        refine Tri.join (x:=(!((F32 (F34 (F20 (F18 (F20 (F23 p0) (F23 p0)) (F30 1)) (F25 (F16 (F20 (F20 (F23 p0) (F23 p0)) (FT37)) (F30 1)))))) == (decide ((p0.getD 31 0:Int) ≥ 128))))) (fun bb => ([(8,qp 864 0),(4,qp 112 0),(2,qp 0 0)],[(864,.ints .u64 5 (sel bb (F18 (F30 0) (F34 (F20 (F18 (F20 (F23 p0) (F23 p0)) (F30 1)) (F25 (F16 (F20 (F20 (F23 p0) (F23 p0)) (FT37)) (F30 1)))))) (F34 (F20 (F18 (F20 (F23 p0) (F23 p0)) (F30 1)) (F25 (F16 (F20 (F20 (F23 p0) (F23 p0)) (FT37)) (F30 1))))))),(112,.ints .u64 5 (F23 p0)),(0,.ints .u64 20 [0,0,0,0,0,0,0,0,0,0,0,0,0,0,0,0,0,0,0,0])])) 1280 (by kernel_rfl) (fun h13 => ?_) (fun h13 => ?_) ?_
        ·
         refine rr [] (some [0,0,3,7]) [8,4,2] [864,112,0] ((TT∧True)∧(TT∧((TT∧True)∧(((True∧(5=5))∧True)∧True))))
           ([(8,qp 864 0),(4,qp 112 0),(2,qp 0 0)],[(864,.ints .u64 5 (F18 (F30 0) (F34 (F20 (F18 (F20 (F23 p0) (F23 p0)) (F30 1)) (F25 (F16 (F20 (F20 (F23 p0) (F23 p0)) (FT37)) (F30 1))))))),(112,.ints .u64 5 (F23 p0)),(0,.ints .u64 20 [0,0,0,0,0,0,0,0,0,0,0,0,0,0,0,0,0,0,0,0])])
           1280 (⟨⟨tt,trivial⟩,⟨tt,⟨⟨tt,trivial⟩,⟨⟨⟨trivial,(rfl)⟩,trivial⟩,trivial⟩⟩⟩⟩) ?_
         exact (Sub.ren (ns:=[(864,864),(112,112),(0,0)]) (kf:=[8,4,2]) (s':=([(8,qp 864 0),(4,qp 112 0),(2,qp 0 0)],[(864,.ints .u64 5 (F18 (F30 0) (F34 (F20 (F18 (F20 (F23 p0) (F23 p0)) (F30 1)) (F25 (F16 (F20 (F20 (F23 p0) (F23 p0)) (FT37)) (F30 1))))))),(112,.ints .u64 5 (F23 p0)),(0,.ints .u64 20 [0,0,0,0,0,0,0,0,0,0,0,0,0,0,0,0,0,0,0,0])])) (by kernel_rfl) (by kernel_rfl)).trans (Sub.of_eq (by simp only [sel_true,sel_false]))
        ·
         refine Tri.skip ?_
         exact (Sub.ren (ns:=[(864,864),(112,112),(0,0)]) (kf:=[8,4,2]) (s':=([(8,qp 864 0),(4,qp 112 0),(2,qp 0 0)],[(864,.ints .u64 5 (F34 (F20 (F18 (F20 (F23 p0) (F23 p0)) (F30 1)) (F25 (F16 (F20 (F20 (F23 p0) (F23 p0)) (FT37)) (F30 1)))))),(112,.ints .u64 5 (F23 p0)),(0,.ints .u64 20 [0,0,0,0,0,0,0,0,0,0,0,0,0,0,0,0,0,0,0,0])])) (by kernel_rfl) (by kernel_rfl)).trans (Sub.of_eq (by simp only [sel_true,sel_false]))
        ·
         change Tri _ _ _ _ _ _
         refine sr [] (some [0,0,0,0,0,28,63,127,255]) [3,2] [0] (TT∧(TT∧((TT∧True)∧(TT∧(TT∧((TT∧True)∧(((((0 + 5≤20)∧(5=5))∧(((5 + 5≤20)∧(5=5))∧(((10 + 5≤20)∧(5=5))∧(((15 + 5≤20)∧(5=5))∧True))))∧True)∧(((True∧(20=20))∧True)∧(TT∧True)))))))))
           ([(3,.sc (.b true)),(2,qp 0 0)],[(0,.ints .u64 20 (splice (splice (splice (splice [0,0,0,0,0,0,0,0,0,0,0,0,0,0,0,0,0,0,0,0] 0 (sel (!((F32 (F34 (F20 (F18 (F20 (F23 p0) (F23 p0)) (F30 1)) (F25 (F16 (F20 (F20 (F23 p0) (F23 p0)) (FT37)) (F30 1)))))) == (decide ((p0.getD 31 0:Int) ≥ 128)))) (F18 (F30 0) (F34 (F20 (F18 (F20 (F23 p0) (F23 p0)) (F30 1)) (F25 (F16 (F20 (F20 (F23 p0) (F23 p0)) (FT37)) (F30 1)))))) (F34 (F20 (F18 (F20 (F23 p0) (F23 p0)) (F30 1)) (F25 (F16 (F20 (F20 (F23 p0) (F23 p0)) (FT37)) (F30 1))))))) 5 (F23 p0)) 10 (F30 1)) 15 (F20 (sel (!((F32 (F34 (F20 (F18 (F20 (F23 p0) (F23 p0)) (F30 1)) (F25 (F16 (F20 (F20 (F23 p0) (F23 p0)) (FT37)) (F30 1)))))) == (decide ((p0.getD 31 0:Int) ≥ 128)))) (F18 (F30 0) (F34 (F20 (F18 (F20 (F23 p0) (F23 p0)) (F30 1)) (F25 (F16 (F20 (F20 (F23 p0) (F23 p0)) (FT37)) (F30 1)))))) (F34 (F20 (F18 (F20 (F23 p0) (F23 p0)) (F30 1)) (F25 (F16 (F20 (F20 (F23 p0) (F23 p0)) (FT37)) (F30 1)))))) (F23 p0))))])
           1424 (⟨tt,⟨tt,⟨⟨tt,trivial⟩,⟨tt,⟨tt,⟨⟨tt,trivial⟩,⟨⟨⟨⟨(by omega),(rfl)⟩,⟨⟨(by omega),(rfl)⟩,⟨⟨(by omega),(rfl)⟩,⟨⟨(by omega),(rfl)⟩,trivial⟩⟩⟩⟩,trivial⟩,⟨⟨⟨trivial,(rfl)⟩,trivial⟩,⟨tt,trivial⟩⟩⟩⟩⟩⟩⟩⟩⟩) ?_
         refine Tri.ret ?_
         repeat (first | refine thenP_ret ?_ | refine blkP_ret ?_ | refine countP_ret ?_ | refine joinP_ret ?_)
         refine endP.conv (r':=⟨.tup [.ints .u64 20 (splice (splice (splice (splice [0,0,0,0,0,0,0,0,0,0,0,0,0,0,0,0,0,0,0,0] 0 (sel (!((F32 (F34 (F20 (F18 (F20 (F23 p0) (F23 p0)) (F30 1)) (F25 (F16 (F20 (F20 (F23 p0) (F23 p0)) (FT37)) (F30 1)))))) == (decide ((p0.getD 31 0:Int) ≥ 128)))) (F18 (F30 0) (F34 (F20 (F18 (F20 (F23 p0) (F23 p0)) (F30 1)) (F25 (F16 (F20 (F20 (F23 p0) (F23 p0)) (FT37)) (F30 1)))))) (F34 (F20 (F18 (F20 (F23 p0) (F23 p0)) (F30 1)) (F25 (F16 (F20 (F20 (F23 p0) (F23 p0)) (FT37)) (F30 1))))))) 5 (F23 p0)) 10 (F30 1)) 15 (F20 (sel (!((F32 (F34 (F20 (F18 (F20 (F23 p0) (F23 p0)) (F30 1)) (F25 (F16 (F20 (F20 (F23 p0) (F23 p0)) (FT37)) (F30 1)))))) == (decide ((p0.getD 31 0:Int) ≥ 128)))) (F18 (F30 0) (F34 (F20 (F18 (F20 (F23 p0) (F23 p0)) (F30 1)) (F25 (F16 (F20 (F20 (F23 p0) (F23 p0)) (FT37)) (F30 1)))))) (F34 (F20 (F18 (F20 (F23 p0) (F23 p0)) (F30 1)) (F25 (F16 (F20 (F20 (F23 p0) (F23 p0)) (FT37)) (F30 1)))))) (F23 p0))),.sc (.b true)],[]⟩) (by simp only [FT33,FT33_1,h1,h2,h7,h10,h11,h12,sel_true,sel_false]) ?_
         exact endP.ret [] (True∧TT) (by kernel_rfl) (by kernel_rfl) (by kernel_rfl) ⟨trivial,tt⟩
      ·
       refine sr [(64,.b false),(68,.b false)] (some [0,1,3,7,7,31,63,127,255,511]) [71,10,8,4,2] [864,112,0] (TT∧(TT∧((True∧((!(F34_1 (F20 (F18 (F20 (F23 p0) (F23 p0)) (F30 1)) (F25 (F16 (F20 (F20 (F23 p0) (F23 p0)) (FT37)) (F30 1))))))=false))∧(TT∧((TT∧True)∧((TT∧True)∧((True∧((F29 (F34 (F20 (F18 (F20 (F23 p0) (F23 p0)) (F30 1)) (F25 (F16 (F20 (F20 (F23 p0) (F23 p0)) (FT37)) (F30 1))))) (F30 0))=false))∧(TT∧(TT∧(TT∧True))))))))))
         ([(71,.sc (.b false)),(10,.sc (.b (decide ((p0.getD 31 0:Int) ≥ 128)))),(8,qp 864 0),(4,qp 112 0),(2,qp 0 0)],[(864,.ints .u64 5 (F34 (F20 (F18 (F20 (F23 p0) (F23 p0)) (F30 1)) (F25 (F16 (F20 (F20 (F23 p0) (F23 p0)) (FT37)) (F30 1)))))),(112,.ints .u64 5 (F23 p0)),(0,.ints .u64 20 [0,0,0,0,0,0,0,0,0,0,0,0,0,0,0,0,0,0,0,0])])
         1152 (⟨tt,⟨tt,⟨⟨trivial,(h10)⟩,⟨tt,⟨⟨tt,trivial⟩,⟨⟨tt,trivial⟩,⟨⟨trivial,(h11)⟩,⟨tt,⟨tt,⟨tt,trivial⟩⟩⟩⟩⟩⟩⟩⟩⟩⟩) ?_
       refine Tri.cond_false (by kernel_rfl) ?_
       refine Tri.skip ?_
       change Tri _ _ _ _ _ _
       refine Tri.seq ?_
       refine sr [] none [76,8,4,2] [864,112,0] (TT∧((TT∧True)∧(TT∧(TT∧True))))
         ([(76,.sc (.b (!((F32 (F34 (F20 (F18 (F20 (F23 p0) (F23 p0)) (F30 1)) (F25 (F16 (F20 (F20 (F23 p0) (F23 p0)) (FT37)) (F30 1)))))) == (decide ((p0.getD 31 0:Int) ≥ 128)))))),(8,qp 864 0),(4,qp 112 0),(2,qp 0 0)],[(864,.ints .u64 5 (F34 (F20 (F18 (F20 (F23 p0) (F23 p0)) (F30 1)) (F25 (F16 (F20 (F20 (F23 p0) (F23 p0)) (FT37)) (F30 1)))))),(112,.ints .u64 5 (F23 p0)),(0,.ints .u64 20 [0,0,0,0,0,0,0,0,0,0,0,0,0,0,0,0,0,0,0,0])])
         1216 (⟨tt,⟨⟨tt,trivial⟩,⟨tt,⟨tt,trivial⟩⟩⟩⟩) ?_
       refine Tri.join (x:=(!((F32 (F34 (F20 (F18 (F20 (F23 p0) (F23 p0)) (F30 1)) (F25 (F16 (F20 (F20 (F23 p0) (F23 p0)) (FT37)) (F30 1)))))) == (decide ((p0.getD 31 0:Int) ≥ 128))))) (fun bb => ([(8,qp 864 0),(4,qp 112 0),(2,qp 0 0)],[(864,.ints .u64 5 (sel bb (F18 (F30 0) (F34 (F20 (F18 (F20 (F23 p0) (F23 p0)) (F30 1)) (F25 (F16 (F20 (F20 (F23 p0) (F23 p0)) (FT37)) (F30 1)))))) (F34 (F20 (F18 (F20 (F23 p0) (F23 p0)) (F30 1)) (F25 (F16 (F20 (F20 (F23 p0) (F23 p0)) (FT37)) (F30 1))))))),(112,.ints .u64 5 (F23 p0)),(0,.ints .u64 20 [0,0,0,0,0,0,0,0,0,0,0,0,0,0,0,0,0,0,0,0])])) 1280 (by kernel_rfl) (fun h14 => ?_) (fun h14 => ?_) ?_
       ·
        refine rr [] (some [0,0,3,7]) [8,4,2] [864,112,0] ((TT∧True)∧(TT∧((TT∧True)∧(((True∧(5=5))∧True)∧True))))
          ([(8,qp 864 0),(4,qp 112 0),(2,qp 0 0)],[(864,.ints .u64 5 (F18 (F30 0) (F34 (F20 (F18 (F20 (F23 p0) (F23 p0)) (F30 1)) (F25 (F16 (F20 (F20 (F23 p0) (F23 p0)) (FT37)) (F30 1))))))),(112,.ints .u64 5 (F23 p0)),(0,.ints .u64 20 [0,0,0,0,0,0,0,0,0,0,0,0,0,0,0,0,0,0,0,0])])
          1280 (⟨⟨tt,trivial⟩,⟨tt,⟨⟨tt,trivial⟩,⟨⟨⟨trivial,(rfl)⟩,trivial⟩,trivial⟩⟩⟩⟩) ?_
        exact (Sub.ren (ns:=[(864,864),(112,112),(0,0)]) (kf:=[8,4,2]) (s':=([(8,qp 864 0),(4,qp 112 0),(2,qp 0 0)],[(864,.ints .u64 5 (F18 (F30 0) (F34 (F20 (F18 (F20 (F23 p0) (F23 p0)) (F30 1)) (F25 (F16 (F20 (F20 (F23 p0) (F23 p0)) (FT37)) (F30 1))))))),(112,.ints .u64 5 (F23 p0)),(0,.ints .u64 20 [0,0,0,0,0,0,0,0,0,0,0,0,0,0,0,0,0,0,0,0])])) (by kernel_rfl) (by kernel_rfl)).trans (Sub.of_eq (by simp only [sel_true,sel_false]))
       ·
        refine Tri.skip ?_
        exact (Sub.ren (ns:=[(864,864),(112,112),(0,0)]) (kf:=[8,4,2]) (s':=([(8,qp 864 0),(4,qp 112 0),(2,qp 0 0)],[(864,.ints .u64 5 (F34 (F20 (F18 (F20 (F23 p0) (F23 p0)) (F30 1)) (F25 (F16 (F20 (F20 (F23 p0) (F23 p0)) (FT37)) (F30 1)))))),(112,.ints .u64 5 (F23 p0)),(0,.ints .u64 20 [0,0,0,0,0,0,0,0,0,0,0,0,0,0,0,0,0,0,0,0])])) (by kernel_rfl) (by kernel_rfl)).trans (Sub.of_eq (by simp only [sel_true,sel_false]))
       ·
        change Tri _ _ _ _ _ _
        refine sr [] (some [0,0,0,0,0,28,63,127,255]) [3,2] [0] (TT∧(TT∧((TT∧True)∧(TT∧(TT∧((TT∧True)∧(((((0 + 5≤20)∧(5=5))∧(((5 + 5≤20)∧(5=5))∧(((10 + 5≤20)∧(5=5))∧(((15 + 5≤20)∧(5=5))∧True))))∧True)∧(((True∧(20=20))∧True)∧(TT∧True)))))))))
          ([(3,.sc (.b true)),(2,qp 0 0)],[(0,.ints .u64 20 (splice (splice (splice (splice [0,0,0,0,0,0,0,0,0,0,0,0,0,0,0,0,0,0,0,0] 0 (sel (!((F32 (F34 (F20 (F18 (F20 (F23 p0) (F23 p0)) (F30 1)) (F25 (F16 (F20 (F20 (F23 p0) (F23 p0)) (FT37)) (F30 1)))))) == (decide ((p0.getD 31 0:Int) ≥ 128)))) (F18 (F30 0) (F34 (F20 (F18 (F20 (F23 p0) (F23 p0)) (F30 1)) (F25 (F16 (F20 (F20 (F23 p0) (F23 p0)) (FT37)) (F30 1)))))) (F34 (F20 (F18 (F20 (F23 p0) (F23 p0)) (F30 1)) (F25 (F16 (F20 (F20 (F23 p0) (F23 p0)) (FT37)) (F30 1))))))) 5 (F23 p0)) 10 (F30 1)) 15 (F20 (sel (!((F32 (F34 (F20 (F18 (F20 (F23 p0) (F23 p0)) (F30 1)) (F25 (F16 (F20 (F20 (F23 p0) (F23 p0)) (FT37)) (F30 1)))))) == (decide ((p0.getD 31 0:Int) ≥ 128)))) (F18 (F30 0) (F34 (F20 (F18 (F20 (F23 p0) (F23 p0)) (F30 1)) (F25 (F16 (F20 (F20 (F23 p0) (F23 p0)) (FT37)) (F30 1)))))) (F34 (F20 (F18 (F20 (F23 p0) (F23 p0)) (F30 1)) (F25 (F16 (F20 (F20 (F23 p0) (F23 p0)) (FT37)) (F30 1)))))) (F23 p0))))])
          1424 (⟨tt,⟨tt,⟨⟨tt,trivial⟩,⟨tt,⟨tt,⟨⟨tt,trivial⟩,⟨⟨⟨⟨(by omega),(rfl)⟩,⟨⟨(by omega),(rfl)⟩,⟨⟨(by omega),(rfl)⟩,⟨⟨(by omega),(rfl)⟩,trivial⟩⟩⟩⟩,trivial⟩,⟨⟨⟨trivial,(rfl)⟩,trivial⟩,⟨tt,trivial⟩⟩⟩⟩⟩⟩⟩⟩⟩) ?_
        refine Tri.ret ?_
        repeat (first | refine thenP_ret ?_ | refine blkP_ret ?_ | refine countP_ret ?_ | refine joinP_ret ?_)
        refine endP.conv (r':=⟨.tup [.ints .u64 20 (splice (splice (splice (splice [0,0,0,0,0,0,0,0,0,0,0,0,0,0,0,0,0,0,0,0] 0 (sel (!((F32 (F34 (F20 (F18 (F20 (F23 p0) (F23 p0)) (F30 1)) (F25 (F16 (F20 (F20 (F23 p0) (F23 p0)) (FT37)) (F30 1)))))) == (decide ((p0.getD 31 0:Int) ≥ 128)))) (F18 (F30 0) (F34 (F20 (F18 (F20 (F23 p0) (F23 p0)) (F30 1)) (F25 (F16 (F20 (F20 (F23 p0) (F23 p0)) (FT37)) (F30 1)))))) (F34 (F20 (F18 (F20 (F23 p0) (F23 p0)) (F30 1)) (F25 (F16 (F20 (F20 (F23 p0) (F23 p0)) (FT37)) (F30 1))))))) 5 (F23 p0)) 10 (F30 1)) 15 (F20 (sel (!((F32 (F34 (F20 (F18 (F20 (F23 p0) (F23 p0)) (F30 1)) (F25 (F16 (F20 (F20 (F23 p0) (F23 p0)) (FT37)) (F30 1)))))) == (decide ((p0.getD 31 0:Int) ≥ 128)))) (F18 (F30 0) (F34 (F20 (F18 (F20 (F23 p0) (F23 p0)) (F30 1)) (F25 (F16 (F20 (F20 (F23 p0) (F23 p0)) (FT37)) (F30 1)))))) (F34 (F20 (F18 (F20 (F23 p0) (F23 p0)) (F30 1)) (F25 (F16 (F20 (F20 (F23 p0) (F23 p0)) (FT37)) (F30 1)))))) (F23 p0))),.sc (.b true)],[]⟩) (by simp only [FT33,FT33_1,h1,h2,h7,h10,h11,sel_true,sel_false]) ?_
        exact endP.ret [] (True∧TT) (by kernel_rfl) (by kernel_rfl) (by kernel_rfl) ⟨trivial,tt⟩
theorem lenT33 {p0:List Int} (h:(!(FT33_1 p0))=false):p0.length=32:=by
 unfold FT33_1 at h
 cases hb:(!(F23_1 p0))
 ·exact len23' hb
 ·rw [hb,sel_true] at h
  cases h
noncomputable def FT20 (p0:List Int):List Int :=
 (sel (F32 (F20 ((p0.drop 0).take 5) (F25 ((p0.drop 10).take 5)))) ((F33 (F20 ((p0.drop 5).take 5) (F25 ((p0.drop 10).take 5)))).set 31 (iOr .u8 ((F33 (F20 ((p0.drop 5).take 5) (F25 ((p0.drop 10).take 5)))).getD 31 0) 128)) (F33 (F20 ((p0.drop 5).take 5) (F25 ((p0.drop 10).take 5)))))
noncomputable def ST20:List AV→Option (Prop × Ret)
 | [.ints .u64 20 p0] => some (True,⟨.sc (.sl 0 0 32 1 (some 32)),[.ints .u8 32 (FT20 p0)]⟩)
 | _ => none
noncomputable def BT20:Bs:={ P:=Go.Proofs.Tryd.prog,G:=gD,tab:=tabOf [(49,⟨[.val],0,S33⟩),(50,⟨[.val],0,S25⟩),(51,⟨[.val,.val],0,S20⟩),(52,⟨[.val],0,S32⟩)],n:=23 }
theorem BT20.ok:BT20.Ok:=⟨tabOk (P:=Go.Proofs.Tryd.prog) (G:=gD) (l:=[(49,⟨[.val],0,S33⟩),(50,⟨[.val],0,S25⟩),(51,⟨[.val,.val],0,S20⟩),(52,⟨[.val],0,S32⟩)]) (And.intro K33 (And.intro K25 (And.intro K20 (And.intro K32 True.intro)))),mixed⟩
theorem KT20:Known Go.Proofs.Tryd.prog gD 20 ⟨[.val],1,ST20⟩:=by
 refine Known.walk (B:=BT20) (fn:=Go.Proofs.Tryd.f20) BT20.ok (by kernel_rfl) rfl (by kernel_rfl) (by kernel_rfl) (by decide) ?_ ?_
 ·intro vs C r h
  simp only at h
  unfold ST20 at h
  split at h
  ·cases h; rfl
  ·cases h
 ·intro E args C r h hC hlen
  simp only at h
  unfold ST20 at h
  split at h
  rotate_left
  ·cases h
  rename_i p0
  cases h
  simp only [lens] at hlen
  refine ⟨show 1≤23 from by decide,?_⟩
  refine Tri.sub (Sub.of_eq (show _=([(0,.ints .u64 20 p0)],[]) from rfl)) ?_
  refine sr [] none [1] [0] (TT∧(TT∧True))
    ([(1,qp 0 0)],[(0,.ints .u64 20 p0)])
    32 (⟨tt,⟨tt,trivial⟩⟩) ?_
  refine sr [] none [3,1] [80,0] (TT∧(((10 + 5≤20)∧True)∧((TT∧True)∧(TT∧(((True∧(5=5))∧True)∧True)))))
    ([(3,qp 80 0),(1,qp 0 0)],[(80,.ints .u64 5 (F25 ((p0.drop 10).take 5))),(0,.ints .u64 20 p0)])
    112 (⟨tt,⟨⟨(by omega),trivial⟩,⟨⟨tt,trivial⟩,⟨tt,⟨⟨⟨trivial,(rfl)⟩,trivial⟩,trivial⟩⟩⟩⟩⟩) ?_
  refine sr [] none [4,3,1] [192,80,0] (TT∧(((5 + 5≤20)∧True)∧(TT∧((TT∧True)∧((TT∧True)∧(TT∧(((True∧(32=32))∧True)∧True)))))))
    ([(4,qp 192 0),(3,qp 80 0),(1,qp 0 0)],[(192,.ints .u8 32 (F33 (F20 ((p0.drop 5).take 5) (F25 ((p0.drop 10).take 5))))),(80,.ints .u64 5 (F25 ((p0.drop 10).take 5))),(0,.ints .u64 20 p0)])
    224 (⟨tt,⟨⟨(by omega),trivial⟩,⟨tt,⟨⟨tt,trivial⟩,⟨⟨tt,trivial⟩,⟨tt,⟨⟨⟨trivial,(rfl)⟩,trivial⟩,trivial⟩⟩⟩⟩⟩⟩⟩) ?_
  refine Tri.seq ?_
  refine sr [] none [17,4] [192] (TT∧(((0 + 5≤20)∧True)∧(TT∧((TT∧True)∧((TT∧True)∧True)))))
    ([(17,.sc (.b (F32 (F20 ((p0.drop 0).take 5) (F25 ((p0.drop 10).take 5)))))),(4,qp 192 0)],[(192,.ints .u8 32 (F33 (F20 ((p0.drop 5).take 5) (F25 ((p0.drop 10).take 5)))))])
    304 (⟨tt,⟨⟨(by omega),trivial⟩,⟨tt,⟨⟨tt,trivial⟩,⟨⟨tt,trivial⟩,trivial⟩⟩⟩⟩⟩) ?_
  refine Tri.join (x:=(F32 (F20 ((p0.drop 0).take 5) (F25 ((p0.drop 10).take 5))))) (fun bb => ([(4,qp 192 0)],[(192,.ints .u8 32 (sel bb ((F33 (F20 ((p0.drop 5).take 5) (F25 ((p0.drop 10).take 5)))).set 31 (iOr .u8 ((F33 (F20 ((p0.drop 5).take 5) (F25 ((p0.drop 10).take 5)))).getD 31 0) 128)) (F33 (F20 ((p0.drop 5).take 5) (F25 ((p0.drop 10).take 5))))))])) 384 (by kernel_rfl) (fun h1 => ?_) (fun h1 => ?_) ?_
  ·
   refine rr [] none [4] [192] ((((0:Int)≤31∧31 < ((32:Nat):Int))∧True)∧(((31 < 32)∧True)∧(TT∧((((0:Int)≤31∧31 < ((32:Nat):Int))∧True)∧((((31 < 32)∧(1=1))∧True)∧True)))))
     ([(4,qp 192 0)],[(192,.ints .u8 32 ((F33 (F20 ((p0.drop 5).take 5) (F25 ((p0.drop 10).take 5)))).set 31 (iOr .u8 ((F33 (F20 ((p0.drop 5).take 5) (F25 ((p0.drop 10).take 5)))).getD 31 0) 128)))])
     384 (⟨⟨(by omega),trivial⟩,⟨⟨(by omega),trivial⟩,⟨tt,⟨⟨(by omega),trivial⟩,⟨⟨⟨(by omega),(rfl)⟩,trivial⟩,trivial⟩⟩⟩⟩⟩) ?_
   exact (Sub.ren (ns:=[(192,192)]) (kf:=[4]) (s':=([(4,qp 192 0)],[(192,.ints .u8 32 ((F33 (F20 ((p0.drop 5).take 5) (F25 ((p0.drop 10).take 5)))).set 31 (iOr .u8 ((F33 (F20 ((p0.drop 5).take 5) (F25 ((p0.drop 10).take 5)))).getD 31 0) 128)))])) (by kernel_rfl) (by kernel_rfl)).trans (Sub.of_eq (by simp only [sel_true,sel_false]))
  ·
   refine Tri.skip ?_
   exact (Sub.ren (ns:=[(192,192)]) (kf:=[4]) (s':=([(4,qp 192 0)],[(192,.ints .u8 32 (F33 (F20 ((p0.drop 5).take 5) (F25 ((p0.drop 10).take 5)))))])) (by kernel_rfl) (by kernel_rfl)).trans (Sub.of_eq (by simp only [sel_true,sel_false]))
  ·
   change Tri _ _ _ _ _ _
   refine sr [] none [2] [192] (((((0:Int)≤0∧(0:Int)≤32∧32≤((32:Nat):Int))∧(32≤32))∧True)∧(TT∧True))
     ([(2,.sc (.sl 192 0 32 1 (some 32)))],[(192,.ints .u8 32 (sel (F32 (F20 ((p0.drop 0).take 5) (F25 ((p0.drop 10).take 5)))) ((F33 (F20 ((p0.drop 5).take 5) (F25 ((p0.drop 10).take 5)))).set 31 (iOr .u8 ((F33 (F20 ((p0.drop 5).take 5) (F25 ((p0.drop 10).take 5)))).getD 31 0) 128)) (F33 (F20 ((p0.drop 5).take 5) (F25 ((p0.drop 10).take 5))))))])
     416 (⟨⟨⟨(by omega),(by omega)⟩,trivial⟩,⟨tt,trivial⟩⟩) ?_
   refine Tri.ret ?_
   exact endP.ret [(192,0)] TT (by kernel_rfl) (by kernel_rfl) (by kernel_rfl) tt
noncomputable def FT38 (p0:List Int) (p1:List Int) (p2:List Int):List Int :=
 splice (splice (splice (splice [0,0,0,0,0,0,0,0,0,0,0,0,0,0,0,0,0,0,0,0] 0 (F20 (F18 (F20 (F16 ((p0.drop 5).take 5) ((p0.drop 0).take 5)) (F16 ((p1.drop 5).take 5) ((p1.drop 0).take 5))) (F20 (F18 ((p0.drop 5).take 5) ((p0.drop 0).take 5)) (F18 ((p1.drop 5).take 5) ((p1.drop 0).take 5)))) (F18 (F16 (F20 ((p0.drop 10).take 5) ((p1.drop 10).take 5)) (F20 ((p0.drop 10).take 5) ((p1.drop 10).take 5))) (F20 (F20 ((p0.drop 15).take 5) ((p1.drop 15).take 5)) p2)))) 5 (F20 (F16 (F16 (F20 ((p0.drop 10).take 5) ((p1.drop 10).take 5)) (F20 ((p0.drop 10).take 5) ((p1.drop 10).take 5))) (F20 (F20 ((p0.drop 15).take 5) ((p1.drop 15).take 5)) p2)) (F16 (F20 (F16 ((p0.drop 5).take 5) ((p0.drop 0).take 5)) (F16 ((p1.drop 5).take 5) ((p1.drop 0).take 5))) (F20 (F18 ((p0.drop 5).take 5) ((p0.drop 0).take 5)) (F18 ((p1.drop 5).take 5) ((p1.drop 0).take 5)))))) 10 (F20 (F18 (F16 (F20 ((p0.drop 10).take 5) ((p1.drop 10).take 5)) (F20 ((p0.drop 10).take 5) ((p1.drop 10).take 5))) (F20 (F20 ((p0.drop 15).take 5) ((p1.drop 15).take 5)) p2)) (F16 (F16 (F20 ((p0.drop 10).take 5) ((p1.drop 10).take 5)) (F20 ((p0.drop 10).take 5) ((p1.drop 10).take 5))) (F20 (F20 ((p0.drop 15).take 5) ((p1.drop 15).take 5)) p2)))) 15 (F20 (F18 (F20 (F16 ((p0.drop 5).take 5) ((p0.drop 0).take 5)) (F16 ((p1.drop 5).take 5) ((p1.drop 0).take 5))) (F20 (F18 ((p0.drop 5).take 5) ((p0.drop 0).take 5)) (F18 ((p1.drop 5).take 5) ((p1.drop 0).take 5)))) (F16 (F20 (F16 ((p0.drop 5).take 5) ((p0.drop 0).take 5)) (F16 ((p1.drop 5).take 5) ((p1.drop 0).take 5))) (F20 (F18 ((p0.drop 5).take 5) ((p0.drop 0).take 5)) (F18 ((p1.drop 5).take 5) ((p1.drop 0).take 5)))))
noncomputable def ST38:List AV→Option (Prop × Ret)
 | [.ints .u64 20 p0,.ints .u64 20 p1,.ints .u64 5 p2] => some (True,⟨.ints .u64 20 (FT38 p0 p1 p2),[]⟩)
 | _ => none
noncomputable def BT38:Bs:={ P:=Go.Proofs.Tryd.prog,G:=gD,tab:=tabOf [(36,⟨[.val,.val],0,S18⟩),(39,⟨[.val,.val],0,S16⟩),(51,⟨[.val,.val],0,S20⟩)],n:=77 }
theorem BT38.ok:BT38.Ok:=⟨tabOk (P:=Go.Proofs.Tryd.prog) (G:=gD) (l:=[(36,⟨[.val,.val],0,S18⟩),(39,⟨[.val,.val],0,S16⟩),(51,⟨[.val,.val],0,S20⟩)]) (And.intro K18 (And.intro K16 (And.intro K20 True.intro))),mixed⟩
theorem KT38:Known Go.Proofs.Tryd.prog gD 38 ⟨[.val,.val,.val],0,ST38⟩:=by
 refine Known.walk (B:=BT38) (fn:=Go.Proofs.Tryd.f38) BT38.ok (by kernel_rfl) rfl (by kernel_rfl) (by kernel_rfl) (by decide) ?_ ?_
 ·intro vs C r h
  simp only at h
  unfold ST38 at h
  split at h
  ·cases h; rfl
  ·cases h
 ·intro E args C r h hC hlen
  simp only at h
  unfold ST38 at h
  split at h
  rotate_left
  ·cases h
  rename_i p0 p1 p2
  cases h
  simp only [lens] at hlen
  refine ⟨show 3≤77 from by decide,?_⟩
  refine Tri.sub (Sub.of_eq (show _=([(0,.ints .u64 20 p0),(1,.ints .u64 20 p1),(2,.ints .u64 5 p2)],[]) from rfl)) ?_
  refine sr [] none [6,5,4,3] [48,32,16,0] (TT∧(TT∧(TT∧(TT∧True))))
    ([(6,qp 48 0),(5,qp 32 0),(4,qp 16 0),(3,qp 0 0)],[(48,.ints .u64 20 [0,0,0,0,0,0,0,0,0,0,0,0,0,0,0,0,0,0,0,0]),(32,.ints .u64 5 p2),(16,.ints .u64 20 p1),(0,.ints .u64 20 p0)])
    64 (⟨tt,⟨tt,⟨tt,⟨tt,trivial⟩⟩⟩⟩) ?_
  refine sr [] (some [0,1,0,4,15,0,32,0,128,511,1023,0,2048,0,8192,32767,0,65536,0,262144,1048575,2097151,0,0,16777215,33554431]) [8,7,6,5,4,3] [432,416,48,32,16,0] (TT∧(((5 + 5≤20)∧True)∧(TT∧(((0 + 5≤20)∧True)∧((TT∧True)∧(TT∧(((5 + 5≤20)∧True)∧(TT∧(((0 + 5≤20)∧True)∧((TT∧True)∧((TT∧True)∧(TT∧(((5 + 5≤20)∧True)∧(TT∧(((0 + 5≤20)∧True)∧((TT∧True)∧(TT∧(((5 + 5≤20)∧True)∧(TT∧(((0 + 5≤20)∧True)∧((TT∧True)∧((TT∧True)∧(TT∧(TT∧(((True∧(5=5))∧True)∧(((True∧(5=5))∧True)∧True))))))))))))))))))))))))))
    ([(8,qp 432 0),(7,qp 416 0),(6,qp 48 0),(5,qp 32 0),(4,qp 16 0),(3,qp 0 0)],[(432,.ints .u64 5 (F20 (F16 ((p0.drop 5).take 5) ((p0.drop 0).take 5)) (F16 ((p1.drop 5).take 5) ((p1.drop 0).take 5)))),(416,.ints .u64 5 (F20 (F18 ((p0.drop 5).take 5) ((p0.drop 0).take 5)) (F18 ((p1.drop 5).take 5) ((p1.drop 0).take 5)))),(48,.ints .u64 20 [0,0,0,0,0,0,0,0,0,0,0,0,0,0,0,0,0,0,0,0]),(32,.ints .u64 5 p2),(16,.ints .u64 20 p1),(0,.ints .u64 20 p0)])
    480 (⟨tt,⟨⟨(by omega),trivial⟩,⟨tt,⟨⟨(by omega),trivial⟩,⟨⟨tt,trivial⟩,⟨tt,⟨⟨(by omega),trivial⟩,⟨tt,⟨⟨(by omega),trivial⟩,⟨⟨tt,trivial⟩,⟨⟨tt,trivial⟩,⟨tt,⟨⟨(by omega),trivial⟩,⟨tt,⟨⟨(by omega),trivial⟩,⟨⟨tt,trivial⟩,⟨tt,⟨⟨(by omega),trivial⟩,⟨tt,⟨⟨(by omega),trivial⟩,⟨⟨tt,trivial⟩,⟨⟨tt,trivial⟩,⟨tt,⟨tt,⟨⟨⟨trivial,(rfl)⟩,trivial⟩,⟨⟨⟨trivial,(rfl)⟩,trivial⟩,trivial⟩⟩⟩⟩⟩⟩⟩⟩⟩⟩⟩⟩⟩⟩⟩⟩⟩⟩⟩⟩⟩⟩⟩⟩⟩⟩) ?_
  refine sr [] (some [0,1,0,4,15,0,63,0,128,0,512,2047,0,0,16383,32767]) [10,9,8,7,6] [688,672,432,416,48] (TT∧(((15 + 5≤20)∧True)∧(TT∧(((15 + 5≤20)∧True)∧((TT∧True)∧(TT∧((TT∧True)∧(TT∧(((10 + 5≤20)∧True)∧(TT∧(((10 + 5≤20)∧True)∧((TT∧True)∧(TT∧(TT∧(((True∧(5=5))∧True)∧(((True∧(5=5))∧True)∧True))))))))))))))))
    ([(10,qp 688 0),(9,qp 672 0),(8,qp 432 0),(7,qp 416 0),(6,qp 48 0)],[(688,.ints .u64 5 (F20 ((p0.drop 10).take 5) ((p1.drop 10).take 5))),(672,.ints .u64 5 (F20 (F20 ((p0.drop 15).take 5) ((p1.drop 15).take 5)) p2)),(432,.ints .u64 5 (F20 (F16 ((p0.drop 5).take 5) ((p0.drop 0).take 5)) (F16 ((p1.drop 5).take 5) ((p1.drop 0).take 5)))),(416,.ints .u64 5 (F20 (F18 ((p0.drop 5).take 5) ((p0.drop 0).take 5)) (F18 ((p1.drop 5).take 5) ((p1.drop 0).take 5)))),(48,.ints .u64 20 [0,0,0,0,0,0,0,0,0,0,0,0,0,0,0,0,0,0,0,0])])
    736 (⟨tt,⟨⟨(by omega),trivial⟩,⟨tt,⟨⟨(by omega),trivial⟩,⟨⟨tt,trivial⟩,⟨tt,⟨⟨tt,trivial⟩,⟨tt,⟨⟨(by omega),trivial⟩,⟨tt,⟨⟨(by omega),trivial⟩,⟨⟨tt,trivial⟩,⟨tt,⟨tt,⟨⟨⟨trivial,(rfl)⟩,trivial⟩,⟨⟨⟨trivial,(rfl)⟩,trivial⟩,trivial⟩⟩⟩⟩⟩⟩⟩⟩⟩⟩⟩⟩⟩⟩⟩⟩) ?_
  refine sr [] none [10,9,8,7,6] [688,672,432,416,48] (TT∧(TT∧((TT∧True)∧(((True∧(5=5))∧True)∧True))))
    ([(10,qp 688 0),(9,qp 672 0),(8,qp 432 0),(7,qp 416 0),(6,qp 48 0)],[(688,.ints .u64 5 (F16 (F20 ((p0.drop 10).take 5) ((p1.drop 10).take 5)) (F20 ((p0.drop 10).take 5) ((p1.drop 10).take 5)))),(672,.ints .u64 5 (F20 (F20 ((p0.drop 15).take 5) ((p1.drop 15).take 5)) p2)),(432,.ints .u64 5 (F20 (F16 ((p0.drop 5).take 5) ((p0.drop 0).take 5)) (F16 ((p1.drop 5).take 5) ((p1.drop 0).take 5)))),(416,.ints .u64 5 (F20 (F18 ((p0.drop 5).take 5) ((p0.drop 0).take 5)) (F18 ((p1.drop 5).take 5) ((p1.drop 0).take 5)))),(48,.ints .u64 20 [0,0,0,0,0,0,0,0,0,0,0,0,0,0,0,0,0,0,0,0])])
    800 (⟨tt,⟨tt,⟨⟨tt,trivial⟩,⟨⟨⟨trivial,(rfl)⟩,trivial⟩,trivial⟩⟩⟩⟩) ?_
  refine sr [] (some [0,0,3,0,0,31,0,0,255,0,0,2047,0,0,0,0,65535,131071,262143,524287]) [14,13,12,11,6] [1040,1024,1008,992,48] (TT∧(TT∧((TT∧True)∧(TT∧(TT∧((TT∧True)∧(TT∧(TT∧((TT∧True)∧(TT∧(TT∧((TT∧True)∧(TT∧(TT∧(TT∧(TT∧(((True∧(5=5))∧True)∧(((True∧(5=5))∧True)∧(((True∧(5=5))∧True)∧(((True∧(5=5))∧True)∧True))))))))))))))))))))
    ([(14,qp 1040 0),(13,qp 1024 0),(12,qp 1008 0),(11,qp 992 0),(6,qp 48 0)],[(1040,.ints .u64 5 (F16 (F20 (F16 ((p0.drop 5).take 5) ((p0.drop 0).take 5)) (F16 ((p1.drop 5).take 5) ((p1.drop 0).take 5))) (F20 (F18 ((p0.drop 5).take 5) ((p0.drop 0).take 5)) (F18 ((p1.drop 5).take 5) ((p1.drop 0).take 5))))),(1024,.ints .u64 5 (F16 (F16 (F20 ((p0.drop 10).take 5) ((p1.drop 10).take 5)) (F20 ((p0.drop 10).take 5) ((p1.drop 10).take 5))) (F20 (F20 ((p0.drop 15).take 5) ((p1.drop 15).take 5)) p2))),(1008,.ints .u64 5 (F18 (F16 (F20 ((p0.drop 10).take 5) ((p1.drop 10).take 5)) (F20 ((p0.drop 10).take 5) ((p1.drop 10).take 5))) (F20 (F20 ((p0.drop 15).take 5) ((p1.drop 15).take 5)) p2))),(992,.ints .u64 5 (F18 (F20 (F16 ((p0.drop 5).take 5) ((p0.drop 0).take 5)) (F16 ((p1.drop 5).take 5) ((p1.drop 0).take 5))) (F20 (F18 ((p0.drop 5).take 5) ((p0.drop 0).take 5)) (F18 ((p1.drop 5).take 5) ((p1.drop 0).take 5))))),(48,.ints .u64 20 [0,0,0,0,0,0,0,0,0,0,0,0,0,0,0,0,0,0,0,0])])
    1120 (⟨tt,⟨tt,⟨⟨tt,trivial⟩,⟨tt,⟨tt,⟨⟨tt,trivial⟩,⟨tt,⟨tt,⟨⟨tt,trivial⟩,⟨tt,⟨tt,⟨⟨tt,trivial⟩,⟨tt,⟨tt,⟨tt,⟨tt,⟨⟨⟨trivial,(rfl)⟩,trivial⟩,⟨⟨⟨trivial,(rfl)⟩,trivial⟩,⟨⟨⟨trivial,(rfl)⟩,trivial⟩,⟨⟨⟨trivial,(rfl)⟩,trivial⟩,trivial⟩⟩⟩⟩⟩⟩⟩⟩⟩⟩⟩⟩⟩⟩⟩⟩⟩⟩⟩⟩) ?_
  refine sr [] (some [0,0,3,0,0,31,0,0,255,0,0,2047,4095,8191]) [6] [48] (TT∧(TT∧((TT∧True)∧(TT∧(TT∧((TT∧True)∧(TT∧(TT∧((TT∧True)∧(TT∧(TT∧((TT∧True)∧(((((0 + 5≤20)∧(5=5))∧(((5 + 5≤20)∧(5=5))∧(((10 + 5≤20)∧(5=5))∧(((15 + 5≤20)∧(5=5))∧True))))∧True)∧(((True∧(20=20))∧True)∧True))))))))))))))
    ([(6,qp 48 0)],[(48,.ints .u64 20 (splice (splice (splice (splice [0,0,0,0,0,0,0,0,0,0,0,0,0,0,0,0,0,0,0,0] 0 (F20 (F18 (F20 (F16 ((p0.drop 5).take 5) ((p0.drop 0).take 5)) (F16 ((p1.drop 5).take 5) ((p1.drop 0).take 5))) (F20 (F18 ((p0.drop 5).take 5) ((p0.drop 0).take 5)) (F18 ((p1.drop 5).take 5) ((p1.drop 0).take 5)))) (F18 (F16 (F20 ((p0.drop 10).take 5) ((p1.drop 10).take 5)) (F20 ((p0.drop 10).take 5) ((p1.drop 10).take 5))) (F20 (F20 ((p0.drop 15).take 5) ((p1.drop 15).take 5)) p2)))) 5 (F20 (F16 (F16 (F20 ((p0.drop 10).take 5) ((p1.drop 10).take 5)) (F20 ((p0.drop 10).take 5) ((p1.drop 10).take 5))) (F20 (F20 ((p0.drop 15).take 5) ((p1.drop 15).take 5)) p2)) (F16 (F20 (F16 ((p0.drop 5).take 5) ((p0.drop 0).take 5)) (F16 ((p1.drop 5).take 5) ((p1.drop 0).take 5))) (F20 (F18 ((p0.drop 5).take 5) ((p0.drop 0).take 5)) (F18 ((p1.drop 5).take 5) ((p1.drop 0).take 5)))))) 10 (F20 (F18 (F16 (F20 ((p0.drop 10).take 5) ((p1.drop 10).take 5)) (F20 ((p0.drop 10).take 5) ((p1.drop 10).take 5))) (F20 (F20 ((p0.drop 15).take 5) ((p1.drop 15).take 5)) p2)) (F16 (F16 (F20 ((p0.drop 10).take 5) ((p1.drop 10).take 5)) (F20 ((p0.drop 10).take 5) ((p1.drop 10).take 5))) (F20 (F20 ((p0.drop 15).take 5) ((p1.drop 15).take 5)) p2)))) 15 (F20 (F18 (F20 (F16 ((p0.drop 5).take 5) ((p0.drop 0).take 5)) (F16 ((p1.drop 5).take 5) ((p1.drop 0).take 5))) (F20 (F18 ((p0.drop 5).take 5) ((p0.drop 0).take 5)) (F18 ((p1.drop 5).take 5) ((p1.drop 0).take 5)))) (F16 (F20 (F16 ((p0.drop 5).take 5) ((p0.drop 0).take 5)) (F16 ((p1.drop 5).take 5) ((p1.drop 0).take 5))) (F20 (F18 ((p0.drop 5).take 5) ((p0.drop 0).take 5)) (F18 ((p1.drop 5).take 5) ((p1.drop 0).take 5)))))))])
    1344 (⟨tt,⟨tt,⟨⟨tt,trivial⟩,⟨tt,⟨tt,⟨⟨tt,trivial⟩,⟨tt,⟨tt,⟨⟨tt,trivial⟩,⟨tt,⟨tt,⟨⟨tt,trivial⟩,⟨⟨⟨⟨(by omega),(rfl)⟩,⟨⟨(by omega),(rfl)⟩,⟨⟨(by omega),(rfl)⟩,⟨⟨(by omega),(rfl)⟩,trivial⟩⟩⟩⟩,trivial⟩,⟨⟨⟨trivial,(rfl)⟩,trivial⟩,trivial⟩⟩⟩⟩⟩⟩⟩⟩⟩⟩⟩⟩⟩⟩) ?_
  refine Tri.ret ?_
  exact endP.ret [] TT (by kernel_rfl) (by kernel_rfl) (by kernel_rfl) tt
noncomputable def FT19l0 (p0:List Int) (p1:List Int) (k0:Nat) (z0:List Int):List Int :=
 (sel (((iAnd .u8 (iShr .u8 (p1.getD (((8 * p1.length) - 1 - k0) / 8) 0) ((((8 * p1.length) - 1 - k0) % 8:Nat):Int)) 1):Int) == 1) (FT38 (FT38 z0 z0 (F16 (FT37) (FT37))) p0 (F16 (FT37) (FT37))) (FT38 z0 z0 (F16 (FT37) (FT37))))
noncomputable def FT19 (p0:List Int) (p1:List Int):List Int :=
 (itr (FT19l0 p0 p1) (8 * p1.length) (splice (splice [0,0,0,0,0,0,0,0,0,0,0,0,0,0,0,0,0,0,0,0] 5 (F30 1)) 10 (F30 1)))
noncomputable def ST19:List AV→Option (Prop × Ret)
 | [.ints .u64 20 p0,.sc (.ro .u8 p1)] => some (p1.length≤1000000,⟨.ints .u64 20 (FT19 p0 p1),[]⟩)
 | _ => none
noncomputable def BT19:Bs:={ P:=Go.Proofs.Tryd.prog,G:=gD,tab:=tabOf [(35,⟨[.val],0,S30⟩),(37,⟨[],0,ST37⟩),(38,⟨[.val,.val,.val],0,ST38⟩),(39,⟨[.val,.val],0,S16⟩)],n:=42 }
theorem BT19.ok:BT19.Ok:=⟨tabOk (P:=Go.Proofs.Tryd.prog) (G:=gD) (l:=[(35,⟨[.val],0,S30⟩),(37,⟨[],0,ST37⟩),(38,⟨[.val,.val,.val],0,ST38⟩),(39,⟨[.val,.val],0,S16⟩)]) (And.intro K30 (And.intro KT37 (And.intro KT38 (And.intro K16 True.intro)))),mixed⟩
theorem KT19:Known Go.Proofs.Tryd.prog gD 19 ⟨[.val,.ro .u8],0,ST19⟩:=by
 refine Known.walk (B:=BT19) (fn:=Go.Proofs.Tryd.f19) BT19.ok (by kernel_rfl) rfl (by kernel_rfl) (by kernel_rfl) (by decide) ?_ ?_
 ·intro vs C r h
  simp only at h
  unfold ST19 at h
  split at h
  ·cases h; rfl
  ·cases h
 ·intro E args C r h hC hlen
  simp only at h
  unfold ST19 at h
  split at h
  rotate_left
  ·cases h
  rename_i p0 p1
  cases h
  simp only [lens] at hlen
  refine ⟨show 2≤42 from by decide,?_⟩
  refine Tri.sub (Sub.of_eq (show _=([(0,.ints .u64 20 p0),(1,qr p1)],[]) from rfl)) ?_
  refine sr [] none [4,2,1] [16,0] (TT∧(TT∧True))
    ([(4,qp 16 0),(2,qp 0 0),(1,qr p1)],[(16,.ints .u64 20 [0,0,0,0,0,0,0,0,0,0,0,0,0,0,0,0,0,0,0,0]),(0,.ints .u64 20 p0)])
    32 (⟨tt,⟨tt,trivial⟩⟩) ?_
  refine sr [] none [5,4,2,1] [48,16,0] ((TT∧True)∧(TT∧(((True∧(5=5))∧True)∧True)))
    ([(5,qp 48 0),(4,qp 16 0),(2,qp 0 0),(1,qr p1)],[(48,.ints .u64 5 (FT37)),(16,.ints .u64 20 [0,0,0,0,0,0,0,0,0,0,0,0,0,0,0,0,0,0,0,0]),(0,.ints .u64 20 p0)])
    80 (⟨⟨tt,trivial⟩,⟨tt,⟨⟨⟨trivial,(rfl)⟩,trivial⟩,trivial⟩⟩⟩) ?_
  refine sr [] none [5,4,2,1] [48,16,0] (TT∧(TT∧((TT∧True)∧(((True∧(5=5))∧True)∧True))))
    ([(5,qp 48 0),(4,qp 16 0),(2,qp 0 0),(1,qr p1)],[(48,.ints .u64 5 (F16 (FT37) (FT37))),(16,.ints .u64 20 [0,0,0,0,0,0,0,0,0,0,0,0,0,0,0,0,0,0,0,0]),(0,.ints .u64 20 p0)])
    144 (⟨tt,⟨tt,⟨⟨tt,trivial⟩,⟨⟨⟨trivial,(rfl)⟩,trivial⟩,trivial⟩⟩⟩⟩) ?_
  refine sr [] none [6,5,4,2,1] [192,48,16,0] ((TT∧True)∧((TT∧True)∧(((((5 + 5≤20)∧(5=5))∧(((10 + 5≤20)∧(5=5))∧True))∧True)∧(TT∧(((True∧(20=20))∧True)∧True)))))
    ([(6,qp 192 0),(5,qp 48 0),(4,qp 16 0),(2,qp 0 0),(1,qr p1)],[(192,.ints .u64 20 (splice (splice [0,0,0,0,0,0,0,0,0,0,0,0,0,0,0,0,0,0,0,0] 5 (F30 1)) 10 (F30 1))),(48,.ints .u64 5 (F16 (FT37) (FT37))),(16,.ints .u64 20 [0,0,0,0,0,0,0,0,0,0,0,0,0,0,0,0,0,0,0,0]),(0,.ints .u64 20 p0)])
    224 (⟨⟨tt,trivial⟩,⟨⟨tt,trivial⟩,⟨⟨⟨⟨(by omega),(rfl)⟩,⟨⟨(by omega),(rfl)⟩,trivial⟩⟩,trivial⟩,⟨tt,⟨⟨⟨trivial,(rfl)⟩,trivial⟩,trivial⟩⟩⟩⟩⟩) ?_
  refine Tri.seq ?_
  refine sr [(17,.i .i64 ((8 * p1.length:Nat):Int)),(18,.i .i64 (((8 * p1.length:Nat):Int) - 1 - ((0:Nat):Int)))] none [7,6,5,4,2,1] [192,48,16,0] (TT∧(TT∧((True∧((iMul .i64 8 (p1.length:Int))=((8 * p1.length:Nat):Int)))∧((True∧((iSub .i64 ((8 * p1.length:Nat):Int) 1)=(((8 * p1.length:Nat):Int) - 1 - ((0:Nat):Int))))∧(TT∧True)))))
    ([(7,qi (((8 * p1.length:Nat):Int) - 1 - ((0:Nat):Int))),(6,qp 192 0),(5,qp 48 0),(4,qp 16 0),(2,qp 0 0),(1,qr p1)],[(192,.ints .u64 20 (splice (splice [0,0,0,0,0,0,0,0,0,0,0,0,0,0,0,0,0,0,0,0] 5 (F30 1)) 10 (F30 1))),(48,.ints .u64 5 (F16 (FT37) (FT37))),(16,.ints .u64 20 [0,0,0,0,0,0,0,0,0,0,0,0,0,0,0,0,0,0,0,0]),(0,.ints .u64 20 p0)])
    304 (⟨tt,⟨tt,⟨⟨trivial,(iMul_nat (a:=8) (b:=p1.length) (by omega))⟩,⟨⟨trivial,(iSub_dn0 (by omega))⟩,⟨tt,trivial⟩⟩⟩⟩⟩) ?_
  refine Tri.block ?_
  refine Tri.count 304 (8 * p1.length) (FT19l0 p0 p1) (splice (splice [0,0,0,0,0,0,0,0,0,0,0,0,0,0,0,0,0,0,0,0] 5 (F30 1)) 10 (F30 1)) (fun k0 z0 => True) (fun k0 z0 => ([(7,qi (((8 * p1.length:Nat):Int) - 1 - (k0:Int))),(6,qp 192 0),(5,qp 48 0),(4,qp 16 0),(2,qp 0 0),(1,qr p1)],[(192,.ints .u64 20 z0),(48,.ints .u64 5 (F16 (FT37) (FT37))),(16,.ints .u64 20 [0,0,0,0,0,0,0,0,0,0,0,0,0,0,0,0,0,0,0,0]),(0,.ints .u64 20 p0)])) trivial (Sub.of_eq (by kernel_rfl)) ?_
  intro k0 z0 hk0 hz0 hJ0
  refine Tri.seq ?_
  refine sr [] none [20,7,6,5,4,2,1] [192,48,16,0] (TT∧(TT∧True))
    ([(20,.sc (.b (decide (((((8 * p1.length:Nat):Int) - 1 - (k0:Int)):Int) ≥ 0)))),(7,qi (((8 * p1.length:Nat):Int) - 1 - (k0:Int))),(6,qp 192 0),(5,qp 48 0),(4,qp 16 0),(2,qp 0 0),(1,qr p1)],[(192,.ints .u64 20 z0),(48,.ints .u64 5 (F16 (FT37) (FT37))),(16,.ints .u64 20 [0,0,0,0,0,0,0,0,0,0,0,0,0,0,0,0,0,0,0,0]),(0,.ints .u64 20 p0)])
    336 (⟨tt,⟨tt,trivial⟩⟩) ?_
  refine Tri.cond (x:=(decide (((((8 * p1.length:Nat):Int) - 1 - (k0:Int)):Int) ≥ 0))) (by kernel_rfl) (fun h1 => ?_) (fun h1 => ?_)
  ·
   have h1':=of_decide_eq_true h1
   refine Tri.skip ?_
   change Tri _ _ _ _ _ _
   refine Tri.seq ?_
   refine Tri.block ?_
   refine sr [] none [7,6,5,4,2,1] [192,48,16,0] (TT∧(TT∧(TT∧((TT∧True)∧(((True∧(20=20))∧True)∧True)))))
     ([(7,qi (((8 * p1.length:Nat):Int) - 1 - (k0:Int))),(6,qp 192 0),(5,qp 48 0),(4,qp 16 0),(2,qp 0 0),(1,qr p1)],[(192,.ints .u64 20 (FT38 z0 z0 (F16 (FT37) (FT37)))),(48,.ints .u64 5 (F16 (FT37) (FT37))),(16,.ints .u64 20 [0,0,0,0,0,0,0,0,0,0,0,0,0,0,0,0,0,0,0,0]),(0,.ints .u64 20 p0)])
     416 (⟨tt,⟨tt,⟨tt,⟨⟨tt,trivial⟩,⟨⟨⟨trivial,(rfl)⟩,trivial⟩,trivial⟩⟩⟩⟩⟩) ?_
   refine sr [(29,.i .i64 ((((8 * p1.length) - 1 - k0) / 8:Nat):Int)),(33,.i .i64 ((((8 * p1.length) - 1 - k0) % 8:Nat):Int))] none [36,7,6,5,4,2,1] [192,48,16,0] (TT∧(TT∧(((8 ≠ (0:Int))∧((iQuo .i64 (((8 * p1.length:Nat):Int) - 1 - (k0:Int)) 8)=((((8 * p1.length) - 1 - k0) / 8:Nat):Int)))∧((((0:Int)≤((((8 * p1.length) - 1 - k0) / 8:Nat):Int)∧((((8 * p1.length) - 1 - k0) / 8:Nat):Int) < (p1.length:Int))∧True)∧(((((8 * p1.length) - 1 - k0) / 8 < p1.length)∧True)∧(TT∧(((8 ≠ (0:Int))∧((iRem (((8 * p1.length:Nat):Int) - 1 - (k0:Int)) 8)=((((8 * p1.length) - 1 - k0) % 8:Nat):Int)))∧((((0:Int)≤((((8 * p1.length) - 1 - k0) % 8:Nat):Int))∧True)∧(TT∧(TT∧True))))))))))
     ([(36,.sc (.b (((iAnd .u8 (iShr .u8 (p1.getD (((8 * p1.length) - 1 - k0) / 8) 0) ((((8 * p1.length) - 1 - k0) % 8:Nat):Int)) 1):Int) == 1))),(7,qi (((8 * p1.length:Nat):Int) - 1 - (k0:Int))),(6,qp 192 0),(5,qp 48 0),(4,qp 16 0),(2,qp 0 0),(1,qr p1)],[(192,.ints .u64 20 (FT38 z0 z0 (F16 (FT37) (FT37)))),(48,.ints .u64 5 (F16 (FT37) (FT37))),(16,.ints .u64 20 [0,0,0,0,0,0,0,0,0,0,0,0,0,0,0,0,0,0,0,0]),(0,.ints .u64 20 p0)])
     576 (⟨tt,⟨tt,⟨⟨(by omega),(by rw [dn_nat (by omega)]; exact iQuo_nat (b:=8) (by omega))⟩,⟨⟨(by omega),trivial⟩,⟨⟨(by omega),trivial⟩,⟨tt,⟨⟨(by omega),(by rw [dn_nat (by omega)]; exact iRem_nat (b:=8))⟩,⟨⟨(by omega),trivial⟩,⟨tt,⟨tt,trivial⟩⟩⟩⟩⟩⟩⟩⟩⟩⟩) ?_
   refine Tri.join (x:=(((iAnd .u8 (iShr .u8 (p1.getD (((8 * p1.length) - 1 - k0) / 8) 0) ((((8 * p1.length) - 1 - k0) % 8:Nat):Int)) 1):Int) == 1)) (fun bb => ([(7,qi (((8 * p1.length:Nat):Int) - 1 - (k0:Int))),(6,qp 192 0),(5,qp 48 0),(4,qp 16 0),(2,qp 0 0),(1,qr p1)],[(192,.ints .u64 20 (sel bb (FT38 (FT38 z0 z0 (F16 (FT37) (FT37))) p0 (F16 (FT37) (FT37))) (FT38 z0 z0 (F16 (FT37) (FT37))))),(48,.ints .u64 5 (F16 (FT37) (FT37))),(16,.ints .u64 20 [0,0,0,0,0,0,0,0,0,0,0,0,0,0,0,0,0,0,0,0]),(0,.ints .u64 20 p0)])) 656 (by kernel_rfl) (fun h2 => ?_) (fun h2 => ?_) ?_
   ·
    have h2':=eq_true_i h2
    refine rr [] none [7,6,5,4,2,1] [192,48,16,0] (TT∧(TT∧(TT∧((TT∧True)∧(((True∧(20=20))∧True)∧True)))))
      ([(7,qi (((8 * p1.length:Nat):Int) - 1 - (k0:Int))),(6,qp 192 0),(5,qp 48 0),(4,qp 16 0),(2,qp 0 0),(1,qr p1)],[(192,.ints .u64 20 (FT38 (FT38 z0 z0 (F16 (FT37) (FT37))) p0 (F16 (FT37) (FT37)))),(48,.ints .u64 5 (F16 (FT37) (FT37))),(16,.ints .u64 20 [0,0,0,0,0,0,0,0,0,0,0,0,0,0,0,0,0,0,0,0]),(0,.ints .u64 20 p0)])
      656 (⟨tt,⟨tt,⟨tt,⟨⟨tt,trivial⟩,⟨⟨⟨trivial,(rfl)⟩,trivial⟩,trivial⟩⟩⟩⟩⟩) ?_
    exact (Sub.ren (ns:=[(192,192),(48,48),(16,16),(0,0)]) (kf:=[7,6,5,4,2,1]) (s':=([(7,qi (((8 * p1.length:Nat):Int) - 1 - (k0:Int))),(6,qp 192 0),(5,qp 48 0),(4,qp 16 0),(2,qp 0 0),(1,qr p1)],[(192,.ints .u64 20 (FT38 (FT38 z0 z0 (F16 (FT37) (FT37))) p0 (F16 (FT37) (FT37)))),(48,.ints .u64 5 (F16 (FT37) (FT37))),(16,.ints .u64 20 [0,0,0,0,0,0,0,0,0,0,0,0,0,0,0,0,0,0,0,0]),(0,.ints .u64 20 p0)])) (by kernel_rfl) (by kernel_rfl)).trans (Sub.of_eq (by simp only [sel_true,sel_false]))
   ·
    have h2':=eq_false_i h2
    refine Tri.skip ?_
    exact (Sub.ren (ns:=[(192,192),(48,48),(16,16),(0,0)]) (kf:=[7,6,5,4,2,1]) (s':=([(7,qi (((8 * p1.length:Nat):Int) - 1 - (k0:Int))),(6,qp 192 0),(5,qp 48 0),(4,qp 16 0),(2,qp 0 0),(1,qr p1)],[(192,.ints .u64 20 (FT38 z0 z0 (F16 (FT37) (FT37)))),(48,.ints .u64 5 (F16 (FT37) (FT37))),(16,.ints .u64 20 [0,0,0,0,0,0,0,0,0,0,0,0,0,0,0,0,0,0,0,0]),(0,.ints .u64 20 p0)])) (by kernel_rfl) (by kernel_rfl)).trans (Sub.of_eq (by simp only [sel_true,sel_false]))
   ·
    change Tri _ _ _ _ _ _
    refine rr [(22,.i .i64 (((8 * p1.length:Nat):Int) - 1 - ((k0 + 1:Nat):Int)))] none [7,6,5,4,2,1] [192,48,16,0] (TT∧((True∧((iSub .i64 (((8 * p1.length:Nat):Int) - 1 - (k0:Int)) 1)=(((8 * p1.length:Nat):Int) - 1 - ((k0 + 1:Nat):Int))))∧(TT∧True)))
      ([(7,qi (((8 * p1.length:Nat):Int) - 1 - ((k0 + 1:Nat):Int))),(6,qp 192 0),(5,qp 48 0),(4,qp 16 0),(2,qp 0 0),(1,qr p1)],[(192,.ints .u64 20 (sel (((iAnd .u8 (iShr .u8 (p1.getD (((8 * p1.length) - 1 - k0) / 8) 0) ((((8 * p1.length) - 1 - k0) % 8:Nat):Int)) 1):Int) == 1) (FT38 (FT38 z0 z0 (F16 (FT37) (FT37))) p0 (F16 (FT37) (FT37))) (FT38 z0 z0 (F16 (FT37) (FT37))))),(48,.ints .u64 5 (F16 (FT37) (FT37))),(16,.ints .u64 20 [0,0,0,0,0,0,0,0,0,0,0,0,0,0,0,0,0,0,0,0]),(0,.ints .u64 20 p0)])
      704 (⟨tt,⟨⟨trivial,(iSub_dn (by omega) (by omega))⟩,⟨tt,trivial⟩⟩⟩) ?_
    repeat (refine blkP_normal ?_)
    refine countP_normal (by omega) trivial ?_
    exact Sub.ren (ns:=[(192,192),(48,48),(16,16),(0,0)]) (kf:=[7,6,5,4,2,1]) (by kernel_rfl) (by kernel_rfl)
  ·
   have h1':=of_decide_eq_false h1
   refine Tri.exit ?_
   have hend0:k0=(8 * p1.length):=by (have:=of_decide_eq_false h1; omega)
   subst hend0; subst hz0
   change Tri _ _ _ _ _ _
   refine sr [] none [4] [16] (TT∧(((True∧(20=20))∧True)∧True))
     ([(4,qp 16 0)],[(16,.ints .u64 20 (itr (FT19l0 p0 p1) (8 * p1.length) (splice (splice [0,0,0,0,0,0,0,0,0,0,0,0,0,0,0,0,0,0,0,0] 5 (F30 1)) 10 (F30 1))))])
     368 (⟨tt,⟨⟨⟨trivial,(rfl)⟩,trivial⟩,trivial⟩⟩) ?_
   refine Tri.ret ?_
   exact endP.ret [] TT (by kernel_rfl) (by kernel_rfl) (by kernel_rfl) tt
noncomputable def FT18:List Int :=
 (FT33 (part1 (F33 (FT48 4 5)) 32 0 32))
noncomputable def ST18:List AV→Option (Prop × Ret)
 | [] => some (True,⟨.ints .u64 20 (FT18),[]⟩)
 | _ => none
noncomputable def BT18:Bs:={ P:=Go.Proofs.Tryd.prog,G:=gD,tab:=tabOf [(33,⟨[.ro .u8],0,ST33⟩),(48,⟨[.val,.val],0,ST48⟩),(49,⟨[.val],0,S33⟩)],n:=12 }
theorem BT18.ok:BT18.Ok:=⟨tabOk (P:=Go.Proofs.Tryd.prog) (G:=gD) (l:=[(33,⟨[.ro .u8],0,ST33⟩),(48,⟨[.val,.val],0,ST48⟩),(49,⟨[.val],0,S33⟩)]) (And.intro KT33 (And.intro KT48 (And.intro K33 True.intro))),mixed⟩
theorem KT18:Known Go.Proofs.Tryd.prog gD 18 ⟨[],0,ST18⟩:=by
 refine Known.walk (B:=BT18) (fn:=Go.Proofs.Tryd.f18) BT18.ok (by kernel_rfl) rfl (by kernel_rfl) (by kernel_rfl) (by decide) ?_ ?_
 ·intro vs C r h
  simp only at h
  unfold ST18 at h
  split at h
  ·cases h; rfl
  ·cases h
 ·intro E args C r h hC hlen
  simp only at h
  unfold ST18 at h
  split at h
  rotate_left
  ·cases h
  skip
  cases h
  simp only [lens] at hlen
  refine ⟨show 0≤12 from by decide,?_⟩
  refine Tri.sub (Sub.of_eq (show _=([],[]) from rfl)) ?_
  refine sr [] none [0] [0] (TT∧True)
    ([(0,qp 0 0)],[(0,.ints .u64 20 [0,0,0,0,0,0,0,0,0,0,0,0,0,0,0,0,0,0,0,0])])
    16 (⟨tt,trivial⟩) ?_
  refine sr [] none [1,0] [48,0] ((TT∧True)∧((TT∧True)∧(TT∧(((True∧(32=32))∧True)∧True))))
    ([(1,qp 48 0),(0,qp 0 0)],[(48,.ints .u8 32 (F33 (FT48 4 5))),(0,.ints .u64 20 [0,0,0,0,0,0,0,0,0,0,0,0,0,0,0,0,0,0,0,0])])
    80 (⟨⟨tt,trivial⟩,⟨⟨tt,trivial⟩,⟨tt,⟨⟨⟨trivial,(rfl)⟩,trivial⟩,trivial⟩⟩⟩⟩) ?_
  refine Tri.len 48 rfl (fun hl1 => ?_)
  refine sr [] none [2,0] [160,0] (((((0:Int)≤0∧(0:Int)≤32∧32≤((32:Nat):Int))∧(32≤32))∧True)∧(((((0 + 32≤32)∧True)∧True)∧True)∧(TT∧(TT∧(TT∧(TT∧(((True∧(20=20))∧True)∧(TT∧True))))))))
    ([(2,qp 160 0),(0,qp 0 0)],[(160,.ints .u64 20 (FT33 (part1 (F33 (FT48 4 5)) 32 0 32))),(0,.ints .u64 20 [0,0,0,0,0,0,0,0,0,0,0,0,0,0,0,0,0,0,0,0])])
    208 (⟨⟨⟨(by omega),(by omega)⟩,trivial⟩,⟨⟨⟨⟨(by omega),trivial⟩,trivial⟩,trivial⟩,⟨tt,⟨tt,⟨tt,⟨tt,⟨⟨⟨trivial,(rfl)⟩,trivial⟩,⟨tt,trivial⟩⟩⟩⟩⟩⟩⟩⟩) ?_
  refine Tri.len 160 rfl (fun hl2 => ?_)
  refine sr [] none [0] [0] (TT∧(((True∧(20=20))∧True)∧True))
    ([(0,qp 0 0)],[(0,.ints .u64 20 (FT33 (part1 (F33 (FT48 4 5)) 32 0 32)))])
    240 (⟨tt,⟨⟨⟨trivial,(rfl)⟩,trivial⟩,trivial⟩⟩) ?_
  refine Tri.ret ?_
  exact endP.ret [] TT (by kernel_rfl) (by kernel_rfl) (by kernel_rfl) tt
theorem sub64b_01 (x y c:Int):0≤sub64b x y c∧sub64b x y c≤1:=by unfold sub64b; split <;> omega
theorem sub64_rng (x y c:Int):0≤sub64 x y c∧sub64 x y c < 18446744073709551616:=mod64 _
theorem add64c_01 {x y c:Int} (hx:0≤x∧x < 18446744073709551616) (hy:0≤y∧y < 18446744073709551616) (hc:0≤c∧c≤1):0≤add64c x y c∧add64c x y c≤1:=by unfold add64c; omega
theorem rng_order:rng gOrder:=rng_of_all (by decide)
theorem rng_order4:rng ((gOrder.drop 0).take 4):=rng_order
noncomputable def FT34l0 (p0:List Int) (p1:List Int) (k0:Nat) (z0:Int):Int :=
 (sub64b (p0.getD k0 0) (p1.getD k0 0) z0)
noncomputable def FT34 (p0:List Int) (p1:List Int):Bool :=
 (((itr (FT34l0 p0 p1) 4 0):Int) == 1)
noncomputable def ST34:List AV→Option (Prop × Ret)
 | [.ints .u64 4 p0,.ints .u64 4 p1] => some (rng p0∧rng p1,⟨.sc (.b (FT34 p0 p1)),[]⟩)
 | _ => none
noncomputable def BT34:Bs:={ P:=Go.Proofs.Tryd.prog,G:=gD,tab:=tabOf [(64,⟨[.val,.val,.val],0,specSub64⟩)],n:=24 }
theorem BT34.ok:BT34.Ok:=⟨tabOk (P:=Go.Proofs.Tryd.prog) (G:=gD) (l:=[(64,⟨[.val,.val,.val],0,specSub64⟩)]) (And.intro KS64 True.intro),mixed⟩
theorem KT34:Known Go.Proofs.Tryd.prog gD 34 ⟨[.val,.val],0,ST34⟩:=by
 refine Known.walk (B:=BT34) (fn:=Go.Proofs.Tryd.f34) BT34.ok (by kernel_rfl) rfl (by kernel_rfl) (by kernel_rfl) (by decide) ?_ ?_
 ·intro vs C r h
  simp only at h
  unfold ST34 at h
  split at h
  ·cases h; rfl
  ·cases h
 ·intro E args C r h hC hlen
  simp only at h
  unfold ST34 at h
  split at h
  rotate_left
  ·cases h
  rename_i p0 p1
  cases h
  simp only [lens] at hlen
  have hf1:=hC.1
  have hf2:=hC.2
  refine ⟨show 2≤24 from by decide,?_⟩
  refine Tri.sub (Sub.of_eq (show _=([(0,.ints .u64 4 p0),(1,.ints .u64 4 p1)],[]) from rfl)) ?_
  refine sr [] none [3,2] [16,0] (TT∧(TT∧(TT∧True)))
    ([(3,qp 16 0),(2,qp 0 0)],[(16,.ints .u64 4 p1),(0,.ints .u64 4 p0)])
    48 (⟨tt,⟨tt,⟨tt,trivial⟩⟩⟩) ?_
  refine sr [] none [5,3,2] [16,0] (TT∧True)
    ([(5,.sc (.i .u64 0)),(3,qp 16 0),(2,qp 0 0)],[(16,.ints .u64 4 p1),(0,.ints .u64 4 p0)])
    64 (⟨tt,trivial⟩) ?_
  refine Tri.seq ?_
  refine sr [] none [7,5,3,2] [16,0] (TT∧True)
    ([(7,qi 0),(5,.sc (.i .u64 0)),(3,qp 16 0),(2,qp 0 0)],[(16,.ints .u64 4 p1),(0,.ints .u64 4 p0)])
    80 (⟨tt,trivial⟩) ?_
  refine Tri.block ?_
  refine Tri.count 80 4 (FT34l0 p0 p1) 0 (fun k0 z0 => 0≤z0∧z0≤1) (fun k0 z0 => ([(7,qi (k0:Int)),(5,.sc (.i .u64 z0)),(3,qp 16 0),(2,qp 0 0)],[(16,.ints .u64 4 p1),(0,.ints .u64 4 p0)])) (by omega) (Sub.of_eq (by kernel_rfl)) ?_
  intro k0 z0 hk0 hz0 hJ0
  refine sr [] none [8,7,5,3,2] [16,0] (TT∧True)
    ([(8,.sc (.b (decide (((k0:Int):Int) < 4)))),(7,qi (k0:Int)),(5,.sc (.i .u64 z0)),(3,qp 16 0),(2,qp 0 0)],[(16,.ints .u64 4 p1),(0,.ints .u64 4 p0)])
    96 (⟨tt,trivial⟩) ?_
  refine Tri.seq ?_
  refine Tri.cond (x:=(decide (((k0:Int):Int) < 4))) (by kernel_rfl) (fun h1 => ?_) (fun h1 => ?_)
  ·
   have h1':=of_decide_eq_true h1
   refine Tri.skip ?_
   change Tri _ _ _ _ _ _
   refine Tri.seq ?_
   refine Tri.block ?_
   refine sr [] none [6,7,5,3,2] [16,0] (TT∧(TT∧True))
     ([(6,qi (k0:Int)),(7,qi (k0:Int)),(5,.sc (.i .u64 z0)),(3,qp 16 0),(2,qp 0 0)],[(16,.ints .u64 4 p1),(0,.ints .u64 4 p0)])
     128 (⟨tt,⟨tt,trivial⟩⟩) ?_
   refine rr [] (some [0,1,3,0,8,24,0,127,255,511,511,2047]) [5,7,3,2] [16,0] (TT∧((((0:Int)≤(k0:Int)∧(k0:Int) < ((4:Nat):Int))∧True)∧(((k0 < 4)∧True)∧(TT∧((((0:Int)≤(k0:Int)∧(k0:Int) < ((4:Nat):Int))∧True)∧(((k0 < 4)∧True)∧(TT∧(((True∧(((0:Int)≤(p0.getD k0 0)∧((p0.getD k0 0):Int) < 18446744073709551616)∧((0:Int)≤(p1.getD k0 0)∧((p1.getD k0 0):Int) < 18446744073709551616)∧(0:Int)≤z0∧(z0:Int)≤1))∧True)∧(TT∧(TT∧(TT∧(TT∧True))))))))))))
     ([(5,.sc (.i .u64 (sub64b (p0.getD k0 0) (p1.getD k0 0) z0))),(7,qi (k0:Int)),(3,qp 16 0),(2,qp 0 0)],[(16,.ints .u64 4 p1),(0,.ints .u64 4 p0)])
     320 (⟨tt,⟨⟨(by omega),trivial⟩,⟨⟨(by omega),trivial⟩,⟨tt,⟨⟨(by omega),trivial⟩,⟨⟨(by omega),trivial⟩,⟨tt,⟨⟨⟨trivial,(⟨hf1 k0,hf2 k0,hJ0.1,hJ0.2⟩)⟩,trivial⟩,⟨tt,⟨tt,⟨tt,⟨tt,trivial⟩⟩⟩⟩⟩⟩⟩⟩⟩⟩⟩⟩) ?_
   change Tri _ _ _ _ _ _
   refine rr [(21,.i .i64 ((k0 + 1:Nat):Int))] none [7,5,3,2] [16,0] ((True∧((iAdd .i64 (k0:Int) 1)=((k0 + 1:Nat):Int)))∧(TT∧True))
     ([(7,qi ((k0 + 1:Nat):Int)),(5,.sc (.i .u64 (sub64b (p0.getD k0 0) (p1.getD k0 0) z0))),(3,qp 16 0),(2,qp 0 0)],[(16,.ints .u64 4 p1),(0,.ints .u64 4 p0)])
     352 (⟨⟨trivial,(iAdd_nat (a:=k0) (b:=1) (by omega))⟩,⟨tt,trivial⟩⟩) ?_
   repeat (refine blkP_normal ?_)
   refine countP_normal (by omega) (sub64b_01 _ _ _) ?_
   exact Sub.ren (ns:=[(16,16),(0,0)]) (kf:=[7,5,3,2]) (by kernel_rfl) (by kernel_rfl)
  ·
   have h1':=of_decide_eq_false h1
   refine Tri.exit ?_
   have hend0:k0=4:=by (have:=of_decide_eq_false h1; omega)
   subst hend0; subst hz0
   change Tri _ _ _ _ _ _
   refine sr [] none [4] [] (TT∧(TT∧(TT∧True)))
     ([(4,.sc (.b (((itr (FT34l0 p0 p1) 4 0):Int) == 1)))],[])
     144 (⟨tt,⟨tt,⟨tt,trivial⟩⟩⟩) ?_
   refine Tri.ret ?_
   exact endP.ret [] TT (by kernel_rfl) (by kernel_rfl) (by kernel_rfl) tt
noncomputable def FT53l0 (k0:Nat) (z0:Int × List Int):Int × List Int :=
 ((iShr .u64 (z0.2.getD k0 0) 63),z0.2.set k0 (iOr .u64 (iShl .u64 (z0.2.getD k0 0) 1) z0.1))
noncomputable def FT53l1 (k1:Nat) (z1:Int × List Int):Int × List Int :=
 ((sub64b (z1.2.getD k1 0) (gOrder.getD (0 + k1) 0) z1.1),z1.2.set k1 (sub64 (z1.2.getD k1 0) (gOrder.getD (0 + k1) 0) z1.1))
noncomputable def FT53 (p0:List Int) (p1:Int):List Int :=
 (sel (!(FT34 ((itr (FT53l0) 4 (p1,p0)).2) ((gOrder.drop 0).take 4))) ((itr (FT53l1) 4 (0,(itr (FT53l0) 4 (p1,p0)).2)).2) ((itr (FT53l0) 4 (p1,p0)).2))
noncomputable def ST53:List AV→Option (Prop × Ret)
 | [.ints .u64 4 p0,.sc (.i .u64 p1)] => some (rng p0,⟨.ints .u64 4 (FT53 p0 p1),[]⟩)
 | _ => none
noncomputable def BT53:Bs:={ P:=Go.Proofs.Tryd.prog,G:=gD,tab:=tabOf [(34,⟨[.val,.val],0,ST34⟩),(64,⟨[.val,.val,.val],0,specSub64⟩)],n:=46 }
theorem BT53.ok:BT53.Ok:=⟨tabOk (P:=Go.Proofs.Tryd.prog) (G:=gD) (l:=[(34,⟨[.val,.val],0,ST34⟩),(64,⟨[.val,.val,.val],0,specSub64⟩)]) (And.intro KT34 (And.intro KS64 True.intro)),mixed⟩
theorem KT53:Known Go.Proofs.Tryd.prog gD 53 ⟨[.val,.val],0,ST53⟩:=by
 refine Known.walk (B:=BT53) (fn:=Go.Proofs.Tryd.f53) BT53.ok (by kernel_rfl) rfl (by kernel_rfl) (by kernel_rfl) (by decide) ?_ ?_
 ·intro vs C r h
  simp only at h
  unfold ST53 at h
  split at h
  ·cases h; rfl
  ·cases h
 ·intro E args C r h hC hlen
  simp only at h
  unfold ST53 at h
  split at h
  rotate_left
  ·cases h
  rename_i p0 p1
  cases h
  simp only [lens] at hlen
  have hg:gOrder.length=4:=rfl
  refine ⟨show 2≤46 from by decide,?_⟩
  refine Tri.sub (Sub.of_eq (show _=([(0,.ints .u64 4 p0),(1,.sc (.i .u64 p1))],[]) from rfl)) ?_
  refine sr [] none [4,2,1] [16,0] (TT∧(TT∧True))
    ([(4,qp 16 0),(2,qp 0 0),(1,.sc (.i .u64 p1))],[(16,.ints .u64 4 [0,0,0,0]),(0,.ints .u64 4 p0)])
    32 (⟨tt,⟨tt,trivial⟩⟩) ?_
  refine Tri.seq ?_
  refine sr [] none [8,4,2,1] [16,0] (TT∧True)
    ([(8,qi 0),(4,qp 16 0),(2,qp 0 0),(1,.sc (.i .u64 p1))],[(16,.ints .u64 4 [0,0,0,0]),(0,.ints .u64 4 p0)])
    48 (⟨tt,trivial⟩) ?_
  refine Tri.block ?_
  refine Tri.count 48 4 (FT53l0) (p1,p0) (fun k0 z0 => rng z0.2) (fun k0 z0 => ([(8,qi (k0:Int)),(4,qp 16 0),(2,qp 0 0),(1,.sc (.i .u64 z0.1))],[(16,.ints .u64 4 [0,0,0,0]),(0,.ints .u64 4 z0.2)])) hC (Sub.of_eq (by kernel_rfl)) ?_
  intro k0 z0 hk0 hz0 hJ0
  refine sr [] none [9,8,4,2,1] [16,0] (TT∧True)
    ([(9,.sc (.b (decide (((k0:Int):Int) < 4)))),(8,qi (k0:Int)),(4,qp 16 0),(2,qp 0 0),(1,.sc (.i .u64 z0.1))],[(16,.ints .u64 4 [0,0,0,0]),(0,.ints .u64 4 z0.2)])
    64 (⟨tt,trivial⟩) ?_
  refine Tri.seq ?_
  refine Tri.cond (x:=(decide (((k0:Int):Int) < 4))) (by kernel_rfl) (fun h1 => ?_) (fun h1 => ?_)
  ·
   have h1':=of_decide_eq_true h1
   refine Tri.skip ?_
   change Tri _ _ _ _ _ _
   refine Tri.seq ?_
   refine Tri.block ?_
   refine sr [] none [5,8,4,2,1] [16,0] (TT∧(TT∧True))
     ([(5,qi (k0:Int)),(8,qi (k0:Int)),(4,qp 16 0),(2,qp 0 0),(1,.sc (.i .u64 z0.1))],[(16,.ints .u64 4 [0,0,0,0]),(0,.ints .u64 4 z0.2)])
     96 (⟨tt,⟨tt,trivial⟩⟩) ?_
   refine rr [] (some [0,0,2,6,14,0,62,0,128,384,896,1023,3071,8191]) [1,8,4,2] [0,16] (TT∧(TT∧((((0:Int)≤(k0:Int)∧(k0:Int) < ((4:Nat):Int))∧True)∧(((k0 < 4)∧True)∧((((0:Int)≤1)∧True)∧(TT∧(TT∧(TT∧((((0:Int)≤(k0:Int)∧(k0:Int) < ((4:Nat):Int))∧True)∧(((k0 < 4)∧True)∧((((0:Int)≤63)∧True)∧((((0:Int)≤(k0:Int)∧(k0:Int) < ((4:Nat):Int))∧True)∧((((k0 < 4)∧(1=1))∧True)∧(TT∧True))))))))))))))
     ([(1,.sc (.i .u64 (iShr .u64 (z0.2.getD k0 0) 63))),(8,qi (k0:Int)),(4,qp 16 0),(2,qp 0 0)],[(0,.ints .u64 4 (z0.2.set k0 (iOr .u64 (iShl .u64 (z0.2.getD k0 0) 1) z0.1))),(16,.ints .u64 4 [0,0,0,0])])
     320 (⟨tt,⟨tt,⟨⟨(by omega),trivial⟩,⟨⟨(by omega),trivial⟩,⟨⟨(by omega),trivial⟩,⟨tt,⟨tt,⟨tt,⟨⟨(by omega),trivial⟩,⟨⟨(by omega),trivial⟩,⟨⟨(by omega),trivial⟩,⟨⟨(by omega),trivial⟩,⟨⟨⟨(by omega),(rfl)⟩,trivial⟩,⟨tt,trivial⟩⟩⟩⟩⟩⟩⟩⟩⟩⟩⟩⟩⟩⟩) ?_
   change Tri _ _ _ _ _ _
   refine rr [(23,.i .i64 ((k0 + 1:Nat):Int))] none [8,1,4,2] [0,16] ((True∧((iAdd .i64 (k0:Int) 1)=((k0 + 1:Nat):Int)))∧(TT∧True))
     ([(8,qi ((k0 + 1:Nat):Int)),(1,.sc (.i .u64 (iShr .u64 (z0.2.getD k0 0) 63))),(4,qp 16 0),(2,qp 0 0)],[(0,.ints .u64 4 (z0.2.set k0 (iOr .u64 (iShl .u64 (z0.2.getD k0 0) 1) z0.1))),(16,.ints .u64 4 [0,0,0,0])])
     352 (⟨⟨trivial,(iAdd_nat (a:=k0) (b:=1) (by omega))⟩,⟨tt,trivial⟩⟩) ?_
   repeat (refine blkP_normal ?_)
   refine countP_normal (by omega) (show rng (List.set _ _ _) from rng_set hJ0 (wrap64_rng _)) ?_
   exact Sub.ren (ns:=[(16,16),(0,0)]) (kf:=[8,4,2,1]) (by kernel_rfl) (by kernel_rfl)
  ·
   have h1':=of_decide_eq_false h1
   refine Tri.exit ?_
   have hend0:k0=4:=by (have:=of_decide_eq_false h1; omega)
   subst hend0; subst hz0
   change Tri _ _ _ _ _ _
   refine Tri.seq ?_
   refine sr [] none [27,4,2] [16,0] (TT∧(((0 + 4≤gOrder.length)∧True)∧(((True∧(rng ((itr (FT53l0) 4 (p1,p0)).2)∧rng ((gOrder.drop 0).take 4)))∧True)∧(TT∧True))))
     ([(27,.sc (.b (!(FT34 ((itr (FT53l0) 4 (p1,p0)).2) ((gOrder.drop 0).take 4))))),(4,qp 16 0),(2,qp 0 0)],[(16,.ints .u64 4 [0,0,0,0]),(0,.ints .u64 4 ((itr (FT53l0) 4 (p1,p0)).2))])
     128 (⟨tt,⟨⟨(by omega),trivial⟩,⟨⟨⟨trivial,(⟨hJ0,rng_order4⟩)⟩,trivial⟩,⟨tt,trivial⟩⟩⟩⟩) ?_
   refine Tri.join (x:=(!(FT34 ((itr (FT53l0) 4 (p1,p0)).2) ((gOrder.drop 0).take 4)))) (fun bb => ([(4,qp 16 0),(2,qp 0 0)],[(16,.ints .u64 4 [0,0,0,0]),(0,.ints .u64 4 (sel bb ((itr (FT53l1) 4 (0,(itr (FT53l0) 4 (p1,p0)).2)).2) ((itr (FT53l0) 4 (p1,p0)).2)))])) 176 (by kernel_rfl) (fun h2 => ?_) (fun h2 => ?_) ?_
   ·
    refine sr [] none [6,4,2] [16,0] (TT∧True)
      ([(6,.sc (.i .u64 0)),(4,qp 16 0),(2,qp 0 0)],[(16,.ints .u64 4 [0,0,0,0]),(0,.ints .u64 4 ((itr (FT53l0) 4 (p1,p0)).2))])
      144 (⟨tt,trivial⟩) ?_
    refine sr [] none [28,6,4,2] [16,0] (TT∧True)
      ([(28,qi 0),(6,.sc (.i .u64 0)),(4,qp 16 0),(2,qp 0 0)],[(16,.ints .u64 4 [0,0,0,0]),(0,.ints .u64 4 ((itr (FT53l0) 4 (p1,p0)).2))])
      160 (⟨tt,trivial⟩) ?_
    refine Tri.block ?_
    refine Tri.count 160 4 (FT53l1) (0,(itr (FT53l0) 4 (p1,p0)).2) (fun k1 z1 => rng z1.2∧0≤z1.1∧z1.1≤1) (fun k1 z1 => ([(28,qi (k1:Int)),(6,.sc (.i .u64 z1.1)),(4,qp 16 0),(2,qp 0 0)],[(16,.ints .u64 4 [0,0,0,0]),(0,.ints .u64 4 z1.2)])) (⟨hJ0,Int.le_refl 0,(show (0:Int)≤1 by decide)⟩) (Sub.of_eq (by kernel_rfl)) ?_
    intro k1 z1 hk1 hz1 hJ1
    refine sr [] none [29,28,6,4,2] [16,0] (TT∧True)
      ([(29,.sc (.b (decide (((k1:Int):Int) < 4)))),(28,qi (k1:Int)),(6,.sc (.i .u64 z1.1)),(4,qp 16 0),(2,qp 0 0)],[(16,.ints .u64 4 [0,0,0,0]),(0,.ints .u64 4 z1.2)])
      176 (⟨tt,trivial⟩) ?_
    refine Tri.seq ?_
    refine Tri.cond (x:=(decide (((k1:Int):Int) < 4))) (by kernel_rfl) (fun h3 => ?_) (fun h3 => ?_)
    ·
     have h3':=of_decide_eq_true h3
     refine Tri.skip ?_
     change Tri _ _ _ _ _ _
     refine Tri.seq ?_
     refine Tri.block ?_
     refine sr [] none [7,28,6,4,2] [16,0] (TT∧(TT∧True))
       ([(7,qi (k1:Int)),(28,qi (k1:Int)),(6,.sc (.i .u64 z1.1)),(4,qp 16 0),(2,qp 0 0)],[(16,.ints .u64 4 [0,0,0,0]),(0,.ints .u64 4 z1.2)])
       208 (⟨tt,⟨tt,trivial⟩⟩) ?_
     refine rr [] (some [0,0,2,6,0,16,48,0,254,510,1022,1022,2047,6143,16383]) [6,28,4,2] [0,16] (TT∧(TT∧((((0:Int)≤(k1:Int)∧(k1:Int) < ((4:Nat):Int))∧True)∧(((k1 < 4)∧True)∧(TT∧((((0:Int)≤(k1:Int)∧(k1:Int) < ((4:Nat):Int))∧True)∧(((0 + k1 < gOrder.length)∧True)∧(TT∧(((True∧(((0:Int)≤(z1.2.getD k1 0)∧((z1.2.getD k1 0):Int) < 18446744073709551616)∧((0:Int)≤(gOrder.getD (0 + k1) 0)∧((gOrder.getD (0 + k1) 0):Int) < 18446744073709551616)∧(0:Int)≤z1.1∧(z1.1:Int)≤1))∧True)∧(TT∧(TT∧(TT∧((((0:Int)≤(k1:Int)∧(k1:Int) < ((4:Nat):Int))∧True)∧((((k1 < 4)∧(1=1))∧True)∧(TT∧True)))))))))))))))
       ([(6,.sc (.i .u64 (sub64b (z1.2.getD k1 0) (gOrder.getD (0 + k1) 0) z1.1))),(28,qi (k1:Int)),(4,qp 16 0),(2,qp 0 0)],[(0,.ints .u64 4 (z1.2.set k1 (sub64 (z1.2.getD k1 0) (gOrder.getD (0 + k1) 0) z1.1))),(16,.ints .u64 4 [0,0,0,0])])
       448 (⟨tt,⟨tt,⟨⟨(by omega),trivial⟩,⟨⟨(by omega),trivial⟩,⟨tt,⟨⟨(by omega),trivial⟩,⟨⟨(by omega),trivial⟩,⟨tt,⟨⟨⟨trivial,(⟨hJ1.1 _,rng_order _,hJ1.2⟩)⟩,trivial⟩,⟨tt,⟨tt,⟨tt,⟨⟨(by omega),trivial⟩,⟨⟨⟨(by omega),(rfl)⟩,trivial⟩,⟨tt,trivial⟩⟩⟩⟩⟩⟩⟩⟩⟩⟩⟩⟩⟩⟩⟩) ?_
     change Tri _ _ _ _ _ _
     refine rr [(44,.i .i64 ((k1 + 1:Nat):Int))] none [28,6,4,2] [0,16] ((True∧((iAdd .i64 (k1:Int) 1)=((k1 + 1:Nat):Int)))∧(TT∧True))
       ([(28,qi ((k1 + 1:Nat):Int)),(6,.sc (.i .u64 (sub64b (z1.2.getD k1 0) (gOrder.getD (0 + k1) 0) z1.1))),(4,qp 16 0),(2,qp 0 0)],[(0,.ints .u64 4 (z1.2.set k1 (sub64 (z1.2.getD k1 0) (gOrder.getD (0 + k1) 0) z1.1))),(16,.ints .u64 4 [0,0,0,0])])
       480 (⟨⟨trivial,(iAdd_nat (a:=k1) (b:=1) (by omega))⟩,⟨tt,trivial⟩⟩) ?_
     repeat (refine blkP_normal ?_)
     refine countP_normal (by omega) (show rng (List.set _ _ _)∧_∧_ from ⟨rng_set hJ1.1 (sub64_rng _ _ _),sub64b_01 _ _ _⟩) ?_
     exact Sub.ren (ns:=[(16,16),(0,0)]) (kf:=[28,6,4,2]) (by kernel_rfl) (by kernel_rfl)
    ·
     have h3':=of_decide_eq_false h3
     refine Tri.exit ?_
     have hend1:k1=4:=by (have:=of_decide_eq_false h3; omega)
     subst hend1; subst hz1
     exact (Sub.ren (ns:=[(16,16),(0,0)]) (kf:=[4,2]) (s':=([(4,qp 16 0),(2,qp 0 0)],[(16,.ints .u64 4 [0,0,0,0]),(0,.ints .u64 4 ((itr (FT53l1) 4 (0,(itr (FT53l0) 4 (p1,p0)).2)).2))])) (by kernel_rfl) (by kernel_rfl)).trans (Sub.of_eq (by simp only [sel_true,sel_false]))
   ·
    refine Tri.skip ?_
    exact (Sub.ren (ns:=[(16,16),(0,0)]) (kf:=[4,2]) (s':=([(4,qp 16 0),(2,qp 0 0)],[(16,.ints .u64 4 [0,0,0,0]),(0,.ints .u64 4 ((itr (FT53l0) 4 (p1,p0)).2))])) (by kernel_rfl) (by kernel_rfl)).trans (Sub.of_eq (by simp only [sel_true,sel_false]))
   ·
    change Tri _ _ _ _ _ _
    refine sr [] none [4] [16] (TT∧(((True∧(4=4))∧True)∧True))
      ([(4,qp 16 0)],[(16,.ints .u64 4 (sel (!(FT34 ((itr (FT53l0) 4 (p1,p0)).2) ((gOrder.drop 0).take 4))) ((itr (FT53l1) 4 (0,(itr (FT53l0) 4 (p1,p0)).2)).2) ((itr (FT53l0) 4 (p1,p0)).2)))])
      208 (⟨tt,⟨⟨⟨trivial,(rfl)⟩,trivial⟩,trivial⟩⟩) ?_
    refine Tri.ret ?_
    exact endP.ret [] TT (by kernel_rfl) (by kernel_rfl) (by kernel_rfl) tt
theorem rng53 {p0:List Int} (h:rng p0) (p1:Int):rng (FT53 p0 p1):=by
 have h0:∀ n z,rng z.2→rng (itr FT53l0 n z).2:=by
  intro n z hz
  induction n with
  | zero => rw [itr_zero]; exact hz
  | succ n ih => rw [itr_succ]; exact rng_set ih (wrap64_rng _)
 have h1:∀ n z,rng z.2→rng (itr FT53l1 n z).2:=by
  intro n z hz
  induction n with
  | zero => rw [itr_zero]; exact hz
  | succ n ih => rw [itr_succ]; exact rng_set ih (sub64_rng _ _ _)
 unfold FT53
 cases (!(FT34 ((itr (FT53l0) 4 (p1,p0)).2) ((gOrder.drop 0).take 4)))
 ·exact h0 4 _ h
 ·exact h1 4 _ (h0 4 _ h)
theorem rng_four:rng [0,0,0,0]:=rng_of_all (by decide)
noncomputable def FT22l0 (p0:List Int) (k0:Nat) (z0:List Int):List Int :=
 (FT53 z0 (IntKind.wrap .u64 (iAnd .u8 (iShr .u8 (p0.getD (((8 * p0.length) - 1 - k0) / 8) 0) ((((8 * p0.length) - 1 - k0) % 8:Nat):Int)) 1)))
noncomputable def FT22 (p0:List Int):List Int :=
 (itr (FT22l0 p0) (8 * p0.length) [0,0,0,0])
noncomputable def ST22:List AV→Option (Prop × Ret)
 | [.sc (.ro .u8 p0)] => some (p0.length≤1000000,⟨.ints .u64 4 (FT22 p0),[]⟩)
 | _ => none
noncomputable def BT22:Bs:={ P:=Go.Proofs.Tryd.prog,G:=gD,tab:=tabOf [(53,⟨[.val,.val],0,ST53⟩)],n:=26 }
theorem BT22.ok:BT22.Ok:=⟨tabOk (P:=Go.Proofs.Tryd.prog) (G:=gD) (l:=[(53,⟨[.val,.val],0,ST53⟩)]) (And.intro KT53 True.intro),mixed⟩
theorem KT22:Known Go.Proofs.Tryd.prog gD 22 ⟨[.ro .u8],0,ST22⟩:=by
 refine Known.walk (B:=BT22) (fn:=Go.Proofs.Tryd.f22) BT22.ok (by kernel_rfl) rfl (by kernel_rfl) (by kernel_rfl) (by decide) ?_ ?_
 ·intro vs C r h
  simp only at h
  unfold ST22 at h
  split at h
  ·cases h; rfl
  ·cases h
 ·intro E args C r h hC hlen
  simp only at h
  unfold ST22 at h
  split at h
  rotate_left
  ·cases h
  rename_i p0
  cases h
  simp only [lens] at hlen
  refine ⟨show 1≤26 from by decide,?_⟩
  refine Tri.sub (Sub.of_eq (show _=([(0,qr p0)],[]) from rfl)) ?_
  refine sr [] none [2,0] [0] (TT∧True)
    ([(2,qp 0 0),(0,qr p0)],[(0,.ints .u64 4 [0,0,0,0])])
    16 (⟨tt,trivial⟩) ?_
  refine sr [] none [3,2,0] [16,0] (TT∧True)
    ([(3,qp 16 0),(2,qp 0 0),(0,qr p0)],[(16,.ints .u64 4 [0,0,0,0]),(0,.ints .u64 4 [0,0,0,0])])
    32 (⟨tt,trivial⟩) ?_
  refine Tri.seq ?_
  refine sr [(7,.i .i64 ((8 * p0.length:Nat):Int)),(8,.i .i64 (((8 * p0.length:Nat):Int) - 1 - ((0:Nat):Int)))] none [4,3,2,0] [16,0] (TT∧(TT∧((True∧((iMul .i64 8 (p0.length:Int))=((8 * p0.length:Nat):Int)))∧((True∧((iSub .i64 ((8 * p0.length:Nat):Int) 1)=(((8 * p0.length:Nat):Int) - 1 - ((0:Nat):Int))))∧(TT∧True)))))
    ([(4,qi (((8 * p0.length:Nat):Int) - 1 - ((0:Nat):Int))),(3,qp 16 0),(2,qp 0 0),(0,qr p0)],[(16,.ints .u64 4 [0,0,0,0]),(0,.ints .u64 4 [0,0,0,0])])
    112 (⟨tt,⟨tt,⟨⟨trivial,(iMul_nat (a:=8) (b:=p0.length) (by omega))⟩,⟨⟨trivial,(iSub_dn0 (by omega))⟩,⟨tt,trivial⟩⟩⟩⟩⟩) ?_
  refine Tri.block ?_
  refine Tri.count 112 (8 * p0.length) (FT22l0 p0) [0,0,0,0] (fun k0 z0 => rng z0) (fun k0 z0 => ([(4,qi (((8 * p0.length:Nat):Int) - 1 - (k0:Int))),(3,qp 16 0),(2,qp 0 0),(0,qr p0)],[(16,.ints .u64 4 z0),(0,.ints .u64 4 [0,0,0,0])])) rng_four (Sub.of_eq (by kernel_rfl)) ?_
  intro k0 z0 hk0 hz0 hJ0
  refine Tri.seq ?_
  refine sr [] none [10,4,3,2,0] [16,0] (TT∧(TT∧True))
    ([(10,.sc (.b (decide (((((8 * p0.length:Nat):Int) - 1 - (k0:Int)):Int) ≥ 0)))),(4,qi (((8 * p0.length:Nat):Int) - 1 - (k0:Int))),(3,qp 16 0),(2,qp 0 0),(0,qr p0)],[(16,.ints .u64 4 z0),(0,.ints .u64 4 [0,0,0,0])])
    144 (⟨tt,⟨tt,trivial⟩⟩) ?_
  refine Tri.cond (x:=(decide (((((8 * p0.length:Nat):Int) - 1 - (k0:Int)):Int) ≥ 0))) (by kernel_rfl) (fun h1 => ?_) (fun h1 => ?_)
  ·
   have h1':=of_decide_eq_true h1
   refine Tri.skip ?_
   change Tri _ _ _ _ _ _
   refine Tri.seq ?_
   refine Tri.block ?_
   refine rr [(16,.i .i64 ((((8 * p0.length) - 1 - k0) / 8:Nat):Int)),(20,.i .i64 ((((8 * p0.length) - 1 - k0) % 8:Nat):Int))] (some [0,0,0,4,14,30,0,64,254,510,1022,2047,4095]) [4,3,2,0] [16,0] (TT∧(TT∧(TT∧(((8 ≠ (0:Int))∧((iQuo .i64 (((8 * p0.length:Nat):Int) - 1 - (k0:Int)) 8)=((((8 * p0.length) - 1 - k0) / 8:Nat):Int)))∧((((0:Int)≤((((8 * p0.length) - 1 - k0) / 8:Nat):Int)∧((((8 * p0.length) - 1 - k0) / 8:Nat):Int) < (p0.length:Int))∧True)∧(((((8 * p0.length) - 1 - k0) / 8 < p0.length)∧True)∧(TT∧(((8 ≠ (0:Int))∧((iRem (((8 * p0.length:Nat):Int) - 1 - (k0:Int)) 8)=((((8 * p0.length) - 1 - k0) % 8:Nat):Int)))∧((((0:Int)≤((((8 * p0.length) - 1 - k0) % 8:Nat):Int))∧True)∧(TT∧(TT∧(((True∧(rng z0))∧True)∧(((True∧(4=4))∧True)∧True)))))))))))))
     ([(4,qi (((8 * p0.length:Nat):Int) - 1 - (k0:Int))),(3,qp 16 0),(2,qp 0 0),(0,qr p0)],[(16,.ints .u64 4 (FT53 z0 (IntKind.wrap .u64 (iAnd .u8 (iShr .u8 (p0.getD (((8 * p0.length) - 1 - k0) / 8) 0) ((((8 * p0.length) - 1 - k0) % 8:Nat):Int)) 1)))),(0,.ints .u64 4 [0,0,0,0])])
     352 (⟨tt,⟨tt,⟨tt,⟨⟨(by omega),(by rw [dn_nat (by omega)]; exact iQuo_nat (b:=8) (by omega))⟩,⟨⟨(by omega),trivial⟩,⟨⟨(by omega),trivial⟩,⟨tt,⟨⟨(by omega),(by rw [dn_nat (by omega)]; exact iRem_nat (b:=8))⟩,⟨⟨(by omega),trivial⟩,⟨tt,⟨tt,⟨⟨⟨trivial,(hJ0)⟩,trivial⟩,⟨⟨⟨trivial,(rfl)⟩,trivial⟩,trivial⟩⟩⟩⟩⟩⟩⟩⟩⟩⟩⟩⟩⟩) ?_
   change Tri _ _ _ _ _ _
   refine rr [(12,.i .i64 (((8 * p0.length:Nat):Int) - 1 - ((k0 + 1:Nat):Int)))] none [4,3,2,0] [16,0] (TT∧((True∧((iSub .i64 (((8 * p0.length:Nat):Int) - 1 - (k0:Int)) 1)=(((8 * p0.length:Nat):Int) - 1 - ((k0 + 1:Nat):Int))))∧(TT∧True)))
     ([(4,qi (((8 * p0.length:Nat):Int) - 1 - ((k0 + 1:Nat):Int))),(3,qp 16 0),(2,qp 0 0),(0,qr p0)],[(16,.ints .u64 4 (FT53 z0 (IntKind.wrap .u64 (iAnd .u8 (iShr .u8 (p0.getD (((8 * p0.length) - 1 - k0) / 8) 0) ((((8 * p0.length) - 1 - k0) % 8:Nat):Int)) 1)))),(0,.ints .u64 4 [0,0,0,0])])
     400 (⟨tt,⟨⟨trivial,(iSub_dn (by omega) (by omega))⟩,⟨tt,trivial⟩⟩⟩) ?_
   repeat (refine blkP_normal ?_)
   refine countP_normal (by omega) (rng53 hJ0 _) ?_
   exact Sub.ren (ns:=[(16,16),(0,0)]) (kf:=[4,3,2,0]) (by kernel_rfl) (by kernel_rfl)
  ·
   have h1':=of_decide_eq_false h1
   refine Tri.exit ?_
   have hend0:k0=(8 * p0.length):=by (have:=of_decide_eq_false h1; omega)
   subst hend0; subst hz0
   change Tri _ _ _ _ _ _
   refine sr [] none [2] [0] (TT∧(((True∧(4=4))∧True)∧True))
     ([(2,qp 0 0)],[(0,.ints .u64 4 (itr (FT22l0 p0) (8 * p0.length) [0,0,0,0]))])
     176 (⟨tt,⟨⟨⟨trivial,(rfl)⟩,trivial⟩,trivial⟩⟩) ?_
   refine Tri.ret ?_
   exact endP.ret [] TT (by kernel_rfl) (by kernel_rfl) (by kernel_rfl) tt
theorem rng22 (p0:List Int):rng (FT22 p0):=by
 have h:∀ n,rng (itr (FT22l0 p0) n [0,0,0,0]):=by
  intro n
  induction n with
  | zero => rw [itr_zero]; exact rng_four
  | succ n ih => rw [itr_succ]; exact rng53 ih _
 exact h _
noncomputable def FT23l1 (p0:List Int) (k0:Nat) (k1:Nat) (z1:Nat × List Int):Nat × List Int :=
 (z1.1 + 1,z1.2 ++ [(IntKind.wrap .u8 (iShr .u64 (p0.getD k0 0) ((8 * k1:Nat):Int)))])
noncomputable def FT23l0 (p0:List Int) (k0:Nat) (z0:Nat × List Int):Nat × List Int :=
 ((itr (FT23l1 p0 k0) 8 (z0.1,z0.2)).1,(itr (FT23l1 p0 k0) 8 (z0.1,z0.2)).2)
noncomputable def FT23 (p0:List Int):List Int :=
 (itr (FT23l0 p0) 4 (0,[])).2
theorem nT23 (p0:List Int):(itr (FT23l0 p0) 4 (0,[])).1=32:=by
 have h1:∀ (j k:Nat) (z:Nat × List Int),(itr (FT23l1 p0 j) k z).1=z.1 + k:=by
  intro j k z
  induction k with
  | zero => rw [itr_zero]; rfl
  | succ k ih => rw [itr_succ]; show (itr (FT23l1 p0 j) k z).1 + 1=_; rw [ih]; omega
 have h0:∀ (k:Nat),(itr (FT23l0 p0) k (0,[])).1=8 * k:=by
  intro k
  induction k with
  | zero => rw [itr_zero]
  | succ k ih => rw [itr_succ]; show (itr (FT23l1 p0 k) 8 ((itr (FT23l0 p0) k (0,[])).1,(itr (FT23l0 p0) k (0,[])).2)).1=_; rw [h1,ih]; show 8 * k + 8=_; omega
 rw [h0]
noncomputable def ST23:List AV→Option (Prop × Ret)
 | [.ints .u64 4 p0] => some (True,⟨.sc (.sl 0 0 32 1 none),[.ints .u8 32 (FT23 p0)]⟩)
 | _ => none
noncomputable def BT23:Bs:={ P:=Go.Proofs.Tryd.prog,G:=gD,tab:=tabOf [],n:=25 }
theorem BT23.ok:BT23.Ok:=⟨tabOk (P:=Go.Proofs.Tryd.prog) (G:=gD) (l:=[]) True.intro,mixed⟩
theorem KT23:Known Go.Proofs.Tryd.prog gD 23 ⟨[.val],1,ST23⟩:=by
 refine Known.walk (B:=BT23) (fn:=Go.Proofs.Tryd.f23) BT23.ok (by kernel_rfl) rfl (by kernel_rfl) (by kernel_rfl) (by decide) ?_ ?_
 ·intro vs C r h
  simp only at h
  unfold ST23 at h
  split at h
  ·cases h; rfl
  ·cases h
 ·intro E args C r h hC hlen
  simp only at h
  unfold ST23 at h
  split at h
  rotate_left
  ·cases h
  rename_i p0
  cases h
  simp only [lens] at hlen
  refine ⟨show 1≤25 from by decide,?_⟩
  refine Tri.sub (Sub.of_eq (show _=([(0,.ints .u64 4 p0)],[]) from rfl)) ?_
  refine sr [] none [1] [0] (TT∧(TT∧True))
    ([(1,qp 0 0)],[(0,.ints .u64 4 p0)])
    32 (⟨tt,⟨tt,trivial⟩⟩) ?_
  refine sr [] none [3,1] [0] (TT∧True)
    ([(3,.sc (.nils)),(1,qp 0 0)],[(0,.ints .u64 4 p0)])
    48 (⟨tt,trivial⟩) ?_
  refine Tri.seq ?_
  refine sr [] none [8,7,3] [] (TT∧(TT∧True))
    ([(8,qi 0),(7,.ints .u64 4 p0),(3,.sc (.nils))],[])
    80 (⟨tt,⟨tt,trivial⟩⟩) ?_
  refine Tri.block ?_
  refine Tri.sub (Sub.openNil (U:=80) (U':=96) 3 80 1 .u8 none (.inl rfl) (by decide) (by decide) (by kernel_rfl) (by kernel_rfl)) ?_
  refine Tri.count 96 4 (FT23l0 p0) (0,[]) (fun k0 z0 => z0.1=8 * k0) (fun k0 z0 => ([(3,.sc (.sl 80 0 z0.1 1 none)),(8,qi (k0:Int)),(7,.ints .u64 4 p0)],[(80,.ints .u8 z0.1 z0.2)])) rfl (Sub.of_eq (by kernel_rfl)) ?_
  intro k0 z0 hk0 hz0 hJ0
  refine sr [] none [9,3,8,7] [80] (TT∧True)
    ([(9,.sc (.b (decide (((k0:Int):Int) < 4)))),(3,.sc (.sl 80 0 z0.1 1 none)),(8,qi (k0:Int)),(7,.ints .u64 4 p0)],[(80,.ints .u8 z0.1 z0.2)])
    112 (⟨tt,trivial⟩) ?_
  refine Tri.seq ?_
  refine Tri.cond (x:=(decide (((k0:Int):Int) < 4))) (by kernel_rfl) (fun h1 => ?_) (fun h1 => ?_)
  ·
   have h1':=of_decide_eq_true h1
   refine Tri.skip ?_
   change Tri _ _ _ _ _ _
   refine Tri.seq ?_
   refine Tri.block ?_
   refine sr [] none [5,3,8,7] [80] (((((0:Int)≤(k0:Int)∧(k0:Int) < ((4:Nat):Int))∧(k0 < 4))∧True)∧(TT∧True))
     ([(5,.sc (.i .u64 (p0.getD k0 0))),(3,.sc (.sl 80 0 z0.1 1 none)),(8,qi (k0:Int)),(7,.ints .u64 4 p0)],[(80,.ints .u8 z0.1 z0.2)])
     144 (⟨⟨⟨(by omega),(by omega)⟩,trivial⟩,⟨tt,trivial⟩⟩) ?_
   refine sr [] none [11,5,3,8,7] [80] (TT∧True)
     ([(11,qi 0),(5,.sc (.i .u64 (p0.getD k0 0))),(3,.sc (.sl 80 0 z0.1 1 none)),(8,qi (k0:Int)),(7,.ints .u64 4 p0)],[(80,.ints .u8 z0.1 z0.2)])
     160 (⟨tt,trivial⟩) ?_
   refine Tri.block ?_
   refine Tri.count 160 8 (FT23l1 p0 k0) (z0.1,z0.2) (fun k1 z1 => z1.1=z0.1 + 1 * k1∧z1.1=8 * k0 + k1) (fun k1 z1 => ([(11,qi (k1:Int)),(5,.sc (.i .u64 (p0.getD k0 0))),(3,.sc (.sl 80 0 z1.1 1 none)),(8,qi (k0:Int)),(7,.ints .u64 4 p0)],[(80,.ints .u8 z1.1 z1.2)])) (⟨(by simp),hJ0⟩) (Sub.of_eq (by kernel_rfl)) ?_
   intro k1 z1 hk1 hz1 hJ1
   refine sr [] none [12,11,5,3,8,7] [80] (TT∧True)
     ([(12,.sc (.b (decide (((k1:Int):Int) < 8)))),(11,qi (k1:Int)),(5,.sc (.i .u64 (p0.getD k0 0))),(3,.sc (.sl 80 0 z1.1 1 none)),(8,qi (k0:Int)),(7,.ints .u64 4 p0)],[(80,.ints .u8 z1.1 z1.2)])
     176 (⟨tt,trivial⟩) ?_
   refine Tri.seq ?_
   refine Tri.cond (x:=(decide (((k1:Int):Int) < 8))) (by kernel_rfl) (fun h2 => ?_) (fun h2 => ?_)
   ·
    have h2':=of_decide_eq_true h2
    refine Tri.skip ?_
    change Tri _ _ _ _ _ _
    refine Tri.seq ?_
    refine Tri.block ?_
    refine sr [] none [6,11,5,3,8,7] [80] (TT∧(TT∧True))
      ([(6,qi (k1:Int)),(11,qi (k1:Int)),(5,.sc (.i .u64 (p0.getD k0 0))),(3,.sc (.sl 80 0 z1.1 1 none)),(8,qi (k0:Int)),(7,.ints .u64 4 p0)],[(80,.ints .u8 z1.1 z1.2)])
      208 (⟨tt,⟨tt,trivial⟩⟩) ?_
    refine rr [(17,.i .i64 ((8 * k1:Nat):Int))] none [3,11,5,8,7] [320] (TT∧(TT∧(TT∧((True∧((iMul .i64 8 (k1:Int))=((8 * k1:Nat):Int)))∧((((0:Int)≤((8 * k1:Nat):Int))∧True)∧(TT∧((((((0 < 1)∧(1=1))∧True)∧((1 * 1≤16777216)∧(1=1)))∧True)∧((((((True∧(1=1))∧((0 < 1)∧(((z1.1 + 1) * 1≤140737488355328)∧(z1.1 + 1≤140737488355328))))∧(1=1 * 1))∧((1=1)∧(0 + z1.1 * 1=z1.1)))∧True)∧(TT∧True)))))))))
      ([(3,.sc (.sl 320 0 (z1.1 + 1) 1 none)),(11,qi (k1:Int)),(5,.sc (.i .u64 (p0.getD k0 0))),(8,qi (k0:Int)),(7,.ints .u64 4 p0)],[(320,.ints .u8 (z1.1 + 1) (z1.2 ++ [(IntKind.wrap .u8 (iShr .u64 (p0.getD k0 0) ((8 * k1:Nat):Int)))]))])
      352 (⟨tt,⟨tt,⟨tt,⟨⟨trivial,(iMul_nat (a:=8) (b:=k1) (by omega))⟩,⟨⟨(by omega),trivial⟩,⟨tt,⟨⟨⟨⟨⟨(by omega),(rfl)⟩,trivial⟩,⟨(by omega),(rfl)⟩⟩,trivial⟩,⟨⟨⟨⟨⟨⟨trivial,(rfl)⟩,⟨(by omega),⟨(by omega),(by omega)⟩⟩⟩,(by omega)⟩,⟨(rfl),(by omega)⟩⟩,trivial⟩,⟨tt,trivial⟩⟩⟩⟩⟩⟩⟩⟩⟩) ?_
    change Tri _ _ _ _ _ _
    refine rr [(22,.i .i64 ((k1 + 1:Nat):Int))] none [11,3,5,8,7] [320] ((True∧((iAdd .i64 (k1:Int) 1)=((k1 + 1:Nat):Int)))∧(TT∧True))
      ([(11,qi ((k1 + 1:Nat):Int)),(3,.sc (.sl 320 0 (z1.1 + 1) 1 none)),(5,.sc (.i .u64 (p0.getD k0 0))),(8,qi (k0:Int)),(7,.ints .u64 4 p0)],[(320,.ints .u8 (z1.1 + 1) (z1.2 ++ [(IntKind.wrap .u8 (iShr .u64 (p0.getD k0 0) ((8 * k1:Nat):Int)))]))])
      384 (⟨⟨trivial,(iAdd_nat (a:=k1) (b:=1) (by omega))⟩,⟨tt,trivial⟩⟩) ?_
    repeat (refine blkP_normal ?_)
    refine countP_normal (by omega) (⟨(show z1.1 + 1=z0.1 + 1 * (k1 + 1) by omega),(show z1.1 + 1=8 * k0 + (k1 + 1) by omega)⟩) ?_
    exact Sub.ren (ns:=[(320,80)]) (kf:=[11,5,3,8,7]) (by kernel_rfl) (by kernel_rfl)
   ·
    have h2':=of_decide_eq_false h2
    refine Tri.exit ?_
    have hend1:k1=8:=by (have:=of_decide_eq_false h2; omega)
    subst hend1; subst hz1
    change Tri _ _ _ _ _ _
    refine rr [(23,.i .i64 ((k0 + 1:Nat):Int))] none [8,3,7] [80] ((True∧((iAdd .i64 (k0:Int) 1)=((k0 + 1:Nat):Int)))∧(TT∧True))
      ([(8,qi ((k0 + 1:Nat):Int)),(3,.sc (.sl 80 0 ((itr (FT23l1 p0 k0) 8 (z0.1,z0.2)).1) 1 none)),(7,.ints .u64 4 p0)],[(80,.ints .u8 ((itr (FT23l1 p0 k0) 8 (z0.1,z0.2)).1) ((itr (FT23l1 p0 k0) 8 (z0.1,z0.2)).2))])
      208 (⟨⟨trivial,(iAdd_nat (a:=k0) (b:=1) (by omega))⟩,⟨tt,trivial⟩⟩) ?_
    repeat (refine blkP_normal ?_)
    refine countP_normal (by omega) (show (itr (FT23l1 p0 k0) 8 (z0.1,z0.2)).1=8 * (k0 + 1) by omega) ?_
    exact Sub.ren (ns:=[(80,80)]) (kf:=[3,8,7]) (by kernel_rfl) (by kernel_rfl)
  ·
   have h1':=of_decide_eq_false h1
   refine Tri.exit ?_
   have hend0:k0=4:=by (have:=of_decide_eq_false h1; omega)
   subst hend0; subst hz0
   change Tri _ _ _ _ _ _
   refine sr [] none [2] [80] (TT∧(TT∧True))
     ([(2,.sc (.sl 80 0 ((itr (FT23l0 p0) 4 (0,[])).1) 1 none))],[(80,.ints .u8 ((itr (FT23l0 p0) 4 (0,[])).1) ((itr (FT23l0 p0) 4 (0,[])).2))])
     144 (⟨tt,⟨tt,trivial⟩⟩) ?_
   refine Tri.ret ?_
   refine endP.conv (r':=⟨.sc (.sl 0 0 ((itr (FT23l0 p0) 4 (0,[])).1) 1 none),[.ints .u8 ((itr (FT23l0 p0) 4 (0,[])).1) ((itr (FT23l0 p0) 4 (0,[])).2)]⟩) (by simp only [FT23,nT23,sel_true,sel_false]) ?_
   exact endP.ret [(80,0)] TT (by kernel_rfl) (by kernel_rfl) (by kernel_rfl) tt
theorem lenT23 (p0:List Int):(FT23 p0).length=32:=by
 have h1:∀ (j k:Nat) (z:Nat × List Int),(itr (FT23l1 p0 j) k z).2.length=z.2.length + k:=by
  intro j k z
  induction k with
  | zero => rw [itr_zero]; rfl
  | succ k ih => rw [itr_succ]; show ((itr (FT23l1 p0 j) k z).2 ++ [_]).length=_; rw [List.length_append,ih]; rfl
 have h0:∀ (k:Nat),(itr (FT23l0 p0) k (0,[])).2.length=8 * k:=by
  intro k
  induction k with
  | zero => rw [itr_zero]; rfl
  | succ k ih => rw [itr_succ]; show (itr (FT23l1 p0 k) 8 ((itr (FT23l0 p0) k (0,[])).1,(itr (FT23l0 p0) k (0,[])).2)).2.length=_; rw [h1]; show (itr (FT23l0 p0) k (0,[])).2.length + 8=_; rw [ih]; omega
 exact h0 4
noncomputable def FT25l0 (p1:List Int) (k0:Nat) (z0:Int × List Int):Int × List Int :=
 ((add64c (z0.2.getD k0 0) (p1.getD k0 0) z0.1),z0.2.set k0 (add64 (z0.2.getD k0 0) (p1.getD k0 0) z0.1))
noncomputable def FT25 (p0:List Int) (p1:List Int):List Int :=
 (FT22 (part1 (FT23 ((itr (FT25l0 p1) 4 (0,p0)).2)) 32 0 32))
noncomputable def ST25:List AV→Option (Prop × Ret)
 | [.ints .u64 4 p0,.ints .u64 4 p1] => some (rng p0∧rng p1,⟨.ints .u64 4 (FT25 p0 p1),[]⟩)
 | _ => none
noncomputable def BT25:Bs:={ P:=Go.Proofs.Tryd.prog,G:=gD,tab:=tabOf [(22,⟨[.ro .u8],0,ST22⟩),(23,⟨[.val],1,ST23⟩),(54,⟨[.val,.val,.val],0,specAdd64⟩)],n:=27 }
theorem BT25.ok:BT25.Ok:=⟨tabOk (P:=Go.Proofs.Tryd.prog) (G:=gD) (l:=[(22,⟨[.ro .u8],0,ST22⟩),(23,⟨[.val],1,ST23⟩),(54,⟨[.val,.val,.val],0,specAdd64⟩)]) (And.intro KT22 (And.intro KT23 (And.intro K48 True.intro))),mixed⟩
theorem KT25:Known Go.Proofs.Tryd.prog gD 25 ⟨[.val,.val],0,ST25⟩:=by
 refine Known.walk (B:=BT25) (fn:=Go.Proofs.Tryd.f25) BT25.ok (by kernel_rfl) rfl (by kernel_rfl) (by kernel_rfl) (by decide) ?_ ?_
 ·intro vs C r h
  simp only at h
  unfold ST25 at h
  split at h
  ·cases h; rfl
  ·cases h
 ·intro E args C r h hC hlen
  simp only at h
  unfold ST25 at h
  split at h
  rotate_left
  ·cases h
  rename_i p0 p1
  cases h
  simp only [lens] at hlen
  have hf1:=hC.1
  have hf2:=hC.2
  refine ⟨show 2≤27 from by decide,?_⟩
  refine Tri.sub (Sub.of_eq (show _=([(0,.ints .u64 4 p0),(1,.ints .u64 4 p1)],[]) from rfl)) ?_
  refine sr [] none [4,3,2] [32,16,0] (TT∧(TT∧(TT∧True)))
    ([(4,qp 32 0),(3,qp 16 0),(2,qp 0 0)],[(32,.ints .u64 4 [0,0,0,0]),(16,.ints .u64 4 p1),(0,.ints .u64 4 p0)])
    48 (⟨tt,⟨tt,⟨tt,trivial⟩⟩⟩) ?_
  refine sr [] none [5,4,3,2] [32,16,0] (TT∧True)
    ([(5,.sc (.i .u64 0)),(4,qp 32 0),(3,qp 16 0),(2,qp 0 0)],[(32,.ints .u64 4 [0,0,0,0]),(16,.ints .u64 4 p1),(0,.ints .u64 4 p0)])
    64 (⟨tt,trivial⟩) ?_
  refine Tri.seq ?_
  refine sr [] none [7,5,4,3,2] [32,16,0] (TT∧True)
    ([(7,qi 0),(5,.sc (.i .u64 0)),(4,qp 32 0),(3,qp 16 0),(2,qp 0 0)],[(32,.ints .u64 4 [0,0,0,0]),(16,.ints .u64 4 p1),(0,.ints .u64 4 p0)])
    80 (⟨tt,trivial⟩) ?_
  refine Tri.block ?_
  refine Tri.count 80 4 (FT25l0 p1) (0,p0) (fun k0 z0 => rng z0.2∧0≤z0.1∧z0.1≤1) (fun k0 z0 => ([(7,qi (k0:Int)),(5,.sc (.i .u64 z0.1)),(4,qp 32 0),(3,qp 16 0),(2,qp 0 0)],[(32,.ints .u64 4 [0,0,0,0]),(16,.ints .u64 4 p1),(0,.ints .u64 4 z0.2)])) (⟨hf1,Int.le_refl 0,(show (0:Int)≤1 by decide)⟩) (Sub.of_eq (by kernel_rfl)) ?_
  intro k0 z0 hk0 hz0 hJ0
  refine sr [] none [8,7,5,4,3,2] [32,16,0] (TT∧True)
    ([(8,.sc (.b (decide (((k0:Int):Int) < 4)))),(7,qi (k0:Int)),(5,.sc (.i .u64 z0.1)),(4,qp 32 0),(3,qp 16 0),(2,qp 0 0)],[(32,.ints .u64 4 [0,0,0,0]),(16,.ints .u64 4 p1),(0,.ints .u64 4 z0.2)])
    96 (⟨tt,trivial⟩) ?_
  refine Tri.seq ?_
  refine Tri.cond (x:=(decide (((k0:Int):Int) < 4))) (by kernel_rfl) (fun h1 => ?_) (fun h1 => ?_)
  ·
   have h1':=of_decide_eq_true h1
   refine Tri.skip ?_
   change Tri _ _ _ _ _ _
   refine Tri.seq ?_
   refine Tri.block ?_
   refine sr [] none [6,7,5,4,3,2] [32,16,0] (TT∧(TT∧True))
     ([(6,qi (k0:Int)),(7,qi (k0:Int)),(5,.sc (.i .u64 z0.1)),(4,qp 32 0),(3,qp 16 0),(2,qp 0 0)],[(32,.ints .u64 4 [0,0,0,0]),(16,.ints .u64 4 p1),(0,.ints .u64 4 z0.2)])
     128 (⟨tt,⟨tt,trivial⟩⟩) ?_
   refine rr [] (some [0,0,2,6,0,16,48,0,254,510,1022,1022,2047,6143,16383]) [5,7,4,3,2] [0,32,16] (TT∧(TT∧((((0:Int)≤(k0:Int)∧(k0:Int) < ((4:Nat):Int))∧True)∧(((k0 < 4)∧True)∧(TT∧((((0:Int)≤(k0:Int)∧(k0:Int) < ((4:Nat):Int))∧True)∧(((k0 < 4)∧True)∧(TT∧(((True∧((0:Int)≤(z0.2.getD k0 0)∧(0:Int)≤(p1.getD k0 0)∧(0:Int)≤z0.1∧(z0.1:Int)≤1))∧True)∧(TT∧(TT∧(TT∧((((0:Int)≤(k0:Int)∧(k0:Int) < ((4:Nat):Int))∧True)∧((((k0 < 4)∧(1=1))∧True)∧(TT∧True)))))))))))))))
     ([(5,.sc (.i .u64 (add64c (z0.2.getD k0 0) (p1.getD k0 0) z0.1))),(7,qi (k0:Int)),(4,qp 32 0),(3,qp 16 0),(2,qp 0 0)],[(0,.ints .u64 4 (z0.2.set k0 (add64 (z0.2.getD k0 0) (p1.getD k0 0) z0.1))),(32,.ints .u64 4 [0,0,0,0]),(16,.ints .u64 4 p1)])
     368 (⟨tt,⟨tt,⟨⟨(by omega),trivial⟩,⟨⟨(by omega),trivial⟩,⟨tt,⟨⟨(by omega),trivial⟩,⟨⟨(by omega),trivial⟩,⟨tt,⟨⟨⟨trivial,(⟨(hJ0.1 _).1,(hf2 _).1,hJ0.2⟩)⟩,trivial⟩,⟨tt,⟨tt,⟨tt,⟨⟨(by omega),trivial⟩,⟨⟨⟨(by omega),(rfl)⟩,trivial⟩,⟨tt,trivial⟩⟩⟩⟩⟩⟩⟩⟩⟩⟩⟩⟩⟩⟩⟩) ?_
   change Tri _ _ _ _ _ _
   refine rr [(23,.i .i64 ((k0 + 1:Nat):Int))] none [7,5,4,3,2] [0,32,16] ((True∧((iAdd .i64 (k0:Int) 1)=((k0 + 1:Nat):Int)))∧(TT∧True))
     ([(7,qi ((k0 + 1:Nat):Int)),(5,.sc (.i .u64 (add64c (z0.2.getD k0 0) (p1.getD k0 0) z0.1))),(4,qp 32 0),(3,qp 16 0),(2,qp 0 0)],[(0,.ints .u64 4 (z0.2.set k0 (add64 (z0.2.getD k0 0) (p1.getD k0 0) z0.1))),(32,.ints .u64 4 [0,0,0,0]),(16,.ints .u64 4 p1)])
     400 (⟨⟨trivial,(iAdd_nat (a:=k0) (b:=1) (by omega))⟩,⟨tt,trivial⟩⟩) ?_
   repeat (refine blkP_normal ?_)
   refine countP_normal (by omega) (show rng (List.set _ _ _)∧_∧_ from ⟨rng_set hJ0.1 (add64_rng _ _ _),add64c_01 (hJ0.1 _) (hf2 _) hJ0.2⟩) ?_
   exact Sub.ren (ns:=[(32,32),(16,16),(0,0)]) (kf:=[7,5,4,3,2]) (by kernel_rfl) (by kernel_rfl)
  ·
   have h1':=of_decide_eq_false h1
   refine Tri.exit ?_
   have hend0:k0=4:=by (have:=of_decide_eq_false h1; omega)
   subst hend0; subst hz0
   change Tri _ _ _ _ _ _
   refine Tri.len 16 rfl (fun hl2 => ?_)
   refine Tri.len 0 rfl (fun hl3 => ?_)
   refine sr [] none [4] [32] (TT∧((TT∧True)∧(((((0 + 32≤32)∧True)∧((part1 (FT23 ((itr (FT25l0 p1) 4 (0,p0)).2)) 32 0 32).length≤1000000))∧True)∧(((True∧(4=4))∧True)∧True))))
     ([(4,qp 32 0)],[(32,.ints .u64 4 (FT22 (part1 (FT23 ((itr (FT25l0 p1) 4 (0,p0)).2)) 32 0 32)))])
     160 (⟨tt,⟨⟨tt,trivial⟩,⟨⟨⟨⟨(by omega),trivial⟩,(by exact part1_le (by decide) (by rw [lenT23]; decide))⟩,trivial⟩,⟨⟨⟨trivial,(rfl)⟩,trivial⟩,trivial⟩⟩⟩⟩) ?_
   refine Tri.ret ?_
   exact endP.ret [] TT (by kernel_rfl) (by kernel_rfl) (by kernel_rfl) tt
theorem rng25 (p0 p1:List Int):rng (FT25 p0 p1):=by unfold FT25; exact rng22 _
theorem rng_sel {x y:List Int} (b:Bool) (h:rng x) (h':rng y):rng (sel b x y):=by cases b; exact h'; exact h
noncomputable def FT24l0 (p0:List Int) (p1:List Int) (k0:Nat) (z0:List Int):List Int :=
 (sel (((iAnd .u64 (iShr .u64 (p1.getD ((256 - 1 - k0) / 64) 0) (((256 - 1 - k0) % 64:Nat):Int)) 1):Int) == 1) (FT25 (FT53 z0 0) p0) (FT53 z0 0))
noncomputable def FT24 (p0:List Int) (p1:List Int):List Int :=
 (itr (FT24l0 p0 p1) 256 [0,0,0,0])
noncomputable def ST24:List AV→Option (Prop × Ret)
 | [.ints .u64 4 p0,.ints .u64 4 p1] => some (rng p0∧rng p1,⟨.ints .u64 4 (FT24 p0 p1),[]⟩)
 | _ => none
noncomputable def BT24:Bs:={ P:=Go.Proofs.Tryd.prog,G:=gD,tab:=tabOf [(25,⟨[.val,.val],0,ST25⟩),(53,⟨[.val,.val],0,ST53⟩)],n:=26 }
theorem BT24.ok:BT24.Ok:=⟨tabOk (P:=Go.Proofs.Tryd.prog) (G:=gD) (l:=[(25,⟨[.val,.val],0,ST25⟩),(53,⟨[.val,.val],0,ST53⟩)]) (And.intro KT25 (And.intro KT53 True.intro)),mixed⟩
theorem KT24:Known Go.Proofs.Tryd.prog gD 24 ⟨[.val,.val],0,ST24⟩:=by
 refine Known.walk (B:=BT24) (fn:=Go.Proofs.Tryd.f24) BT24.ok (by kernel_rfl) rfl (by kernel_rfl) (by kernel_rfl) (by decide) ?_ ?_
 ·intro vs C r h
  simp only at h
  unfold ST24 at h
  split at h
  ·cases h; rfl
  ·cases h
 ·intro E args C r h hC hlen
  simp only at h
  unfold ST24 at h
  split at h
  rotate_left
  ·cases h
  rename_i p0 p1
  cases h
  simp only [lens] at hlen
  have hf1:=hC.1
  have hf2:=hC.2
  refine ⟨show 2≤26 from by decide,?_⟩
  refine Tri.sub (Sub.of_eq (show _=([(0,.ints .u64 4 p0),(1,.ints .u64 4 p1)],[]) from rfl)) ?_
  refine sr [] none [4,3,2] [32,16,0] (TT∧(TT∧(TT∧True)))
    ([(4,qp 32 0),(3,qp 16 0),(2,qp 0 0)],[(32,.ints .u64 4 [0,0,0,0]),(16,.ints .u64 4 p1),(0,.ints .u64 4 p0)])
    48 (⟨tt,⟨tt,⟨tt,trivial⟩⟩⟩) ?_
  refine sr [] none [5,4,3,2] [48,32,16,0] (TT∧True)
    ([(5,qp 48 0),(4,qp 32 0),(3,qp 16 0),(2,qp 0 0)],[(48,.ints .u64 4 [0,0,0,0]),(32,.ints .u64 4 [0,0,0,0]),(16,.ints .u64 4 p1),(0,.ints .u64 4 p0)])
    64 (⟨tt,trivial⟩) ?_
  refine Tri.seq ?_
  refine sr [] none [6,5,4,3,2] [48,32,16,0] (TT∧True)
    ([(6,qi 255),(5,qp 48 0),(4,qp 32 0),(3,qp 16 0),(2,qp 0 0)],[(48,.ints .u64 4 [0,0,0,0]),(32,.ints .u64 4 [0,0,0,0]),(16,.ints .u64 4 p1),(0,.ints .u64 4 p0)])
    80 (⟨tt,trivial⟩) ?_
  refine Tri.block ?_
  refine Tri.count 80 256 (FT24l0 p0 p1) [0,0,0,0] (fun k0 z0 => rng z0) (fun k0 z0 => ([(6,qi (((256:Nat):Int) - 1 - (k0:Int))),(5,qp 48 0),(4,qp 32 0),(3,qp 16 0),(2,qp 0 0)],[(48,.ints .u64 4 z0),(32,.ints .u64 4 [0,0,0,0]),(16,.ints .u64 4 p1),(0,.ints .u64 4 p0)])) rng_four (Sub.of_eq (by kernel_rfl)) ?_
  intro k0 z0 hk0 hz0 hJ0
  refine Tri.seq ?_
  refine sr [] none [8,6,5,4,3,2] [48,32,16,0] (TT∧(TT∧True))
    ([(8,.sc (.b (decide (((((256:Nat):Int) - 1 - (k0:Int)):Int) ≥ 0)))),(6,qi (((256:Nat):Int) - 1 - (k0:Int))),(5,qp 48 0),(4,qp 32 0),(3,qp 16 0),(2,qp 0 0)],[(48,.ints .u64 4 z0),(32,.ints .u64 4 [0,0,0,0]),(16,.ints .u64 4 p1),(0,.ints .u64 4 p0)])
    112 (⟨tt,⟨tt,trivial⟩⟩) ?_
  refine Tri.cond (x:=(decide (((((256:Nat):Int) - 1 - (k0:Int)):Int) ≥ 0))) (by kernel_rfl) (fun h1 => ?_) (fun h1 => ?_)
  ·
   have h1':=of_decide_eq_true h1
   refine Tri.skip ?_
   change Tri _ _ _ _ _ _
   refine Tri.seq ?_
   refine Tri.block ?_
   refine sr [] none [6,5,4,3,2] [48,32,16,0] (TT∧(((True∧(rng z0))∧True)∧(((True∧(4=4))∧True)∧True)))
     ([(6,qi (((256:Nat):Int) - 1 - (k0:Int))),(5,qp 48 0),(4,qp 32 0),(3,qp 16 0),(2,qp 0 0)],[(48,.ints .u64 4 (FT53 z0 0)),(32,.ints .u64 4 [0,0,0,0]),(16,.ints .u64 4 p1),(0,.ints .u64 4 p0)])
     160 (⟨tt,⟨⟨⟨trivial,(hJ0)⟩,trivial⟩,⟨⟨⟨trivial,(rfl)⟩,trivial⟩,trivial⟩⟩⟩) ?_
   refine sr [(14,.i .i64 (((256 - 1 - k0) / 64:Nat):Int)),(18,.i .i64 (((256 - 1 - k0) % 64:Nat):Int))] none [21,6,5,4,3,2] [48,32,16,0] (TT∧(((64 ≠ (0:Int))∧((iQuo .i64 (((256:Nat):Int) - 1 - (k0:Int)) 64)=(((256 - 1 - k0) / 64:Nat):Int)))∧((((0:Int)≤(((256 - 1 - k0) / 64:Nat):Int)∧(((256 - 1 - k0) / 64:Nat):Int) < ((4:Nat):Int))∧True)∧((((256 - 1 - k0) / 64 < 4)∧True)∧(TT∧(((64 ≠ (0:Int))∧((iRem (((256:Nat):Int) - 1 - (k0:Int)) 64)=(((256 - 1 - k0) % 64:Nat):Int)))∧((((0:Int)≤(((256 - 1 - k0) % 64:Nat):Int))∧True)∧(TT∧(TT∧True)))))))))
     ([(21,.sc (.b (((iAnd .u64 (iShr .u64 (p1.getD ((256 - 1 - k0) / 64) 0) (((256 - 1 - k0) % 64:Nat):Int)) 1):Int) == 1))),(6,qi (((256:Nat):Int) - 1 - (k0:Int))),(5,qp 48 0),(4,qp 32 0),(3,qp 16 0),(2,qp 0 0)],[(48,.ints .u64 4 (FT53 z0 0)),(32,.ints .u64 4 [0,0,0,0]),(16,.ints .u64 4 p1),(0,.ints .u64 4 p0)])
     304 (⟨tt,⟨⟨(by omega),(by rw [dn_nat (by omega)]; exact iQuo_nat (b:=64) (by omega))⟩,⟨⟨(by omega),trivial⟩,⟨⟨(by omega),trivial⟩,⟨tt,⟨⟨(by omega),(by rw [dn_nat (by omega)]; exact iRem_nat (b:=64))⟩,⟨⟨(by omega),trivial⟩,⟨tt,⟨tt,trivial⟩⟩⟩⟩⟩⟩⟩⟩⟩) ?_
   refine Tri.join (x:=(((iAnd .u64 (iShr .u64 (p1.getD ((256 - 1 - k0) / 64) 0) (((256 - 1 - k0) % 64:Nat):Int)) 1):Int) == 1)) (fun bb => ([(6,qi (((256:Nat):Int) - 1 - (k0:Int))),(5,qp 48 0),(4,qp 32 0),(3,qp 16 0),(2,qp 0 0)],[(48,.ints .u64 4 (sel bb (FT25 (FT53 z0 0) p0) (FT53 z0 0))),(32,.ints .u64 4 [0,0,0,0]),(16,.ints .u64 4 p1),(0,.ints .u64 4 p0)])) 368 (by kernel_rfl) (fun h2 => ?_) (fun h2 => ?_) ?_
   ·
    have h2':=eq_true_i h2
    refine rr [] none [6,5,4,3,2] [48,32,16,0] (TT∧(TT∧(((True∧(rng (FT53 z0 0)∧rng p0))∧True)∧(((True∧(4=4))∧True)∧True))))
      ([(6,qi (((256:Nat):Int) - 1 - (k0:Int))),(5,qp 48 0),(4,qp 32 0),(3,qp 16 0),(2,qp 0 0)],[(48,.ints .u64 4 (FT25 (FT53 z0 0) p0)),(32,.ints .u64 4 [0,0,0,0]),(16,.ints .u64 4 p1),(0,.ints .u64 4 p0)])
      368 (⟨tt,⟨tt,⟨⟨⟨trivial,(⟨rng53 hJ0 _,hf1⟩)⟩,trivial⟩,⟨⟨⟨trivial,(rfl)⟩,trivial⟩,trivial⟩⟩⟩⟩) ?_
    exact (Sub.ren (ns:=[(48,48),(32,32),(16,16),(0,0)]) (kf:=[6,5,4,3,2]) (s':=([(6,qi (((256:Nat):Int) - 1 - (k0:Int))),(5,qp 48 0),(4,qp 32 0),(3,qp 16 0),(2,qp 0 0)],[(48,.ints .u64 4 (FT25 (FT53 z0 0) p0)),(32,.ints .u64 4 [0,0,0,0]),(16,.ints .u64 4 p1),(0,.ints .u64 4 p0)])) (by kernel_rfl) (by kernel_rfl)).trans (Sub.of_eq (by simp only [sel_true,sel_false]))
   ·
    have h2':=eq_false_i h2
    refine Tri.skip ?_
    exact (Sub.ren (ns:=[(48,48),(32,32),(16,16),(0,0)]) (kf:=[6,5,4,3,2]) (s':=([(6,qi (((256:Nat):Int) - 1 - (k0:Int))),(5,qp 48 0),(4,qp 32 0),(3,qp 16 0),(2,qp 0 0)],[(48,.ints .u64 4 (FT53 z0 0)),(32,.ints .u64 4 [0,0,0,0]),(16,.ints .u64 4 p1),(0,.ints .u64 4 p0)])) (by kernel_rfl) (by kernel_rfl)).trans (Sub.of_eq (by simp only [sel_true,sel_false]))
   ·
    change Tri _ _ _ _ _ _
    refine rr [(10,.i .i64 (((256:Nat):Int) - 1 - ((k0 + 1:Nat):Int)))] none [6,5,4,3,2] [48,32,16,0] (TT∧((True∧((iSub .i64 (((256:Nat):Int) - 1 - (k0:Int)) 1)=(((256:Nat):Int) - 1 - ((k0 + 1:Nat):Int))))∧(TT∧True)))
      ([(6,qi (((256:Nat):Int) - 1 - ((k0 + 1:Nat):Int))),(5,qp 48 0),(4,qp 32 0),(3,qp 16 0),(2,qp 0 0)],[(48,.ints .u64 4 (sel (((iAnd .u64 (iShr .u64 (p1.getD ((256 - 1 - k0) / 64) 0) (((256 - 1 - k0) % 64:Nat):Int)) 1):Int) == 1) (FT25 (FT53 z0 0) p0) (FT53 z0 0))),(32,.ints .u64 4 [0,0,0,0]),(16,.ints .u64 4 p1),(0,.ints .u64 4 p0)])
      416 (⟨tt,⟨⟨trivial,(iSub_dn (by omega) (by omega))⟩,⟨tt,trivial⟩⟩⟩) ?_
    repeat (refine blkP_normal ?_)
    refine countP_normal (by omega) (show rng (sel _ _ _) from rng_sel _ (rng25 _ _) (rng53 hJ0 _)) ?_
    exact Sub.ren (ns:=[(48,48),(32,32),(16,16),(0,0)]) (kf:=[6,5,4,3,2]) (by kernel_rfl) (by kernel_rfl)
  ·
   have h1':=of_decide_eq_false h1
   refine Tri.exit ?_
   have hend0:k0=256:=by (have:=of_decide_eq_false h1; omega)
   subst hend0; subst hz0
   change Tri _ _ _ _ _ _
   refine sr [] none [4] [32] (TT∧(((True∧(4=4))∧True)∧True))
     ([(4,qp 32 0)],[(32,.ints .u64 4 (itr (FT24l0 p0 p1) 256 [0,0,0,0]))])
     144 (⟨tt,⟨⟨⟨trivial,(rfl)⟩,trivial⟩,trivial⟩⟩) ?_
   refine Tri.ret ?_
   exact endP.ret [] TT (by kernel_rfl) (by kernel_rfl) (by kernel_rfl) tt
theorem rng24 (p0 p1:List Int):rng (FT24 p0 p1):=by
 have h:∀ n,rng (itr (FT24l0 p0 p1) n [0,0,0,0]):=by
  intro n
  induction n with
  | zero => rw [itr_zero]; exact rng_four
  | succ n ih => rw [itr_succ]; show rng (sel _ _ _); exact rng_sel _ (rng25 _ _) (rng53 ih _)
 exact h _
def lensTo (p:List (List Int)):Nat→Nat
 | 0 => 0
 | k + 1 => lensTo p k + (p.getD k []).length
theorem lensTo_le (p:List (List Int)) {k n:Nat} (h:k≤n):lensTo p k≤lensTo p n:=by
 induction n with
 | zero => rw [Nat.le_zero.1 h]; exact Nat.le_refl _
 | succ n ih =>
  by_cases e:k=n + 1
  ·rw [e]; exact Nat.le_refl _
  ·exact Nat.le_trans (ih (by omega)) (Nat.le_add_right _ _)
theorem lens_le {p:List (List Int)} {k z c:Nat} (hz:z=c + lensTo p k) (hk:k < p.length):z + (p.getD k []).length≤c + lensTo p p.length:=by
 have h:lensTo p k + (p.getD k []).length≤lensTo p p.length:=lensTo_le p (show k + 1≤p.length from hk)
 omega
noncomputable def FT21l0 (p0:List (List Int)) (k0:Nat) (z0:Nat × List Int):Nat × List Int :=
 (z0.1 + ((p0.getD k0 []).length),z0.2 ++ (p0.getD k0 []))
noncomputable def FT21 (p0:List (List Int)):List Int :=
 (itr (FT21l0 p0) p0.length (0,[])).2
theorem nT21 (p0:List (List Int)):(itr (FT21l0 p0) p0.length (0,[])).1=lensTo p0 p0.length:=by
 have h0:∀ k,(itr (FT21l0 p0) k (0,[])).1=lensTo p0 k:=by
  intro k
  induction k with
  | zero => rw [itr_zero]; rfl
  | succ k ih => rw [itr_succ]; show (itr (FT21l0 p0) k (0,[])).1 + (p0.getD k []).length=lensTo p0 k + (p0.getD k []).length; rw [ih]
 exact h0 _
noncomputable def ST21:List AV→Option (Prop × Ret)
 | [.sc (.rob p0)] => some (lensTo p0 p0.length≤100000∧p0.length≤100000,⟨.sc (.sl 0 0 (lensTo p0 p0.length) 1 none),[.ints .u8 (lensTo p0 p0.length) (FT21 p0)]⟩)
 | _ => none
noncomputable def BT21:Bs:={ P:=Go.Proofs.Tryd.prog,G:=gD,tab:=tabOf [],n:=17 }
theorem BT21.ok:BT21.Ok:=⟨tabOk (P:=Go.Proofs.Tryd.prog) (G:=gD) (l:=[]) True.intro,mixed⟩
theorem KT21:Known Go.Proofs.Tryd.prog gD 21 ⟨[.rob []],1,ST21⟩:=by
 refine Known.walk (B:=BT21) (fn:=Go.Proofs.Tryd.f21) BT21.ok (by kernel_rfl) rfl (by kernel_rfl) (by kernel_rfl) (by decide) ?_ ?_
 ·intro vs C r h
  simp only at h
  unfold ST21 at h
  split at h
  ·cases h; rfl
  ·cases h
 ·intro E args C r h hC hlen
  simp only at h
  unfold ST21 at h
  split at h
  rotate_left
  ·cases h
  rename_i p0
  cases h
  simp only [lens] at hlen
  refine ⟨show 1≤17 from by decide,?_⟩
  refine Tri.sub (Sub.of_eq (show _=([(0,.sc (.rob p0))],[]) from rfl)) ?_
  refine sr [] none [0] [] (TT∧True)
    ([(0,.sc (.rob p0))],[])
    16 (⟨tt,trivial⟩) ?_
  refine sr [] none [3,0] [] (TT∧True)
    ([(3,.sc (.nils)),(0,.sc (.rob p0))],[])
    32 (⟨tt,trivial⟩) ?_
  refine Tri.seq ?_
  refine sr [] none [8,7,6,3] [] (TT∧(TT∧(TT∧True)))
    ([(8,qi 0),(7,qi (p0.length:Int)),(6,.sc (.rob p0)),(3,.sc (.nils))],[])
    80 (⟨tt,⟨tt,⟨tt,trivial⟩⟩⟩) ?_
  refine Tri.block ?_
  refine Tri.sub (Sub.openNil (U:=80) (U':=96) 3 80 1 .u8 none (.inl rfl) (by decide) (by decide) (by kernel_rfl) (by kernel_rfl)) ?_
  refine Tri.count 96 p0.length (FT21l0 p0) (0,[]) (fun k0 z0 => z0.1=0 + lensTo p0 k0) (fun k0 z0 => ([(3,.sc (.sl 80 0 z0.1 1 none)),(8,qi (k0:Int)),(7,qi (p0.length:Int)),(6,.sc (.rob p0))],[(80,.ints .u8 z0.1 z0.2)])) rfl (Sub.of_eq (by kernel_rfl)) ?_
  intro k0 z0 hk0 hz0 hJ0
  refine sr [] none [9,3,8,7,6] [80] (TT∧True)
    ([(9,.sc (.b (decide (((k0:Int):Int) < (p0.length:Int))))),(3,.sc (.sl 80 0 z0.1 1 none)),(8,qi (k0:Int)),(7,qi (p0.length:Int)),(6,.sc (.rob p0))],[(80,.ints .u8 z0.1 z0.2)])
    112 (⟨tt,trivial⟩) ?_
  refine Tri.seq ?_
  refine Tri.cond (x:=(decide (((k0:Int):Int) < (p0.length:Int)))) (by kernel_rfl) (fun h1 => ?_) (fun h1 => ?_)
  ·
   have h1':=of_decide_eq_true h1
   refine Tri.skip ?_
   change Tri _ _ _ _ _ _
   refine Tri.seq ?_
   refine Tri.block ?_
   refine sr [] none [5,3,8,7,6] [80] ((((0:Int)≤(k0:Int)∧(k0:Int) < (p0.length:Int))∧True)∧(TT∧(TT∧True)))
     ([(5,qr (p0.getD k0 [])),(3,.sc (.sl 80 0 z0.1 1 none)),(8,qi (k0:Int)),(7,qi (p0.length:Int)),(6,.sc (.rob p0))],[(80,.ints .u8 z0.1 z0.2)])
     160 (⟨⟨(by omega),trivial⟩,⟨tt,⟨tt,trivial⟩⟩⟩) ?_
   refine Tri.len 80 rfl (fun hl2 => ?_)
   refine rr [] none [3,8,7,6] [192] (TT∧(TT∧((((((True∧(1=1))∧((0 < 1)∧(((z0.1 + ((p0.getD k0 []).length)) * 1≤140737488355328)∧(z0.1 + ((p0.getD k0 []).length)≤140737488355328))))∧((p0.getD k0 []).length=((p0.getD k0 []).length) * 1))∧((1=1)∧(0 + z0.1 * 1=z0.1)))∧True)∧(TT∧True))))
     ([(3,.sc (.sl 192 0 (z0.1 + ((p0.getD k0 []).length)) 1 none)),(8,qi (k0:Int)),(7,qi (p0.length:Int)),(6,.sc (.rob p0))],[(192,.ints .u8 (z0.1 + ((p0.getD k0 []).length)) (z0.2 ++ (p0.getD k0 [])))])
     224 (⟨tt,⟨tt,⟨⟨⟨⟨⟨⟨trivial,(rfl)⟩,⟨(by omega),⟨(by first | omega | (have hq:=lens_le hJ0 (by omega); omega) | (have hq:=lens_le hJ1 (by omega); omega) | (have hq:=lens_le hJ2 (by omega); omega) | (have hq:=lens_le hJ3 (by omega); omega) | (rw [adr_eq]; omega) | exact iAnd_nn _ _ | exact iSub_nn _ _ | exact part1_le (by omega) (by first | omega | (simp only [List.length_append]; omega)) | (rw [iMul_i64 (by omega) (by omega)]; omega) | decide),(by first | omega | (have hq:=lens_le hJ0 (by omega); omega) | (have hq:=lens_le hJ1 (by omega); omega) | (have hq:=lens_le hJ2 (by omega); omega) | (have hq:=lens_le hJ3 (by omega); omega) | (rw [adr_eq]; omega) | exact iAnd_nn _ _ | exact iSub_nn _ _ | exact part1_le (by omega) (by first | omega | (simp only [List.length_append]; omega)) | (rw [iMul_i64 (by omega) (by omega)]; omega) | decide)⟩⟩⟩,(by omega)⟩,⟨(rfl),(by omega)⟩⟩,trivial⟩,⟨tt,trivial⟩⟩⟩⟩) ?_
   change Tri _ _ _ _ _ _
   refine rr [(15,.i .i64 ((k0 + 1:Nat):Int))] none [8,3,7,6] [192] ((True∧((iAdd .i64 (k0:Int) 1)=((k0 + 1:Nat):Int)))∧(TT∧True))
     ([(8,qi ((k0 + 1:Nat):Int)),(3,.sc (.sl 192 0 (z0.1 + ((p0.getD k0 []).length)) 1 none)),(7,qi (p0.length:Int)),(6,.sc (.rob p0))],[(192,.ints .u8 (z0.1 + ((p0.getD k0 []).length)) (z0.2 ++ (p0.getD k0 [])))])
     256 (⟨⟨trivial,(iAdd_nat (a:=k0) (b:=1) (by omega))⟩,⟨tt,trivial⟩⟩) ?_
   repeat (refine blkP_normal ?_)
   refine countP_normal (by omega) (show z0.1 + (p0.getD k0 []).length=0 + (lensTo p0 k0 + (p0.getD k0 []).length) by omega) ?_
   exact Sub.ren (ns:=[(192,80)]) (kf:=[3,8,7,6]) (by kernel_rfl) (by kernel_rfl)
  ·
   have h1':=of_decide_eq_false h1
   refine Tri.exit ?_
   have hend0:k0=p0.length:=by (have:=of_decide_eq_false h1; omega)
   subst hend0; subst hz0
   change Tri _ _ _ _ _ _
   refine sr [] none [2] [80] (TT∧(TT∧True))
     ([(2,.sc (.sl 80 0 ((itr (FT21l0 p0) p0.length (0,[])).1) 1 none))],[(80,.ints .u8 ((itr (FT21l0 p0) p0.length (0,[])).1) ((itr (FT21l0 p0) p0.length (0,[])).2))])
     144 (⟨tt,⟨tt,trivial⟩⟩) ?_
   refine Tri.ret ?_
   refine endP.conv (r':=⟨.sc (.sl 0 0 ((itr (FT21l0 p0) p0.length (0,[])).1) 1 none),[.ints .u8 ((itr (FT21l0 p0) p0.length (0,[])).1) ((itr (FT21l0 p0) p0.length (0,[])).2)]⟩) (by simp only [FT21,nT21,sel_true,sel_false]) ?_
   exact endP.ret [(80,0)] TT (by kernel_rfl) (by kernel_rfl) (by kernel_rfl) tt
theorem lenT21 (p0:List (List Int)):(FT21 p0).length=lensTo p0 p0.length:=by
 have h0:∀ k,(itr (FT21l0 p0) k (0,[])).2.length=lensTo p0 k:=by
  intro k
  induction k with
  | zero => rw [itr_zero]; rfl
  | succ k ih => rw [itr_succ]; show ((itr (FT21l0 p0) k (0,[])).2 ++ p0.getD k []).length=lensTo p0 k + (p0.getD k []).length; rw [List.length_append,ih]
 exact h0 _
end Go.Vm
set_option linter.unusedVariables false
set_option linter.unusedSimpArgs false
set_option maxRecDepth 4000
namespace Go.Vm
open Go
noncomputable def FT9 (p0:List Int):Int :=
 (sel (((p0.length:Int):Int) != 32) 2 0)
noncomputable def FT9_1 (p0:List Int):List Int :=
 (sel (((p0.length:Int):Int) != 32) [] (FT20 (FT19 (FT18) (part1 (F43 (((FD35 p0).drop 0).take 32)) 32 0 32))))
noncomputable def FT9n0 (p0:List Int):Nat :=
 (sel (((p0.length:Int):Int) != 32) 0 32)
noncomputable def ST9:List AV→Option (Prop × Ret)
 | [.sc (.ro .u8 p0)] => some (True,⟨.tup [.sc (.sl 0 0 (FT9n0 p0) 1 (some (FT9n0 p0))),.sc (.i .i64 (FT9 p0))],[.ints .u8 (FT9n0 p0) (FT9_1 p0)]⟩)
 | _ => none
noncomputable def BT9:Bs:={ P:=Go.Proofs.Tryd.prog,G:=gD,tab:=tabOf [(16,⟨[.ro .u8],0,SD35⟩),(17,⟨[.val],0,S43⟩),(18,⟨[],0,ST18⟩),(19,⟨[.val,.ro .u8],0,ST19⟩),(20,⟨[.val],1,ST20⟩)],n:=19 }
theorem BT9.ok:BT9.Ok:=⟨tabOk (P:=Go.Proofs.Tryd.prog) (G:=gD) (l:=[(16,⟨[.ro .u8],0,SD35⟩),(17,⟨[.val],0,S43⟩),(18,⟨[],0,ST18⟩),(19,⟨[.val,.ro .u8],0,ST19⟩),(20,⟨[.val],1,ST20⟩)]) (And.intro KD35 (And.intro K43 (And.intro KT18 (And.intro KT19 (And.intro KT20 True.intro))))),mixed⟩
theorem KT9:Known Go.Proofs.Tryd.prog gD 9 ⟨[.ro .u8],1,ST9⟩:=by
 refine Known.walk (B:=BT9) (fn:=Go.Proofs.Tryd.f9) BT9.ok (by kernel_rfl) rfl (by kernel_rfl) (by kernel_rfl) (by decide) ?_ ?_
 ·intro vs C r h
  simp only at h
  unfold ST9 at h
  split at h
  ·cases h; rfl
  ·cases h
 ·intro E args C r h hC hlen
  simp only at h
  unfold ST9 at h
  split at h
  rotate_left
  ·cases h
  rename_i p0
  cases h
  simp only [lens] at hlen
  refine ⟨show 1≤19 from by decide,?_⟩
  refine Tri.sub (Sub.of_eq (show _=([(0,qr p0)],[]) from rfl)) ?_
  refine sr [] none [0] [] (TT∧(TT∧True))
    ([(0,qr p0)],[])
    32 (⟨tt,⟨tt,trivial⟩⟩) ?_
  refine Tri.seq ?_
  refine sr [] none [8,0] [] (TT∧(TT∧(TT∧True)))
    ([(8,.sc (.b (((p0.length:Int):Int) != 32))),(0,qr p0)],[])
    80 (⟨tt,⟨tt,⟨tt,trivial⟩⟩⟩) ?_
  refine Tri.cond (x:=(((p0.length:Int):Int) != 32)) (by kernel_rfl) (fun h1 => ?_) (fun h1 => ?_)
  ·
   have h1':=ne_true_i h1
   refine sr [] none [3,2] [] (TT∧(TT∧True))
     ([(3,qi 2),(2,.sc (.nils))],[])
     112 (⟨tt,⟨tt,trivial⟩⟩) ?_
   refine Tri.sub (Sub.openNil (U:=112) (U':=128) 2 112 1 .u8 (some 0) (.inr rfl) (by decide) (by decide) (by kernel_rfl) (by kernel_rfl)) ?_
   refine Tri.ret ?_
   repeat (first | refine thenP_ret ?_ | refine blkP_ret ?_ | refine countP_ret ?_ | refine joinP_ret ?_)
   refine endP.conv (r':=⟨.tup [.sc (.sl 0 0 0 1 (some 0)),.sc (.i .i64 2)],[.ints .u8 0 []]⟩) (by simp only [FT9,FT9_1,FT9n0,h1,sel_true,sel_false]) ?_
   exact endP.ret [(112,0)] (True∧TT) (by kernel_rfl) (by kernel_rfl) (by kernel_rfl) ⟨trivial,tt⟩
  ·
   have h1':=ne_false_i h1
   refine Tri.skip ?_
   change Tri _ _ _ _ _ _
   refine sr [] none [4] [112] (TT∧(((True∧(p0.length≤100000000))∧True)∧(TT∧(((True∧(64=64))∧True)∧True))))
     ([(4,qp 112 0)],[(112,.ints .u8 64 (FD35 p0))])
     144 (⟨tt,⟨⟨⟨trivial,(by omega)⟩,trivial⟩,⟨tt,⟨⟨⟨trivial,(rfl)⟩,trivial⟩,trivial⟩⟩⟩⟩) ?_
   refine sr [] none [5] [208] (((((0:Int)≤0∧(0:Int)≤32∧32≤((64:Nat):Int))∧(64≤64))∧True)∧(((0 < 32∧32≤32)∧True)∧(((0 + 32≤64)∧True)∧((TT∧True)∧(TT∧(((True∧(32=32))∧True)∧True))))))
     ([(5,qp 208 0)],[(208,.ints .u8 32 (F43 (((FD35 p0).drop 0).take 32)))])
     240 (⟨⟨⟨(by omega),(by omega)⟩,trivial⟩,⟨⟨(by omega),trivial⟩,⟨⟨(by omega),trivial⟩,⟨⟨tt,trivial⟩,⟨tt,⟨⟨⟨trivial,(rfl)⟩,trivial⟩,trivial⟩⟩⟩⟩⟩⟩) ?_
   refine Tri.len 208 rfl (fun hl2 => ?_)
   refine sr [] (some [0,0,3,7,15,31]) [3,2] [288] ((TT∧True)∧(((((0:Int)≤0∧(0:Int)≤32∧32≤((32:Nat):Int))∧(32≤32))∧True)∧(((((0 + 32≤32)∧True)∧((part1 (F43 (((FD35 p0).drop 0).take 32)) 32 0 32).length≤1000000))∧True)∧((TT∧True)∧(TT∧(TT∧True))))))
     ([(3,qi 0),(2,.sc (.sl 288 0 32 1 (some 32)))],[(288,.ints .u8 32 (FT20 (FT19 (FT18) (part1 (F43 (((FD35 p0).drop 0).take 32)) 32 0 32))))])
     336 (⟨⟨tt,trivial⟩,⟨⟨⟨(by omega),(by omega)⟩,trivial⟩,⟨⟨⟨⟨(by omega),trivial⟩,(by first | omega | (rw [adr_eq]; omega) | exact iAnd_nn _ _ | exact iSub_nn _ _ | exact part1_le (by omega) (by first | omega | (simp only [List.length_append]; omega)) | decide)⟩,trivial⟩,⟨⟨tt,trivial⟩,⟨tt,⟨tt,trivial⟩⟩⟩⟩⟩⟩) ?_
   refine Tri.ret ?_
   repeat (first | refine thenP_ret ?_ | refine blkP_ret ?_ | refine countP_ret ?_ | refine joinP_ret ?_)
   refine endP.conv (r':=⟨.tup [.sc (.sl 0 0 32 1 (some 32)),.sc (.i .i64 0)],[.ints .u8 32 (FT20 (FT19 (FT18) (part1 (F43 (((FD35 p0).drop 0).take 32)) 32 0 32)))]⟩) (by simp only [FT9,FT9_1,FT9n0,h1,sel_true,sel_false]) ?_
   exact endP.ret [(288,0)] (True∧TT) (by kernel_rfl) (by kernel_rfl) (by kernel_rfl) ⟨trivial,tt⟩
theorem lenT9 {p0:List Int} (h:(((FT9 p0):Int) != 0)=false):p0.length=32:=by
 unfold FT9 at h
 cases hb:(((p0.length:Int):Int) != 32)
 ·have:=ne_false_i hb
  omega
 ·rw [hb,sel_true] at h
  cases h
theorem nT9_le (p0:List Int):FT9n0 p0≤32:=by
 unfold FT9n0
 cases (((p0.length:Int):Int) != 32) <;> decide
theorem lens_two {a b:List Int} (h:a.length≤20000) (h':b.length≤20000):lensTo [a,b] [a,b].length≤100000∧[a,b].length≤100000:=⟨(show 0 + a.length + b.length≤100000 by omega),(show 2≤100000 by omega)⟩
theorem lens_three {a b c:List Int} (h:a.length≤20000) (h':b.length≤20000) (h'':c.length≤20000):lensTo [a,b,c] [a,b,c].length≤100000∧[a,b,c].length≤100000:=⟨(show 0 + a.length + b.length + c.length≤100000 by omega),(show 3≤100000 by omega)⟩
theorem join_le {X:List (List Int)} (h:lensTo X X.length≤100000):(part1 (FT21 X) (lensTo X X.length) 0 (lensTo X X.length)).length≤100000000:=part1_le (Nat.le_trans h (by decide)) (by rw [lenT21]; exact Nat.le_trans h (by decide))
theorem nT9_32 {p0:List Int} (h:(((p0.length:Int):Int) != 32)=false):FT9n0 p0=32:=by
 unfold FT9n0
 rw [h,sel_false]
noncomputable def FT10 (p0:List Int) (p1:List Int):Int :=
 (sel (((FT9 p0):Int) != 0) (FT9 p0) 0)
noncomputable def FT10_1 (p0:List Int) (p1:List Int):List Int :=
 (sel (((FT9 p0):Int) != 0) [] ((FT20 (FT19 (FT18) (part1 (FT23 (FT22 (part1 (FD35 (part1 (FT21 [part1 (FD35 p0) 64 32 32,p1]) (lensTo [part1 (FD35 p0) 64 32 32,p1] [part1 (FD35 p0) 64 32 32,p1].length) 0 (lensTo [part1 (FD35 p0) 64 32 32,p1] [part1 (FD35 p0) 64 32 32,p1].length))) 64 0 64))) 32 0 32))) ++ (FT23 (FT25 (FT24 (FT22 (part1 (FD35 (part1 (FT21 ([part1 (FT20 (FT19 (FT18) (part1 (FT23 (FT22 (part1 (FD35 (part1 (FT21 [part1 (FD35 p0) 64 32 32,p1]) (lensTo [part1 (FD35 p0) 64 32 32,p1] [part1 (FD35 p0) 64 32 32,p1].length) 0 (lensTo [part1 (FD35 p0) 64 32 32,p1] [part1 (FD35 p0) 64 32 32,p1].length))) 64 0 64))) 32 0 32))) 32 0 32,part1 (FT9_1 p0) (FT9n0 p0) 0 (FT9n0 p0),p1])) (lensTo ([part1 (FT20 (FT19 (FT18) (part1 (FT23 (FT22 (part1 (FD35 (part1 (FT21 [part1 (FD35 p0) 64 32 32,p1]) (lensTo [part1 (FD35 p0) 64 32 32,p1] [part1 (FD35 p0) 64 32 32,p1].length) 0 (lensTo [part1 (FD35 p0) 64 32 32,p1] [part1 (FD35 p0) 64 32 32,p1].length))) 64 0 64))) 32 0 32))) 32 0 32,part1 (FT9_1 p0) (FT9n0 p0) 0 (FT9n0 p0),p1]) ([part1 (FT20 (FT19 (FT18) (part1 (FT23 (FT22 (part1 (FD35 (part1 (FT21 [part1 (FD35 p0) 64 32 32,p1]) (lensTo [part1 (FD35 p0) 64 32 32,p1] [part1 (FD35 p0) 64 32 32,p1].length) 0 (lensTo [part1 (FD35 p0) 64 32 32,p1] [part1 (FD35 p0) 64 32 32,p1].length))) 64 0 64))) 32 0 32))) 32 0 32,part1 (FT9_1 p0) (FT9n0 p0) 0 (FT9n0 p0),p1]).length) 0 (lensTo ([part1 (FT20 (FT19 (FT18) (part1 (FT23 (FT22 (part1 (FD35 (part1 (FT21 [part1 (FD35 p0) 64 32 32,p1]) (lensTo [part1 (FD35 p0) 64 32 32,p1] [part1 (FD35 p0) 64 32 32,p1].length) 0 (lensTo [part1 (FD35 p0) 64 32 32,p1] [part1 (FD35 p0) 64 32 32,p1].length))) 64 0 64))) 32 0 32))) 32 0 32,part1 (FT9_1 p0) (FT9n0 p0) 0 (FT9n0 p0),p1]) ([part1 (FT20 (FT19 (FT18) (part1 (FT23 (FT22 (part1 (FD35 (part1 (FT21 [part1 (FD35 p0) 64 32 32,p1]) (lensTo [part1 (FD35 p0) 64 32 32,p1] [part1 (FD35 p0) 64 32 32,p1].length) 0 (lensTo [part1 (FD35 p0) 64 32 32,p1] [part1 (FD35 p0) 64 32 32,p1].length))) 64 0 64))) 32 0 32))) 32 0 32,part1 (FT9_1 p0) (FT9n0 p0) 0 (FT9n0 p0),p1]).length))) 64 0 64)) (FT22 (part1 (F43 (((FD35 p0).drop 0).take 32)) 32 0 32))) (FT22 (part1 (FD35 (part1 (FT21 [part1 (FD35 p0) 64 32 32,p1]) (lensTo [part1 (FD35 p0) 64 32 32,p1] [part1 (FD35 p0) 64 32 32,p1].length) 0 (lensTo [part1 (FD35 p0) 64 32 32,p1] [part1 (FD35 p0) 64 32 32,p1].length))) 64 0 64))))))
noncomputable def ST10:List AV→Option (Prop × Ret)
 | [.sc (.ro .u8 p0),.sc (.ro .u8 p1)] => some (p1.length≤10000,⟨.tup [.sc (.sl 0 0 (sel (((FT9 p0):Int) != 0) 0 64) 1 none),.sc (.i .i64 (FT10 p0 p1))],[.ints .u8 (sel (((FT9 p0):Int) != 0) 0 64) (FT10_1 p0 p1)]⟩)
 | _ => none
noncomputable def BT10:Bs:={ P:=Go.Proofs.Tryd.prog,G:=gD,tab:=tabOf [(9,⟨[.ro .u8],1,ST9⟩),(16,⟨[.ro .u8],0,SD35⟩),(17,⟨[.val],0,S43⟩),(18,⟨[],0,ST18⟩),(19,⟨[.val,.ro .u8],0,ST19⟩),(20,⟨[.val],1,ST20⟩),(21,⟨[.rob [(384,[208]),(672,[576,48])]],1,ST21⟩),(22,⟨[.ro .u8],0,ST22⟩),(23,⟨[.val],1,ST23⟩),(24,⟨[.val,.val],0,ST24⟩),(25,⟨[.val,.val],0,ST25⟩)],n:=56 }
theorem BT10.ok:BT10.Ok:=⟨tabOk (P:=Go.Proofs.Tryd.prog) (G:=gD) (l:=[(9,⟨[.ro .u8],1,ST9⟩),(16,⟨[.ro .u8],0,SD35⟩),(17,⟨[.val],0,S43⟩),(18,⟨[],0,ST18⟩),(19,⟨[.val,.ro .u8],0,ST19⟩),(20,⟨[.val],1,ST20⟩),(21,⟨[.rob [(384,[208]),(672,[576,48])]],1,ST21⟩),(22,⟨[.ro .u8],0,ST22⟩),(23,⟨[.val],1,ST23⟩),(24,⟨[.val,.val],0,ST24⟩),(25,⟨[.val,.val],0,ST25⟩)]) (And.intro KT9 (And.intro KD35 (And.intro K43 (And.intro KT18 (And.intro KT19 (And.intro KT20 (And.intro (Known.ps KT21) (And.intro KT22 (And.intro KT23 (And.intro KT24 (And.intro KT25 True.intro))))))))))),mixed⟩
theorem KT10:Known Go.Proofs.Tryd.prog gD 10 ⟨[.ro .u8,.ro .u8],1,ST10⟩:=by
 refine Known.walk (B:=BT10) (fn:=Go.Proofs.Tryd.f10) BT10.ok (by kernel_rfl) rfl (by kernel_rfl) (by kernel_rfl) (by decide) ?_ ?_
 ·intro vs C r h
  simp only at h
  unfold ST10 at h
  split at h
  ·cases h; rfl
  ·cases h
 ·intro E args C r h hC hlen
  simp only at h
  unfold ST10 at h
  split at h
  rotate_left
  ·cases h
  rename_i p0 p1
  cases h
  simp only [lens] at hlen
  have hn9:=nT9_le p0
  refine ⟨show 2≤56 from by decide,?_⟩
  refine Tri.sub (Sub.of_eq (show _=([(0,qr p0),(1,qr p1)],[]) from rfl)) ?_
  refine sr [] none [0,1] [] (TT∧(TT∧True))
    ([(0,qr p0),(1,qr p1)],[])
    32 (⟨tt,⟨tt,trivial⟩⟩) ?_
  refine sr [] none [7,6,0,1] [48] (TT∧((TT∧True)∧(TT∧(TT∧(TT∧(TT∧(TT∧True)))))))
    ([(7,qi (FT9 p0)),(6,.sc (.sl 48 0 (FT9n0 p0) 1 (some (FT9n0 p0)))),(0,qr p0),(1,qr p1)],[(48,.ints .u8 (FT9n0 p0) (FT9_1 p0))])
    144 (⟨tt,⟨⟨tt,trivial⟩,⟨tt,⟨tt,⟨tt,⟨tt,⟨tt,trivial⟩⟩⟩⟩⟩⟩⟩) ?_
  refine Tri.seq ?_
  refine sr [] none [20,7,6,0,1] [48] (TT∧(TT∧True))
    ([(20,.sc (.b (((FT9 p0):Int) != 0))),(7,qi (FT9 p0)),(6,.sc (.sl 48 0 (FT9n0 p0) 1 (some (FT9n0 p0)))),(0,qr p0),(1,qr p1)],[(48,.ints .u8 (FT9n0 p0) (FT9_1 p0))])
    176 (⟨tt,⟨tt,trivial⟩⟩) ?_
  refine Tri.cond (x:=(((FT9 p0):Int) != 0)) (by kernel_rfl) (fun h1 => ?_) (fun h1 => ?_)
  ·
   have h1':=ne_true_i h1
   refine sr [] none [5,4] [] (TT∧(TT∧(TT∧True)))
     ([(5,qi (FT9 p0)),(4,.sc (.nils))],[])
     224 (⟨tt,⟨tt,⟨tt,trivial⟩⟩⟩) ?_
   refine Tri.sub (Sub.openNil (U:=224) (U':=240) 4 224 1 .u8 none (.inl rfl) (by decide) (by decide) (by kernel_rfl) (by kernel_rfl)) ?_
   refine Tri.ret ?_
   repeat (first | refine thenP_ret ?_ | refine blkP_ret ?_ | refine countP_ret ?_ | refine joinP_ret ?_)
   refine endP.conv (r':=⟨.tup [.sc (.sl 0 0 0 1 none),.sc (.i .i64 (FT9 p0))],[.ints .u8 0 []]⟩) (by simp only [FT10,FT10_1,h1,sel_true,sel_false]) ?_
   exact endP.ret [(224,0)] (True∧TT) (by kernel_rfl) (by kernel_rfl) (by kernel_rfl) ⟨trivial,tt⟩
  ·
   have h1':=ne_false_i h1
   refine Tri.skip ?_
   change Tri _ _ _ _ _ _
   refine Tri.len 48 rfl (fun hl2 => ?_)
   refine sr [] none [8,6,1] [208,48] (TT∧(((True∧(p0.length≤100000000))∧True)∧(TT∧(((True∧(64=64))∧True)∧True))))
     ([(8,qp 208 0),(6,.sc (.sl 48 0 (FT9n0 p0) 1 (some (FT9n0 p0)))),(1,qr p1)],[(208,.ints .u8 64 (FD35 p0)),(48,.ints .u8 (FT9n0 p0) (FT9_1 p0))])
     240 (⟨tt,⟨⟨⟨trivial,(by first | omega | (have hl:=lenT9 (p0:=p0) (by assumption); omega) | exact join_le (lens_two (by first | omega | exact part1_le (by omega) (by omega) | (rw [List.length_take]; omega)) (by first | omega | exact part1_le (by omega) (by omega) | (rw [List.length_take]; omega))).1 | exact join_le (lens_three (by first | omega | exact part1_le (by omega) (by omega) | (rw [List.length_take]; omega)) (by first | omega | exact part1_le (by omega) (by omega) | (rw [List.length_take]; omega)) (by first | omega | exact part1_le (by omega) (by omega) | (rw [List.length_take]; omega))).1)⟩,trivial⟩,⟨tt,⟨⟨⟨trivial,(rfl)⟩,trivial⟩,trivial⟩⟩⟩⟩) ?_
   refine sr [] none [9,8,6,1] [304,208,48] (((((0:Int)≤0∧(0:Int)≤32∧32≤((64:Nat):Int))∧(64≤64))∧True)∧(((0 < 32∧32≤32)∧True)∧(((0 + 32≤64)∧True)∧((TT∧True)∧(TT∧(((True∧(32=32))∧True)∧True))))))
     ([(9,qp 304 0),(8,qp 208 0),(6,.sc (.sl 48 0 (FT9n0 p0) 1 (some (FT9n0 p0)))),(1,qr p1)],[(304,.ints .u8 32 (F43 (((FD35 p0).drop 0).take 32))),(208,.ints .u8 64 (FD35 p0)),(48,.ints .u8 (FT9n0 p0) (FT9_1 p0))])
     336 (⟨⟨⟨(by omega),(by omega)⟩,trivial⟩,⟨⟨(by omega),trivial⟩,⟨⟨(by omega),trivial⟩,⟨⟨tt,trivial⟩,⟨tt,⟨⟨⟨trivial,(rfl)⟩,trivial⟩,trivial⟩⟩⟩⟩⟩⟩) ?_
   refine Tri.len 304 rfl (fun hl3 => ?_)
   refine Tri.len 208 rfl (fun hl4 => ?_)
   refine Tri.len 48 rfl (fun hl5 => ?_)
   refine sr [] none [10,9,6,1] [416,304,48] (((((0:Int)≤32∧(32:Int)≤64∧64≤((64:Nat):Int))∧(64≤64))∧True)∧(TT∧((((((0 < 2)∧(1=1))∧(((1 < 2)∧(1=1))∧True))∧((2 * 1≤16777216)∧(1=1)))∧True)∧((((((0 + 2≤2)∧((32 + 32≤64)∧TT))∧True)∧(lensTo [part1 (FD35 p0) 64 32 32,p1] [part1 (FD35 p0) 64 32 32,p1].length≤100000∧[part1 (FD35 p0) 64 32 32,p1].length≤100000))∧True)∧(((((0 + (lensTo [part1 (FD35 p0) 64 32 32,p1] [part1 (FD35 p0) 64 32 32,p1].length)≤(lensTo [part1 (FD35 p0) 64 32 32,p1] [part1 (FD35 p0) 64 32 32,p1].length))∧True)∧((part1 (FT21 [part1 (FD35 p0) 64 32 32,p1]) (lensTo [part1 (FD35 p0) 64 32 32,p1] [part1 (FD35 p0) 64 32 32,p1].length) 0 (lensTo [part1 (FD35 p0) 64 32 32,p1] [part1 (FD35 p0) 64 32 32,p1].length)).length≤100000000))∧True)∧(TT∧(((True∧(64=64))∧True)∧True)))))))
     ([(10,qp 416 0),(9,qp 304 0),(6,.sc (.sl 48 0 (FT9n0 p0) 1 (some (FT9n0 p0)))),(1,qr p1)],[(416,.ints .u8 64 (FD35 (part1 (FT21 [part1 (FD35 p0) 64 32 32,p1]) (lensTo [part1 (FD35 p0) 64 32 32,p1] [part1 (FD35 p0) 64 32 32,p1].length) 0 (lensTo [part1 (FD35 p0) 64 32 32,p1] [part1 (FD35 p0) 64 32 32,p1].length)))),(304,.ints .u8 32 (F43 (((FD35 p0).drop 0).take 32))),(48,.ints .u8 (FT9n0 p0) (FT9_1 p0))])
     448 (⟨⟨⟨(by omega),(by omega)⟩,trivial⟩,⟨tt,⟨⟨⟨⟨⟨(by omega),(rfl)⟩,⟨⟨(by omega),(rfl)⟩,trivial⟩⟩,⟨(by omega),(rfl)⟩⟩,trivial⟩,⟨⟨⟨⟨⟨(by decide),⟨(by omega),tt⟩⟩,trivial⟩,(by first | exact lens_two (by first | omega | exact part1_le (by omega) (by omega) | (rw [List.length_take]; omega)) (by first | omega | exact part1_le (by omega) (by omega) | (rw [List.length_take]; omega)) | exact lens_three (by first | omega | exact part1_le (by omega) (by omega) | (rw [List.length_take]; omega)) (by first | omega | exact part1_le (by omega) (by omega) | (rw [List.length_take]; omega)) (by first | omega | exact part1_le (by omega) (by omega) | (rw [List.length_take]; omega)))⟩,trivial⟩,⟨⟨⟨⟨(by omega),trivial⟩,(by first | omega | (have hl:=lenT9 (p0:=p0) (by assumption); omega) | exact join_le (lens_two (by first | omega | exact part1_le (by omega) (by omega) | (rw [List.length_take]; omega)) (by first | omega | exact part1_le (by omega) (by omega) | (rw [List.length_take]; omega))).1 | exact join_le (lens_three (by first | omega | exact part1_le (by omega) (by omega) | (rw [List.length_take]; omega)) (by first | omega | exact part1_le (by omega) (by omega) | (rw [List.length_take]; omega)) (by first | omega | exact part1_le (by omega) (by omega) | (rw [List.length_take]; omega))).1)⟩,trivial⟩,⟨tt,⟨⟨⟨trivial,(rfl)⟩,trivial⟩,trivial⟩⟩⟩⟩⟩⟩⟩) ?_
   refine Tri.len 416 rfl (fun hl6 => ?_)
   refine Tri.len 304 rfl (fun hl7 => ?_)
   refine Tri.len 48 rfl (fun hl8 => ?_)
   refine sr [] none [11,9,6,1] [480,304,48] (((((0:Int)≤0∧(0:Int)≤64∧64≤((64:Nat):Int))∧(64≤64))∧True)∧(((((0 + 64≤64)∧True)∧((part1 (FD35 (part1 (FT21 [part1 (FD35 p0) 64 32 32,p1]) (lensTo [part1 (FD35 p0) 64 32 32,p1] [part1 (FD35 p0) 64 32 32,p1].length) 0 (lensTo [part1 (FD35 p0) 64 32 32,p1] [part1 (FD35 p0) 64 32 32,p1].length))) 64 0 64).length≤1000000))∧True)∧(TT∧(((True∧(4=4))∧True)∧True))))
     ([(11,qp 480 0),(9,qp 304 0),(6,.sc (.sl 48 0 (FT9n0 p0) 1 (some (FT9n0 p0)))),(1,qr p1)],[(480,.ints .u64 4 (FT22 (part1 (FD35 (part1 (FT21 [part1 (FD35 p0) 64 32 32,p1]) (lensTo [part1 (FD35 p0) 64 32 32,p1] [part1 (FD35 p0) 64 32 32,p1].length) 0 (lensTo [part1 (FD35 p0) 64 32 32,p1] [part1 (FD35 p0) 64 32 32,p1].length))) 64 0 64))),(304,.ints .u8 32 (F43 (((FD35 p0).drop 0).take 32))),(48,.ints .u8 (FT9n0 p0) (FT9_1 p0))])
     512 (⟨⟨⟨(by omega),(by omega)⟩,trivial⟩,⟨⟨⟨⟨(by omega),trivial⟩,(by first | omega | (rw [adr_eq]; omega) | exact iAnd_nn _ _ | exact iSub_nn _ _ | exact part1_le (by omega) (by first | omega | (simp only [List.length_append]; omega)) | decide)⟩,trivial⟩,⟨tt,⟨⟨⟨trivial,(rfl)⟩,trivial⟩,trivial⟩⟩⟩⟩) ?_
   refine Tri.len 480 rfl (fun hl9 => ?_)
   refine Tri.len 304 rfl (fun hl10 => ?_)
   refine Tri.len 48 rfl (fun hl11 => ?_)
   refine sr [] (some [0,0,3,7,15,31]) [12,11,9,6,1] [576,480,304,48] ((TT∧True)∧(TT∧((TT∧True)∧(((((0 + 32≤32)∧True)∧((part1 (FT23 (FT22 (part1 (FD35 (part1 (FT21 [part1 (FD35 p0) 64 32 32,p1]) (lensTo [part1 (FD35 p0) 64 32 32,p1] [part1 (FD35 p0) 64 32 32,p1].length) 0 (lensTo [part1 (FD35 p0) 64 32 32,p1] [part1 (FD35 p0) 64 32 32,p1].length))) 64 0 64))) 32 0 32).length≤1000000))∧True)∧((TT∧True)∧(TT∧True))))))
     ([(12,.sc (.sl 576 0 32 1 (some 32))),(11,qp 480 0),(9,qp 304 0),(6,.sc (.sl 48 0 (FT9n0 p0) 1 (some (FT9n0 p0)))),(1,qr p1)],[(576,.ints .u8 32 (FT20 (FT19 (FT18) (part1 (FT23 (FT22 (part1 (FD35 (part1 (FT21 [part1 (FD35 p0) 64 32 32,p1]) (lensTo [part1 (FD35 p0) 64 32 32,p1] [part1 (FD35 p0) 64 32 32,p1].length) 0 (lensTo [part1 (FD35 p0) 64 32 32,p1] [part1 (FD35 p0) 64 32 32,p1].length))) 64 0 64))) 32 0 32)))),(480,.ints .u64 4 (FT22 (part1 (FD35 (part1 (FT21 [part1 (FD35 p0) 64 32 32,p1]) (lensTo [part1 (FD35 p0) 64 32 32,p1] [part1 (FD35 p0) 64 32 32,p1].length) 0 (lensTo [part1 (FD35 p0) 64 32 32,p1] [part1 (FD35 p0) 64 32 32,p1].length))) 64 0 64))),(304,.ints .u8 32 (F43 (((FD35 p0).drop 0).take 32))),(48,.ints .u8 (FT9n0 p0) (FT9_1 p0))])
     608 (⟨⟨tt,trivial⟩,⟨tt,⟨⟨tt,trivial⟩,⟨⟨⟨⟨(by omega),trivial⟩,(by exact part1_le (by decide) (by rw [lenT23]; decide))⟩,trivial⟩,⟨⟨tt,trivial⟩,⟨tt,trivial⟩⟩⟩⟩⟩⟩) ?_
   refine Tri.len 576 rfl (fun hl12 => ?_)
   refine Tri.len 480 rfl (fun hl13 => ?_)
   refine Tri.len 304 rfl (fun hl14 => ?_)
   refine Tri.len 48 rfl (fun hl15 => ?_)
   refine sr [] none [13,12,11,9] [704,576,480,304] (TT∧(TT∧(TT∧((((((0 < 3)∧(1=1))∧(((1 < 3)∧(1=1))∧(((2 < 3)∧(1=1))∧True)))∧((3 * 1≤16777216)∧(1=1)))∧True)∧((((((0 + 3≤3)∧((0 + 32≤32)∧((0 + (FT9n0 p0)≤(FT9n0 p0))∧TT)))∧True)∧(lensTo ([part1 (FT20 (FT19 (FT18) (part1 (FT23 (FT22 (part1 (FD35 (part1 (FT21 [part1 (FD35 p0) 64 32 32,p1]) (lensTo [part1 (FD35 p0) 64 32 32,p1] [part1 (FD35 p0) 64 32 32,p1].length) 0 (lensTo [part1 (FD35 p0) 64 32 32,p1] [part1 (FD35 p0) 64 32 32,p1].length))) 64 0 64))) 32 0 32))) 32 0 32,part1 (FT9_1 p0) (FT9n0 p0) 0 (FT9n0 p0),p1]) ([part1 (FT20 (FT19 (FT18) (part1 (FT23 (FT22 (part1 (FD35 (part1 (FT21 [part1 (FD35 p0) 64 32 32,p1]) (lensTo [part1 (FD35 p0) 64 32 32,p1] [part1 (FD35 p0) 64 32 32,p1].length) 0 (lensTo [part1 (FD35 p0) 64 32 32,p1] [part1 (FD35 p0) 64 32 32,p1].length))) 64 0 64))) 32 0 32))) 32 0 32,part1 (FT9_1 p0) (FT9n0 p0) 0 (FT9n0 p0),p1]).length≤100000∧([part1 (FT20 (FT19 (FT18) (part1 (FT23 (FT22 (part1 (FD35 (part1 (FT21 [part1 (FD35 p0) 64 32 32,p1]) (lensTo [part1 (FD35 p0) 64 32 32,p1] [part1 (FD35 p0) 64 32 32,p1].length) 0 (lensTo [part1 (FD35 p0) 64 32 32,p1] [part1 (FD35 p0) 64 32 32,p1].length))) 64 0 64))) 32 0 32))) 32 0 32,part1 (FT9_1 p0) (FT9n0 p0) 0 (FT9n0 p0),p1]).length≤100000))∧True)∧(((((0 + (lensTo ([part1 (FT20 (FT19 (FT18) (part1 (FT23 (FT22 (part1 (FD35 (part1 (FT21 [part1 (FD35 p0) 64 32 32,p1]) (lensTo [part1 (FD35 p0) 64 32 32,p1] [part1 (FD35 p0) 64 32 32,p1].length) 0 (lensTo [part1 (FD35 p0) 64 32 32,p1] [part1 (FD35 p0) 64 32 32,p1].length))) 64 0 64))) 32 0 32))) 32 0 32,part1 (FT9_1 p0) (FT9n0 p0) 0 (FT9n0 p0),p1]) ([part1 (FT20 (FT19 (FT18) (part1 (FT23 (FT22 (part1 (FD35 (part1 (FT21 [part1 (FD35 p0) 64 32 32,p1]) (lensTo [part1 (FD35 p0) 64 32 32,p1] [part1 (FD35 p0) 64 32 32,p1].length) 0 (lensTo [part1 (FD35 p0) 64 32 32,p1] [part1 (FD35 p0) 64 32 32,p1].length))) 64 0 64))) 32 0 32))) 32 0 32,part1 (FT9_1 p0) (FT9n0 p0) 0 (FT9n0 p0),p1]).length)≤(lensTo ([part1 (FT20 (FT19 (FT18) (part1 (FT23 (FT22 (part1 (FD35 (part1 (FT21 [part1 (FD35 p0) 64 32 32,p1]) (lensTo [part1 (FD35 p0) 64 32 32,p1] [part1 (FD35 p0) 64 32 32,p1].length) 0 (lensTo [part1 (FD35 p0) 64 32 32,p1] [part1 (FD35 p0) 64 32 32,p1].length))) 64 0 64))) 32 0 32))) 32 0 32,part1 (FT9_1 p0) (FT9n0 p0) 0 (FT9n0 p0),p1]) ([part1 (FT20 (FT19 (FT18) (part1 (FT23 (FT22 (part1 (FD35 (part1 (FT21 [part1 (FD35 p0) 64 32 32,p1]) (lensTo [part1 (FD35 p0) 64 32 32,p1] [part1 (FD35 p0) 64 32 32,p1].length) 0 (lensTo [part1 (FD35 p0) 64 32 32,p1] [part1 (FD35 p0) 64 32 32,p1].length))) 64 0 64))) 32 0 32))) 32 0 32,part1 (FT9_1 p0) (FT9n0 p0) 0 (FT9n0 p0),p1]).length))∧True)∧((part1 (FT21 ([part1 (FT20 (FT19 (FT18) (part1 (FT23 (FT22 (part1 (FD35 (part1 (FT21 [part1 (FD35 p0) 64 32 32,p1]) (lensTo [part1 (FD35 p0) 64 32 32,p1] [part1 (FD35 p0) 64 32 32,p1].length) 0 (lensTo [part1 (FD35 p0) 64 32 32,p1] [part1 (FD35 p0) 64 32 32,p1].length))) 64 0 64))) 32 0 32))) 32 0 32,part1 (FT9_1 p0) (FT9n0 p0) 0 (FT9n0 p0),p1])) (lensTo ([part1 (FT20 (FT19 (FT18) (part1 (FT23 (FT22 (part1 (FD35 (part1 (FT21 [part1 (FD35 p0) 64 32 32,p1]) (lensTo [part1 (FD35 p0) 64 32 32,p1] [part1 (FD35 p0) 64 32 32,p1].length) 0 (lensTo [part1 (FD35 p0) 64 32 32,p1] [part1 (FD35 p0) 64 32 32,p1].length))) 64 0 64))) 32 0 32))) 32 0 32,part1 (FT9_1 p0) (FT9n0 p0) 0 (FT9n0 p0),p1]) ([part1 (FT20 (FT19 (FT18) (part1 (FT23 (FT22 (part1 (FD35 (part1 (FT21 [part1 (FD35 p0) 64 32 32,p1]) (lensTo [part1 (FD35 p0) 64 32 32,p1] [part1 (FD35 p0) 64 32 32,p1].length) 0 (lensTo [part1 (FD35 p0) 64 32 32,p1] [part1 (FD35 p0) 64 32 32,p1].length))) 64 0 64))) 32 0 32))) 32 0 32,part1 (FT9_1 p0) (FT9n0 p0) 0 (FT9n0 p0),p1]).length) 0 (lensTo ([part1 (FT20 (FT19 (FT18) (part1 (FT23 (FT22 (part1 (FD35 (part1 (FT21 [part1 (FD35 p0) 64 32 32,p1]) (lensTo [part1 (FD35 p0) 64 32 32,p1] [part1 (FD35 p0) 64 32 32,p1].length) 0 (lensTo [part1 (FD35 p0) 64 32 32,p1] [part1 (FD35 p0) 64 32 32,p1].length))) 64 0 64))) 32 0 32))) 32 0 32,part1 (FT9_1 p0) (FT9n0 p0) 0 (FT9n0 p0),p1]) ([part1 (FT20 (FT19 (FT18) (part1 (FT23 (FT22 (part1 (FD35 (part1 (FT21 [part1 (FD35 p0) 64 32 32,p1]) (lensTo [part1 (FD35 p0) 64 32 32,p1] [part1 (FD35 p0) 64 32 32,p1].length) 0 (lensTo [part1 (FD35 p0) 64 32 32,p1] [part1 (FD35 p0) 64 32 32,p1].length))) 64 0 64))) 32 0 32))) 32 0 32,part1 (FT9_1 p0) (FT9n0 p0) 0 (FT9n0 p0),p1]).length)).length≤100000000))∧True)∧(TT∧(((True∧(64=64))∧True)∧True))))))))
     ([(13,qp 704 0),(12,.sc (.sl 576 0 32 1 (some 32))),(11,qp 480 0),(9,qp 304 0)],[(704,.ints .u8 64 (FD35 (part1 (FT21 ([part1 (FT20 (FT19 (FT18) (part1 (FT23 (FT22 (part1 (FD35 (part1 (FT21 [part1 (FD35 p0) 64 32 32,p1]) (lensTo [part1 (FD35 p0) 64 32 32,p1] [part1 (FD35 p0) 64 32 32,p1].length) 0 (lensTo [part1 (FD35 p0) 64 32 32,p1] [part1 (FD35 p0) 64 32 32,p1].length))) 64 0 64))) 32 0 32))) 32 0 32,part1 (FT9_1 p0) (FT9n0 p0) 0 (FT9n0 p0),p1])) (lensTo ([part1 (FT20 (FT19 (FT18) (part1 (FT23 (FT22 (part1 (FD35 (part1 (FT21 [part1 (FD35 p0) 64 32 32,p1]) (lensTo [part1 (FD35 p0) 64 32 32,p1] [part1 (FD35 p0) 64 32 32,p1].length) 0 (lensTo [part1 (FD35 p0) 64 32 32,p1] [part1 (FD35 p0) 64 32 32,p1].length))) 64 0 64))) 32 0 32))) 32 0 32,part1 (FT9_1 p0) (FT9n0 p0) 0 (FT9n0 p0),p1]) ([part1 (FT20 (FT19 (FT18) (part1 (FT23 (FT22 (part1 (FD35 (part1 (FT21 [part1 (FD35 p0) 64 32 32,p1]) (lensTo [part1 (FD35 p0) 64 32 32,p1] [part1 (FD35 p0) 64 32 32,p1].length) 0 (lensTo [part1 (FD35 p0) 64 32 32,p1] [part1 (FD35 p0) 64 32 32,p1].length))) 64 0 64))) 32 0 32))) 32 0 32,part1 (FT9_1 p0) (FT9n0 p0) 0 (FT9n0 p0),p1]).length) 0 (lensTo ([part1 (FT20 (FT19 (FT18) (part1 (FT23 (FT22 (part1 (FD35 (part1 (FT21 [part1 (FD35 p0) 64 32 32,p1]) (lensTo [part1 (FD35 p0) 64 32 32,p1] [part1 (FD35 p0) 64 32 32,p1].length) 0 (lensTo [part1 (FD35 p0) 64 32 32,p1] [part1 (FD35 p0) 64 32 32,p1].length))) 64 0 64))) 32 0 32))) 32 0 32,part1 (FT9_1 p0) (FT9n0 p0) 0 (FT9n0 p0),p1]) ([part1 (FT20 (FT19 (FT18) (part1 (FT23 (FT22 (part1 (FD35 (part1 (FT21 [part1 (FD35 p0) 64 32 32,p1]) (lensTo [part1 (FD35 p0) 64 32 32,p1] [part1 (FD35 p0) 64 32 32,p1].length) 0 (lensTo [part1 (FD35 p0) 64 32 32,p1] [part1 (FD35 p0) 64 32 32,p1].length))) 64 0 64))) 32 0 32))) 32 0 32,part1 (FT9_1 p0) (FT9n0 p0) 0 (FT9n0 p0),p1]).length)))),(576,.ints .u8 32 (FT20 (FT19 (FT18) (part1 (FT23 (FT22 (part1 (FD35 (part1 (FT21 [part1 (FD35 p0) 64 32 32,p1]) (lensTo [part1 (FD35 p0) 64 32 32,p1] [part1 (FD35 p0) 64 32 32,p1].length) 0 (lensTo [part1 (FD35 p0) 64 32 32,p1] [part1 (FD35 p0) 64 32 32,p1].length))) 64 0 64))) 32 0 32)))),(480,.ints .u64 4 (FT22 (part1 (FD35 (part1 (FT21 [part1 (FD35 p0) 64 32 32,p1]) (lensTo [part1 (FD35 p0) 64 32 32,p1] [part1 (FD35 p0) 64 32 32,p1].length) 0 (lensTo [part1 (FD35 p0) 64 32 32,p1] [part1 (FD35 p0) 64 32 32,p1].length))) 64 0 64))),(304,.ints .u8 32 (F43 (((FD35 p0).drop 0).take 32)))])
     736 (⟨tt,⟨tt,⟨tt,⟨⟨⟨⟨⟨(by omega),(rfl)⟩,⟨⟨(by omega),(rfl)⟩,⟨⟨(by omega),(rfl)⟩,trivial⟩⟩⟩,⟨(by omega),(rfl)⟩⟩,trivial⟩,⟨⟨⟨⟨⟨(by decide),⟨(by omega),⟨(by omega),tt⟩⟩⟩,trivial⟩,(by first | exact lens_two (by first | omega | exact part1_le (by omega) (by omega) | (rw [List.length_take]; omega)) (by first | omega | exact part1_le (by omega) (by omega) | (rw [List.length_take]; omega)) | exact lens_three (by first | omega | exact part1_le (by omega) (by omega) | (rw [List.length_take]; omega)) (by first | omega | exact part1_le (by omega) (by omega) | (rw [List.length_take]; omega)) (by first | omega | exact part1_le (by omega) (by omega) | (rw [List.length_take]; omega)))⟩,trivial⟩,⟨⟨⟨⟨(by omega),trivial⟩,(by first | omega | (have hl:=lenT9 (p0:=p0) (by assumption); omega) | exact join_le (lens_two (by first | omega | exact part1_le (by omega) (by omega) | (rw [List.length_take]; omega)) (by first | omega | exact part1_le (by omega) (by omega) | (rw [List.length_take]; omega))).1 | exact join_le (lens_three (by first | omega | exact part1_le (by omega) (by omega) | (rw [List.length_take]; omega)) (by first | omega | exact part1_le (by omega) (by omega) | (rw [List.length_take]; omega)) (by first | omega | exact part1_le (by omega) (by omega) | (rw [List.length_take]; omega))).1)⟩,trivial⟩,⟨tt,⟨⟨⟨trivial,(rfl)⟩,trivial⟩,trivial⟩⟩⟩⟩⟩⟩⟩⟩) ?_
   refine Tri.len 704 rfl (fun hl16 => ?_)
   refine Tri.len 576 rfl (fun hl17 => ?_)
   refine Tri.len 480 rfl (fun hl18 => ?_)
   refine Tri.len 304 rfl (fun hl19 => ?_)
   refine sr [] (some [0,0,2,0,14,30,0,126,254,511,1023,2047]) [5,4] [880] (TT∧(((((0:Int)≤0∧(0:Int)≤64∧64≤((64:Nat):Int))∧(64≤64))∧True)∧(((((0 + 64≤64)∧True)∧((part1 (FD35 (part1 (FT21 ([part1 (FT20 (FT19 (FT18) (part1 (FT23 (FT22 (part1 (FD35 (part1 (FT21 [part1 (FD35 p0) 64 32 32,p1]) (lensTo [part1 (FD35 p0) 64 32 32,p1] [part1 (FD35 p0) 64 32 32,p1].length) 0 (lensTo [part1 (FD35 p0) 64 32 32,p1] [part1 (FD35 p0) 64 32 32,p1].length))) 64 0 64))) 32 0 32))) 32 0 32,part1 (FT9_1 p0) (FT9n0 p0) 0 (FT9n0 p0),p1])) (lensTo ([part1 (FT20 (FT19 (FT18) (part1 (FT23 (FT22 (part1 (FD35 (part1 (FT21 [part1 (FD35 p0) 64 32 32,p1]) (lensTo [part1 (FD35 p0) 64 32 32,p1] [part1 (FD35 p0) 64 32 32,p1].length) 0 (lensTo [part1 (FD35 p0) 64 32 32,p1] [part1 (FD35 p0) 64 32 32,p1].length))) 64 0 64))) 32 0 32))) 32 0 32,part1 (FT9_1 p0) (FT9n0 p0) 0 (FT9n0 p0),p1]) ([part1 (FT20 (FT19 (FT18) (part1 (FT23 (FT22 (part1 (FD35 (part1 (FT21 [part1 (FD35 p0) 64 32 32,p1]) (lensTo [part1 (FD35 p0) 64 32 32,p1] [part1 (FD35 p0) 64 32 32,p1].length) 0 (lensTo [part1 (FD35 p0) 64 32 32,p1] [part1 (FD35 p0) 64 32 32,p1].length))) 64 0 64))) 32 0 32))) 32 0 32,part1 (FT9_1 p0) (FT9n0 p0) 0 (FT9n0 p0),p1]).length) 0 (lensTo ([part1 (FT20 (FT19 (FT18) (part1 (FT23 (FT22 (part1 (FD35 (part1 (FT21 [part1 (FD35 p0) 64 32 32,p1]) (lensTo [part1 (FD35 p0) 64 32 32,p1] [part1 (FD35 p0) 64 32 32,p1].length) 0 (lensTo [part1 (FD35 p0) 64 32 32,p1] [part1 (FD35 p0) 64 32 32,p1].length))) 64 0 64))) 32 0 32))) 32 0 32,part1 (FT9_1 p0) (FT9n0 p0) 0 (FT9n0 p0),p1]) ([part1 (FT20 (FT19 (FT18) (part1 (FT23 (FT22 (part1 (FD35 (part1 (FT21 [part1 (FD35 p0) 64 32 32,p1]) (lensTo [part1 (FD35 p0) 64 32 32,p1] [part1 (FD35 p0) 64 32 32,p1].length) 0 (lensTo [part1 (FD35 p0) 64 32 32,p1] [part1 (FD35 p0) 64 32 32,p1].length))) 64 0 64))) 32 0 32))) 32 0 32,part1 (FT9_1 p0) (FT9n0 p0) 0 (FT9n0 p0),p1]).length))) 64 0 64).length≤1000000))∧True)∧(((((0:Int)≤0∧(0:Int)≤32∧32≤((32:Nat):Int))∧(32≤32))∧True)∧(((((0 + 32≤32)∧True)∧((part1 (F43 (((FD35 p0).drop 0).take 32)) 32 0 32).length≤1000000))∧True)∧(((True∧(rng (FT22 (part1 (FD35 (part1 (FT21 ([part1 (FT20 (FT19 (FT18) (part1 (FT23 (FT22 (part1 (FD35 (part1 (FT21 [part1 (FD35 p0) 64 32 32,p1]) (lensTo [part1 (FD35 p0) 64 32 32,p1] [part1 (FD35 p0) 64 32 32,p1].length) 0 (lensTo [part1 (FD35 p0) 64 32 32,p1] [part1 (FD35 p0) 64 32 32,p1].length))) 64 0 64))) 32 0 32))) 32 0 32,part1 (FT9_1 p0) (FT9n0 p0) 0 (FT9n0 p0),p1])) (lensTo ([part1 (FT20 (FT19 (FT18) (part1 (FT23 (FT22 (part1 (FD35 (part1 (FT21 [part1 (FD35 p0) 64 32 32,p1]) (lensTo [part1 (FD35 p0) 64 32 32,p1] [part1 (FD35 p0) 64 32 32,p1].length) 0 (lensTo [part1 (FD35 p0) 64 32 32,p1] [part1 (FD35 p0) 64 32 32,p1].length))) 64 0 64))) 32 0 32))) 32 0 32,part1 (FT9_1 p0) (FT9n0 p0) 0 (FT9n0 p0),p1]) ([part1 (FT20 (FT19 (FT18) (part1 (FT23 (FT22 (part1 (FD35 (part1 (FT21 [part1 (FD35 p0) 64 32 32,p1]) (lensTo [part1 (FD35 p0) 64 32 32,p1] [part1 (FD35 p0) 64 32 32,p1].length) 0 (lensTo [part1 (FD35 p0) 64 32 32,p1] [part1 (FD35 p0) 64 32 32,p1].length))) 64 0 64))) 32 0 32))) 32 0 32,part1 (FT9_1 p0) (FT9n0 p0) 0 (FT9n0 p0),p1]).length) 0 (lensTo ([part1 (FT20 (FT19 (FT18) (part1 (FT23 (FT22 (part1 (FD35 (part1 (FT21 [part1 (FD35 p0) 64 32 32,p1]) (lensTo [part1 (FD35 p0) 64 32 32,p1] [part1 (FD35 p0) 64 32 32,p1].length) 0 (lensTo [part1 (FD35 p0) 64 32 32,p1] [part1 (FD35 p0) 64 32 32,p1].length))) 64 0 64))) 32 0 32))) 32 0 32,part1 (FT9_1 p0) (FT9n0 p0) 0 (FT9n0 p0),p1]) ([part1 (FT20 (FT19 (FT18) (part1 (FT23 (FT22 (part1 (FD35 (part1 (FT21 [part1 (FD35 p0) 64 32 32,p1]) (lensTo [part1 (FD35 p0) 64 32 32,p1] [part1 (FD35 p0) 64 32 32,p1].length) 0 (lensTo [part1 (FD35 p0) 64 32 32,p1] [part1 (FD35 p0) 64 32 32,p1].length))) 64 0 64))) 32 0 32))) 32 0 32,part1 (FT9_1 p0) (FT9n0 p0) 0 (FT9n0 p0),p1]).length))) 64 0 64))∧rng (FT22 (part1 (F43 (((FD35 p0).drop 0).take 32)) 32 0 32))))∧True)∧(TT∧(((True∧(rng (FT24 (FT22 (part1 (FD35 (part1 (FT21 ([part1 (FT20 (FT19 (FT18) (part1 (FT23 (FT22 (part1 (FD35 (part1 (FT21 [part1 (FD35 p0) 64 32 32,p1]) (lensTo [part1 (FD35 p0) 64 32 32,p1] [part1 (FD35 p0) 64 32 32,p1].length) 0 (lensTo [part1 (FD35 p0) 64 32 32,p1] [part1 (FD35 p0) 64 32 32,p1].length))) 64 0 64))) 32 0 32))) 32 0 32,part1 (FT9_1 p0) (FT9n0 p0) 0 (FT9n0 p0),p1])) (lensTo ([part1 (FT20 (FT19 (FT18) (part1 (FT23 (FT22 (part1 (FD35 (part1 (FT21 [part1 (FD35 p0) 64 32 32,p1]) (lensTo [part1 (FD35 p0) 64 32 32,p1] [part1 (FD35 p0) 64 32 32,p1].length) 0 (lensTo [part1 (FD35 p0) 64 32 32,p1] [part1 (FD35 p0) 64 32 32,p1].length))) 64 0 64))) 32 0 32))) 32 0 32,part1 (FT9_1 p0) (FT9n0 p0) 0 (FT9n0 p0),p1]) ([part1 (FT20 (FT19 (FT18) (part1 (FT23 (FT22 (part1 (FD35 (part1 (FT21 [part1 (FD35 p0) 64 32 32,p1]) (lensTo [part1 (FD35 p0) 64 32 32,p1] [part1 (FD35 p0) 64 32 32,p1].length) 0 (lensTo [part1 (FD35 p0) 64 32 32,p1] [part1 (FD35 p0) 64 32 32,p1].length))) 64 0 64))) 32 0 32))) 32 0 32,part1 (FT9_1 p0) (FT9n0 p0) 0 (FT9n0 p0),p1]).length) 0 (lensTo ([part1 (FT20 (FT19 (FT18) (part1 (FT23 (FT22 (part1 (FD35 (part1 (FT21 [part1 (FD35 p0) 64 32 32,p1]) (lensTo [part1 (FD35 p0) 64 32 32,p1] [part1 (FD35 p0) 64 32 32,p1].length) 0 (lensTo [part1 (FD35 p0) 64 32 32,p1] [part1 (FD35 p0) 64 32 32,p1].length))) 64 0 64))) 32 0 32))) 32 0 32,part1 (FT9_1 p0) (FT9n0 p0) 0 (FT9n0 p0),p1]) ([part1 (FT20 (FT19 (FT18) (part1 (FT23 (FT22 (part1 (FD35 (part1 (FT21 [part1 (FD35 p0) 64 32 32,p1]) (lensTo [part1 (FD35 p0) 64 32 32,p1] [part1 (FD35 p0) 64 32 32,p1].length) 0 (lensTo [part1 (FD35 p0) 64 32 32,p1] [part1 (FD35 p0) 64 32 32,p1].length))) 64 0 64))) 32 0 32))) 32 0 32,part1 (FT9_1 p0) (FT9n0 p0) 0 (FT9n0 p0),p1]).length))) 64 0 64)) (FT22 (part1 (F43 (((FD35 p0).drop 0).take 32)) 32 0 32)))∧rng (FT22 (part1 (FD35 (part1 (FT21 [part1 (FD35 p0) 64 32 32,p1]) (lensTo [part1 (FD35 p0) 64 32 32,p1] [part1 (FD35 p0) 64 32 32,p1].length) 0 (lensTo [part1 (FD35 p0) 64 32 32,p1] [part1 (FD35 p0) 64 32 32,p1].length))) 64 0 64))))∧True)∧((TT∧True)∧((((((TT∧(1=1))∧((0 < 1)∧((64 * 1≤140737488355328)∧(64≤140737488355328))))∧(32=32 * 1))∧((1=1)∧((32=32)∧(0 < 32))))∧True)∧(TT∧(TT∧True))))))))))))
     ([(5,qi 0),(4,.sc (.sl 880 0 64 1 none))],[(880,.ints .u8 64 ((FT20 (FT19 (FT18) (part1 (FT23 (FT22 (part1 (FD35 (part1 (FT21 [part1 (FD35 p0) 64 32 32,p1]) (lensTo [part1 (FD35 p0) 64 32 32,p1] [part1 (FD35 p0) 64 32 32,p1].length) 0 (lensTo [part1 (FD35 p0) 64 32 32,p1] [part1 (FD35 p0) 64 32 32,p1].length))) 64 0 64))) 32 0 32))) ++ (FT23 (FT25 (FT24 (FT22 (part1 (FD35 (part1 (FT21 ([part1 (FT20 (FT19 (FT18) (part1 (FT23 (FT22 (part1 (FD35 (part1 (FT21 [part1 (FD35 p0) 64 32 32,p1]) (lensTo [part1 (FD35 p0) 64 32 32,p1] [part1 (FD35 p0) 64 32 32,p1].length) 0 (lensTo [part1 (FD35 p0) 64 32 32,p1] [part1 (FD35 p0) 64 32 32,p1].length))) 64 0 64))) 32 0 32))) 32 0 32,part1 (FT9_1 p0) (FT9n0 p0) 0 (FT9n0 p0),p1])) (lensTo ([part1 (FT20 (FT19 (FT18) (part1 (FT23 (FT22 (part1 (FD35 (part1 (FT21 [part1 (FD35 p0) 64 32 32,p1]) (lensTo [part1 (FD35 p0) 64 32 32,p1] [part1 (FD35 p0) 64 32 32,p1].length) 0 (lensTo [part1 (FD35 p0) 64 32 32,p1] [part1 (FD35 p0) 64 32 32,p1].length))) 64 0 64))) 32 0 32))) 32 0 32,part1 (FT9_1 p0) (FT9n0 p0) 0 (FT9n0 p0),p1]) ([part1 (FT20 (FT19 (FT18) (part1 (FT23 (FT22 (part1 (FD35 (part1 (FT21 [part1 (FD35 p0) 64 32 32,p1]) (lensTo [part1 (FD35 p0) 64 32 32,p1] [part1 (FD35 p0) 64 32 32,p1].length) 0 (lensTo [part1 (FD35 p0) 64 32 32,p1] [part1 (FD35 p0) 64 32 32,p1].length))) 64 0 64))) 32 0 32))) 32 0 32,part1 (FT9_1 p0) (FT9n0 p0) 0 (FT9n0 p0),p1]).length) 0 (lensTo ([part1 (FT20 (FT19 (FT18) (part1 (FT23 (FT22 (part1 (FD35 (part1 (FT21 [part1 (FD35 p0) 64 32 32,p1]) (lensTo [part1 (FD35 p0) 64 32 32,p1] [part1 (FD35 p0) 64 32 32,p1].length) 0 (lensTo [part1 (FD35 p0) 64 32 32,p1] [part1 (FD35 p0) 64 32 32,p1].length))) 64 0 64))) 32 0 32))) 32 0 32,part1 (FT9_1 p0) (FT9n0 p0) 0 (FT9n0 p0),p1]) ([part1 (FT20 (FT19 (FT18) (part1 (FT23 (FT22 (part1 (FD35 (part1 (FT21 [part1 (FD35 p0) 64 32 32,p1]) (lensTo [part1 (FD35 p0) 64 32 32,p1] [part1 (FD35 p0) 64 32 32,p1].length) 0 (lensTo [part1 (FD35 p0) 64 32 32,p1] [part1 (FD35 p0) 64 32 32,p1].length))) 64 0 64))) 32 0 32))) 32 0 32,part1 (FT9_1 p0) (FT9n0 p0) 0 (FT9n0 p0),p1]).length))) 64 0 64)) (FT22 (part1 (F43 (((FD35 p0).drop 0).take 32)) 32 0 32))) (FT22 (part1 (FD35 (part1 (FT21 [part1 (FD35 p0) 64 32 32,p1]) (lensTo [part1 (FD35 p0) 64 32 32,p1] [part1 (FD35 p0) 64 32 32,p1].length) 0 (lensTo [part1 (FD35 p0) 64 32 32,p1] [part1 (FD35 p0) 64 32 32,p1].length))) 64 0 64))))))])
     928 (⟨tt,⟨⟨⟨(by omega),(by omega)⟩,trivial⟩,⟨⟨⟨⟨(by omega),trivial⟩,(by first | omega | (rw [adr_eq]; omega) | exact iAnd_nn _ _ | exact iSub_nn _ _ | exact part1_le (by omega) (by first | omega | (simp only [List.length_append]; omega)) | decide)⟩,trivial⟩,⟨⟨⟨(by omega),(by omega)⟩,trivial⟩,⟨⟨⟨⟨(by omega),trivial⟩,(by first | omega | (rw [adr_eq]; omega) | exact iAnd_nn _ _ | exact iSub_nn _ _ | exact part1_le (by omega) (by first | omega | (simp only [List.length_append]; omega)) | decide)⟩,trivial⟩,⟨⟨⟨trivial,(⟨rng22 _,rng22 _⟩)⟩,trivial⟩,⟨tt,⟨⟨⟨trivial,(⟨rng24 _ _,rng22 _⟩)⟩,trivial⟩,⟨⟨tt,trivial⟩,⟨⟨⟨⟨⟨⟨tt,(rfl)⟩,⟨(by omega),⟨(by omega),(by omega)⟩⟩⟩,(by omega)⟩,⟨(rfl),⟨(by omega),(by omega)⟩⟩⟩,trivial⟩,⟨tt,⟨tt,trivial⟩⟩⟩⟩⟩⟩⟩⟩⟩⟩⟩⟩) ?_
   refine Tri.ret ?_
   repeat (first | refine thenP_ret ?_ | refine blkP_ret ?_ | refine countP_ret ?_ | refine joinP_ret ?_)
   refine endP.conv (r':=⟨.tup [.sc (.sl 0 0 64 1 none),.sc (.i .i64 0)],[.ints .u8 64 ((FT20 (FT19 (FT18) (part1 (FT23 (FT22 (part1 (FD35 (part1 (FT21 [part1 (FD35 p0) 64 32 32,p1]) (lensTo [part1 (FD35 p0) 64 32 32,p1] [part1 (FD35 p0) 64 32 32,p1].length) 0 (lensTo [part1 (FD35 p0) 64 32 32,p1] [part1 (FD35 p0) 64 32 32,p1].length))) 64 0 64))) 32 0 32))) ++ (FT23 (FT25 (FT24 (FT22 (part1 (FD35 (part1 (FT21 ([part1 (FT20 (FT19 (FT18) (part1 (FT23 (FT22 (part1 (FD35 (part1 (FT21 [part1 (FD35 p0) 64 32 32,p1]) (lensTo [part1 (FD35 p0) 64 32 32,p1] [part1 (FD35 p0) 64 32 32,p1].length) 0 (lensTo [part1 (FD35 p0) 64 32 32,p1] [part1 (FD35 p0) 64 32 32,p1].length))) 64 0 64))) 32 0 32))) 32 0 32,part1 (FT9_1 p0) (FT9n0 p0) 0 (FT9n0 p0),p1])) (lensTo ([part1 (FT20 (FT19 (FT18) (part1 (FT23 (FT22 (part1 (FD35 (part1 (FT21 [part1 (FD35 p0) 64 32 32,p1]) (lensTo [part1 (FD35 p0) 64 32 32,p1] [part1 (FD35 p0) 64 32 32,p1].length) 0 (lensTo [part1 (FD35 p0) 64 32 32,p1] [part1 (FD35 p0) 64 32 32,p1].length))) 64 0 64))) 32 0 32))) 32 0 32,part1 (FT9_1 p0) (FT9n0 p0) 0 (FT9n0 p0),p1]) ([part1 (FT20 (FT19 (FT18) (part1 (FT23 (FT22 (part1 (FD35 (part1 (FT21 [part1 (FD35 p0) 64 32 32,p1]) (lensTo [part1 (FD35 p0) 64 32 32,p1] [part1 (FD35 p0) 64 32 32,p1].length) 0 (lensTo [part1 (FD35 p0) 64 32 32,p1] [part1 (FD35 p0) 64 32 32,p1].length))) 64 0 64))) 32 0 32))) 32 0 32,part1 (FT9_1 p0) (FT9n0 p0) 0 (FT9n0 p0),p1]).length) 0 (lensTo ([part1 (FT20 (FT19 (FT18) (part1 (FT23 (FT22 (part1 (FD35 (part1 (FT21 [part1 (FD35 p0) 64 32 32,p1]) (lensTo [part1 (FD35 p0) 64 32 32,p1] [part1 (FD35 p0) 64 32 32,p1].length) 0 (lensTo [part1 (FD35 p0) 64 32 32,p1] [part1 (FD35 p0) 64 32 32,p1].length))) 64 0 64))) 32 0 32))) 32 0 32,part1 (FT9_1 p0) (FT9n0 p0) 0 (FT9n0 p0),p1]) ([part1 (FT20 (FT19 (FT18) (part1 (FT23 (FT22 (part1 (FD35 (part1 (FT21 [part1 (FD35 p0) 64 32 32,p1]) (lensTo [part1 (FD35 p0) 64 32 32,p1] [part1 (FD35 p0) 64 32 32,p1].length) 0 (lensTo [part1 (FD35 p0) 64 32 32,p1] [part1 (FD35 p0) 64 32 32,p1].length))) 64 0 64))) 32 0 32))) 32 0 32,part1 (FT9_1 p0) (FT9n0 p0) 0 (FT9n0 p0),p1]).length))) 64 0 64)) (FT22 (part1 (F43 (((FD35 p0).drop 0).take 32)) 32 0 32))) (FT22 (part1 (FD35 (part1 (FT21 [part1 (FD35 p0) 64 32 32,p1]) (lensTo [part1 (FD35 p0) 64 32 32,p1] [part1 (FD35 p0) 64 32 32,p1].length) 0 (lensTo [part1 (FD35 p0) 64 32 32,p1] [part1 (FD35 p0) 64 32 32,p1].length))) 64 0 64)))))]⟩) (by simp only [FT10,FT10_1,h1,sel_true,sel_false]) ?_
   exact endP.ret [(880,0)] (True∧TT) (by kernel_rfl) (by kernel_rfl) (by kernel_rfl) ⟨trivial,tt⟩
noncomputable def FT13l0 (p2:List Int) (k0:Nat) (z0:List Int):List Int :=
 z0.set (k0 / 8) (iOr .u64 (z0.getD (k0 / 8) 0) (iShl .u64 (IntKind.wrap .u64 (p2.getD (32 + k0) 0)) ((8 * (k0 % 8):Nat):Int)))
noncomputable def FT13 (p0:List Int) (p1:List Int) (p2:List Int):Bool :=
 (sel (((p2.length:Int):Int) != 64) false (sel (!(FT33_1 p0)) false (sel (!(FT34 (itr (FT13l0 p2) 32 [0,0,0,0]) ((gOrder.drop 0).take 4))) false (strEq (bytesOf (((FT20 (FT38 (FT19 (FT18) (part1 (FT23 (itr (FT13l0 p2) 32 [0,0,0,0])) 32 0 32)) (FT19 (splice (splice (FT33 p0) 0 (F18 (F30 0) (((FT33 p0).drop 0).take 5))) 15 (F18 (F30 0) (((FT33 p0).drop 15).take 5))) (part1 (FT23 (FT22 (part1 (FD35 (part1 (FT21 [(p2.drop 0).take 32,p0,p1]) (lensTo [(p2.drop 0).take 32,p0,p1] [(p2.drop 0).take 32,p0,p1].length) 0 (lensTo [(p2.drop 0).take 32,p0,p1] [(p2.drop 0).take 32,p0,p1].length))) 64 0 64))) 32 0 32)) (F16 (FT37) (FT37)))).drop 0).take 32)) (bytesOf ((p2.drop 0).take 32))))))
noncomputable def ST13:List AV→Option (Prop × Ret)
 | [.sc (.ro .u8 p0),.sc (.ro .u8 p1),.sc (.ro .u8 p2)] => some (p1.length≤10000,⟨.sc (.b (FT13 p0 p1 p2)),[]⟩)
 | _ => none
noncomputable def BT13:Bs:={ P:=Go.Proofs.Tryd.prog,G:=gD,tab:=tabOf [(16,⟨[.ro .u8],0,SD35⟩),(18,⟨[],0,ST18⟩),(19,⟨[.val,.ro .u8],0,ST19⟩),(20,⟨[.val],1,ST20⟩),(21,⟨[.rob [(448,[])]],1,ST21⟩),(22,⟨[.ro .u8],0,ST22⟩),(23,⟨[.val],1,ST23⟩),(33,⟨[.ro .u8],0,ST33⟩),(34,⟨[.val,.val],0,ST34⟩),(35,⟨[.val],0,S30⟩),(36,⟨[.val,.val],0,S18⟩),(37,⟨[],0,ST37⟩),(38,⟨[.val,.val,.val],0,ST38⟩),(39,⟨[.val,.val],0,S16⟩)],n:=88 }
theorem BT13.ok:BT13.Ok:=⟨tabOk (P:=Go.Proofs.Tryd.prog) (G:=gD) (l:=[(16,⟨[.ro .u8],0,SD35⟩),(18,⟨[],0,ST18⟩),(19,⟨[.val,.ro .u8],0,ST19⟩),(20,⟨[.val],1,ST20⟩),(21,⟨[.rob [(448,[])]],1,ST21⟩),(22,⟨[.ro .u8],0,ST22⟩),(23,⟨[.val],1,ST23⟩),(33,⟨[.ro .u8],0,ST33⟩),(34,⟨[.val,.val],0,ST34⟩),(35,⟨[.val],0,S30⟩),(36,⟨[.val,.val],0,S18⟩),(37,⟨[],0,ST37⟩),(38,⟨[.val,.val,.val],0,ST38⟩),(39,⟨[.val,.val],0,S16⟩)]) (And.intro KD35 (And.intro KT18 (And.intro KT19 (And.intro KT20 (And.intro (Known.ps KT21) (And.intro KT22 (And.intro KT23 (And.intro KT33 (And.intro KT34 (And.intro K30 (And.intro K18 (And.intro KT37 (And.intro KT38 (And.intro K16 True.intro)))))))))))))),mixed⟩
theorem KT13:Known Go.Proofs.Tryd.prog gD 13 ⟨[.ro .u8,.ro .u8,.ro .u8],0,ST13⟩:=by
 refine Known.walk (B:=BT13) (fn:=Go.Proofs.Tryd.f13) BT13.ok (by kernel_rfl) rfl (by kernel_rfl) (by kernel_rfl) (by decide) ?_ ?_
 ·intro vs C r h
  simp only at h
  unfold ST13 at h
  split at h
  ·cases h; rfl
  ·cases h
 ·intro E args C r h hC hlen
  simp only at h
  unfold ST13 at h
  split at h
  rotate_left
  ·cases h
  rename_i p0 p1 p2
  cases h
  simp only [lens] at hlen
  refine ⟨show 3≤88 from by decide,?_⟩
  refine Tri.sub (Sub.of_eq (show _=([(0,qr p0),(1,qr p1),(2,qr p2)],[]) from rfl)) ?_
  refine sr [] none [0,1,2] [] (TT∧True)
    ([(0,qr p0),(1,qr p1),(2,qr p2)],[])
    16 (⟨tt,trivial⟩) ?_
  refine Tri.seq ?_
  refine sr [] none [16,0,1,2] [] (TT∧(TT∧(TT∧True)))
    ([(16,.sc (.b (((p2.length:Int):Int) != 64))),(0,qr p0),(1,qr p1),(2,qr p2)],[])
    64 (⟨tt,⟨tt,⟨tt,trivial⟩⟩⟩) ?_
  refine Tri.cond (x:=(((p2.length:Int):Int) != 64)) (by kernel_rfl) (fun h1 => ?_) (fun h1 => ?_)
  ·
   have h1':=ne_true_i h1
   refine sr [] none [6] [] (TT∧True)
     ([(6,.sc (.b false))],[])
     80 (⟨tt,trivial⟩) ?_
   refine Tri.ret ?_
   repeat (first | refine thenP_ret ?_ | refine blkP_ret ?_ | refine countP_ret ?_ | refine joinP_ret ?_)
   refine endP.conv (r':=⟨.sc (.b false),[]⟩) (by simp only [FT13,h1,sel_true,sel_false]) ?_
   exact endP.ret [] TT (by kernel_rfl) (by kernel_rfl) (by kernel_rfl) tt
  ·
   have h1':=ne_false_i h1
   refine Tri.skip ?_
   change Tri _ _ _ _ _ _
   refine sr [] none [8,7,0,1,2] [144] (TT∧((TT∧True)∧(TT∧(TT∧(TT∧(TT∧(((True∧(20=20))∧True)∧(TT∧True))))))))
     ([(8,.sc (.b (FT33_1 p0))),(7,qp 144 0),(0,qr p0),(1,qr p1),(2,qr p2)],[(144,.ints .u64 20 (FT33 p0))])
     192 (⟨tt,⟨⟨tt,trivial⟩,⟨tt,⟨tt,⟨tt,⟨tt,⟨⟨⟨trivial,(rfl)⟩,trivial⟩,⟨tt,trivial⟩⟩⟩⟩⟩⟩⟩⟩) ?_
   refine sr [] none [9,8,7,0,1,2] [192,144] (TT∧True)
     ([(9,qp 192 0),(8,.sc (.b (FT33_1 p0))),(7,qp 144 0),(0,qr p0),(1,qr p1),(2,qr p2)],[(192,.ints .u64 4 [0,0,0,0]),(144,.ints .u64 20 (FT33 p0))])
     208 (⟨tt,trivial⟩) ?_
   refine Tri.seq ?_
   refine sr [] none [22,9,8,7,0,1,2] [192,144] (TT∧True)
     ([(22,qi 0),(9,qp 192 0),(8,.sc (.b (FT33_1 p0))),(7,qp 144 0),(0,qr p0),(1,qr p1),(2,qr p2)],[(192,.ints .u64 4 [0,0,0,0]),(144,.ints .u64 20 (FT33 p0))])
     224 (⟨tt,trivial⟩) ?_
   refine Tri.block ?_
   refine Tri.count 224 32 (FT13l0 p2) [0,0,0,0] (fun k0 z0 => rng z0) (fun k0 z0 => ([(22,qi (k0:Int)),(9,qp 192 0),(8,.sc (.b (FT33_1 p0))),(7,qp 144 0),(0,qr p0),(1,qr p1),(2,qr p2)],[(192,.ints .u64 4 z0),(144,.ints .u64 20 (FT33 p0))])) rng_four (Sub.of_eq (by kernel_rfl)) ?_
   intro k0 z0 hk0 hz0 hJ0
   refine sr [] none [23,22,9,8,7,0,1,2] [192,144] (TT∧True)
     ([(23,.sc (.b (decide (((k0:Int):Int) < 32)))),(22,qi (k0:Int)),(9,qp 192 0),(8,.sc (.b (FT33_1 p0))),(7,qp 144 0),(0,qr p0),(1,qr p1),(2,qr p2)],[(192,.ints .u64 4 z0),(144,.ints .u64 20 (FT33 p0))])
     240 (⟨tt,trivial⟩) ?_
   refine Tri.seq ?_
   refine Tri.cond (x:=(decide (((k0:Int):Int) < 32))) (by kernel_rfl) (fun h2 => ?_) (fun h2 => ?_)
   ·
    have h2':=of_decide_eq_true h2
    refine Tri.skip ?_
    change Tri _ _ _ _ _ _
    refine Tri.seq ?_
    refine Tri.block ?_
    refine sr [] none [10,22,9,8,7,0,1,2] [192,144] (TT∧(TT∧True))
      ([(10,qi (k0:Int)),(22,qi (k0:Int)),(9,qp 192 0),(8,.sc (.b (FT33_1 p0))),(7,qp 144 0),(0,qr p0),(1,qr p1),(2,qr p2)],[(192,.ints .u64 4 z0),(144,.ints .u64 20 (FT33 p0))])
      272 (⟨tt,⟨tt,trivial⟩⟩) ?_
    refine rr [(26,.i .i64 ((k0 / 8:Nat):Int)),(31,.i .i64 ((32 + k0:Nat):Int)),(36,.i .i64 ((k0 % 8:Nat):Int)),(37,.i .i64 ((8 * (k0 % 8):Nat):Int))] (some [0,1,3,7,0,0,32,112,240,496,0,1024,3072,8176,16383,32767,65535]) [22,9,8,7,0,1,2] [192,144] (TT∧(((8 ≠ (0:Int))∧((iQuo .i64 (k0:Int) 8)=((k0 / 8:Nat):Int)))∧((((0:Int)≤((k0 / 8:Nat):Int)∧((k0 / 8:Nat):Int) < ((4:Nat):Int))∧True)∧(((k0 / 8 < 4)∧True)∧(TT∧(TT∧((True∧((iAdd .i64 32 (k0:Int))=((32 + k0:Nat):Int)))∧((((0:Int)≤((32 + k0:Nat):Int)∧((32 + k0:Nat):Int) < (p2.length:Int))∧True)∧(((32 + k0 < p2.length)∧True)∧(TT∧(TT∧(((8 ≠ (0:Int))∧((iRem (k0:Int) 8)=((k0 % 8:Nat):Int)))∧((True∧((iMul .i64 8 ((k0 % 8:Nat):Int))=((8 * (k0 % 8):Nat):Int)))∧((((0:Int)≤((8 * (k0 % 8):Nat):Int))∧True)∧(TT∧((((0:Int)≤((k0 / 8:Nat):Int)∧((k0 / 8:Nat):Int) < ((4:Nat):Int))∧True)∧((((k0 / 8 < 4)∧(1=1))∧True)∧True)))))))))))))))))
      ([(22,qi (k0:Int)),(9,qp 192 0),(8,.sc (.b (FT33_1 p0))),(7,qp 144 0),(0,qr p0),(1,qr p1),(2,qr p2)],[(192,.ints .u64 4 (z0.set (k0 / 8) (iOr .u64 (z0.getD (k0 / 8) 0) (iShl .u64 (IntKind.wrap .u64 (p2.getD (32 + k0) 0)) ((8 * (k0 % 8):Nat):Int))))),(144,.ints .u64 20 (FT33 p0))])
      544 (⟨tt,⟨⟨(by omega),(iQuo_nat (a:=k0) (b:=8) (by omega))⟩,⟨⟨(by omega),trivial⟩,⟨⟨(by omega),trivial⟩,⟨tt,⟨tt,⟨⟨trivial,(iAdd_nat (a:=32) (b:=k0) (by omega))⟩,⟨⟨(by omega),trivial⟩,⟨⟨(by omega),trivial⟩,⟨tt,⟨tt,⟨⟨(by omega),(iRem_nat (a:=k0) (b:=8))⟩,⟨⟨trivial,(iMul_nat (a:=8) (b:=k0 % 8) (by omega))⟩,⟨⟨(by omega),trivial⟩,⟨tt,⟨⟨(by omega),trivial⟩,⟨⟨⟨(by omega),(rfl)⟩,trivial⟩,trivial⟩⟩⟩⟩⟩⟩⟩⟩⟩⟩⟩⟩⟩⟩⟩⟩⟩) ?_
    change Tri _ _ _ _ _ _
    refine rr [(41,.i .i64 ((k0 + 1:Nat):Int))] none [22,9,8,7,0,1,2] [192,144] ((True∧((iAdd .i64 (k0:Int) 1)=((k0 + 1:Nat):Int)))∧(TT∧True))
      ([(22,qi ((k0 + 1:Nat):Int)),(9,qp 192 0),(8,.sc (.b (FT33_1 p0))),(7,qp 144 0),(0,qr p0),(1,qr p1),(2,qr p2)],[(192,.ints .u64 4 (z0.set (k0 / 8) (iOr .u64 (z0.getD (k0 / 8) 0) (iShl .u64 (IntKind.wrap .u64 (p2.getD (32 + k0) 0)) ((8 * (k0 % 8):Nat):Int))))),(144,.ints .u64 20 (FT33 p0))])
      576 (⟨⟨trivial,(iAdd_nat (a:=k0) (b:=1) (by omega))⟩,⟨tt,trivial⟩⟩) ?_
    repeat (refine blkP_normal ?_)
    refine countP_normal (by omega) (show rng (List.set _ _ _) from rng_set hJ0 (wrap64_rng _)) ?_
    exact Sub.ren (ns:=[(192,192),(144,144)]) (kf:=[22,9,8,7,0,1,2]) (by kernel_rfl) (by kernel_rfl)
   ·
    have h2':=of_decide_eq_false h2
    refine Tri.exit ?_
    have hend0:k0=32:=by (have:=of_decide_eq_false h2; omega)
    subst hend0; subst hz0
    change Tri _ _ _ _ _ _
    refine Tri.seq ?_
    refine Tri.split (!(FT33_1 p0)) (fun h3 => ?_) (fun h3 => ?_)
    ·
     refine sr [(44,.b true)] none [49,9,7,0,1,2] [192,144] (TT∧(TT∧((True∧((!(FT33_1 p0))=true))∧(TT∧(TT∧(TT∧(TT∧(TT∧True))))))))
       ([(49,.sc (.b true)),(9,qp 192 0),(7,qp 144 0),(0,qr p0),(1,qr p1),(2,qr p2)],[(192,.ints .u64 4 (itr (FT13l0 p2) 32 [0,0,0,0])),(144,.ints .u64 20 (FT33 p0))])
       368 (⟨tt,⟨tt,⟨⟨trivial,(h3)⟩,⟨tt,⟨tt,⟨tt,⟨tt,⟨tt,trivial⟩⟩⟩⟩⟩⟩⟩⟩) ?_
     refine Tri.cond_true (by kernel_rfl) ?_
     refine sr [] none [6] [] (TT∧True)
       ([(6,.sc (.b false))],[])
       384 (⟨tt,trivial⟩) ?_
     refine Tri.ret ?_
     repeat (first | refine thenP_ret ?_ | refine blkP_ret ?_ | refine countP_ret ?_ | refine joinP_ret ?_)
     refine endP.conv (r':=⟨.sc (.b false),[]⟩) (by simp only [FT13,h1,h3,sel_true,sel_false]) ?_
     exact endP.ret [] TT (by kernel_rfl) (by kernel_rfl) (by kernel_rfl) tt
    ·
     refine Tri.len 192 rfl (fun hl4 => ?_)
     refine Tri.len 144 rfl (fun hl5 => ?_)
     refine sr [(44,.b false)] none [49,9,7,0,1,2] [192,144] (TT∧(TT∧((True∧((!(FT33_1 p0))=false))∧(TT∧(((0 + 4≤gOrder.length)∧True)∧(((True∧(rng (itr (FT13l0 p2) 32 [0,0,0,0])∧rng ((gOrder.drop 0).take 4)))∧True)∧(TT∧(TT∧True))))))))
       ([(49,.sc (.b (!(FT34 (itr (FT13l0 p2) 32 [0,0,0,0]) ((gOrder.drop 0).take 4))))),(9,qp 192 0),(7,qp 144 0),(0,qr p0),(1,qr p1),(2,qr p2)],[(192,.ints .u64 4 (itr (FT13l0 p2) 32 [0,0,0,0])),(144,.ints .u64 20 (FT33 p0))])
       368 (⟨tt,⟨tt,⟨⟨trivial,(h3)⟩,⟨tt,⟨⟨(by first | omega | (rw [adr_eq]; omega) | exact iAnd_nn _ _ | exact iSub_nn _ _ | exact part1_le (by omega) (by first | omega | (simp only [List.length_append]; omega)) | decide),trivial⟩,⟨⟨⟨trivial,(⟨hJ0,rng_order4⟩)⟩,trivial⟩,⟨tt,⟨tt,trivial⟩⟩⟩⟩⟩⟩⟩⟩) ?_
     refine Tri.cond (x:=(!(FT34 (itr (FT13l0 p2) 32 [0,0,0,0]) ((gOrder.drop 0).take 4)))) (by kernel_rfl) (fun h6 => ?_) (fun h6 => ?_)
     ·
      refine sr [] none [6] [] (TT∧True)
        ([(6,.sc (.b false))],[])
        384 (⟨tt,trivial⟩) ?_
      refine Tri.ret ?_
      repeat (first | refine thenP_ret ?_ | refine blkP_ret ?_ | refine countP_ret ?_ | refine joinP_ret ?_)
      refine endP.conv (r':=⟨.sc (.b false),[]⟩) (by simp only [FT13,h1,h3,h6,sel_true,sel_false]) ?_
      exact endP.ret [] TT (by kernel_rfl) (by kernel_rfl) (by kernel_rfl) tt
     ·
      refine Tri.skip ?_
      change Tri _ _ _ _ _ _
      refine Tri.len 192 rfl (fun hl7 => ?_)
      refine Tri.len 144 rfl (fun hl8 => ?_)
      refine sr [] none [11,9,7,2] [480,192,144] (TT∧((((0:Int)≤0∧(0:Int)≤32∧32≤(p2.length:Int))∧True)∧(TT∧(TT∧((((((0 < 3)∧(1=1))∧(((1 < 3)∧(1=1))∧(((2 < 3)∧(1=1))∧True)))∧((3 * 1≤16777216)∧(1=1)))∧True)∧((((((0 + 3≤3)∧(True∧(True∧TT)))∧True)∧(lensTo [(p2.drop 0).take 32,p0,p1] [(p2.drop 0).take 32,p0,p1].length≤100000∧[(p2.drop 0).take 32,p0,p1].length≤100000))∧True)∧(((((0 + (lensTo [(p2.drop 0).take 32,p0,p1] [(p2.drop 0).take 32,p0,p1].length)≤(lensTo [(p2.drop 0).take 32,p0,p1] [(p2.drop 0).take 32,p0,p1].length))∧True)∧((part1 (FT21 [(p2.drop 0).take 32,p0,p1]) (lensTo [(p2.drop 0).take 32,p0,p1] [(p2.drop 0).take 32,p0,p1].length) 0 (lensTo [(p2.drop 0).take 32,p0,p1] [(p2.drop 0).take 32,p0,p1].length)).length≤100000000))∧True)∧(TT∧(((True∧(64=64))∧True)∧True)))))))))
        ([(11,qp 480 0),(9,qp 192 0),(7,qp 144 0),(2,qr p2)],[(480,.ints .u8 64 (FD35 (part1 (FT21 [(p2.drop 0).take 32,p0,p1]) (lensTo [(p2.drop 0).take 32,p0,p1] [(p2.drop 0).take 32,p0,p1].length) 0 (lensTo [(p2.drop 0).take 32,p0,p1] [(p2.drop 0).take 32,p0,p1].length)))),(192,.ints .u64 4 (itr (FT13l0 p2) 32 [0,0,0,0])),(144,.ints .u64 20 (FT33 p0))])
        512 (⟨tt,⟨⟨(by omega),trivial⟩,⟨tt,⟨tt,⟨⟨⟨⟨⟨(by omega),(rfl)⟩,⟨⟨(by omega),(rfl)⟩,⟨⟨(by omega),(rfl)⟩,trivial⟩⟩⟩,⟨(by omega),(rfl)⟩⟩,trivial⟩,⟨⟨⟨⟨⟨(by decide),⟨trivial,⟨trivial,tt⟩⟩⟩,trivial⟩,(by exact lens_three (by first | omega | (have hl:=lenT33 (p0:=p0) (by assumption); omega) | exact part1_le (by omega) (by omega) | (rw [List.length_take]; omega)) (by first | omega | (have hl:=lenT33 (p0:=p0) (by assumption); omega) | exact part1_le (by omega) (by omega) | (rw [List.length_take]; omega)) (by first | omega | (have hl:=lenT33 (p0:=p0) (by assumption); omega) | exact part1_le (by omega) (by omega) | (rw [List.length_take]; omega)))⟩,trivial⟩,⟨⟨⟨⟨(by omega),trivial⟩,(by exact join_le (lens_three (by first | omega | (have hl:=lenT33 (p0:=p0) (by assumption); omega) | exact part1_le (by omega) (by omega) | (rw [List.length_take]; omega)) (by first | omega | (have hl:=lenT33 (p0:=p0) (by assumption); omega) | exact part1_le (by omega) (by omega) | (rw [List.length_take]; omega)) (by first | omega | (have hl:=lenT33 (p0:=p0) (by assumption); omega) | exact part1_le (by omega) (by omega) | (rw [List.length_take]; omega))).1)⟩,trivial⟩,⟨tt,⟨⟨⟨trivial,(rfl)⟩,trivial⟩,trivial⟩⟩⟩⟩⟩⟩⟩⟩⟩) ?_
      refine Tri.len 480 rfl (fun hl9 => ?_)
      refine Tri.len 192 rfl (fun hl10 => ?_)
      refine Tri.len 144 rfl (fun hl11 => ?_)
      refine sr [] (some [0,0,2,7,15,0,32,127,111,511,1023,2047]) [11,9,7,2] [144,480,192] ((TT∧True)∧(TT∧(((0 + 5≤20)∧True)∧((TT∧True)∧((TT∧True)∧(TT∧(((15 + 5≤20)∧True)∧((TT∧True)∧(TT∧((((0 + 5≤20)∧(5=5))∧True)∧(TT∧((((15 + 5≤20)∧(5=5))∧True)∧True))))))))))))
        ([(11,qp 480 0),(9,qp 192 0),(7,qp 144 0),(2,qr p2)],[(144,.ints .u64 20 (splice (splice (FT33 p0) 0 (F18 (F30 0) (((FT33 p0).drop 0).take 5))) 15 (F18 (F30 0) (((FT33 p0).drop 15).take 5)))),(480,.ints .u8 64 (FD35 (part1 (FT21 [(p2.drop 0).take 32,p0,p1]) (lensTo [(p2.drop 0).take 32,p0,p1] [(p2.drop 0).take 32,p0,p1].length) 0 (lensTo [(p2.drop 0).take 32,p0,p1] [(p2.drop 0).take 32,p0,p1].length)))),(192,.ints .u64 4 (itr (FT13l0 p2) 32 [0,0,0,0]))])
        704 (⟨⟨tt,trivial⟩,⟨tt,⟨⟨(by omega),trivial⟩,⟨⟨tt,trivial⟩,⟨⟨tt,trivial⟩,⟨tt,⟨⟨(by omega),trivial⟩,⟨⟨tt,trivial⟩,⟨tt,⟨⟨⟨(by omega),(rfl)⟩,trivial⟩,⟨tt,⟨⟨⟨(by omega),(rfl)⟩,trivial⟩,trivial⟩⟩⟩⟩⟩⟩⟩⟩⟩⟩⟩⟩) ?_
      refine Tri.len 144 rfl (fun hl12 => ?_)
      refine Tri.len 480 rfl (fun hl13 => ?_)
      refine Tri.len 192 rfl (fun hl14 => ?_)
      refine sr [] none [12,11,9,7,2] [720,144,480,192] ((TT∧True)∧(TT∧(((True∧(5=5))∧True)∧True)))
        ([(12,qp 720 0),(11,qp 480 0),(9,qp 192 0),(7,qp 144 0),(2,qr p2)],[(720,.ints .u64 5 (FT37)),(144,.ints .u64 20 (splice (splice (FT33 p0) 0 (F18 (F30 0) (((FT33 p0).drop 0).take 5))) 15 (F18 (F30 0) (((FT33 p0).drop 15).take 5)))),(480,.ints .u8 64 (FD35 (part1 (FT21 [(p2.drop 0).take 32,p0,p1]) (lensTo [(p2.drop 0).take 32,p0,p1] [(p2.drop 0).take 32,p0,p1].length) 0 (lensTo [(p2.drop 0).take 32,p0,p1] [(p2.drop 0).take 32,p0,p1].length)))),(192,.ints .u64 4 (itr (FT13l0 p2) 32 [0,0,0,0]))])
        752 (⟨⟨tt,trivial⟩,⟨tt,⟨⟨⟨trivial,(rfl)⟩,trivial⟩,trivial⟩⟩⟩) ?_
      refine Tri.len 720 rfl (fun hl15 => ?_)
      refine Tri.len 144 rfl (fun hl16 => ?_)
      refine Tri.len 480 rfl (fun hl17 => ?_)
      refine Tri.len 192 rfl (fun hl18 => ?_)
      refine sr [] (some [0,0,3,7,0,0,47,111,255,0,0,2047,4095,0,16383]) [13,2] [960] ((TT∧True)∧(TT∧((TT∧True)∧(((((0 + 32≤32)∧True)∧((part1 (FT23 (itr (FT13l0 p2) 32 [0,0,0,0])) 32 0 32).length≤1000000))∧True)∧(TT∧(((((0:Int)≤0∧(0:Int)≤64∧64≤((64:Nat):Int))∧(64≤64))∧True)∧(((((0 + 64≤64)∧True)∧((part1 (FD35 (part1 (FT21 [(p2.drop 0).take 32,p0,p1]) (lensTo [(p2.drop 0).take 32,p0,p1] [(p2.drop 0).take 32,p0,p1].length) 0 (lensTo [(p2.drop 0).take 32,p0,p1] [(p2.drop 0).take 32,p0,p1].length))) 64 0 64).length≤1000000))∧True)∧((TT∧True)∧(((((0 + 32≤32)∧True)∧((part1 (FT23 (FT22 (part1 (FD35 (part1 (FT21 [(p2.drop 0).take 32,p0,p1]) (lensTo [(p2.drop 0).take 32,p0,p1] [(p2.drop 0).take 32,p0,p1].length) 0 (lensTo [(p2.drop 0).take 32,p0,p1] [(p2.drop 0).take 32,p0,p1].length))) 64 0 64))) 32 0 32).length≤1000000))∧True)∧(TT∧(TT∧((TT∧True)∧((TT∧True)∧(TT∧(((True∧(20=20))∧True)∧True)))))))))))))))
        ([(13,qp 960 0),(2,qr p2)],[(960,.ints .u64 20 (FT38 (FT19 (FT18) (part1 (FT23 (itr (FT13l0 p2) 32 [0,0,0,0])) 32 0 32)) (FT19 (splice (splice (FT33 p0) 0 (F18 (F30 0) (((FT33 p0).drop 0).take 5))) 15 (F18 (F30 0) (((FT33 p0).drop 15).take 5))) (part1 (FT23 (FT22 (part1 (FD35 (part1 (FT21 [(p2.drop 0).take 32,p0,p1]) (lensTo [(p2.drop 0).take 32,p0,p1] [(p2.drop 0).take 32,p0,p1].length) 0 (lensTo [(p2.drop 0).take 32,p0,p1] [(p2.drop 0).take 32,p0,p1].length))) 64 0 64))) 32 0 32)) (F16 (FT37) (FT37))))])
        992 (⟨⟨tt,trivial⟩,⟨tt,⟨⟨tt,trivial⟩,⟨⟨⟨⟨(by omega),trivial⟩,(by exact part1_le (by decide) (by rw [lenT23]; decide))⟩,trivial⟩,⟨tt,⟨⟨⟨(by omega),(by omega)⟩,trivial⟩,⟨⟨⟨⟨(by omega),trivial⟩,(by first | omega | (rw [adr_eq]; omega) | exact iAnd_nn _ _ | exact iSub_nn _ _ | exact part1_le (by omega) (by first | omega | (simp only [List.length_append]; omega)) | decide)⟩,trivial⟩,⟨⟨tt,trivial⟩,⟨⟨⟨⟨(by omega),trivial⟩,(by exact part1_le (by decide) (by rw [lenT23]; decide))⟩,trivial⟩,⟨tt,⟨tt,⟨⟨tt,trivial⟩,⟨⟨tt,trivial⟩,⟨tt,⟨⟨⟨trivial,(rfl)⟩,trivial⟩,trivial⟩⟩⟩⟩⟩⟩⟩⟩⟩⟩⟩⟩⟩⟩⟩) ?_
      refine Tri.len 960 rfl (fun hl19 => ?_)
      refine sr [] (some [0,1,3,0,8,24,63,127]) [6] [] (TT∧((TT∧True)∧(((0 + 32≤32)∧True)∧(TT∧((((0:Int)≤0∧(0:Int)≤32∧32≤(p2.length:Int))∧True)∧(TT∧(TT∧(TT∧True))))))))
        ([(6,.sc (.b (strEq (bytesOf (((FT20 (FT38 (FT19 (FT18) (part1 (FT23 (itr (FT13l0 p2) 32 [0,0,0,0])) 32 0 32)) (FT19 (splice (splice (FT33 p0) 0 (F18 (F30 0) (((FT33 p0).drop 0).take 5))) 15 (F18 (F30 0) (((FT33 p0).drop 15).take 5))) (part1 (FT23 (FT22 (part1 (FD35 (part1 (FT21 [(p2.drop 0).take 32,p0,p1]) (lensTo [(p2.drop 0).take 32,p0,p1] [(p2.drop 0).take 32,p0,p1].length) 0 (lensTo [(p2.drop 0).take 32,p0,p1] [(p2.drop 0).take 32,p0,p1].length))) 64 0 64))) 32 0 32)) (F16 (FT37) (FT37)))).drop 0).take 32)) (bytesOf ((p2.drop 0).take 32)))))],[])
        1120 (⟨tt,⟨⟨tt,trivial⟩,⟨⟨(by omega),trivial⟩,⟨tt,⟨⟨(by omega),trivial⟩,⟨tt,⟨tt,⟨tt,trivial⟩⟩⟩⟩⟩⟩⟩⟩) ?_
      refine Tri.ret ?_
      repeat (first | refine thenP_ret ?_ | refine blkP_ret ?_ | refine countP_ret ?_ | refine joinP_ret ?_)
      refine endP.conv (r':=⟨.sc (.b (strEq (bytesOf (((FT20 (FT38 (FT19 (FT18) (part1 (FT23 (itr (FT13l0 p2) 32 [0,0,0,0])) 32 0 32)) (FT19 (splice (splice (FT33 p0) 0 (F18 (F30 0) (((FT33 p0).drop 0).take 5))) 15 (F18 (F30 0) (((FT33 p0).drop 15).take 5))) (part1 (FT23 (FT22 (part1 (FD35 (part1 (FT21 [(p2.drop 0).take 32,p0,p1]) (lensTo [(p2.drop 0).take 32,p0,p1] [(p2.drop 0).take 32,p0,p1].length) 0 (lensTo [(p2.drop 0).take 32,p0,p1] [(p2.drop 0).take 32,p0,p1].length))) 64 0 64))) 32 0 32)) (F16 (FT37) (FT37)))).drop 0).take 32)) (bytesOf ((p2.drop 0).take 32)))),[]⟩) (by simp only [FT13,h1,h3,h6,sel_true,sel_false]) ?_
      exact endP.ret [] TT (by kernel_rfl) (by kernel_rfl) (by kernel_rfl) tt
theorem sel64_le (b:Bool):sel b 0 64≤64:=by cases b <;> decide
theorem FT9_ok {p0:List Int} (h:p0.length=32):FT9 p0=0∧FT9n0 p0=32:=by
 have e:(((p0.length:Int):Int) != 32)=false:=by rw [h]; rfl
 exact ⟨by unfold FT9; rw [e,sel_false],nT9_32 e⟩
theorem FT10_ok {p0 p1:List Int} (h:p0.length=32):FT10 p0 p1=0∧sel (((FT9 p0):Int) != 0) 0 64=64:=by
 have e:(((FT9 p0):Int) != 0)=false:=by rw [(FT9_ok h).1]; rfl
 exact ⟨by unfold FT10; rw [e,sel_false],by rw [e,sel_false]⟩
noncomputable def VT9:List AV→Option (Prop × Ret)
 | [.sc (.ro .u8 p0)] => some (p0.length=32,⟨.tup [.sc (.sl 0 0 32 1 (some 32)),.sc (.i .i64 0)],[.ints .u8 32 (FT9_1 p0)]⟩)
 | _ => none
theorem KV9:Known Go.Proofs.Tryd.prog gD 9 ⟨[.ro .u8],1,VT9⟩:=by
 refine Known.same KT9 rfl ?_ ?_
 ·intro vs C r h hC
  simp only at h
  unfold VT9 at h
  split at h
  rotate_left
  ·cases h
  rename_i p0
  cases h
  have hC:p0.length=32:=hC
  refine ⟨True,?_,trivial⟩
  show some (True,(⟨.tup [.sc (.sl 0 0 (FT9n0 p0) 1 (some (FT9n0 p0))),.sc (.i .i64 (FT9 p0))],[.ints .u8 (FT9n0 p0) (FT9_1 p0)]⟩:Ret))=some (True,_)
  rw [(FT9_ok hC).1,(FT9_ok hC).2]
 ·intro vs C r h
  simp only at h
  unfold VT9 at h
  split at h
  ·cases h; rfl
  ·cases h
noncomputable def VT10:List AV→Option (Prop × Ret)
 | [.sc (.ro .u8 p0),.sc (.ro .u8 p1)] => some (p0.length=32∧p1.length≤10000,⟨.tup [.sc (.sl 0 0 64 1 none),.sc (.i .i64 0)],[.ints .u8 64 (FT10_1 p0 p1)]⟩)
 | _ => none
theorem KV10:Known Go.Proofs.Tryd.prog gD 10 ⟨[.ro .u8,.ro .u8],1,VT10⟩:=by
 refine Known.same KT10 rfl ?_ ?_
 ·intro vs C r h hC
  simp only at h
  unfold VT10 at h
  split at h
  rotate_left
  ·cases h
  rename_i p0 p1
  cases h
  have hC:p0.length=32∧p1.length≤10000:=hC
  refine ⟨p1.length≤10000,?_,hC.2⟩
  show some (p1.length≤10000,(⟨.tup [.sc (.sl 0 0 (sel (((FT9 p0):Int) != 0) 0 64) 1 none),.sc (.i .i64 (FT10 p0 p1))],[.ints .u8 (sel (((FT9 p0):Int) != 0) 0 64) (FT10_1 p0 p1)]⟩:Ret))=some (p1.length≤10000,_)
  rw [(FT10_ok (p1:=p1) hC.1).1,(FT10_ok (p1:=p1) hC.1).2]
 ·intro vs C r h
  simp only at h
  unfold VT10 at h
  split at h
  ·cases h; rfl
  ·cases h
end Go.Vm
